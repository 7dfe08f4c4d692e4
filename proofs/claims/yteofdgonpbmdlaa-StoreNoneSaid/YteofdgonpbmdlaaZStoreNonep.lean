/- Texts of this session, merged for the law StoreNone: C5, C6, C7, C8, C9, C10, C11, C12, C13, C15, C16, CL, C22, PA, TA, C18, C19, C20, C14, C17, C21. No condition. -/
import Derived.Test.YteofdgonpbmdlaaZStoreNoneo
import Derived.Test.YteofdgonpbmdlaaZStoreNonej
import Derived.Maps.Own
import Derived.Maps.OwnOps
import Derived.WalkSpells
import Derived.StringKeys
set_option linter.unusedVariables false
set_option linter.unusedSimpArgs false
namespace Go.Proofs.Yteofdgonpbmdlaa.C
open Go.RowKit Go.Proofs.YteofdgonpbmdlaaW.PrintWords Go.Proofs.YteofdgonpbmdlaaW.PrintLast Go.Proofs.YteofdgonpbmdlaaW.PrintMore
attribute [local go_sem] max2_int min2_int max_two min_two max_three min_three max_four min_four   -- for this text's walks alone
set_option linter.unusedVariables false
set_option linter.unusedSimpArgs false
def chain_owned.l0 : Nat → List (S28) → List (S28) → Int → Int → Option ((List (S28)))
 | 0, _, _, _, _ => none
 | k + 1, x3, x10, x11, x12 => if x12 < x11 then (if 0 ≤ x12 then (if x12 < (x10.length : Int) then ((bytes_Clone.f ((rd_T28 x10 x12).f2)).bind fun t123 => (if x3.length < 3518437208883 then (chain_owned.l0 k (x3 ++ [(⟨(rd_T28 x10 x12).f0, (rd_T28 x10 x12).f1, t123⟩ : S28)]) x10 x11 (wrap64 (x12 + 1))) else (none))) else (none)) else (none)) else (some x3)
def chain_owned.f (k : Nat) (l0 : List (S28)) : Option ((List (S28))) := if 0 ≤ (wrap64 ((l0.length : Int) + 1)) then (if (wrap64 ((l0.length : Int) + 1) : Int).toNat ≤ 7036874417766 then (chain_owned.l0 k (([] : List (S28))) l0 (l0.length : Int) 0) else (none)) else (none)
theorem chain_owned.mono_l : ∀ k, (∀ y0 y1 y2 y3, LeO (chain_owned.l0 k y0 y1 y2 y3) (chain_owned.l0 (k + 1) y0 y1 y2 y3))
 | 0 => fun _ _ _ _ r h => by simp [chain_owned.l0] at h
 | k + 1 => by
  have ih0 := chain_owned.mono_l k
  ·intro y0 y1 y2 y3
   unfold chain_owned.l0
   repeat' first
   | (with_reducible exact ih0 _ _ _ _)
   | (with_reducible exact LeO.refl _)
   | (with_reducible exact LeO.none _)
   | (with_reducible refine LeO.ite ?_ ?_)
   | (with_reducible refine LeO.bind ?_ (fun _ => ?_))
   | exact ih0 _ _ _ _
   | exact LeO.none _
   | refine LeO.ite ?_ ?_
   | refine LeO.bind ?_ (fun _ => ?_)
theorem chain_owned.mono : ∀ a0 k, LeO (chain_owned.f k a0) (chain_owned.f (k + 1) a0) := by
 intro a0 k
 have ih0 := chain_owned.mono_l k
 unfold chain_owned.f
 repeat' first
   | (with_reducible exact ih0 _ _ _ _)
   | (with_reducible exact LeO.refl _)
   | (with_reducible exact LeO.none _)
   | (with_reducible refine LeO.ite ?_ ?_)
   | (with_reducible refine LeO.bind ?_ (fun _ => ?_))
   | exact ih0 _ _ _ _
   | exact LeO.none _
   | refine LeO.ite ?_ ?_
   | refine LeO.bind ?_ (fun _ => ?_)
set_option maxHeartbeats 8000000 in
set_option maxRecDepth 100000 in
theorem chain_owned.calls (k : Nat) (A0 : Option Addr) (c0 : Nat) (l0 : List (S28)) (r : List (S28)) (w : World) (hr0 : Kd.C k28 w A0 l0.length l0) (hc0 : l0.length ≤ c0) (h : chain_owned.f k l0 = some r) :
  Calls Try.prog 66 #[.slice A0 l0.length c0] w fun e w' => ∃ v0_ : Value, e = .returned (v0_) ∧ Kd.N k28 28 w' w.heap.size (fun k_ => (w.heap.size ≤ k_)) v0_ r ∧ Below w.heap.size w w' := by
 have hu28 := Try.underlying28
 have HR0 := Aside0.mk hr0
 have HC0 := Aside0.mk hc0
 clear hr0 hc0
 have HB := Aside0.mk (Below.refl w.heap.size w)
 have H : (if 0 ≤ (wrap64 ((l0.length : Int) + 1)) then (if (wrap64 ((l0.length : Int) + 1) : Int).toNat ≤ 7036874417766 then (chain_owned.l0 k (([] : List (S28))) l0 (l0.length : Int) 0) else (none)) else (none)) = some r := h
 clear h
 obtain ⟨ji2, hji2⟩ : ∃ j_ : Int, (wrap64 ((l0.length : Int) + 1)) = j_ := ⟨_, rfl⟩
 replace H : (if 0 ≤ (ji2) then (if (ji2 : Int).toNat ≤ 7036874417766 then (chain_owned.l0 k (([] : List (S28))) l0 (l0.length : Int) 0) else (none)) else (none)) = some r := by first | (rw [hji2] at H; exact H) | (simp only [hji2] at H ⊢; exact H)
 have hji2w : (IntKind.i64.wrap ((l0.length : Int) + 1)) = ji2 := (i64_w _).trans hji2
 by_cases c3 : 0 ≤ (ji2)
 ·rw [if_pos c3] at H
  have c3b0 := eq_true c3
  have c3b1 : decide (0 ≤ (ji2)) = true := decide_eq_true c3
  clear c3
  by_cases c4 : (ji2 : Int).toNat ≤ 7036874417766
  ·rw [if_pos c4] at H
   have c4b0 := eq_true c4
   have c4b1 : decide ((ji2 : Int).toNat ≤ 7036874417766) = true := decide_eq_true c4
   clear c4
   obtain ⟨y118, hy118⟩ : ∃ y_ : List (S28), y_ = (([] : List (S28))) := ⟨_, rfl⟩
   replace H : (chain_owned.l0 k y118 l0 (l0.length : Int) 0) = some r := by first | (rw [hy118]; with_reducible exact H) | (have H2_ := (Option.bind_some _ _).symm.trans H; rw [hy118]; with_reducible exact H2_) | (have H2_ := (Option.bind_some _ _).symm.trans H; with_reducible exact H2_) | with_reducible exact H | (rw [hy118]; exact H) | exact H
   have Ny118 := Aside0.mk hy118
   clear hy118
   have H' := Aside0.mk H
   clear H
   go_enter Try.func66, Try.ntmps66
   go_wp2_with (first | ((with_reducible refine gate_dst (N := 9) rfl ?_); refine Kd.N_makec k28 _ 28 rfl (N' := 9) rfl 22 _ _ rfl ji2 rfl rfl Try.underlying22 (.agg #[(.int .u64 0), (.bool false), (.slice none 0 0)]) 40 info28 rfl (by decide) (by omega) z28 (ok := fun k_ => w.heap.size ≤ k_) (okp := fun _ => False) (k28_mkF _ _ z28 (Nat.le_refl _) (Kd.F_nil _ _ _)) (fun _ hk => hk.elim) (Nat.le_refl _) (of_decide_eq_true (by first | (with_reducible assumption) | assumption)) (Nat.le_trans (Nat.mul_le_mul_right _ (of_decide_eq_true (by first | (with_reducible assumption) | assumption) : ji2.toNat ≤ 7036874417766)) (by omega)) (Below.refl _ _) (Nat.le_refl _) ?_; intro v119 w5 ho6 hb hg_ hnew_; clear hg_ hnew_; (first | rw [← Ny118.out] at ho6 | (simp only [Int.reduceToNat] at ho6; rw [← Ny118.out] at ho6)); have n0_ := Aside0.mk (Kd.N_lower (Kd.N_mono (ok' := fun k_ => (w.heap.size ≤ k_)) ho6 (fun k_ hk_ => (Nat.le_trans (below_size (by repeat (first | (with_reducible first | exact HB.out | apply below_alloc | apply pw_below_drewN | apply below_drew1) | exact HB.out))) hk_))) (below_size (by repeat (first | (with_reducible first | exact HB.out | apply below_alloc | apply pw_below_drewN | apply below_drew1) | exact HB.out)))); have n1_ := Aside0.mk (below_step (by repeat (first | (with_reducible first | exact HB.out | apply below_alloc | apply pw_below_drewN | apply below_drew1) | exact HB.out)) hb); clear HB; have HO120 := n0_; have HB := n1_; clear n0_ n1_; clear hb ho6))
   go_loopg [3, 12] k (fun kq v3 v12 w' => ∃ (x3_1 : List (S28)) (x12_1 : Int), v12 = .int .i64 x12_1 ∧ Aside0 (chain_owned.l0 kq x3_1 l0 (l0.length : Int) x12_1 = some r) ∧ Aside0 (kq ≤ k) ∧ Aside0 (Kd.N k28 28 w' w.heap.size (fun k_ => (w.heap.size ≤ k_)) v3 x3_1) ∧ Aside0 (Below w.heap.size w w'))
   case atStart => exact ⟨(y118), (0), (by first | rfl | (simp; done) | (simp [*]; done)), H', ⟨Nat.le_refl _⟩, ⟨by (with_reducible repeat (first | apply Kd.N_alloc | apply Kd.N_drewN | apply Kd.N_drew)); exact HO120.out⟩, ⟨by repeat (first | (with_reducible first | exact HB.out | apply below_alloc | apply pw_below_drewN | apply below_drew1) | exact HB.out)⟩⟩
   case round =>
    clear H'
    try clear p2
    try clear c3
    try clear c3b0
    try clear c3b1
    try clear c4
    try clear c4b0
    try clear c4b1
    try clear c6
    try clear p6
    obtain ⟨x3_1, x12_1, rfl, HA, HK1, HO_3, HB⟩ := hrel
    cases gk with
    | zero => exact absurd HA.out (by simp [chain_owned.l0])
    | succ k1 =>
     have H := HA.out
     clear HA
     simp only [chain_owned.l0] at H
     by_cases c7 : x12_1 < (l0.length : Int)
     ·rw [if_pos c7] at H
      have c7b0 : decide (x12_1 < (l0.length : Int)) = true := decide_eq_true c7
      clear c7
      by_cases c8 : 0 ≤ x12_1
      ·rw [if_pos c8] at H
       have c8b0 : decide (0 ≤ x12_1) = true := decide_eq_true c8
       clear c8
       by_cases c9 : x12_1 < (l0.length : Int)
       ·rw [if_pos c9] at H
        have c9b0 : decide (x12_1 < (l0.length : Int)) = true := decide_eq_true c9
        clear c9
        replace H := Option.bind_eq_some_iff.mp H
        obtain ⟨t123, A100, H⟩ := H
        replace H : (if x3_1.length < 3518437208883 then (chain_owned.l0 k1 (x3_1 ++ [(⟨(rd_T28 l0 x12_1).f0, (rd_T28 l0 x12_1).f1, t123⟩ : S28)]) l0 (l0.length : Int) (wrap64 (x12_1 + 1))) else (none)) = some r := H
        have A10 := Aside0.mk A100
        clear A100
        by_cases c11 : x3_1.length < 3518437208883
        ·rw [if_pos c11] at H
         have LMc11 := Aside0.mk c11
         clear c11
         obtain ⟨y126, hy126⟩ : ∃ y_ : List (S28), y_ = (x3_1 ++ [(⟨(rd_T28 l0 x12_1).f0, (rd_T28 l0 x12_1).f1, t123⟩ : S28)]) := ⟨_, rfl⟩
         replace H : (chain_owned.l0 k1 y126 l0 (l0.length : Int) (wrap64 (x12_1 + 1))) = some r := by first | (rw [hy126]; with_reducible exact H) | (have H2_ := (Option.bind_some _ _).symm.trans H; rw [hy126]; with_reducible exact H2_) | (have H2_ := (Option.bind_some _ _).symm.trans H; with_reducible exact H2_) | with_reducible exact H | (rw [hy126]; exact H) | exact H
         have Ny126 := Aside0.mk hy126
         clear hy126
         have H' := Aside0.mk H
         clear H
         have p121 : 0 ≤ (x12_1 : Int) := of_decide_eq_true (by first | (with_reducible assumption) | assumption)
         have q121 : x12_1 < (l0.length : Int) := of_decide_eq_true (by first | (with_reducible assumption) | assumption)
         obtain ⟨ad121, A121_2, c121_2, e121, hx121_0, hx121_1, hx121_2, hl121_2, hi121_2⟩ := at_T28 HR0.out x12_1 p121 q121
         cases e121
         replace hx121_0 := (HB.out.cell (World.block_lt_of_cell? w _ hx121_0)).trans hx121_0
         replace hx121_1 := (HB.out.cell (World.block_lt_of_cell? w _ hx121_1)).trans hx121_1
         replace hx121_2 := (HB.out.cell (World.block_lt_of_cell? w _ hx121_2)).trans hx121_2
         have HR121_2 := Aside0.mk hi121_2
         have HC121_2 := Aside0.mk hl121_2
         clear hi121_2 hl121_2
         replace p121 := eq_true p121
         replace q121 := eq_true q121
         go_wp2_with (first | ((with_reducible refine gate_dst (N := 5) rfl ?_); refine box_event ?hg (N := 5) ?hd (cs := #[.int .u64 0, .bool false, .slice none 0 0]) (t := 28) ?hr ?_; (case hd => rfl); (case hg => rfl); (case hr => first | (go_simp; done) | (go_simp; rfl)); intro gb122 hg w12 hbox hb; have n0_ := Aside0.mk (Kd.N_below (Kd.N_elderB (by (with_reducible repeat (first | apply Kd.N_alloc | apply Kd.N_drewN | apply Kd.N_drew)); exact HO_3.out) gb122 (Nat.le_of_eq hg.symm)) hb); have n1_ := Aside0.mk (below_step (by repeat (first | (with_reducible first | exact HB.out | apply below_alloc | apply pw_below_drewN | apply below_drew1) | exact HB.out)) hb); have n2_ := Aside0.mk (hbox); have n3_ := Aside0.mk ((by rw [hg]; exact (below_size (by repeat (first | (with_reducible first | exact HB.out | apply below_alloc | apply pw_below_drewN | apply below_drew1) | exact HB.out))) : w.heap.size ≤ gb122)); have n4_ := Aside0.mk ((by rw [hg]; exact (below_size (by repeat (first | (with_reducible first | exact HB.out | apply below_alloc | apply pw_below_drewN | apply below_drew1) | exact HB.out))) : w.heap.size ≤ gb122)); clear HO_3; clear HB; have HO_3 := n0_; have HB := n1_; have BK122 := n2_; have GW122 := n3_; have GE122 := n4_; clear n0_ n1_ n2_ n3_ n4_; clear hb hbox hg; have hcz13_0 : w12.cell? ⟨gb122, 0, none⟩ = some (.int .u64 0) := (blk_cell BK122.out 0).trans rfl; have hcz13_1 : w12.cell? ⟨gb122, 1, none⟩ = some (.bool false) := (blk_cell BK122.out 1).trans rfl; have hcz13_2 : w12.cell? ⟨gb122, 2, none⟩ = some (.slice none 0 0) := (blk_cell BK122.out 2).trans rfl; have hfz13_0 := blk_frozen BK122.out 0; have hfz13_1 := blk_frozen BK122.out 1; have hfz13_2 := blk_frozen BK122.out 2) | ((with_reducible refine gate_callee (f := 65) rfl ?_); refine goesL_ (some 18) rfl rfl Try.func65 (by kernel_rfl) rfl #[.slice A121_2 ((rd_T28 l0 x12_1).f2).length c121_2] rfl (by (try simp only [List.map_toArray, List.map_cons, List.map_nil]); first | done | rfl | (simp only [List.length_drop, List.length_take]; rfl)) ?_; (with_reducible refine (bytes_Clone.calls _ _ ((rd_T28 l0 x12_1).f2) t123 _ ?side1 ?side2 A10.out).mono ?_); (case side1 => exact Kd.C_below HR121_2.out (by repeat (first | (with_reducible first | exact HB.out | apply below_alloc | apply pw_below_drewN | apply below_drew1 | refine below_set ?_ GE122.out) | exact HB.out))); (case side2 => exact HC121_2.out); rintro e w14 ⟨v124, rfl, ho0, hb⟩; refine ⟨_, rfl, ?_⟩; have n0_ := Aside0.mk (Kd.N_elder' (by (with_reducible repeat (first | apply Kd.N_alloc | apply Kd.N_drewN | apply Kd.N_drew)); exact (Kd.N_mono (Kd.N_far (p := ⟨gb122, 2, none⟩) (Kd.N_far (p := ⟨gb122, 1, none⟩) (Kd.N_far (p := ⟨gb122, 0, none⟩) (Kd.N_mono HO_3.out (fun k_ hk => (⟨hk, hk.2⟩ : _ ∧ k_ ≠ gb122))) (fun _ hk => hk.2) (.int .u64 ((rd_T28 l0 x12_1).f0))) (fun _ hk => hk.2) (.bool ((rd_T28 l0 x12_1).f1))) (fun _ hk => hk.2) (.slice A121_2 ((rd_T28 l0 x12_1).f2).length c121_2)) (fun _ h_ => h_.1))) (Kd.R_base ho0) hb); have n1_ := Aside0.mk (Kd.R_lower (Kd.R_newM (M := fun k_ => (w.heap.size ≤ k_)) ho0 (below_size (by repeat (first | (with_reducible first | exact HB.out | apply below_alloc | apply pw_below_drewN | apply below_drew1 | refine below_set ?_ GE122.out) | exact HB.out))) (fun k_ h_ => h_)) (below_size (by repeat (first | (with_reducible first | exact HB.out | apply below_alloc | apply pw_below_drewN | apply below_drew1 | refine below_set ?_ GE122.out) | exact HB.out)))); have n2_ := Aside0.mk (blk_below (g := gb122) (o := .cells #[.int .u64 ((rd_T28 l0 x12_1).f0), .bool ((rd_T28 l0 x12_1).f1), .slice A121_2 ((rd_T28 l0 x12_1).f2).length c121_2] 28 (0, 0)) (by (with_reducible repeat (first | refine blk_drewN ?_ _ | refine blk_drew ?_ | refine blk_alloc ?_ _)); refine blk_put (cs := #[.int .u64 ((rd_T28 l0 x12_1).f0), .bool ((rd_T28 l0 x12_1).f1), .slice none 0 0]) ?_ 2 _ rfl; (with_reducible repeat (first | refine blk_drewN ?_ _ | refine blk_drew ?_ | refine blk_alloc ?_ _)); refine blk_put (cs := #[.int .u64 ((rd_T28 l0 x12_1).f0), .bool false, .slice none 0 0]) ?_ 1 _ rfl; (with_reducible repeat (first | refine blk_drewN ?_ _ | refine blk_drew ?_ | refine blk_alloc ?_ _)); refine blk_put (cs := #[.int .u64 0, .bool false, .slice none 0 0]) ?_ 0 _ rfl; (with_reducible repeat (first | refine blk_drewN ?_ _ | refine blk_drew ?_ | refine blk_alloc ?_ _)); exact BK122.out) hb); have n3_ := Aside0.mk (below_step (by repeat (first | (with_reducible first | exact HB.out | apply below_alloc | apply pw_below_drewN | apply below_drew1 | refine below_set ?_ GE122.out) | exact HB.out)) hb); clear HO_3; clear BK122; clear HB; have HO_3 := n0_; have HO125 := n1_; have BK122 := n2_; have HB := n3_; clear n0_ n1_ n2_ n3_; (try clear hb); (try clear hb2); (try clear hk); (try clear hi); (try clear ho0); obtain ⟨Ao15, co15, eo15⟩ := Kd.R_slice HO125.out; subst eo15; have hcz16_0 : w14.cell? ⟨gb122, 0, none⟩ = some (.int .u64 ((rd_T28 l0 x12_1).f0)) := (blk_cell BK122.out 0).trans rfl; have hcz16_1 : w14.cell? ⟨gb122, 1, none⟩ = some (.bool ((rd_T28 l0 x12_1).f1)) := (blk_cell BK122.out 1).trans rfl; have hcz16_2 : w14.cell? ⟨gb122, 2, none⟩ = some (.slice A121_2 ((rd_T28 l0 x12_1).f2).length c121_2) := (blk_cell BK122.out 2).trans rfl; have hfz16_0 := blk_frozen BK122.out 0; have hfz16_1 := blk_frozen BK122.out 1; have hfz16_2 := blk_frozen BK122.out 2) | ((with_reducible refine gate_store (t := 26) (p := 19) rfl ?_); refine store_event (t := 26) (p := 19) (v := ?vo_w17) (w1 := (w14.setCell ⟨gb122, 2, none⟩ (.slice Ao15 t123.length co15))) ?hg ?ho ?hn ?hr ?_; (case ho => rfl); (case hg => rfl); (case hn => rfl); (case hr => first | (go_simp; done) | (go_simp; rfl)); intro w17 hw; have n0_ : Aside0 (Kd.N k28 28 w17 w.heap.size (fun k_ => (w.heap.size ≤ k_) ∧ some k_ ≠ (.slice Ao15 t123.length co15 : Value).ownBlock ∧ k_ ≠ gb122) u3 x3_1) := ⟨(by rw [hw]; exact (by (with_reducible repeat (first | apply Kd.N_alloc | apply Kd.N_drewN | apply Kd.N_drew)); exact Kd.N_mono (Kd.N_far (p := ⟨gb122, 2, none⟩) (Kd.N_mono HO_3.out (fun k_ hk => (⟨hk, hk.1.2⟩ : _ ∧ k_ ≠ gb122))) (fun _ hk => hk.2) (.slice Ao15 t123.length co15)) (fun _ hk => ⟨hk.1.1.1, ⟨hk.1.2, hk.1.1.2⟩⟩)))⟩; have n1_ : Aside0 (Kd.R (Kd.int .u8) 5 w17 w.heap.size (fun k_ => (w.heap.size ≤ k_)) (.slice Ao15 t123.length co15) t123) := ⟨(by rw [hw]; exact (by (with_reducible repeat (first | apply Kd.R_alloc | apply Kd.R_drewN | apply Kd.R_drew)); exact Kd.R_mono (Kd.R_far (p := ⟨gb122, 2, none⟩) (Kd.R_types HO125.out BK122.out (by decide)) (fun _ hk => hk.2) (.slice Ao15 t123.length co15)) (fun _ hk => hk.1.1)))⟩; have n2_ : Aside0 (w17.heap[gb122]? = some (.cells #[.int .u64 ((rd_T28 l0 x12_1).f0), .bool ((rd_T28 l0 x12_1).f1), .slice Ao15 t123.length co15] 28 (0, 0))) := ⟨(by rw [hw]; exact (by (with_reducible repeat (first | refine blk_drewN ?_ _ | refine blk_drew ?_ | refine blk_alloc ?_ _)); refine blk_put (cs := #[.int .u64 ((rd_T28 l0 x12_1).f0), .bool ((rd_T28 l0 x12_1).f1), .slice A121_2 ((rd_T28 l0 x12_1).f2).length c121_2]) ?_ 2 _ rfl; (with_reducible repeat (first | refine blk_drewN ?_ _ | refine blk_drew ?_ | refine blk_alloc ?_ _)); exact BK122.out))⟩; have n3_ : Aside0 (Below w.heap.size w w17) := ⟨(by rw [hw]; exact (by repeat (first | (with_reducible first | exact HB.out | apply below_alloc | apply pw_below_drewN | apply below_drew1 | refine below_set ?_ GE122.out) | exact HB.out)))⟩; clear hw; clear HO_3; clear HO125; clear BK122; clear HB; have HO_3 := n0_; have HO125 := n1_; have BK122 := n2_; have HB := n3_; clear n0_ n1_ n2_ n3_; have hcz18_0 : w17.cell? ⟨gb122, 0, none⟩ = some (.int .u64 ((rd_T28 l0 x12_1).f0)) := (blk_cell BK122.out 0).trans rfl; have hcz18_1 : w17.cell? ⟨gb122, 1, none⟩ = some (.bool ((rd_T28 l0 x12_1).f1)) := (blk_cell BK122.out 1).trans rfl; have hcz18_2 : w17.cell? ⟨gb122, 2, none⟩ = some (.slice Ao15 t123.length co15) := (blk_cell BK122.out 2).trans rfl; have hfz18_0 := blk_frozen BK122.out 0; have hfz18_1 := blk_frozen BK122.out 1; have hfz18_2 := blk_frozen BK122.out 2) | ((with_reducible refine gate_builtin (b := .append) (xs := #[.tmp 20, .tmp 22]) rfl ?_); at_builtin; refine Kd.N_append k28 (w0 := w) w.heap.size rfl (.tmp 20) (.tmp 22) 22 28 (.agg #[(.int .u64 0), (.bool false), (.slice none 0 0)]) 40 rfl Try.underlying22 info28 rfl (by decide) (by omega) u3 x3_1 (⟨(rd_T28 l0 x12_1).f0, (rd_T28 l0 x12_1).f1, t123⟩ : S28) [.int .u64 ((rd_T28 l0 x12_1).f0), .bool ((rd_T28 l0 x12_1).f1), .slice Ao15 t123.length co15] (fun k_ => (w.heap.size ≤ k_) ∧ k_ ≠ gb122) (fun k_ => ((fun k_ => (w.heap.size ≤ k_) ∧ k_ ≠ gb122)) k_ ∧ some k_ ≠ (u3 : Value).ownBlock) rfl rfl ?aP (fun _ hk => hk) ?aF ?aO ?aB ?aS ?aL ?_; (case aP => exact (k28_mkF _ _ (⟨(rd_T28 l0 x12_1).f0, (rd_T28 l0 x12_1).f1, t123⟩ : S28) (Kd.R_reads' (Kd.R_mono (ok' := (fun k_ => ((fun k_ => (w.heap.size ≤ k_) ∧ k_ ≠ gb122)) k_ ∧ some k_ ≠ (u3 : Value).ownBlock)) (Kd.R_types (Kd.R_apart' (HO125.out) (Kd.N_typed HO_3.out) (by decide)) BK122.out (by decide)) (fun k_ hk => ⟨⟨hk.1.1, hk.2⟩, hk.1.2⟩))).2.1 (Kd.R_F (Kd.R_mono (ok' := (fun k_ => ((fun k_ => (w.heap.size ≤ k_) ∧ k_ ≠ gb122)) k_ ∧ some k_ ≠ (u3 : Value).ownBlock)) (Kd.R_types (Kd.R_apart' (HO125.out) (Kd.N_typed HO_3.out) (by decide)) BK122.out (by decide)) (fun k_ hk => ⟨⟨hk.1.1, hk.2⟩, hk.1.2⟩))))); (case aB => exact (by repeat (first | (with_reducible first | exact HB.out | apply below_alloc | apply pw_below_drewN | apply below_drew1 | refine below_set ?_ GE122.out) | exact HB.out))); (case aF => exact (fun k_ hk => ⟨(Nat.le_trans (below_size (by repeat (first | (with_reducible first | exact HB.out | apply below_alloc | apply pw_below_drewN | apply below_drew1 | refine below_set ?_ GE122.out) | exact HB.out))) hk), Kd.freshB (g := gb122) (o := .cells #[.int .u64 ((rd_T28 l0 x12_1).f0), .bool ((rd_T28 l0 x12_1).f1), .slice Ao15 t123.length co15] 28 (0, 0)) (by (with_reducible repeat (first | refine blk_drewN ?_ _ | refine blk_drew ?_ | refine blk_alloc ?_ _)); exact BK122.out) k_ hk⟩)); (case aO => exact (by (with_reducible repeat (first | apply Kd.N_alloc | apply Kd.N_drewN | apply Kd.N_drew)); exact Kd.N_mono HO_3.out (fun _ hk => ⟨hk.1, hk.2.2⟩))); (case aS => exact (below_size (by repeat (first | (with_reducible first | exact HB.out | apply below_alloc | apply pw_below_drewN | apply below_drew1 | refine below_set ?_ GE122.out) | exact HB.out)))); (case aL => have := LMc11.out; omega); intro v127 w19 ho hb hg hat; rw [← Ny126.out] at ho; have n0_ := Aside0.mk (blk_grown (g := gb122) (o := .cells #[.int .u64 ((rd_T28 l0 x12_1).f0), .bool ((rd_T28 l0 x12_1).f1), .slice Ao15 t123.length co15] 28 (0, 0)) (by (with_reducible repeat (first | refine blk_drewN ?_ _ | refine blk_drew ?_ | refine blk_alloc ?_ _)); exact BK122.out) hg (Kd.N_away HO_3.out (fun _ hk => hk.2.2))); have n1_ := Aside0.mk (hb); have n2_ := Aside0.mk (ho); clear BK122; clear HB; clear HO_3; clear HO125; have BK122 := n0_; have HB := n1_; have HO128 := n2_; clear n0_ n1_ n2_; clear ho hb hg hat))
         go_roundg k1
         case measure => have := HK1.out; omega
         case rel => exact ⟨(y126), (wrap64 (x12_1 + 1)), (by first | rfl | (simp; done) | (simp [*]; done)), H', ⟨by have := HK1.out; omega⟩, ⟨by (with_reducible repeat (first | apply Kd.N_alloc | apply Kd.N_drewN | apply Kd.N_drew)); exact Kd.N_mono HO128.out (fun _ hk => hk.1)⟩, ⟨by repeat (first | (with_reducible first | exact HB.out | apply below_alloc | apply pw_below_drewN | apply below_drew1 | refine below_set ?_ GE122.out) | exact HB.out)⟩⟩
        ·rw [if_neg c11] at H
         exact absurd H (by simp)
       ·rw [if_neg c9] at H
        exact absurd H (by simp)
      ·rw [if_neg c8] at H
       exact absurd H (by simp)
     ·rw [if_neg c7] at H
      have c7b0 : decide (x12_1 < (l0.length : Int)) = false := decide_eq_false c7
      clear c7
      obtain rfl := Option.some.inj H
      go_wp2
      go_ret
      exact ⟨_, by first | rfl | (simp [errW_none, errW_some] <;> rfl) | (simp only [← hji2]; first | rfl | (simp [errW_none, errW_some] <;> rfl)) | (simp [*, errW_none, errW_some] <;> rfl), by (with_reducible repeat (first | apply Kd.N_alloc | apply Kd.N_drewN | apply Kd.N_drew)); exact HO_3.out, by repeat (first | (with_reducible first | exact HB.out | apply below_alloc | apply pw_below_drewN | apply below_drew1) | exact HB.out)⟩
  ·rw [if_neg c4] at H
   exact absurd H (by simp)
 ·rw [if_neg c3] at H
  exact absurd H (by simp)
def chain_Put.j0 : Nat → List (S28) → Bool → Int → Bool → List Int → Option ((List (S28)) × Int)
 | 0, _, _, _, _, _ => none
 | k + 1, x0, x14, x130000, x130001, x130002 => if x14 = true then (some (([] : List (S28)), 1)) else ((chain_Last.f x0).bind fun t135 => (if x130000 ≤ t135 then (some (([] : List (S28)), 70)) else ((bytes_Clone.f x130002).bind fun t136 => ((chain_owned.f k x0).bind fun t139 => ((some (([(⟨x130000, x130001, t136⟩ : S28)] : List (S28)) : List (S28))).bind fun y142 => (if t139.length + y142.length < 3518437208883 then (some ((t139 ++ y142), 0)) else (none)))))))
def chain_Put.f (k : Nat) (l0 : List (S28)) (a1_0 : Int) (a1_1 : Bool) (l1_2 : List Int) : Option ((List (S28)) × Int) := (chain_Right.f k l0).bind fun t130 => (if t130 = true then ((chain_Right.f k (([(⟨a1_0, a1_1, l1_2⟩ : S28)] : List (S28)))).bind fun t134 => (chain_Put.j0 k l0 (!t134) a1_0 a1_1 l1_2)) else (chain_Put.j0 k l0 true a1_0 a1_1 l1_2))
theorem chain_Put.mono_l : ∀ k, (∀ y0 y1 y2 y3 y4, LeO (chain_Put.j0 k y0 y1 y2 y3 y4) (chain_Put.j0 (k + 1) y0 y1 y2 y3 y4))
 | 0 => fun _ _ _ _ _ r h => by simp [chain_Put.j0] at h
 | k + 1 => by
  have ih0 := chain_Put.mono_l k
  ·intro y0 y1 y2 y3 y4
   unfold chain_Put.j0
   repeat' first
   | (with_reducible exact ih0 _ _ _ _ _)
   | (with_reducible exact chain_Right.mono _ _)
   | (with_reducible exact chain_owned.mono _ _)
   | (with_reducible exact LeO.refl _)
   | (with_reducible exact LeO.none _)
   | (with_reducible refine LeO.ite ?_ ?_)
   | (with_reducible refine LeO.bind ?_ (fun _ => ?_))
   | exact ih0 _ _ _ _ _
   | exact chain_Right.mono _ _
   | exact chain_owned.mono _ _
   | exact LeO.none _
   | refine LeO.ite ?_ ?_
   | refine LeO.bind ?_ (fun _ => ?_)
theorem chain_Put.mono : ∀ a0 a1 a2 a3 k, LeO (chain_Put.f k a0 a1 a2 a3) (chain_Put.f (k + 1) a0 a1 a2 a3) := by
 intro a0 a1 a2 a3 k
 have ih0 := chain_Put.mono_l k
 unfold chain_Put.f
 repeat' first
   | (with_reducible exact ih0 _ _ _ _ _)
   | (with_reducible exact chain_Right.mono _ _)
   | (with_reducible exact chain_owned.mono _ _)
   | (with_reducible exact LeO.refl _)
   | (with_reducible exact LeO.none _)
   | (with_reducible refine LeO.ite ?_ ?_)
   | (with_reducible refine LeO.bind ?_ (fun _ => ?_))
   | exact ih0 _ _ _ _ _
   | exact chain_Right.mono _ _
   | exact chain_owned.mono _ _
   | exact LeO.none _
   | refine LeO.ite ?_ ?_
   | refine LeO.bind ?_ (fun _ => ?_)
theorem upto_go_bd (l : List S28) (a : Int) : ∀ (k : Nat) (lo hi : Int), lo ≤ hi → lo ≤ upto_go l a k lo hi ∧ upto_go l a k lo hi ≤ hi := by
 intro k
 induction k with
 | zero => intro lo hi h; exact ⟨Int.le_refl _, h⟩
 | succ k ih =>
  intro lo hi h
  simp only [upto_go]
  split
  ·split
   ·have := ih (lo + (hi - lo) / 2 + 1) hi (by omega); omega
   ·have := ih lo (lo + (hi - lo) / 2) (by omega); omega
  ·exact ⟨Int.le_refl _, h⟩
/-- Where Trim cuts. -/
def trimAt (l0 : List S28) (a1 : Int) : Int :=
 if upto_go l0 a1 l0.length 0 l0.length > 0 ∧ (rd_T28 l0 (upto_go l0 a1 l0.length 0 l0.length - 1)).f1 = false then upto_go l0 a1 l0.length 0 l0.length - 1 else upto_go l0 a1 l0.length 0 l0.length
def chain_Trim.f (k : Nat) (l0 : List S28) (a1 : Int) : Option (List S28) := chain_owned.f k (l0.drop (trimAt l0 a1).toNat)
theorem chain_Trim.mono : ∀ a0 a1 k, LeO (chain_Trim.f k a0 a1) (chain_Trim.f (k + 1) a0 a1) := fun a0 a1 k => chain_owned.mono _ k
set_option maxHeartbeats 2000000 in
set_option maxRecDepth 100000 in
theorem chain_Trim.calls (k : Nat) (A0 : Option Addr) (c0 : Nat) (l0 : List (S28)) (a1 : Int) (r : List (S28)) (w : World) (hr0 : Kd.C k28 w A0 l0.length l0) (hc0 : l0.length ≤ c0) (h : chain_Trim.f k l0 a1 = some r) :
  Calls Try.prog 31 #[.slice A0 l0.length c0, .int .u64 a1] w fun e w' => ∃ v0_ : Value, e = .returned (v0_) ∧ Kd.N k28 28 w' w.heap.size (fun k_ => (w.heap.size ≤ k_)) v0_ r ∧ Below w.heap.size w w' := by
 unfold chain_Trim.f trimAt at h
 have hm : l0.length ≤ 9223372036854775807 := hr0.2.1
 obtain ⟨hb1, hb2⟩ := upto_go_bd l0 a1 l0.length 0 l0.length (by omega)
 have hu : chain_upto.f l0 a1 = some (upto_go l0 a1 l0.length 0 l0.length) := rfl
 generalize upto_go l0 a1 l0.length 0 l0.length = n at h hb1 hb2 hu
 obtain ⟨i, rfl⟩ := Int.eq_ofNat_of_zero_le hb1
 have hi : i ≤ l0.length := by omega
 have HU := Aside0.mk hu
 have HR := Aside0.mk hr0
 have HC := Aside0.mk hc0
 clear hr0 hc0 hb1 hb2 hu
 have CUT : ∀ j : Nat, j ≤ l0.length → ∃ A' : Option Addr, (∀ W : World, (Instr.slice 22 (.slice A0 l0.length c0) (some (.int .i64 (j : Int))) (some (.int .i64 (l0.length : Int))) (some (.int .i64 (l0.length : Int)))).run Try.prog W = .ok (.slice A' (l0.drop j).length (l0.length - j)) W) ∧
   (∀ w : World, Kd.C k28 w A0 l0.length l0 → Kd.C k28 w A' (l0.drop j).length (l0.drop j)) ∧ (l0.drop j).length ≤ l0.length - j := fun j hj => Kd.cut3 k28 22 28 _ _ Try.underlying22 info28 A0 c0 l0 j hj HC.out
 by_cases h0 : 0 < i
 ·obtain ⟨j, e1, ej1, ej2⟩ : ∃ j : Nat, (i : Int) - 1 = j ∧ j < i ∧ i ≤ j + 1 := ⟨i - 1, by omega, by omega, by omega⟩
  have h0i : (0 : Int) < (i : Int) := by omega
  obtain ⟨ad, A2, c2, e, hx0, hx1, hx2, hl2, hi2⟩ := at_T28 HR.out (j : Int) (by omega) (by omega)
  subst e
  simp only [Int.toNat_natCast] at hx0 hx1 hx2
  have hx1' : ∀ w1, Below w.heap.size w w1 → w1.cell? ⟨(ad.add (j * 3)).block, (ad.add (j * 3)).off + 1, none⟩ = some (.bool (rd_T28 l0 (j : Int)).f1) := fun w1 hb => pw_cell_below hb hx1
  have HX := Aside0.mk hx1'
  clear hx0 hx1 hx2 hl2 hi2 hx1'
  simp only [e1] at h
  by_cases hg : (rd_T28 l0 (j : Int)).f1 = false
  ·rw [if_pos ⟨by omega, hg⟩, Int.toNat_natCast] at h
   obtain ⟨A', hcut, hC', hl'⟩ := CUT j (by omega)
   generalize l0.drop j = ys at h hcut hC' hl'
   have H := Aside0.mk h
   have HC' := Aside0.mk hC'
   have HL' := Aside0.mk hl'
   clear h CUT hC' hl' h0
   have hgd : (!(rd_T28 l0 (j : Int)).f1) = true := by rw [hg]; rfl
   clear hg
   go_enter Try.func31, Try.ntmps31
   go_wp2_with (first
    | (go_at_call 64; refine (chain_upto.calls _ _ _ _ _ _ HR.out HC.out HU.out).mono ?_; rintro e w1 ⟨rfl, hb1⟩; have hx1 := HX.out _ hb1; have HB1 := Aside0.mk hb1; clear hb1)
    | (go_at_call 66; refine (chain_owned.calls k _ _ _ _ _ (HC'.out _ (Kd.C_below HR.out HB1.out)) HL'.out H.out).mono ?_; rintro e w2 ⟨v2, rfl, hn2, hb2⟩; have HN2 := Aside0.mk hn2; have HB2 := Aside0.mk hb2; clear hn2 hb2))
   go_ret
   refine ⟨_, rfl, ?_, below_step HB1.out HB2.out⟩
   exact Kd.N_lower (Kd.N_mono HN2.out (fun k_ hk => Nat.le_trans HB1.out.size hk)) HB1.out.size
  ·rw [if_neg (fun hc => hg hc.2), Int.toNat_natCast] at h
   obtain ⟨A', hcut, hC', hl'⟩ := CUT i (by omega)
   generalize l0.drop i = ys at h hcut hC' hl'
   have H := Aside0.mk h
   have HC' := Aside0.mk hC'
   have HL' := Aside0.mk hl'
   clear h CUT hC' hl' h0
   have hgd : (!(rd_T28 l0 (j : Int)).f1) = false := by cases hq : (rd_T28 l0 (j : Int)).f1 <;> simp_all
   clear hg
   go_enter Try.func31, Try.ntmps31
   go_wp2_with (first
    | (go_at_call 64; refine (chain_upto.calls _ _ _ _ _ _ HR.out HC.out HU.out).mono ?_; rintro e w1 ⟨rfl, hb1⟩; have hx1 := HX.out _ hb1; have HB1 := Aside0.mk hb1; clear hb1)
    | (go_at_call 66; refine (chain_owned.calls k _ _ _ _ _ (HC'.out _ (Kd.C_below HR.out HB1.out)) HL'.out H.out).mono ?_; rintro e w2 ⟨v2, rfl, hn2, hb2⟩; have HN2 := Aside0.mk hn2; have HB2 := Aside0.mk hb2; clear hn2 hb2))
   go_ret
   refine ⟨_, rfl, ?_, below_step HB1.out HB2.out⟩
   exact Kd.N_lower (Kd.N_mono HN2.out (fun k_ hk => Nat.le_trans HB1.out.size hk)) HB1.out.size
 ·have h0i : ¬ ((0 : Int) < (i : Int)) := by omega
  rw [if_neg (by omega)] at h
  rw [Int.toNat_natCast] at h
  obtain ⟨A', hcut, hC', hl'⟩ := CUT i (by omega)
  generalize l0.drop i = ys at h hcut hC' hl'
  have H := Aside0.mk h
  have HC' := Aside0.mk hC'
  have HL' := Aside0.mk hl'
  clear h h0 CUT hC' hl'
  go_enter Try.func31, Try.ntmps31
  go_wp2_with (first
   | (go_at_call 64; refine (chain_upto.calls _ _ _ _ _ _ HR.out HC.out HU.out).mono ?_; rintro e w1 ⟨rfl, hb1⟩; have HB1 := Aside0.mk hb1; clear hb1)
   | (go_at_call 66; refine (chain_owned.calls k _ _ _ _ _ (HC'.out _ (Kd.C_below HR.out HB1.out)) HL'.out H.out).mono ?_; rintro e w2 ⟨v2, rfl, hn2, hb2⟩; have HN2 := Aside0.mk hn2; have HB2 := Aside0.mk hb2; clear hn2 hb2))
  go_ret
  refine ⟨_, rfl, ?_, below_step HB1.out HB2.out⟩
  exact Kd.N_lower (Kd.N_mono HN2.out (fun k_ hk => Nat.le_trans HB1.out.size hk)) HB1.out.size
def conductorlaw07_two.f : Option ((List (S28))) := some (([(⟨2, false, (([120] : List Int))⟩ : S28), (⟨5, true, ([] : List Int)⟩ : S28)] : List (S28)))
def conductorlaw07_live.f (k : Nat)  : Option (Bool) := (conductorlaw07_two.f).bind fun t148 => ((chain_Get.f t148 1).bind fun bt151 => ((conductorlaw07_two.f).bind fun t155 => ((chain_Get.f t155 4).bind fun bt158 => ((conductorlaw07_two.f).bind fun t162 => ((chain_Get.f t162 5).bind fun bt165 => ((conductorlaw07_two.f).bind fun t169 => ((chain_Put.f k t169 6 false ([] : List Int)).bind fun bt172 => (if bt151.2 = true then (some false) else (if (strOfNums bt158.1).toList = ([120] : List UInt8) then (if bt158.2 = true then (if bt165.2 = true then (some false) else ((conductorlaw07_two.f).bind fun t176 => ((chain_Trim.f k t176 5).bind fun t179 => (if (t179.length : Int) = 0 then (if (bt172.1.length : Int) = 3 then (some (bt172.2 == 0)) else (some false)) else (some false))))) else (some false)) else (some false))))))))))
theorem conductorlaw07_live.mono : ∀ k, LeO (conductorlaw07_live.f k ) (conductorlaw07_live.f (k + 1) ) := by
 intro  k
 unfold conductorlaw07_live.f
 repeat' first
   | (with_reducible exact chain_Put.mono _ _ _ _ _)
   | (with_reducible exact chain_Trim.mono _ _ _)
   | (with_reducible exact LeO.refl _)
   | (with_reducible exact LeO.none _)
   | (with_reducible refine LeO.ite ?_ ?_)
   | (with_reducible refine LeO.bind ?_ (fun _ => ?_))
   | exact chain_Put.mono _ _ _ _ _
   | exact chain_Trim.mono _ _ _
   | exact LeO.none _
   | refine LeO.ite ?_ ?_
   | refine LeO.bind ?_ (fun _ => ?_)
def conductorlaw07_few.l0 : Nat → List (S28) → List (S28) → Int → Int → Option (Bool)
 | 0, _, _, _, _ => none
 | k + 1, x0, x5, x6, x7 => if x7 < x6 then (if 0 ≤ x7 then (if x7 < (x5.length : Int) then (if (((rd_T28 x5 x7).f2).length : Int) > 1000 then (some false) else (conductorlaw07_few.l0 k x0 x5 x6 (wrap64 (x7 + 1)))) else (none)) else (none)) else (some (decide ((x0.length : Int) ≤ 100)))
def conductorlaw07_few.f (k : Nat) (l0 : List (S28)) : Option (Bool) := conductorlaw07_few.l0 k l0 l0 (l0.length : Int) 0
theorem conductorlaw07_few.mono_l : ∀ k, (∀ y0 y1 y2 y3, LeO (conductorlaw07_few.l0 k y0 y1 y2 y3) (conductorlaw07_few.l0 (k + 1) y0 y1 y2 y3))
 | 0 => fun _ _ _ _ r h => by simp [conductorlaw07_few.l0] at h
 | k + 1 => by
  have ih0 := conductorlaw07_few.mono_l k
  ·intro y0 y1 y2 y3
   unfold conductorlaw07_few.l0
   repeat' first
   | (with_reducible exact ih0 _ _ _ _)
   | (with_reducible exact LeO.refl _)
   | (with_reducible exact LeO.none _)
   | (with_reducible refine LeO.ite ?_ ?_)
   | (with_reducible refine LeO.bind ?_ (fun _ => ?_))
   | exact ih0 _ _ _ _
   | exact LeO.none _
   | refine LeO.ite ?_ ?_
   | refine LeO.bind ?_ (fun _ => ?_)
theorem conductorlaw07_few.mono : ∀ a0 k, LeO (conductorlaw07_few.f k a0) (conductorlaw07_few.f (k + 1) a0) := by
 intro a0 k
 have ih0 := conductorlaw07_few.mono_l k
 unfold conductorlaw07_few.f
 repeat' first
   | (with_reducible exact ih0 _ _ _ _)
   | (with_reducible exact LeO.refl _)
   | (with_reducible exact LeO.none _)
   | (with_reducible refine LeO.ite ?_ ?_)
   | (with_reducible refine LeO.bind ?_ (fun _ => ?_))
   | exact ih0 _ _ _ _
   | exact LeO.none _
   | refine LeO.ite ?_ ?_
   | refine LeO.bind ?_ (fun _ => ?_)
def conductorref07_Right.l0 : Nat → Int → List (S28) → Int → Int → Option (Bool)
 | 0, _, _, _, _ => none
 | k + 1, x3, x6, x7, x8 => if x8 < x7 then (if 0 ≤ x8 then (if x8 < (x6.length : Int) then (if ((rd_T28 x6 x8).f0) ≤ x3 then (some false) else (if (rd_T28 x6 x8).f1 = true then (if (((rd_T28 x6 x8).f2).length : Int) > 0 then (some false) else (conductorref07_Right.l0 k ((rd_T28 x6 x8).f0) x6 x7 (wrap64 (x8 + 1)))) else (conductorref07_Right.l0 k ((rd_T28 x6 x8).f0) x6 x7 (wrap64 (x8 + 1))))) else (none)) else (none)) else (some true)
def conductorref07_Right.f (k : Nat) (l0 : List (S28)) : Option (Bool) := conductorref07_Right.l0 k 0 l0 (l0.length : Int) 0
theorem conductorref07_Right.mono_l : ∀ k, (∀ y0 y1 y2 y3, LeO (conductorref07_Right.l0 k y0 y1 y2 y3) (conductorref07_Right.l0 (k + 1) y0 y1 y2 y3))
 | 0 => fun _ _ _ _ r h => by simp [conductorref07_Right.l0] at h
 | k + 1 => by
  have ih0 := conductorref07_Right.mono_l k
  ·intro y0 y1 y2 y3
   unfold conductorref07_Right.l0
   repeat' first
   | (with_reducible exact ih0 _ _ _ _)
   | (with_reducible exact LeO.refl _)
   | (with_reducible exact LeO.none _)
   | (with_reducible refine LeO.ite ?_ ?_)
   | (with_reducible refine LeO.bind ?_ (fun _ => ?_))
   | exact ih0 _ _ _ _
   | exact LeO.none _
   | refine LeO.ite ?_ ?_
   | refine LeO.bind ?_ (fun _ => ?_)
theorem conductorref07_Right.mono : ∀ a0 k, LeO (conductorref07_Right.f k a0) (conductorref07_Right.f (k + 1) a0) := by
 intro a0 k
 have ih0 := conductorref07_Right.mono_l k
 unfold conductorref07_Right.f
 repeat' first
   | (with_reducible exact ih0 _ _ _ _)
   | (with_reducible exact LeO.refl _)
   | (with_reducible exact LeO.none _)
   | (with_reducible refine LeO.ite ?_ ?_)
   | (with_reducible refine LeO.bind ?_ (fun _ => ?_))
   | exact ih0 _ _ _ _
   | exact LeO.none _
   | refine LeO.ite ?_ ?_
   | refine LeO.bind ?_ (fun _ => ?_)
def conductorref07_Find.l0 : Nat → Int → Bool → List (S28) → Int → Int → Int → Bool → List Int → Option (Int × Bool × List Int × Bool)
 | 0, _, _, _, _, _, _, _, _ => none
 | k + 1, x1, x7, x10, x11, x12, x188000, x188001, x188002 => if x12 < x11 then (if 0 ≤ x12 then (if x12 < (x10.length : Int) then (if ((rd_T28 x10 x12).f0) ≤ x1 then (conductorref07_Find.l0 k x1 true x10 x11 (wrap64 (x12 + 1)) ((rd_T28 x10 x12).f0) ((rd_T28 x10 x12).f1) ((rd_T28 x10 x12).f2)) else (conductorref07_Find.l0 k x1 x7 x10 x11 (wrap64 (x12 + 1)) x188000 x188001 x188002)) else (none)) else (none)) else (some (x188000, x188001, x188002, x7))
def conductorref07_Find.f (k : Nat) (l0 : List (S28)) (a1 : Int) : Option (Int × Bool × List Int × Bool) := conductorref07_Find.l0 k a1 false l0 (l0.length : Int) 0 0 false ([] : List Int)
theorem conductorref07_Find.mono_l : ∀ k, (∀ y0 y1 y2 y3 y4 y5 y6 y7, LeO (conductorref07_Find.l0 k y0 y1 y2 y3 y4 y5 y6 y7) (conductorref07_Find.l0 (k + 1) y0 y1 y2 y3 y4 y5 y6 y7))
 | 0 => fun _ _ _ _ _ _ _ _ r h => by simp [conductorref07_Find.l0] at h
 | k + 1 => by
  have ih0 := conductorref07_Find.mono_l k
  ·intro y0 y1 y2 y3 y4 y5 y6 y7
   unfold conductorref07_Find.l0
   repeat' first
   | (with_reducible exact ih0 _ _ _ _ _ _ _ _)
   | (with_reducible exact LeO.refl _)
   | (with_reducible exact LeO.none _)
   | (with_reducible refine LeO.ite ?_ ?_)
   | (with_reducible refine LeO.bind ?_ (fun _ => ?_))
   | exact ih0 _ _ _ _ _ _ _ _
   | exact LeO.none _
   | refine LeO.ite ?_ ?_
   | refine LeO.bind ?_ (fun _ => ?_)
theorem conductorref07_Find.mono : ∀ a0 a1 k, LeO (conductorref07_Find.f k a0 a1) (conductorref07_Find.f (k + 1) a0 a1) := by
 intro a0 a1 k
 have ih0 := conductorref07_Find.mono_l k
 unfold conductorref07_Find.f
 repeat' first
   | (with_reducible exact ih0 _ _ _ _ _ _ _ _)
   | (with_reducible exact LeO.refl _)
   | (with_reducible exact LeO.none _)
   | (with_reducible refine LeO.ite ?_ ?_)
   | (with_reducible refine LeO.bind ?_ (fun _ => ?_))
   | exact ih0 _ _ _ _ _ _ _ _
   | exact LeO.none _
   | refine LeO.ite ?_ ?_
   | refine LeO.bind ?_ (fun _ => ?_)
def conductorref07_Get.f (k : Nat) (l0 : List (S28)) (a1 : Int) : Option (List Int × Bool) := (conductorref07_Find.f k l0 a1).bind fun bt190 => (if bt190.2.2.2 = true then (if bt190.2.1 = true then (some (([] : List Int), false)) else (some (bt190.2.2.1, true))) else (some (([] : List Int), false)))
theorem conductorref07_Get.mono : ∀ a0 a1 k, LeO (conductorref07_Get.f k a0 a1) (conductorref07_Get.f (k + 1) a0 a1) := by
 intro a0 a1 k
 unfold conductorref07_Get.f
 repeat' first
   | (with_reducible exact conductorref07_Find.mono _ _ _)
   | (with_reducible exact LeO.refl _)
   | (with_reducible exact LeO.none _)
   | (with_reducible refine LeO.ite ?_ ?_)
   | (with_reducible refine LeO.bind ?_ (fun _ => ?_))
   | exact conductorref07_Find.mono _ _ _
   | exact LeO.none _
   | refine LeO.ite ?_ ?_
   | refine LeO.bind ?_ (fun _ => ?_)
def conductorref01_Equal.f (l0 : List Int) (l1 : List Int) : Option (Bool) := some ((strOfNums l0).toList == (strOfNums l1).toList)
def conductorref07_SameOne.f (a0_0 : Int) (a0_1 : Bool) (l0_2 : List Int) (a1_0 : Int) (a1_1 : Bool) (l1_2 : List Int) : Option (Bool) := if a0_0 = a1_0 then (if (a0_1 == a1_1) = true then ((conductorref01_Equal.f l0_2 l1_2).bind fun t199 => (some t199)) else (some false)) else (some false)
def conductorref07_Last.f (k : Nat) (l0 : List (S28)) : Option (Int) := (conductorref07_Find.f k l0 18446744073709551615).bind fun bt200 => (some bt200.1)
theorem conductorref07_Last.mono : ∀ a0 k, LeO (conductorref07_Last.f k a0) (conductorref07_Last.f (k + 1) a0) := by
 intro a0 k
 unfold conductorref07_Last.f
 repeat' first
   | (with_reducible exact conductorref07_Find.mono _ _ _)
   | (with_reducible exact LeO.refl _)
   | (with_reducible exact LeO.none _)
   | (with_reducible refine LeO.ite ?_ ?_)
   | (with_reducible refine LeO.bind ?_ (fun _ => ?_))
   | exact conductorref07_Find.mono _ _ _
   | exact LeO.none _
   | refine LeO.ite ?_ ?_
   | refine LeO.bind ?_ (fun _ => ?_)
def conductorref07_Put.j0 : Nat → List (S28) → Bool → Int → Bool → List Int → Option ((List (S28)) × Int)
 | 0, _, _, _, _, _ => none
 | k + 1, x0, x10, x238000, x238001, x238002 => if x10 = true then (some (([] : List (S28)), 1)) else ((conductorref07_Last.f k x0).bind fun t243 => (if x238000 ≤ t243 then (some (([] : List (S28)), 70)) else ((some (([] : List (S28)) : List (S28))).bind fun y244 => (if y244.length + x0.length < 3518437208883 then ((some (y244 ++ x0 : List (S28))).bind fun y247 => (if y247.length < 3518437208883 then (some ((y247 ++ [(⟨x238000, x238001, x238002⟩ : S28)]), 0)) else (none))) else (none)))))
def conductorref07_Put.f (k : Nat) (l0 : List (S28)) (a1_0 : Int) (a1_1 : Bool) (l1_2 : List Int) : Option ((List (S28)) × Int) := (conductorref07_Right.f k l0).bind fun t241 => (if t241 = true then ((conductorref07_Right.f k (([(⟨a1_0, a1_1, l1_2⟩ : S28)] : List (S28)))).bind fun t242 => (conductorref07_Put.j0 k l0 (!t242) a1_0 a1_1 l1_2)) else (conductorref07_Put.j0 k l0 true a1_0 a1_1 l1_2))
theorem conductorref07_Put.mono_l : ∀ k, (∀ y0 y1 y2 y3 y4, LeO (conductorref07_Put.j0 k y0 y1 y2 y3 y4) (conductorref07_Put.j0 (k + 1) y0 y1 y2 y3 y4))
 | 0 => fun _ _ _ _ _ r h => by simp [conductorref07_Put.j0] at h
 | k + 1 => by
  have ih0 := conductorref07_Put.mono_l k
  ·intro y0 y1 y2 y3 y4
   unfold conductorref07_Put.j0
   repeat' first
   | (with_reducible exact ih0 _ _ _ _ _)
   | (with_reducible exact conductorref07_Last.mono _ _)
   | (with_reducible exact conductorref07_Right.mono _ _)
   | (with_reducible exact LeO.refl _)
   | (with_reducible exact LeO.none _)
   | (with_reducible refine LeO.ite ?_ ?_)
   | (with_reducible refine LeO.bind ?_ (fun _ => ?_))
   | exact ih0 _ _ _ _ _
   | exact conductorref07_Last.mono _ _
   | exact conductorref07_Right.mono _ _
   | exact LeO.none _
   | refine LeO.ite ?_ ?_
   | refine LeO.bind ?_ (fun _ => ?_)
theorem conductorref07_Put.mono : ∀ a0 a1 a2 a3 k, LeO (conductorref07_Put.f k a0 a1 a2 a3) (conductorref07_Put.f (k + 1) a0 a1 a2 a3) := by
 intro a0 a1 a2 a3 k
 have ih0 := conductorref07_Put.mono_l k
 unfold conductorref07_Put.f
 repeat' first
   | (with_reducible exact ih0 _ _ _ _ _)
   | (with_reducible exact conductorref07_Last.mono _ _)
   | (with_reducible exact conductorref07_Right.mono _ _)
   | (with_reducible exact LeO.refl _)
   | (with_reducible exact LeO.none _)
   | (with_reducible refine LeO.ite ?_ ?_)
   | (with_reducible refine LeO.bind ?_ (fun _ => ?_))
   | exact ih0 _ _ _ _ _
   | exact conductorref07_Last.mono _ _
   | exact conductorref07_Right.mono _ _
   | exact LeO.none _
   | refine LeO.ite ?_ ?_
   | refine LeO.bind ?_ (fun _ => ?_)
def conductorref07_Same.l0 : Nat → List (S28) → List (S28) → Int → Int → Option (Bool)
 | 0, _, _, _, _ => none
 | k + 1, x0, x1, x12, x13 => if x13 < x12 then (if 0 ≤ x13 then (if x13 < (x0.length : Int) then (if x13 < (x1.length : Int) then ((conductorref07_SameOne.f ((rd_T28 x0 x13).f0) ((rd_T28 x0 x13).f1) ((rd_T28 x0 x13).f2) ((rd_T28 x1 x13).f0) ((rd_T28 x1 x13).f1) ((rd_T28 x1 x13).f2)).bind fun t255 => (if t255 = true then (conductorref07_Same.l0 k x0 x1 x12 (wrap64 (x13 + 1))) else (some false))) else (none)) else (none)) else (none)) else (some true)
def conductorref07_Same.f (k : Nat) (l0 : List (S28)) (l1 : List (S28)) : Option (Bool) := if (l0.length : Int) = (l1.length : Int) then (conductorref07_Same.l0 k l0 l1 (l0.length : Int) 0) else (some false)
theorem conductorref07_Same.mono_l : ∀ k, (∀ y0 y1 y2 y3, LeO (conductorref07_Same.l0 k y0 y1 y2 y3) (conductorref07_Same.l0 (k + 1) y0 y1 y2 y3))
 | 0 => fun _ _ _ _ r h => by simp [conductorref07_Same.l0] at h
 | k + 1 => by
  have ih0 := conductorref07_Same.mono_l k
  ·intro y0 y1 y2 y3
   unfold conductorref07_Same.l0
   repeat' first
   | (with_reducible exact ih0 _ _ _ _)
   | (with_reducible exact LeO.refl _)
   | (with_reducible exact LeO.none _)
   | (with_reducible refine LeO.ite ?_ ?_)
   | (with_reducible refine LeO.bind ?_ (fun _ => ?_))
   | exact ih0 _ _ _ _
   | exact LeO.none _
   | refine LeO.ite ?_ ?_
   | refine LeO.bind ?_ (fun _ => ?_)
theorem conductorref07_Same.mono : ∀ a0 a1 k, LeO (conductorref07_Same.f k a0 a1) (conductorref07_Same.f (k + 1) a0 a1) := by
 intro a0 a1 k
 have ih0 := conductorref07_Same.mono_l k
 unfold conductorref07_Same.f
 repeat' first
   | (with_reducible exact ih0 _ _ _ _)
   | (with_reducible exact LeO.refl _)
   | (with_reducible exact LeO.none _)
   | (with_reducible refine LeO.ite ?_ ?_)
   | (with_reducible refine LeO.bind ?_ (fun _ => ?_))
   | exact ih0 _ _ _ _
   | exact LeO.none _
   | refine LeO.ite ?_ ?_
   | refine LeO.bind ?_ (fun _ => ?_)
end Go.Proofs.Yteofdgonpbmdlaa.C
namespace Go.Proofs.Yteofdgonpbmdlaa.Pure
open Go.RowKit Go.Proofs.YteofdgonpbmdlaaW.PrintWords Go.Proofs.Yteofdgonpbmdlaa.C
theorem w1 {i n : Nat} (h : i < n) (hn : n ≤ 9223372036854775807) : wrap64 ((i : Int) + 1) = ((i + 1 : Nat) : Int) := by unfold wrap64; omega
theorem rd_nat (l : List S28) (i : Nat) (h : i < l.length) : rd_T28 l (i : Int) = l[i] := by
  simp [rd_T28, List.getD_eq_getElem?_getD, h]
def rgt : Int → List S28 → Bool
  | _, [] => true
  | a, v :: t => if v.f0 ≤ a then false else if v.f1 = true then (if ((v.f2).length : Int) > 0 then false else rgt v.f0 t) else rgt v.f0 t
theorem cRight_loop (l : List S28) (hl : l.length ≤ 9223372036854775807) : ∀ (d i : Nat) (a : Int) (k : Nat), i + d = l.length → d < k → chain_Right.l0 k a l l.length i = some (rgt a (l.drop i)) := by
  intro d
  induction d with
  | zero =>
    intro i a k hd hk
    obtain ⟨k, rfl⟩ : ∃ m, k = m + 1 := ⟨k - 1, by omega⟩
    simp only [chain_Right.l0]
    rw [if_neg (by omega), List.drop_eq_nil_of_le (by omega)]; rfl
  | succ d ih =>
    intro i a k hd hk
    obtain ⟨k, rfl⟩ : ∃ m, k = m + 1 := ⟨k - 1, by omega⟩
    have hi : i < l.length := by omega
    simp only [chain_Right.l0]
    rw [if_pos (by omega), if_pos (by omega), if_pos (by omega), w1 hi hl, rd_nat l i hi, List.drop_eq_getElem_cons hi, ih (i + 1) _ k (by omega) (by omega)]
    simp only [rgt]
    by_cases h1 : l[i].f0 ≤ a <;> by_cases h2 : l[i].f1 = true <;> by_cases h3 : (l[i].f2.length : Int) > 0 <;> simp only [h1, h2, h3, if_true, if_false, Bool.false_eq_true]
theorem cRight_ev (l : List S28) (hl : l.length ≤ 9223372036854775807) : Ev (fun k => chain_Right.f k l) (rgt 0 l) :=
  ⟨l.length + 1, fun k hk => cRight_loop l hl l.length 0 0 k (by omega) (by omega)⟩
theorem rgt_iff (l : List S28) : ∀ a, rgt a l = true ↔ (∀ v ∈ l, a < v.f0 ∧ (v.f1 = true → v.f2 = [])) ∧ l.Pairwise (fun x y => x.f0 < y.f0) := by
  induction l with
  | nil => intro a; simp [rgt]
  | cons v t ih =>
    intro a
    simp only [rgt, List.mem_cons, forall_eq_or_imp, List.pairwise_cons]
    by_cases h1 : v.f0 ≤ a
    · rw [if_pos h1]; constructor
      · intro h; cases h
      · intro h; have := h.1.1.1; omega
    · rw [if_neg h1]
      by_cases h2 : v.f1 = true
      · rw [if_pos h2]
        by_cases h3 : (v.f2.length : Int) > 0
        · rw [if_pos h3]; constructor
          · intro h; cases h
          · intro h; have := h.1.1.2 h2; rw [this] at h3; simp at h3
        · rw [if_neg h3, ih]
          have h4 : v.f2 = [] := by cases hf : v.f2 with | nil => rfl | cons x y => rw [hf] at h3; simp at h3
          constructor
          · rintro ⟨ha, hb⟩; exact ⟨⟨⟨by omega, fun _ => h4⟩, fun x hx => ⟨by have := (ha x hx).1; omega, (ha x hx).2⟩⟩, fun x hx => (ha x hx).1, hb⟩
          · rintro ⟨⟨_, ha⟩, hb, hc⟩; exact ⟨fun x hx => ⟨hb x hx, (ha x hx).2⟩, hc⟩
      · rw [if_neg h2, ih]
        constructor
        · rintro ⟨ha, hb⟩; exact ⟨⟨⟨by omega, fun h => absurd h h2⟩, fun x hx => ⟨by have := (ha x hx).1; omega, (ha x hx).2⟩⟩, fun x hx => (ha x hx).1, hb⟩
        · rintro ⟨⟨_, ha⟩, hb, hc⟩; exact ⟨fun x hx => ⟨hb x hx, (ha x hx).2⟩, hc⟩
theorem rgt_drop {l : List S28} (h : rgt 0 l = true) (t : Nat) : rgt 0 (l.drop t) = true := by
  rw [rgt_iff] at h ⊢
  exact ⟨fun v hv => h.1 v (List.mem_of_mem_drop hv), h.2.sublist (List.drop_sublist _ _)⟩
def fewB (l : List S28) : Bool := decide ((l.length : Int) ≤ 100) && l.all fun v => decide ((v.f2.length : Int) ≤ 1000)
theorem few_loop (l : List S28) (hl : l.length ≤ 9223372036854775807) : ∀ (d i : Nat) (k : Nat), i + d = l.length → d < k → conductorlaw07_few.l0 k l l l.length i = some (decide ((l.length : Int) ≤ 100) && (l.drop i).all fun v => decide ((v.f2.length : Int) ≤ 1000)) := by
  intro d
  induction d with
  | zero =>
    intro i k hd hk
    obtain ⟨k, rfl⟩ : ∃ m, k = m + 1 := ⟨k - 1, by omega⟩
    simp only [conductorlaw07_few.l0]
    rw [if_neg (by omega), List.drop_eq_nil_of_le (by omega)]; simp
  | succ d ih =>
    intro i k hd hk
    obtain ⟨k, rfl⟩ : ∃ m, k = m + 1 := ⟨k - 1, by omega⟩
    have hi : i < l.length := by omega
    simp only [conductorlaw07_few.l0]
    rw [if_pos (by omega), if_pos (by omega), if_pos (by omega), w1 hi hl, rd_nat l i hi, List.drop_eq_getElem_cons hi, ih (i + 1) k (by omega) (by omega)]
    by_cases h3 : (l[i].f2.length : Int) > 1000
    · rw [if_pos h3]
      have : ¬ (l[i].f2.length : Int) ≤ 1000 := by omega
      rw [List.all_cons, decide_eq_false this, Bool.false_and, Bool.and_false]
    · rw [if_neg h3]
      have : (l[i].f2.length : Int) ≤ 1000 := by omega
      rw [List.all_cons, decide_eq_true this, Bool.true_and]
theorem few_ev (l : List S28) (hl : l.length ≤ 9223372036854775807) : Ev (fun k => conductorlaw07_few.f k l) (fewB l) :=
  ⟨l.length + 1, fun k hk => few_loop l hl l.length 0 k (by omega) (by omega)⟩
theorem fewB_spec {l : List S28} (h : fewB l = true) : l.length ≤ 100 ∧ ∀ v ∈ l, v.f2.length ≤ 1000 := by
  simp only [fewB, Bool.and_eq_true, decide_eq_true_eq, List.all_eq_true] at h
  exact ⟨by omega, fun v hv => by have := h.2 v hv; omega⟩
def Upto (l : List S28) (a : Int) (n : Nat) : Prop := n ≤ l.length ∧ (∀ j (h : j < l.length), j < n → l[j].f0 ≤ a) ∧ ∀ j (h : j < l.length), n ≤ j → a < l[j].f0
theorem pw_lt {l : List S28} (hs : l.Pairwise (fun x y => x.f0 < y.f0)) {i j : Nat} (hij : i < j) (hj : j < l.length) : l[i].f0 < l[j].f0 := List.pairwise_iff_getElem.1 hs i j (by omega) hj hij
theorem upto_spec (l : List S28) (a : Int) (hs : l.Pairwise (fun x y => x.f0 < y.f0)) : ∀ k lo hi : Nat, lo ≤ hi → hi ≤ l.length → hi - lo ≤ k →
    (∀ j (h : j < l.length), j < lo → l[j].f0 ≤ a) → (∀ j (h : j < l.length), hi ≤ j → a < l[j].f0) → ∃ n : Nat, upto_go l a k lo hi = n ∧ Upto l a n := by
  intro k
  induction k with
  | zero => intro lo hi h1 h2 h3 h4 h5; exact ⟨lo, rfl, by omega, fun j h hj => h4 j h hj, fun j h hj => h5 j h (by omega)⟩
  | succ k ih =>
    intro lo hi h1 h2 h3 h4 h5
    simp only [upto_go]
    by_cases hlt : lo < hi
    · rw [if_pos (by omega)]
      obtain ⟨m, hm, hm1, hm2⟩ : ∃ m : Nat, (lo : Int) + ((hi : Int) - lo) / 2 = m ∧ lo ≤ m ∧ m < hi := ⟨((lo : Int) + ((hi : Int) - lo) / 2).toNat, by omega, by omega, by omega⟩
      rw [hm, rd_nat l m (by omega)]
      by_cases hc : l[m].f0 ≤ a
      · rw [if_pos hc]
        exact ih (m + 1) hi (by omega) h2 (by omega) (fun j h hj => by
          by_cases he : j = m
          · subst he; exact hc
          · have := pw_lt hs (show j < m by omega) (by omega); omega) h5
      · rw [if_neg hc]
        exact ih lo m (by omega) (by omega) (by omega) h4 (fun j h hj => by
          by_cases he : j = m
          · subst he; omega
          · have := pw_lt hs (show m < j by omega) h; omega)
    · rw [if_neg (by omega)]
      exact ⟨lo, rfl, by omega, fun j h hj => h4 j h hj, fun j h hj => h5 j h (by omega)⟩
theorem upto_is (l : List S28) (a : Int) (hs : rgt 0 l = true) : ∃ n : Nat, upto_go l a l.length 0 l.length = n ∧ Upto l a n :=
  upto_spec l a ((rgt_iff l 0).1 hs).2 l.length 0 l.length (by omega) (by omega) (by omega) (fun j h hj => by omega) (fun j h hj => by omega)
theorem Upto.uniq {l : List S28} {a : Int} {n m : Nat} (h : Upto l a n) (h' : Upto l a m) : n = m := by
  rcases Nat.lt_trichotomy n m with hlt | rfl | hlt
  · have h1 := h.2.2 n (by have := h'.1; omega) (by omega); have h2 := h'.2.1 n (by have := h'.1; omega) hlt; omega
  · rfl
  · have h1 := h'.2.2 m (by have := h.1; omega) (by omega); have h2 := h.2.1 m (by have := h.1; omega) hlt; omega
theorem upto_val {l : List S28} {a : Int} (hs : rgt 0 l = true) {n : Nat} (h : Upto l a n) : upto_go l a l.length 0 l.length = n := by
  obtain ⟨m, h1, h2⟩ := upto_is l a hs
  rw [h1, h.uniq h2]
/-- What is found. -/
def fndV (l : List S28) (n : Nat) : Int × Bool × List Int × Bool := if h : 0 < n ∧ n ≤ l.length then (l[n - 1].f0, l[n - 1].f1, l[n - 1].f2, true) else (0, false, [], false)
def getV (l : List S28) (n : Nat) : List Int × Bool := if h : 0 < n ∧ n ≤ l.length then (if l[n - 1].f1 = true then ([], false) else (l[n - 1].f2, true)) else ([], false)
theorem fndV_pos {l : List S28} {n : Nat} (h : 0 < n ∧ n ≤ l.length) : fndV l n = (l[n - 1].f0, l[n - 1].f1, l[n - 1].f2, true) := dif_pos h
theorem fndV_neg {l : List S28} {n : Nat} (h : ¬ (0 < n ∧ n ≤ l.length)) : fndV l n = (0, false, [], false) := dif_neg h
theorem getV_pos {l : List S28} {n : Nat} (h : 0 < n ∧ n ≤ l.length) : getV l n = (if l[n - 1].f1 = true then ([], false) else (l[n - 1].f2, true)) := dif_pos h
theorem getV_neg {l : List S28} {n : Nat} (h : ¬ (0 < n ∧ n ≤ l.length)) : getV l n = ([], false) := dif_neg h
theorem last_eq {l : List S28} (hl : l.length ≤ 1000) : chain_Last.f l = some (if h : 0 < l.length then l[l.length - 1].f0 else 0) := by
  unfold chain_Last.f
  by_cases h0 : 0 < l.length
  · have hw : wrap64 ((l.length : Int) - 1) = ((l.length - 1 : Nat) : Int) := by unfold wrap64; omega
    rw [if_neg (by omega), hw, if_pos (by omega), if_pos (by omega), rd_nat l _ (by omega), dif_pos h0]
  · rw [if_pos (by omega), dif_neg h0]
/-- Where a chain is cut. -/
def tAt (l : List S28) (n : Nat) : Nat := if h : 0 < n ∧ n ≤ l.length then (if l[n - 1].f1 = false then n - 1 else n) else n
theorem trimAt_eq {l : List S28} {a : Int} (hs : rgt 0 l = true) {n : Nat} (h : Upto l a n) : trimAt l a = tAt l n := by
  unfold trimAt tAt
  rw [upto_val hs h]
  by_cases h0 : 0 < n
  · have e : (n : Int) - 1 = ((n - 1 : Nat) : Int) := by omega
    have hn := h.1
    rw [dif_pos ⟨h0, hn⟩, e, rd_nat l (n - 1) (by omega)]
    by_cases hg : l[n - 1].f1 = false
    · rw [if_pos ⟨by omega, hg⟩, if_pos hg]
    · rw [if_neg (fun hc => hg hc.2), if_neg hg]
  · rw [if_neg (by omega), dif_neg (by omega)]
theorem tAt_le (l : List S28) (n : Nat) : tAt l n ≤ n := by
  unfold tAt
  split
  · split <;> omega
  · omega
theorem Upto.le {l : List S28} {a b : Int} {n n' : Nat} (h : Upto l a n) (h' : Upto l b n') (hab : a ≤ b) : n ≤ n' := by
  rcases Nat.lt_or_ge n' n with hlt | hge
  · have h1 := h.2.1 n' (by have := h.1; omega) hlt
    have h2 := h'.2.2 n' (by have := h.1; omega) (Nat.le_refl _)
    omega
  · exact hge
theorem Upto.drop {l : List S28} {a : Int} {n : Nat} (h : Upto l a n) (t : Nat) (ht : t ≤ n) : Upto (l.drop t) a (n - t) := by
  have hn := h.1
  refine ⟨by rw [List.length_drop]; omega, fun j hj hlt => ?_, fun j hj hge => ?_⟩
  · rw [List.getElem_drop]; exact h.2.1 _ (by rw [List.length_drop] at hj; omega) (by omega)
  · rw [List.getElem_drop]; exact h.2.2 _ (by rw [List.length_drop] at hj; omega) (by omega)
theorem get_trim {l : List S28} {a b : Int} {n n' : Nat} (h : Upto l a n) (h' : Upto l b n') (hle : n ≤ n') : getV (l.drop (tAt l n)) (n' - tAt l n) = getV l n' := by
  have hn := h.1
  have hn' := h'.1
  have ht := tAt_le l n
  by_cases h0 : tAt l n < n'
  · rw [getV_pos ⟨by omega, by rw [List.length_drop]; omega⟩, getV_pos ⟨by omega, hn'⟩]
    have e : (l.drop (tAt l n))[n' - tAt l n - 1]'(by rw [List.length_drop]; omega) = l[n' - 1] := by
      rw [List.getElem_drop]; congr 1; omega
    rw [e]
  · have e1 : n' = n := by omega
    subst e1
    have e2 : tAt l n' = n' := by omega
    rw [getV_neg (by omega)]
    by_cases h1 : 0 < n' ∧ n' ≤ l.length
    · rw [getV_pos h1]
      unfold tAt at e2
      rw [dif_pos h1] at e2
      by_cases hg : l[n' - 1].f1 = false
      · rw [if_pos hg] at e2; omega
      · rw [if_pos (by simpa using hg)]
    · rw [getV_neg h1]
end Go.Proofs.Yteofdgonpbmdlaa.Pure
namespace Go.Proofs.Yteofdgonpbmdlaa.C
open Go.RowKit Go.Proofs.YteofdgonpbmdlaaW.PrintWords Go.Proofs.YteofdgonpbmdlaaW.PrintLast Go.Proofs.YteofdgonpbmdlaaW.PrintMore
attribute [local go_sem] max2_int min2_int max_two min_two max_three min_three max_four min_four   -- for this text's walks alone
set_option linter.unusedVariables false
set_option linter.unusedSimpArgs false
def chain_Size.l0 : Nat → Int → List (S28) → Int → Int → Option (Int)
 | 0, _, _, _, _ => none
 | k + 1, x3, x6, x7, x8 => if x8 < x7 then (if 0 ≤ x8 then (if x8 < (x6.length : Int) then (chain_Size.l0 k (wrap64 (x3 + (((rd_T28 x6 x8).f2).length : Int))) x6 x7 (wrap64 (x8 + 1))) else (none)) else (none)) else (some x3)
def chain_Size.f (k : Nat) (l0 : List (S28)) : Option (Int) := chain_Size.l0 k 0 l0 (l0.length : Int) 0
theorem chain_Size.mono_l : ∀ k, (∀ y0 y1 y2 y3, LeO (chain_Size.l0 k y0 y1 y2 y3) (chain_Size.l0 (k + 1) y0 y1 y2 y3))
 | 0 => fun _ _ _ _ r h => by simp [chain_Size.l0] at h
 | k + 1 => by
  have ih0 := chain_Size.mono_l k
  ·intro y0 y1 y2 y3
   unfold chain_Size.l0
   repeat' first
   | (with_reducible exact ih0 _ _ _ _)
   | (with_reducible exact LeO.refl _)
   | (with_reducible exact LeO.none _)
   | (with_reducible refine LeO.ite ?_ ?_)
   | (with_reducible refine LeO.bind ?_ (fun _ => ?_))
   | exact ih0 _ _ _ _
   | exact LeO.none _
   | refine LeO.ite ?_ ?_
   | refine LeO.bind ?_ (fun _ => ?_)
theorem chain_Size.mono : ∀ a0 k, LeO (chain_Size.f k a0) (chain_Size.f (k + 1) a0) := by
 intro a0 k
 have ih0 := chain_Size.mono_l k
 unfold chain_Size.f
 repeat' first
   | (with_reducible exact ih0 _ _ _ _)
   | (with_reducible exact LeO.refl _)
   | (with_reducible exact LeO.none _)
   | (with_reducible refine LeO.ite ?_ ?_)
   | (with_reducible refine LeO.bind ?_ (fun _ => ?_))
   | exact ih0 _ _ _ _
   | exact LeO.none _
   | refine LeO.ite ?_ ?_
   | refine LeO.bind ?_ (fun _ => ?_)
set_option maxHeartbeats 8000000 in
set_option maxRecDepth 100000 in
theorem chain_Size.calls (k : Nat) (A0 : Option Addr) (c0 : Nat) (l0 : List (S28)) (r : Int) (w : World) (hr0 : Kd.C k28 w A0 l0.length l0) (hc0 : l0.length ≤ c0) (h : chain_Size.f k l0 = some r) :
  Calls Try.prog 34 #[.slice A0 l0.length c0] w fun e w' => e = .returned (.int .i64 r) ∧ Below w.heap.size w w' := by
 have hu28 := Try.underlying28
 have HR0 := Aside0.mk hr0
 have HC0 := Aside0.mk hc0
 clear hr0 hc0
 have HB := Aside0.mk (Below.refl w.heap.size w)
 have H : (chain_Size.l0 k 0 l0 (l0.length : Int) 0) = some r := h
 clear h
 have H' := Aside0.mk H
 clear H
 go_enter Try.func34, Try.ntmps34
 go_wp2
 go_loopg [3, 8] k (fun kq v3 v8 w' => ∃ (x3_1 : Int) (x8_1 : Int), v3 = .int .i64 x3_1 ∧ v8 = .int .i64 x8_1 ∧ Aside0 (chain_Size.l0 kq x3_1 l0 (l0.length : Int) x8_1 = some r) ∧ Aside0 (kq ≤ k) ∧ Aside0 (Below w.heap.size w w'))
 case atStart => exact ⟨(0), (0), (by first | rfl | (simp; done) | (simp [*]; done)), (by first | rfl | (simp; done) | (simp [*]; done)), H', ⟨Nat.le_refl _⟩, ⟨by repeat (first | (with_reducible first | exact HB.out | apply below_alloc | apply pw_below_drewN | apply below_drew1) | exact HB.out)⟩⟩
 case round =>
  clear H'
  obtain ⟨x3_1, x8_1, rfl, rfl, HA, HK1, HB⟩ := hrel
  cases gk with
  | zero => exact absurd HA.out (by simp [chain_Size.l0])
  | succ k1 =>
   have H := HA.out
   clear HA
   simp only [chain_Size.l0] at H
   by_cases c2 : x8_1 < (l0.length : Int)
   ·rw [if_pos c2] at H
    have c2b0 : decide (x8_1 < (l0.length : Int)) = true := decide_eq_true c2
    clear c2
    by_cases c3 : 0 ≤ x8_1
    ·rw [if_pos c3] at H
     have c3b0 : decide (0 ≤ x8_1) = true := decide_eq_true c3
     clear c3
     by_cases c4 : x8_1 < (l0.length : Int)
     ·rw [if_pos c4] at H
      have c4b0 : decide (x8_1 < (l0.length : Int)) = true := decide_eq_true c4
      clear c4
      have H' := Aside0.mk H
      clear H
      have p347 : 0 ≤ (x8_1 : Int) := of_decide_eq_true (by first | (with_reducible assumption) | assumption)
      have q347 : x8_1 < (l0.length : Int) := of_decide_eq_true (by first | (with_reducible assumption) | assumption)
      obtain ⟨ad347, A347_2, c347_2, e347, hx347_0, hx347_1, hx347_2, hl347_2, hi347_2⟩ := at_T28 HR0.out x8_1 p347 q347
      cases e347
      replace hx347_0 := (HB.out.cell (World.block_lt_of_cell? w _ hx347_0)).trans hx347_0
      replace hx347_1 := (HB.out.cell (World.block_lt_of_cell? w _ hx347_1)).trans hx347_1
      replace hx347_2 := (HB.out.cell (World.block_lt_of_cell? w _ hx347_2)).trans hx347_2
      have HR347_2 := Aside0.mk hi347_2
      have HC347_2 := Aside0.mk hl347_2
      clear hi347_2 hl347_2
      replace p347 := eq_true p347
      replace q347 := eq_true q347
      go_wp2_with (first | ((with_reducible refine gate_dst (N := 5) rfl ?_); refine box_event ?hg (N := 5) ?hd (cs := #[.int .u64 0, .bool false, .slice none 0 0]) (t := 28) ?hr ?_; (case hd => rfl); (case hg => rfl); (case hr => first | (go_simp; done) | (go_simp; rfl)); intro gb348 hg w5 hbox hb; have n0_ := Aside0.mk (below_step (by repeat (first | (with_reducible first | exact HB.out | apply below_alloc | apply pw_below_drewN | apply below_drew1) | exact HB.out)) hb); have n1_ := Aside0.mk (hbox); have n2_ := Aside0.mk ((by rw [hg]; exact (below_size (by repeat (first | (with_reducible first | exact HB.out | apply below_alloc | apply pw_below_drewN | apply below_drew1) | exact HB.out))) : w.heap.size ≤ gb348)); have n3_ := Aside0.mk ((by rw [hg]; exact (below_size (by repeat (first | (with_reducible first | exact HB.out | apply below_alloc | apply pw_below_drewN | apply below_drew1) | exact HB.out))) : w.heap.size ≤ gb348)); clear HB; have HB := n0_; have BK348 := n1_; have GW348 := n2_; have GE348 := n3_; clear n0_ n1_ n2_ n3_; clear hb hbox hg; have hcz6_0 : w5.cell? ⟨gb348, 0, none⟩ = some (.int .u64 0) := (blk_cell BK348.out 0).trans rfl; have hcz6_1 : w5.cell? ⟨gb348, 1, none⟩ = some (.bool false) := (blk_cell BK348.out 1).trans rfl; have hcz6_2 : w5.cell? ⟨gb348, 2, none⟩ = some (.slice none 0 0) := (blk_cell BK348.out 2).trans rfl; have hfz6_0 := blk_frozen BK348.out 0; have hfz6_1 := blk_frozen BK348.out 1; have hfz6_2 := blk_frozen BK348.out 2))
      go_roundg k1
      case measure => have := HK1.out; omega
      case rel => exact ⟨(wrap64 (x3_1 + (((rd_T28 l0 x8_1).f2).length : Int))), (wrap64 (x8_1 + 1)), (by first | rfl | (simp; done) | (simp [*]; done)), (by first | rfl | (simp; done) | (simp [*]; done)), H', ⟨by have := HK1.out; omega⟩, ⟨by repeat (first | (with_reducible first | exact HB.out | apply below_alloc | apply pw_below_drewN | apply below_drew1 | refine below_set ?_ GE348.out) | exact HB.out)⟩⟩
     ·rw [if_neg c4] at H
      exact absurd H (by simp)
    ·rw [if_neg c3] at H
     exact absurd H (by simp)
   ·rw [if_neg c2] at H
    have c2b0 : decide (x8_1 < (l0.length : Int)) = false := decide_eq_false c2
    clear c2
    obtain rfl := Option.some.inj H
    go_wp2
    go_ret
    exact ⟨by first | rfl | (simp [errW_none, errW_some] <;> rfl) | (simp [*, errW_none, errW_some] <;> rfl), by repeat (first | (with_reducible first | exact HB.out | apply below_alloc | apply pw_below_drewN | apply below_drew1) | exact HB.out)⟩
end Go.Proofs.Yteofdgonpbmdlaa.C
namespace Go.Proofs.Yteofdgonpbmdlaa.St
open Go.RowKit Go.Proofs.YteofdgonpbmdlaaW.PrintWords Go.Proofs.Yteofdgonpbmdlaa.C Go.Proofs.Yteofdgonpbmdlaa.Pure
/-- How many versions are at most of a time. -/
def up (l : List S28) (a : Int) : Nat := (upto_go l a l.length 0 l.length).toNat
theorem up_spec {l : List S28} (hs : rgt 0 l = true) (a : Int) : Upto l a (up l a) := by
  obtain ⟨n, h1, h2⟩ := upto_is l a hs
  unfold up
  rw [h1]
  exact h2
theorem up_is {l : List S28} {a : Int} (hs : rgt 0 l = true) {n : Nat} (h : Upto l a n) : up l a = n := (up_spec hs a).uniq h
def getF (l : List S28) (a : Int) : List Int × Bool := getV l (up l a)
def trimF (l : List S28) (a : Int) : List S28 := l.drop (tAt l (up l a))
def lastF (l : List S28) : Int := if h : 0 < l.length then l[l.length - 1].f0 else 0
def dsz (l : List S28) : Nat := (l.map fun v => v.f2.length).sum
theorem clone5 {l : List Int} (h : l.length ≤ 5000) : bytes_Clone.f l = some l := by unfold bytes_Clone.f; rw [if_pos (by omega)]
theorem find5 {l : List S28} {a : Int} (hs : rgt 0 l = true) (hf : ∀ v ∈ l, v.f2.length ≤ 5000) (hl : l.length ≤ 1000) {n : Nat} (h : Upto l a n) : chain_Find.f l a = some (fndV l n) := by
  unfold chain_Find.f chain_upto.f
  rw [upto_val hs h]
  simp only [Option.bind_some]
  by_cases h0 : 0 < n
  · have hn := h.1
    have hw : wrap64 ((n : Int) - 1) = ((n - 1 : Nat) : Int) := by unfold wrap64; omega
    rw [if_neg (by omega), hw, if_pos (by omega), if_pos (by omega), rd_nat l (n - 1) (by omega), clone5 (hf _ (List.getElem_mem _))]
    simp only [Option.bind_some, fndV]
    rw [dif_pos ⟨h0, hn⟩]
  · rw [if_pos (by omega), fndV, dif_neg (by omega)]
theorem get5 {l : List S28} (hs : rgt 0 l = true) (hf : ∀ v ∈ l, v.f2.length ≤ 5000) (hl : l.length ≤ 1000) (a : Int) : chain_Get.f l a = some (getF l a) := by
  unfold chain_Get.f getF
  have h := up_spec hs a
  generalize up l a = n at h
  rw [find5 hs hf hl h]
  simp only [Option.bind_some]
  by_cases h0 : 0 < n ∧ n ≤ l.length
  · rw [fndV_pos h0, getV_pos h0]
    simp only [if_true]
    by_cases h1 : l[n - 1].f1 = true <;> simp only [h1, if_true, if_false, Bool.false_eq_true]
  · rw [fndV_neg h0, getV_neg h0]
    simp
theorem last5 {l : List S28} (hl : l.length ≤ 1000) : chain_Last.f l = some (lastF l) := last_eq hl
theorem owned5_loop (l : List S28) (hl : l.length ≤ 1000) (hf : ∀ v ∈ l, v.f2.length ≤ 5000) : ∀ (d i k : Nat), i + d = l.length → d < k → chain_owned.l0 k (l.take i) l l.length i = some l := by
  intro d
  induction d with
  | zero =>
    intro i k hd hk
    obtain ⟨k, rfl⟩ : ∃ m, k = m + 1 := ⟨k - 1, by omega⟩
    simp only [chain_owned.l0]
    rw [if_neg (by omega), List.take_of_length_le (by omega)]
  | succ d ih =>
    intro i k hd hk
    obtain ⟨k, rfl⟩ : ∃ m, k = m + 1 := ⟨k - 1, by omega⟩
    have hi : i < l.length := by omega
    simp only [chain_owned.l0]
    rw [if_pos (by omega), if_pos (by omega), if_pos (by omega), w1 hi (by omega), rd_nat l i hi, clone5 (hf _ (List.getElem_mem _))]
    simp only [Option.bind_some]
    rw [if_pos (by rw [List.length_take]; omega)]
    have := ih (i + 1) k (by omega) (by omega)
    rwa [List.take_succ_eq_append_getElem hi] at this
theorem owned5 (l : List S28) (hl : l.length ≤ 1000) (hf : ∀ v ∈ l, v.f2.length ≤ 5000) : Ev (fun k => chain_owned.f k l) l := by
  refine ⟨l.length + 1, fun k hk => ?_⟩
  show chain_owned.f k l = some l
  have hw : wrap64 ((l.length : Int) + 1) = ((l.length + 1 : Nat) : Int) := by unfold wrap64; omega
  unfold chain_owned.f
  rw [hw, if_pos (by omega), if_pos (by omega)]
  exact owned5_loop l hl hf l.length 0 k (by omega) (by omega)
theorem trim5 {l : List S28} (hs : rgt 0 l = true) (hf : ∀ v ∈ l, v.f2.length ≤ 5000) (hl : l.length ≤ 1000) (a : Int) : Ev (fun k => chain_Trim.f k l a) (trimF l a) := by
  unfold chain_Trim.f trimF
  rw [trimAt_eq hs (up_spec hs a)]
  exact owned5 _ (by rw [List.length_drop]; omega) (fun v hv => hf v (List.mem_of_mem_drop hv))
theorem put5 {l : List S28} (hl : l.length ≤ 900) (hf : ∀ v ∈ l, v.f2.length ≤ 5000) (v : S28) (hv : v.f2.length ≤ 5000) (h1 : rgt 0 l = true) (h2 : rgt 0 [v] = true) (h3 : ¬ v.f0 ≤ lastF l) :
    Ev (fun k => chain_Put.f k l v.f0 v.f1 v.f2) (l ++ [v], 0) := by
  unfold chain_Put.f
  refine Ev.bind (cRight_ev l (by omega)) ?_
  simp only [h1, if_true]
  refine Ev.bind (cRight_ev [(⟨v.f0, v.f1, v.f2⟩ : S28)] (by simp)) ?_
  rw [show rgt 0 [(⟨v.f0, v.f1, v.f2⟩ : S28)] = true from h2]
  refine Ev.step (fun k => by simp only [chain_Put.j0, Bool.not_true, Bool.false_eq_true, if_false]; rfl) ?_
  refine Ev.bind (g := fun _ => chain_Last.f l) (Ev.congr (fun _ => last5 (by omega)) (Ev.now _)) ?_
  simp only [if_neg h3]
  refine Ev.bind (g := fun _ => bytes_Clone.f v.f2) (Ev.congr (fun _ => clone5 hv) (Ev.now _)) ?_
  refine Ev.bind (owned5 l (by omega) hf) ?_
  simp only [Option.bind_some, List.length_cons, List.length_nil]
  exact Ev.congr (fun _ => if_pos (by omega)) (Ev.now _)
theorem sum5 (l : List S28) (hf : ∀ v ∈ l, v.f2.length ≤ 5000) : ∀ x : Int, 0 ≤ x → x + 5000 * (l.length : Int) ≤ 1000000000 → l.foldl (fun x v => wrap64 (x + (v.f2.length : Int))) x = x + (dsz l : Nat) ∧ dsz l ≤ 5000 * l.length := by
  induction l with
  | nil => intro x _ _; simp [dsz]
  | cons v t ih =>
    intro x h0 hx
    have hv := hf v (List.mem_cons_self ..)
    rw [List.length_cons] at hx
    have hw : wrap64 (x + (v.f2.length : Int)) = x + (v.f2.length : Int) := by unfold wrap64; omega
    obtain ⟨h1, h2⟩ := ih (fun w hw => hf w (List.mem_cons_of_mem _ hw)) (x + (v.f2.length : Int)) (by omega) (by omega)
    unfold dsz at h1 h2 ⊢
    simp only [List.foldl_cons, hw, h1, List.map_cons, List.sum_cons, List.length_cons]
    omega
theorem size5_loop (l : List S28) (hl : l.length ≤ 9223372036854775807) : ∀ (d i : Nat) (x : Int) (k : Nat), i + d = l.length → d < k → chain_Size.l0 k x l l.length i = some ((l.drop i).foldl (fun x v => wrap64 (x + (v.f2.length : Int))) x) := by
  intro d
  induction d with
  | zero =>
    intro i x k hd hk
    obtain ⟨k, rfl⟩ : ∃ m, k = m + 1 := ⟨k - 1, by omega⟩
    simp only [chain_Size.l0]
    rw [if_neg (by omega), List.drop_eq_nil_of_le (by omega)]; rfl
  | succ d ih =>
    intro i x k hd hk
    obtain ⟨k, rfl⟩ : ∃ m, k = m + 1 := ⟨k - 1, by omega⟩
    have hi : i < l.length := by omega
    simp only [chain_Size.l0]
    rw [if_pos (by omega), if_pos (by omega), if_pos (by omega), w1 hi hl, rd_nat l i hi, List.drop_eq_getElem_cons hi, ih (i + 1) _ k (by omega) (by omega)]
    rfl
theorem size5 (l : List S28) (hl : l.length ≤ 1000) (hf : ∀ v ∈ l, v.f2.length ≤ 5000) : Ev (fun k => chain_Size.f k l) (dsz l : Nat) := by
  have h := (sum5 l hf 0 (by omega) (by omega)).1
  rw [Int.zero_add] at h
  rw [← h]
  exact ⟨l.length + 1, fun k hk => size5_loop l (by omega) l.length 0 0 k (by omega) (by omega)⟩
theorem tPos {l : List S28} {n : Nat} (h : 0 < n ∧ n ≤ l.length) : tAt l n = (if l[n - 1].f1 = false then n - 1 else n) := dif_pos h
theorem tTwice {l : List S28} {n m : Nat} (hn : n ≤ l.length) (hm : m ≤ n) : tAt l m + tAt (l.drop (tAt l m)) (n - tAt l m) = tAt l n := by
  have ht := tAt_le l m
  by_cases h0 : tAt l m < n
  · have e : ∀ h, (l.drop (tAt l m))[n - tAt l m - 1]'h = l[n - 1] := by
      intro h; rw [List.getElem_drop]; congr 1; omega
    rw [tPos (l := l.drop (tAt l m)) (n := n - tAt l m) ⟨by omega, by rw [List.length_drop]; omega⟩, e, tPos (l := l) (n := n) ⟨by omega, hn⟩]
    by_cases hg : l[n - 1].f1 = false
    · rw [if_pos hg, if_pos hg]; omega
    · rw [if_neg hg, if_neg hg]; omega
  · have e1 : n = m := by omega
    subst e1
    have e2 : tAt l n = n := by omega
    have e3 : tAt (l.drop (tAt l n)) (n - tAt l n) = 0 := by have := tAt_le (l.drop (tAt l n)) (n - tAt l n); omega
    rw [e3]; omega
theorem rgt_trim {l : List S28} (hs : rgt 0 l = true) (a : Int) : rgt 0 (trimF l a) = true := rgt_drop hs _
theorem up_trim {l : List S28} (hs : rgt 0 l = true) {a b : Int} (hab : a ≤ b) : up (trimF l a) b = up l b - tAt l (up l a) := by
  have h1 := up_spec hs a
  have h2 := up_spec hs b
  have h3 := tAt_le l (up l a)
  have h4 := h1.le h2 hab
  exact up_is (rgt_trim hs a) (h2.drop _ (by omega))
/-- From low on a trimmed chain is asked the same. -/
theorem get_trimF {l : List S28} (hs : rgt 0 l = true) {a b : Int} (hab : a ≤ b) : getF (trimF l a) b = getF l b := by
  unfold getF
  rw [up_trim hs hab]
  exact get_trim (up_spec hs a) (up_spec hs b) ((up_spec hs a).le (up_spec hs b) hab)
theorem trim_trim {l : List S28} (hs : rgt 0 l = true) {a b : Int} (hab : a ≤ b) : trimF (trimF l a) b = trimF l b := by
  have h1 := up_spec hs a
  have h2 := up_spec hs b
  have e := up_trim hs hab
  have e2 := tTwice h2.1 (h1.le h2 hab)
  unfold trimF at e ⊢
  rw [e, List.drop_drop, e2]
theorem trim_sub (l : List S28) (a : Int) : (trimF l a).Sublist l := List.drop_sublist _ _
theorem trim_len (l : List S28) (a : Int) : (trimF l a).length ≤ l.length := (trim_sub l a).length_le
theorem dsz_sub {l m : List S28} (h : l.Sublist m) : dsz l ≤ dsz m := by
  unfold dsz
  induction h with
  | slnil => exact Nat.le_refl _
  | cons a _ ih => simp only [List.map_cons, List.sum_cons]; omega
  | cons_cons a _ ih => simp only [List.map_cons, List.sum_cons]; omega
theorem lastF_le {l : List S28} {a : Int} (ha : 0 ≤ a) (h : ∀ v ∈ l, v.f0 ≤ a) : lastF l ≤ a := by
  unfold lastF
  split
  · exact h _ (List.getElem_mem _)
  · exact ha
theorem rgt_app {l : List S28} (hs : rgt 0 l = true) (v : S28) (h : ∀ x ∈ l, x.f0 < v.f0) (h0 : 0 < v.f0) (hg : v.f1 = true → v.f2 = []) : rgt 0 (l ++ [v]) = true := by
  rw [rgt_iff] at hs ⊢
  refine ⟨fun x hx => ?_, List.pairwise_append.2 ⟨hs.2, by simp, fun x hx y hy => ?_⟩⟩
  · rcases List.mem_append.1 hx with hx | hx
    · exact hs.1 x hx
    · rw [List.mem_singleton.1 hx]; exact ⟨h0, hg⟩
  · rw [List.mem_singleton.1 hy]; exact h x hx
end Go.Proofs.Yteofdgonpbmdlaa.St
namespace Go.Proofs.Yteofdgonpbmdlaa.C
open Go.RowKit Go.Maps Go.Proofs.YteofdgonpbmdlaaW.PrintWords Go.Proofs.YteofdgonpbmdlaaW.PrintLast Go.Proofs.YteofdgonpbmdlaaW.PrintMore
attribute [local go_sem] max2_int min2_int max_two min_two max_three min_three max_four min_four
/-- A map's element that stands for itself. -/
def tok (v : Value) : Option (DataW Value × List MemPlace) := some (.held v, [])
theorem law9 : Keyed Try.prog 9 := string_keyed Try.underlying9
def noCh : Value := .slice none 0 0
theorem zero22 (w : World) : (zeroValue 22).run Try.prog w = .ok noCh w := by kernel_rfl
/-- A store, plainly: limits, time, keys, chains, sizes. -/
structure SS where
  l0 : Int
  l1 : Int
  l2 : Int
  l3 : Int
  l4 : Int
  l5 : Int
  last : Int
  now : Int
  keys : List ByteArray
  ch : ByteArray → List S28
  n0 : Int
  n1 : Int
  n2 : Int
def cellsOf (s : SS) (kv : Value) (mb : Nat) : Array Value := #[.int .i64 s.l0, .int .i64 s.l1, .int .i64 s.l2, .int .i64 s.l3, .int .i64 s.l4, .int .i64 s.l5, .int .u64 s.last, .int .u64 s.now, kv, .map (some mb), .int .i64 s.n0, .int .i64 s.n1, .int .i64 s.n2]
/-- What a key's entry in the map leads to. -/
def chAt (W : World) (B : Nat → Prop) (p mb : Nat) (kv : Value) (D : DataW Value) (ch : ByteArray → List S28) (key : ByteArray) : Prop :=
  ∃ A c, D.atKey (.string key.data.toList) (.held noCh) = .held (.slice A (ch key).length c) ∧ (ch key).length ≤ c ∧ Kd.F k28 W (fun q => B q ∧ q ≠ p ∧ q ≠ mb ∧ some q ≠ kv.ownBlock) A (ch key).length (ch key)
/-- A store's keys: a row of its own, or what [:0:0] left of one. -/
def KeysAt (W : World) (base : Nat) (ok : Nat → Prop) (kv : Value) (keys : List ByteArray) : Prop := Kd.R Kd.string 9 W base ok kv keys ∨ (keys = [] ∧ ∃ a : Addr, kv = .slice (some a) 0 0 ∧ ok a.block ∧ a.block < W.heap.size)
theorem KeysAt.row {W : World} {base : Nat} {ok : Nat → Prop} {kv : Value} {keys : List ByteArray} (h : KeysAt W base ok kv keys) : ∃ A c, kv = .slice A keys.length c ∧ keys.length ≤ c ∧ Kd.string.C W A keys.length keys := by
  rcases h with h | ⟨rfl, a, rfl, _, _⟩
  · obtain ⟨A, c, e⟩ := Kd.R_slice h
    subst e
    exact ⟨A, c, rfl, (Kd.R_reads' h).2.1, (Kd.R_reads' h).2.2⟩
  · exact ⟨some a, 0, rfl, Nat.le_refl _, Kd.F_now (Kd.F_nil Kd.string W (fun _ => True)) |> fun q => ⟨q.1, q.2.1, fun hh => absurd hh (by simp)⟩⟩
structure StoreAt (W : World) (base : Nat) (B : Nat → Prop) (p : Nat) (s : SS) (kv : Value) (mb n : Nat) (D : DataW Value) : Prop where
  cells : W.heap[p]? = some (.cells (cellsOf s kv mb) 91 (0, 0))
  keys : KeysAt W base (fun q => B q ∧ q ≠ p ∧ q ≠ mb) kv s.keys
  map : W.ownsMap Try.prog 9 tok mb n D
  bb : ∀ k, B k → base ≤ k
  bn : ∀ k, W.heap.size ≤ k → B k
  bp : B p
  bm : B mb
  pm : p ≠ mb
  chains : ∀ key : ByteArray, key.size ≤ maxLen → chAt W B p mb kv D s.ch key
theorem StoreAt.below {W W1 : World} {base p : Nat} {B : Nat → Prop} {s : SS} {kv : Value} {mb n : Nat} {D : DataW Value} (h : StoreAt W base B p s kv mb n D) (hb : Below W.heap.size W W1) : StoreAt W1 base B p s kv mb n D where
  cells := by
    have := h.cells
    rw [hb.block p (by by_cases e : p < W.heap.size; exact e; rw [Array.getElem?_eq_none (by omega)] at this; cases this)]
    exact this
  keys := h.keys.imp (fun k => Kd.R_below k hb) (fun ⟨e, a, h1, h2, h3⟩ => ⟨e, a, h1, h2, Nat.lt_of_lt_of_le h3 hb.size⟩)
  map := by
    obtain ⟨es, clock, h1, h2⟩ := h.map
    refine ⟨es, clock, ?_, h2⟩
    rw [hb.block mb (by by_cases e : mb < W.heap.size; exact e; rw [Array.getElem?_eq_none (by omega)] at h1; cases h1)]
    exact h1
  bb := h.bb
  bn := fun k hk => h.bn k (Nat.le_trans hb.size hk)
  bp := h.bp
  bm := h.bm
  pm := h.pm
  chains := fun key hk => by
    obtain ⟨A, c, h1, h2, h3⟩ := h.chains key hk
    exact ⟨A, c, h1, h2, Kd.F_below h3 hb⟩
theorem StoreAt.look {W : World} {base p : Nat} {B : Nat → Prop} {s : SS} {kv : Value} {mb n : Nat} {D : DataW Value} (h : StoreAt W base B p s kv mb n D) (key : ByteArray) (hk : key.size ≤ maxLen) :
    ∃ A c, (Instr.lookup 89 (.map (some mb)) (.string key) false).run Try.prog W = .ok (.slice A (s.ch key).length c) W ∧ (s.ch key).length ≤ c ∧ Kd.F k28 W (fun q => B q ∧ q ≠ p ∧ q ≠ mb ∧ some q ≠ kv.ownBlock) A (s.ch key).length (s.ch key) := by
  obtain ⟨A, c, h1, h2, h3⟩ := h.chains key hk
  obtain ⟨v, ps, hrun, hv⟩ := h.map.lookup (e := 22) law9 Try.underlying89 (zero22 W) (zd := .held noCh) (zp := []) rfl (key := .string key) (Go.WideMaps.keyOf_string_mk Try.underlying9 hk)
  rw [h1] at hv
  unfold tok at hv
  injection hv with hv
  injection hv with hv _
  injection hv with hv
  exact ⟨A, c, by rw [hrun, hv], h2, h3⟩
set_option maxHeartbeats 1000000 in
theorem store_is.calls {W : World} {base p : Nat} {B : Nat → Prop} {s : SS} {kv : Value} {mb n : Nat} {D : DataW Value} (h : Aside0 (StoreAt W base B p s kv mb n D)) :
    Calls Try.prog 70 #[.pointer (some ⟨p, 0, none⟩)] W fun e w' => e = .returned (.bool true) ∧ w' = W := by
  have h9 : W.cell? ⟨p, 9, none⟩ = some (.map (some mb)) := (blk_cell h.out.cells 9).trans rfl
  have hne := fun (W : World) (r : Option Nat) => run_neq_map_nil (P := Try.prog) W 89 9 22 r Try.underlying89
  clear h
  go_enter Try.func70, Try.ntmps70
  go_wp2
  go_ret
  exact ⟨rfl, rfl⟩
end Go.Proofs.Yteofdgonpbmdlaa.C
namespace Go.Proofs.Yteofdgonpbmdlaa.C
open Go.RowKit Go.Proofs.YteofdgonpbmdlaaW.PrintWords Go.Proofs.YteofdgonpbmdlaaW.PrintLast Go.Proofs.YteofdgonpbmdlaaW.PrintMore
attribute [local go_sem] max2_int min2_int max_two min_two max_three min_three max_four min_four   -- for this text's walks alone
set_option linter.unusedVariables false
set_option linter.unusedSimpArgs false
mutual
def conductorref07_Trim.j0 : Nat → List (S28) → Int → List (S28) → Bool → Int → Bool → List Int → Option ((List (S28)))
 | 0, _, _, _, _, _, _, _ => none
 | k + 1, x0, x1, x5, x22, x286000, x286001, x286002 => if x22 = true then (if x5.length < 3518437208883 then (conductorref07_Trim.j1 k x0 x1 (x5 ++ [(⟨x286000, x286001, x286002⟩ : S28)])) else (none)) else (conductorref07_Trim.j1 k x0 x1 x5)
def conductorref07_Trim.j1 : Nat → List (S28) → Int → List (S28) → Option ((List (S28)))
 | 0, _, _, _ => none
 | k + 1, x0, x1, x5 => conductorref07_Trim.l0 k x1 x5 x0 (x0.length : Int) 0
def conductorref07_Trim.l0 : Nat → Int → List (S28) → List (S28) → Int → Int → Option ((List (S28)))
 | 0, _, _, _, _, _ => none
 | k + 1, x1, x5, x27, x28, x29 => if x29 < x28 then (if 0 ≤ x29 then (if x29 < (x27.length : Int) then (if ((rd_T28 x27 x29).f0) > x1 then (if x5.length < 3518437208883 then (conductorref07_Trim.l0 k x1 (x5 ++ [(⟨(rd_T28 x27 x29).f0, (rd_T28 x27 x29).f1, (rd_T28 x27 x29).f2⟩ : S28)]) x27 x28 (wrap64 (x29 + 1))) else (none)) else (conductorref07_Trim.l0 k x1 x5 x27 x28 (wrap64 (x29 + 1)))) else (none)) else (none)) else (some x5)
end
def conductorref07_Trim.f (k : Nat) (l0 : List (S28)) (a1 : Int) : Option ((List (S28))) := (some (([] : List (S28)) : List (S28))).bind fun y276 => ((conductorref07_Find.f k l0 a1).bind fun bt279 => (if bt279.2.2.2 = true then (conductorref07_Trim.j0 k l0 a1 y276 (!bt279.2.1) bt279.1 bt279.2.1 bt279.2.2.1) else (conductorref07_Trim.j0 k l0 a1 y276 false bt279.1 bt279.2.1 bt279.2.2.1)))
theorem conductorref07_Trim.mono_l : ∀ k, (∀ y0 y1 y2 y3 y4 y5 y6, LeO (conductorref07_Trim.j0 k y0 y1 y2 y3 y4 y5 y6) (conductorref07_Trim.j0 (k + 1) y0 y1 y2 y3 y4 y5 y6)) ∧ (∀ y0 y1 y2, LeO (conductorref07_Trim.j1 k y0 y1 y2) (conductorref07_Trim.j1 (k + 1) y0 y1 y2)) ∧ (∀ y0 y1 y2 y3 y4, LeO (conductorref07_Trim.l0 k y0 y1 y2 y3 y4) (conductorref07_Trim.l0 (k + 1) y0 y1 y2 y3 y4))
 | 0 => ⟨fun _ _ _ _ _ _ _ r h => by simp [conductorref07_Trim.j0] at h, fun _ _ _ r h => by simp [conductorref07_Trim.j1] at h, fun _ _ _ _ _ r h => by simp [conductorref07_Trim.l0] at h⟩
 | k + 1 => by
  obtain ⟨ih0, ih1, ih2⟩ := conductorref07_Trim.mono_l k
  refine ⟨?_, ?_, ?_⟩
  ·intro y0 y1 y2 y3 y4 y5 y6
   unfold conductorref07_Trim.j0
   repeat' first
   | (with_reducible exact ih0 _ _ _ _ _ _ _)
   | (with_reducible exact ih1 _ _ _)
   | (with_reducible exact ih2 _ _ _ _ _)
   | (with_reducible exact conductorref07_Find.mono _ _ _)
   | (with_reducible exact LeO.refl _)
   | (with_reducible exact LeO.none _)
   | (with_reducible refine LeO.ite ?_ ?_)
   | (with_reducible refine LeO.bind ?_ (fun _ => ?_))
   | exact ih0 _ _ _ _ _ _ _
   | exact ih1 _ _ _
   | exact ih2 _ _ _ _ _
   | exact conductorref07_Find.mono _ _ _
   | exact LeO.none _
   | refine LeO.ite ?_ ?_
   | refine LeO.bind ?_ (fun _ => ?_)
  ·intro y0 y1 y2
   unfold conductorref07_Trim.j1
   repeat' first
   | (with_reducible exact ih0 _ _ _ _ _ _ _)
   | (with_reducible exact ih1 _ _ _)
   | (with_reducible exact ih2 _ _ _ _ _)
   | (with_reducible exact conductorref07_Find.mono _ _ _)
   | (with_reducible exact LeO.refl _)
   | (with_reducible exact LeO.none _)
   | (with_reducible refine LeO.ite ?_ ?_)
   | (with_reducible refine LeO.bind ?_ (fun _ => ?_))
   | exact ih0 _ _ _ _ _ _ _
   | exact ih1 _ _ _
   | exact ih2 _ _ _ _ _
   | exact conductorref07_Find.mono _ _ _
   | exact LeO.none _
   | refine LeO.ite ?_ ?_
   | refine LeO.bind ?_ (fun _ => ?_)
  ·intro y0 y1 y2 y3 y4
   unfold conductorref07_Trim.l0
   repeat' first
   | (with_reducible exact ih0 _ _ _ _ _ _ _)
   | (with_reducible exact ih1 _ _ _)
   | (with_reducible exact ih2 _ _ _ _ _)
   | (with_reducible exact conductorref07_Find.mono _ _ _)
   | (with_reducible exact LeO.refl _)
   | (with_reducible exact LeO.none _)
   | (with_reducible refine LeO.ite ?_ ?_)
   | (with_reducible refine LeO.bind ?_ (fun _ => ?_))
   | exact ih0 _ _ _ _ _ _ _
   | exact ih1 _ _ _
   | exact ih2 _ _ _ _ _
   | exact conductorref07_Find.mono _ _ _
   | exact LeO.none _
   | refine LeO.ite ?_ ?_
   | refine LeO.bind ?_ (fun _ => ?_)
theorem conductorref07_Trim.mono : ∀ a0 a1 k, LeO (conductorref07_Trim.f k a0 a1) (conductorref07_Trim.f (k + 1) a0 a1) := by
 intro a0 a1 k
 obtain ⟨ih0, ih1, ih2⟩ := conductorref07_Trim.mono_l k
 unfold conductorref07_Trim.f
 repeat' first
   | (with_reducible exact ih0 _ _ _ _ _ _ _)
   | (with_reducible exact ih1 _ _ _)
   | (with_reducible exact ih2 _ _ _ _ _)
   | (with_reducible exact conductorref07_Find.mono _ _ _)
   | (with_reducible exact LeO.refl _)
   | (with_reducible exact LeO.none _)
   | (with_reducible refine LeO.ite ?_ ?_)
   | (with_reducible refine LeO.bind ?_ (fun _ => ?_))
   | exact ih0 _ _ _ _ _ _ _
   | exact ih1 _ _ _
   | exact ih2 _ _ _ _ _
   | exact conductorref07_Find.mono _ _ _
   | exact LeO.none _
   | refine LeO.ite ?_ ?_
   | refine LeO.bind ?_ (fun _ => ?_)
def conductorlaw07_ChainTrims.j0 : Nat → List (S28) → Int → Bool → Option (Bool)
 | 0, _, _, _ => none
 | k + 1, x0, x1, x17 => if x17 = true then ((conductorlaw07_live.f k).bind fun t297 => (some t297)) else ((some (([] : List (S28)) : List (S28))).bind fun y298 => (if y298.length + x0.length < 3518437208883 then ((chain_Trim.f k x0 x1).bind fun t304 => ((conductorref07_Trim.f k x0 x1).bind fun t307 => ((conductorref07_Same.f k t304 t307).bind fun t310 => (if t310 = true then ((conductorref07_Same.f k x0 (y298 ++ x0)).bind fun t311 => (some t311)) else (some false))))) else (none)))
def conductorlaw07_ChainTrims.f (k : Nat) (l0 : List (S28)) (a1 : Int) : Option (Bool) := (conductorlaw07_live.f k).bind fun t294 => (if t294 = true then ((conductorlaw07_few.f k l0).bind fun t295 => (if t295 = true then ((conductorref07_Right.f k l0).bind fun t296 => (conductorlaw07_ChainTrims.j0 k l0 a1 (!t296))) else (conductorlaw07_ChainTrims.j0 k l0 a1 true))) else (conductorlaw07_ChainTrims.j0 k l0 a1 true))
theorem conductorlaw07_ChainTrims.mono_l : ∀ k, (∀ y0 y1 y2, LeO (conductorlaw07_ChainTrims.j0 k y0 y1 y2) (conductorlaw07_ChainTrims.j0 (k + 1) y0 y1 y2))
 | 0 => fun _ _ _ r h => by simp [conductorlaw07_ChainTrims.j0] at h
 | k + 1 => by
  have ih0 := conductorlaw07_ChainTrims.mono_l k
  ·intro y0 y1 y2
   unfold conductorlaw07_ChainTrims.j0
   repeat' first
   | (with_reducible exact ih0 _ _ _)
   | (with_reducible exact chain_Trim.mono _ _ _)
   | (with_reducible exact conductorlaw07_few.mono _ _)
   | (with_reducible exact conductorlaw07_live.mono _)
   | (with_reducible exact conductorref07_Right.mono _ _)
   | (with_reducible exact conductorref07_Same.mono _ _ _)
   | (with_reducible exact conductorref07_Trim.mono _ _ _)
   | (with_reducible exact LeO.refl _)
   | (with_reducible exact LeO.none _)
   | (with_reducible refine LeO.ite ?_ ?_)
   | (with_reducible refine LeO.bind ?_ (fun _ => ?_))
   | exact ih0 _ _ _
   | exact chain_Trim.mono _ _ _
   | exact conductorlaw07_few.mono _ _
   | exact conductorlaw07_live.mono _
   | exact conductorref07_Right.mono _ _
   | exact conductorref07_Same.mono _ _ _
   | exact conductorref07_Trim.mono _ _ _
   | exact LeO.none _
   | refine LeO.ite ?_ ?_
   | refine LeO.bind ?_ (fun _ => ?_)
theorem conductorlaw07_ChainTrims.mono : ∀ a0 a1 k, LeO (conductorlaw07_ChainTrims.f k a0 a1) (conductorlaw07_ChainTrims.f (k + 1) a0 a1) := by
 intro a0 a1 k
 have ih0 := conductorlaw07_ChainTrims.mono_l k
 unfold conductorlaw07_ChainTrims.f
 repeat' first
   | (with_reducible exact ih0 _ _ _)
   | (with_reducible exact chain_Trim.mono _ _ _)
   | (with_reducible exact conductorlaw07_few.mono _ _)
   | (with_reducible exact conductorlaw07_live.mono _)
   | (with_reducible exact conductorref07_Right.mono _ _)
   | (with_reducible exact conductorref07_Same.mono _ _ _)
   | (with_reducible exact conductorref07_Trim.mono _ _ _)
   | (with_reducible exact LeO.refl _)
   | (with_reducible exact LeO.none _)
   | (with_reducible refine LeO.ite ?_ ?_)
   | (with_reducible refine LeO.bind ?_ (fun _ => ?_))
   | exact ih0 _ _ _
   | exact chain_Trim.mono _ _ _
   | exact conductorlaw07_few.mono _ _
   | exact conductorlaw07_live.mono _
   | exact conductorref07_Right.mono _ _
   | exact conductorref07_Same.mono _ _ _
   | exact conductorref07_Trim.mono _ _ _
   | exact LeO.none _
   | refine LeO.ite ?_ ?_
   | refine LeO.bind ?_ (fun _ => ?_)
def conductorlaw07_ChainReads.j0 : Nat → List (S28) → Int → Int → Bool → Option (Bool)
 | 0, _, _, _, _ => none
 | k + 1, x0, x1, x2, x28 => if x28 = true then ((conductorlaw07_live.f k).bind fun t315 => (some t315)) else ((chain_Trim.f k x0 x1).bind fun t316 => ((chain_Get.f x0 x2).bind fun bt319 => ((chain_Get.f t316 x2).bind fun bt323 => ((conductorref01_Equal.f bt319.1 bt323.1).bind fun t327 => (if t327 = true then (if (bt319.2 == bt323.2) = true then ((chain_Right.f k t316).bind fun t328 => (some t328)) else (some false)) else (some false))))))
def conductorlaw07_ChainReads.f (k : Nat) (l0 : List (S28)) (a1 : Int) (a2 : Int) : Option (Bool) := (conductorlaw07_live.f k).bind fun t312 => (if t312 = true then ((conductorlaw07_few.f k l0).bind fun t313 => (if t313 = true then ((chain_Right.f k l0).bind fun t314 => (if t314 = true then (conductorlaw07_ChainReads.j0 k l0 a1 a2 (decide (a2 < a1))) else (conductorlaw07_ChainReads.j0 k l0 a1 a2 true))) else (conductorlaw07_ChainReads.j0 k l0 a1 a2 true))) else (conductorlaw07_ChainReads.j0 k l0 a1 a2 true))
theorem conductorlaw07_ChainReads.mono_l : ∀ k, (∀ y0 y1 y2 y3, LeO (conductorlaw07_ChainReads.j0 k y0 y1 y2 y3) (conductorlaw07_ChainReads.j0 (k + 1) y0 y1 y2 y3))
 | 0 => fun _ _ _ _ r h => by simp [conductorlaw07_ChainReads.j0] at h
 | k + 1 => by
  have ih0 := conductorlaw07_ChainReads.mono_l k
  ·intro y0 y1 y2 y3
   unfold conductorlaw07_ChainReads.j0
   repeat' first
   | (with_reducible exact ih0 _ _ _ _)
   | (with_reducible exact chain_Right.mono _ _)
   | (with_reducible exact chain_Trim.mono _ _ _)
   | (with_reducible exact conductorlaw07_few.mono _ _)
   | (with_reducible exact conductorlaw07_live.mono _)
   | (with_reducible exact LeO.refl _)
   | (with_reducible exact LeO.none _)
   | (with_reducible refine LeO.ite ?_ ?_)
   | (with_reducible refine LeO.bind ?_ (fun _ => ?_))
   | exact ih0 _ _ _ _
   | exact chain_Right.mono _ _
   | exact chain_Trim.mono _ _ _
   | exact conductorlaw07_few.mono _ _
   | exact conductorlaw07_live.mono _
   | exact LeO.none _
   | refine LeO.ite ?_ ?_
   | refine LeO.bind ?_ (fun _ => ?_)
theorem conductorlaw07_ChainReads.mono : ∀ a0 a1 a2 k, LeO (conductorlaw07_ChainReads.f k a0 a1 a2) (conductorlaw07_ChainReads.f (k + 1) a0 a1 a2) := by
 intro a0 a1 a2 k
 have ih0 := conductorlaw07_ChainReads.mono_l k
 unfold conductorlaw07_ChainReads.f
 repeat' first
   | (with_reducible exact ih0 _ _ _ _)
   | (with_reducible exact chain_Right.mono _ _)
   | (with_reducible exact chain_Trim.mono _ _ _)
   | (with_reducible exact conductorlaw07_few.mono _ _)
   | (with_reducible exact conductorlaw07_live.mono _)
   | (with_reducible exact LeO.refl _)
   | (with_reducible exact LeO.none _)
   | (with_reducible refine LeO.ite ?_ ?_)
   | (with_reducible refine LeO.bind ?_ (fun _ => ?_))
   | exact ih0 _ _ _ _
   | exact chain_Right.mono _ _
   | exact chain_Trim.mono _ _ _
   | exact conductorlaw07_few.mono _ _
   | exact conductorlaw07_live.mono _
   | exact LeO.none _
   | refine LeO.ite ?_ ?_
   | refine LeO.bind ?_ (fun _ => ?_)
def conductorlaw07_ChainFinds.j0 : Nat → List (S28) → Int → Bool → Option (Bool)
 | 0, _, _, _ => none
 | k + 1, x0, x1, x24 => if x24 = true then ((conductorlaw07_live.f k).bind fun t210 => (some t210)) else ((chain_Find.f x0 x1).bind fun bt211 => ((conductorref07_Find.f k x0 x1).bind fun bt218 => ((chain_Get.f x0 x1).bind fun bt225 => ((conductorref07_Get.f k x0 x1).bind fun bt229 => ((conductorref07_SameOne.f bt211.1 bt211.2.1 bt211.2.2.1 bt218.1 bt218.2.1 bt218.2.2.1).bind fun t233 => (if t233 = true then (if (bt211.2.2.2 == bt218.2.2.2) = true then ((conductorref01_Equal.f bt225.1 bt229.1).bind fun t234 => (if t234 = true then (if (bt225.2 == bt229.2) = true then ((chain_Last.f x0).bind fun t235 => ((conductorref07_Last.f k x0).bind fun t236 => (some (t235 == t236)))) else (some false)) else (some false))) else (some false)) else (some false)))))))
def conductorlaw07_ChainFinds.f (k : Nat) (l0 : List (S28)) (a1 : Int) : Option (Bool) := (conductorlaw07_live.f k).bind fun t207 => (if t207 = true then ((conductorlaw07_few.f k l0).bind fun t208 => (if t208 = true then ((conductorref07_Right.f k l0).bind fun t209 => (conductorlaw07_ChainFinds.j0 k l0 a1 (!t209))) else (conductorlaw07_ChainFinds.j0 k l0 a1 true))) else (conductorlaw07_ChainFinds.j0 k l0 a1 true))
theorem conductorlaw07_ChainFinds.mono_l : ∀ k, (∀ y0 y1 y2, LeO (conductorlaw07_ChainFinds.j0 k y0 y1 y2) (conductorlaw07_ChainFinds.j0 (k + 1) y0 y1 y2))
 | 0 => fun _ _ _ r h => by simp [conductorlaw07_ChainFinds.j0] at h
 | k + 1 => by
  have ih0 := conductorlaw07_ChainFinds.mono_l k
  ·intro y0 y1 y2
   unfold conductorlaw07_ChainFinds.j0
   repeat' first
   | (with_reducible exact ih0 _ _ _)
   | (with_reducible exact conductorlaw07_few.mono _ _)
   | (with_reducible exact conductorlaw07_live.mono _)
   | (with_reducible exact conductorref07_Find.mono _ _ _)
   | (with_reducible exact conductorref07_Get.mono _ _ _)
   | (with_reducible exact conductorref07_Last.mono _ _)
   | (with_reducible exact conductorref07_Right.mono _ _)
   | (with_reducible exact LeO.refl _)
   | (with_reducible exact LeO.none _)
   | (with_reducible refine LeO.ite ?_ ?_)
   | (with_reducible refine LeO.bind ?_ (fun _ => ?_))
   | exact ih0 _ _ _
   | exact conductorlaw07_few.mono _ _
   | exact conductorlaw07_live.mono _
   | exact conductorref07_Find.mono _ _ _
   | exact conductorref07_Get.mono _ _ _
   | exact conductorref07_Last.mono _ _
   | exact conductorref07_Right.mono _ _
   | exact LeO.none _
   | refine LeO.ite ?_ ?_
   | refine LeO.bind ?_ (fun _ => ?_)
theorem conductorlaw07_ChainFinds.mono : ∀ a0 a1 k, LeO (conductorlaw07_ChainFinds.f k a0 a1) (conductorlaw07_ChainFinds.f (k + 1) a0 a1) := by
 intro a0 a1 k
 have ih0 := conductorlaw07_ChainFinds.mono_l k
 unfold conductorlaw07_ChainFinds.f
 repeat' first
   | (with_reducible exact ih0 _ _ _)
   | (with_reducible exact conductorlaw07_few.mono _ _)
   | (with_reducible exact conductorlaw07_live.mono _)
   | (with_reducible exact conductorref07_Find.mono _ _ _)
   | (with_reducible exact conductorref07_Get.mono _ _ _)
   | (with_reducible exact conductorref07_Last.mono _ _)
   | (with_reducible exact conductorref07_Right.mono _ _)
   | (with_reducible exact LeO.refl _)
   | (with_reducible exact LeO.none _)
   | (with_reducible refine LeO.ite ?_ ?_)
   | (with_reducible refine LeO.bind ?_ (fun _ => ?_))
   | exact ih0 _ _ _
   | exact conductorlaw07_few.mono _ _
   | exact conductorlaw07_live.mono _
   | exact conductorref07_Find.mono _ _ _
   | exact conductorref07_Get.mono _ _ _
   | exact conductorref07_Last.mono _ _
   | exact conductorref07_Right.mono _ _
   | exact LeO.none _
   | refine LeO.ite ?_ ?_
   | refine LeO.bind ?_ (fun _ => ?_)
def conductorlaw07_ChainPuts.j0 : Nat → List (S28) → Bool → Int → Bool → List Int → Option (Bool)
 | 0, _, _, _, _, _ => none
 | k + 1, x0, x22, x257000, x257001, x257002 => if x22 = true then ((conductorlaw07_live.f k).bind fun t259 => (some t259)) else ((some (([] : List (S28)) : List (S28))).bind fun y260 => (if y260.length + x0.length < 3518437208883 then ((chain_Put.f k x0 x257000 x257001 x257002).bind fun bt266 => ((conductorref07_Put.f k x0 x257000 x257001 x257002).bind fun bt270 => ((conductorref07_Same.f k bt266.1 bt270.1).bind fun t274 => (if t274 = true then (if bt266.2 = bt270.2 then ((conductorref07_Same.f k x0 (y260 ++ x0)).bind fun t275 => (some t275)) else (some false)) else (some false))))) else (none)))
def conductorlaw07_ChainPuts.f (k : Nat) (l0 : List (S28)) (a1_0 : Int) (a1_1 : Bool) (l1_2 : List Int) : Option (Bool) := (conductorlaw07_live.f k).bind fun t257 => (if t257 = true then ((conductorlaw07_few.f k l0).bind fun t258 => (if t258 = true then (conductorlaw07_ChainPuts.j0 k l0 (decide ((l1_2.length : Int) > 1000)) a1_0 a1_1 l1_2) else (conductorlaw07_ChainPuts.j0 k l0 true a1_0 a1_1 l1_2))) else (conductorlaw07_ChainPuts.j0 k l0 true a1_0 a1_1 l1_2))
theorem conductorlaw07_ChainPuts.mono_l : ∀ k, (∀ y0 y1 y2 y3 y4, LeO (conductorlaw07_ChainPuts.j0 k y0 y1 y2 y3 y4) (conductorlaw07_ChainPuts.j0 (k + 1) y0 y1 y2 y3 y4))
 | 0 => fun _ _ _ _ _ r h => by simp [conductorlaw07_ChainPuts.j0] at h
 | k + 1 => by
  have ih0 := conductorlaw07_ChainPuts.mono_l k
  ·intro y0 y1 y2 y3 y4
   unfold conductorlaw07_ChainPuts.j0
   repeat' first
   | (with_reducible exact ih0 _ _ _ _ _)
   | (with_reducible exact chain_Put.mono _ _ _ _ _)
   | (with_reducible exact conductorlaw07_few.mono _ _)
   | (with_reducible exact conductorlaw07_live.mono _)
   | (with_reducible exact conductorref07_Put.mono _ _ _ _ _)
   | (with_reducible exact conductorref07_Same.mono _ _ _)
   | (with_reducible exact LeO.refl _)
   | (with_reducible exact LeO.none _)
   | (with_reducible refine LeO.ite ?_ ?_)
   | (with_reducible refine LeO.bind ?_ (fun _ => ?_))
   | exact ih0 _ _ _ _ _
   | exact chain_Put.mono _ _ _ _ _
   | exact conductorlaw07_few.mono _ _
   | exact conductorlaw07_live.mono _
   | exact conductorref07_Put.mono _ _ _ _ _
   | exact conductorref07_Same.mono _ _ _
   | exact LeO.none _
   | refine LeO.ite ?_ ?_
   | refine LeO.bind ?_ (fun _ => ?_)
theorem conductorlaw07_ChainPuts.mono : ∀ a0 a1 a2 a3 k, LeO (conductorlaw07_ChainPuts.f k a0 a1 a2 a3) (conductorlaw07_ChainPuts.f (k + 1) a0 a1 a2 a3) := by
 intro a0 a1 a2 a3 k
 have ih0 := conductorlaw07_ChainPuts.mono_l k
 unfold conductorlaw07_ChainPuts.f
 repeat' first
   | (with_reducible exact ih0 _ _ _ _ _)
   | (with_reducible exact chain_Put.mono _ _ _ _ _)
   | (with_reducible exact conductorlaw07_few.mono _ _)
   | (with_reducible exact conductorlaw07_live.mono _)
   | (with_reducible exact conductorref07_Put.mono _ _ _ _ _)
   | (with_reducible exact conductorref07_Same.mono _ _ _)
   | (with_reducible exact LeO.refl _)
   | (with_reducible exact LeO.none _)
   | (with_reducible refine LeO.ite ?_ ?_)
   | (with_reducible refine LeO.bind ?_ (fun _ => ?_))
   | exact ih0 _ _ _ _ _
   | exact chain_Put.mono _ _ _ _ _
   | exact conductorlaw07_few.mono _ _
   | exact conductorlaw07_live.mono _
   | exact conductorref07_Put.mono _ _ _ _ _
   | exact conductorref07_Same.mono _ _ _
   | exact LeO.none _
   | refine LeO.ite ?_ ?_
   | refine LeO.bind ?_ (fun _ => ?_)
def conductorlaw07_ChainStays.j0 : Nat → List (S28) → Int → Bool → Int → Bool → List Int → Option (Bool)
 | 0, _, _, _, _, _, _ => none
 | k + 1, x0, x2, x25, x330000, x330001, x330002 => if x25 = true then ((conductorlaw07_live.f k).bind fun t332 => (some t332)) else ((chain_Put.f k x0 x330000 x330001 x330002).bind fun bt333 => (if bt333.2 = 0 then ((chain_Get.f x0 x2).bind fun bt337 => ((chain_Get.f bt333.1 x2).bind fun bt341 => (if x2 ≥ x330000 then (if (bt341.2 != x330001) = true then (if x330001 = true then (some true) else ((conductorref01_Equal.f bt341.1 x330002).bind fun t345 => (some t345))) else (some false)) else ((conductorref01_Equal.f bt337.1 bt341.1).bind fun t346 => (if t346 = true then (some (bt337.2 == bt341.2)) else (some false)))))) else (some ((bt333.1.length : Int) == 0))))
def conductorlaw07_ChainStays.f (k : Nat) (l0 : List (S28)) (a1_0 : Int) (a1_1 : Bool) (l1_2 : List Int) (a2 : Int) : Option (Bool) := (conductorlaw07_live.f k).bind fun t330 => (if t330 = true then ((conductorlaw07_few.f k l0).bind fun t331 => (if t331 = true then (conductorlaw07_ChainStays.j0 k l0 a2 (decide ((l1_2.length : Int) > 1000)) a1_0 a1_1 l1_2) else (conductorlaw07_ChainStays.j0 k l0 a2 true a1_0 a1_1 l1_2))) else (conductorlaw07_ChainStays.j0 k l0 a2 true a1_0 a1_1 l1_2))
theorem conductorlaw07_ChainStays.mono_l : ∀ k, (∀ y0 y1 y2 y3 y4 y5, LeO (conductorlaw07_ChainStays.j0 k y0 y1 y2 y3 y4 y5) (conductorlaw07_ChainStays.j0 (k + 1) y0 y1 y2 y3 y4 y5))
 | 0 => fun _ _ _ _ _ _ r h => by simp [conductorlaw07_ChainStays.j0] at h
 | k + 1 => by
  have ih0 := conductorlaw07_ChainStays.mono_l k
  ·intro y0 y1 y2 y3 y4 y5
   unfold conductorlaw07_ChainStays.j0
   repeat' first
   | (with_reducible exact ih0 _ _ _ _ _ _)
   | (with_reducible exact chain_Put.mono _ _ _ _ _)
   | (with_reducible exact conductorlaw07_few.mono _ _)
   | (with_reducible exact conductorlaw07_live.mono _)
   | (with_reducible exact LeO.refl _)
   | (with_reducible exact LeO.none _)
   | (with_reducible refine LeO.ite ?_ ?_)
   | (with_reducible refine LeO.bind ?_ (fun _ => ?_))
   | exact ih0 _ _ _ _ _ _
   | exact chain_Put.mono _ _ _ _ _
   | exact conductorlaw07_few.mono _ _
   | exact conductorlaw07_live.mono _
   | exact LeO.none _
   | refine LeO.ite ?_ ?_
   | refine LeO.bind ?_ (fun _ => ?_)
theorem conductorlaw07_ChainStays.mono : ∀ a0 a1 a2 a3 a4 k, LeO (conductorlaw07_ChainStays.f k a0 a1 a2 a3 a4) (conductorlaw07_ChainStays.f (k + 1) a0 a1 a2 a3 a4) := by
 intro a0 a1 a2 a3 a4 k
 have ih0 := conductorlaw07_ChainStays.mono_l k
 unfold conductorlaw07_ChainStays.f
 repeat' first
   | (with_reducible exact ih0 _ _ _ _ _ _)
   | (with_reducible exact chain_Put.mono _ _ _ _ _)
   | (with_reducible exact conductorlaw07_few.mono _ _)
   | (with_reducible exact conductorlaw07_live.mono _)
   | (with_reducible exact LeO.refl _)
   | (with_reducible exact LeO.none _)
   | (with_reducible refine LeO.ite ?_ ?_)
   | (with_reducible refine LeO.bind ?_ (fun _ => ?_))
   | exact ih0 _ _ _ _ _ _
   | exact chain_Put.mono _ _ _ _ _
   | exact conductorlaw07_few.mono _ _
   | exact conductorlaw07_live.mono _
   | exact LeO.none _
   | refine LeO.ite ?_ ?_
   | refine LeO.bind ?_ (fun _ => ?_)
end Go.Proofs.Yteofdgonpbmdlaa.C
