/- Texts of this session, merged for the law StoreDoes: UM, C40, VA, VF, VG. No condition. -/
import Derived.Test.YteofdgonpbmdlaaZStoreDoesp
import Derived.Test.YteofdgonpbmdlaaZStoreDoesd
import Derived.Test.YteofdgonpbmdlaaZStoreDoesy
import Derived.Test.YteofdgonpbmdlaaZStoreDoess
import Derived.Test.YteofdgonpbmdlaaZStoreDoesq
set_option linter.unusedVariables false
set_option linter.unusedSimpArgs false
namespace Go.Proofs.Yteofdgonpbmdlaa.C
open Go.RowKit Go.Proofs.YteofdgonpbmdlaaW.PrintWords
structure S51 where
  f0 : Int
  f1 : Int
  f2 : Int
  f3 : Int
  f4 : Int
  f5 : Int
  f6 : Int
def k51 : Kd S51 := Kd.iso (Kd.pair (Kd.int .i64) (Kd.pair (Kd.int .i64) (Kd.pair (Kd.int .i64) (Kd.pair (Kd.int .i64) (Kd.pair (Kd.int .i64) (Kd.pair (Kd.int .i64) (Kd.int .u64))))))) (fun x : S51 => (x.f0, x.f1, x.f2, x.f3, x.f4, x.f5, x.f6))
theorem k51_open {w : World} {x : S51} {cs : List Value} (h : k51.K w x cs) : cs = [.int .i64 x.f0, .int .i64 x.f1, .int .i64 x.f2, .int .i64 x.f3, .int .i64 x.f4, .int .i64 x.f5, .int .u64 x.f6] := by
  obtain ⟨_, _, rfl, rfl, _, _, rfl, rfl, _, _, rfl, rfl, _, _, rfl, rfl, _, _, rfl, rfl, _, _, rfl, rfl, rfl⟩ := h
  rfl
theorem opens51 : Kd.Opens Try.prog 51 k51 (fun x => 0 ≤ x.f6 ∧ x.f6 ≤ 18446744073709551615) :=
  opens_imp (Kd.opens_struct (fun x : S51 => (x.f0, x.f1, x.f2, x.f3, x.f4, x.f5, x.f6)) (fun p => ⟨p.1, p.2.1, p.2.2.1, p.2.2.2.1, p.2.2.2.2.1, p.2.2.2.2.2.1, p.2.2.2.2.2.2⟩) (fun _ => rfl) Try.underlying51 (by kernel_rfl)
    (Kd.opensF_cons rfl (by kernel_rfl) (Kd.opens_int Try.underlying3) (Kd.opensF_cons rfl (by kernel_rfl) (Kd.opens_int Try.underlying3) (Kd.opensF_cons rfl (by kernel_rfl) (Kd.opens_int Try.underlying3) (Kd.opensF_cons rfl (by kernel_rfl) (Kd.opens_int Try.underlying3) (Kd.opensF_cons rfl (by kernel_rfl) (Kd.opens_int Try.underlying3) (Kd.opensF_cons rfl (by kernel_rfl) (Kd.opens_int Try.underlying3) (Kd.opensF_one rfl (by kernel_rfl) (Kd.opens_int Try.underlying23))))))))) (fun w a cs _ h => wf_u64 h.2.2.2.2.2.2)
end Go.Proofs.Yteofdgonpbmdlaa.C
namespace Go.Proofs.Yteofdgonpbmdlaa.C
open Go.RowKit Go.Proofs.YteofdgonpbmdlaaW.PrintWords Go.Proofs.YteofdgonpbmdlaaW.PrintLast Go.Proofs.YteofdgonpbmdlaaW.PrintMore
attribute [local go_sem] max2_int min2_int max2_str min2_str str_leq str_gtr str_geq max_two min_two max_three min_three max_four min_four
set_option linter.unusedVariables false
set_option linter.unusedSimpArgs false
mutual
def conductorref08_put.l0 : Nat → List (S109) → List (S109) → List (S109) → Int → Int → ByteArray → List (S28) → Option ((List (S109)))
 | 0, _, _, _, _, _, _, _ => none
 | k + 1, x0, x5, x11, x12, x13, x441000, x441001 => if x13 < x12 then (if 0 ≤ x13 then (if x13 < (x11.length : Int) then (if (Op.bytesLess (((rd_T109 x11 x13).f0).toList) x441000.toList) = true then (if x5.length < 3518437208883 then (conductorref08_put.l0 k x0 (x5 ++ [(⟨(rd_T109 x11 x13).f0, (rd_T109 x11 x13).f1⟩ : S109)]) x11 x12 (wrap64 (x13 + 1)) x441000 x441001) else (none)) else (conductorref08_put.l0 k x0 x5 x11 x12 (wrap64 (x13 + 1)) x441000 x441001)) else (none)) else (none)) else (if (x441001.length : Int) > 0 then (if x5.length < 3518437208883 then (conductorref08_put.j1 k x0 (x5 ++ [(⟨x441000, x441001⟩ : S109)]) x441000 x441001) else (none)) else (conductorref08_put.j1 k x0 x5 x441000 x441001))
def conductorref08_put.j1 : Nat → List (S109) → List (S109) → ByteArray → List (S28) → Option ((List (S109)))
 | 0, _, _, _, _ => none
 | k + 1, x0, x5, x441000, x441001 => conductorref08_put.l1 k x5 x0 (x0.length : Int) 0 x441000 x441001
def conductorref08_put.l1 : Nat → List (S109) → List (S109) → Int → Int → ByteArray → List (S28) → Option ((List (S109)))
 | 0, _, _, _, _, _, _ => none
 | k + 1, x5, x35, x36, x37, x441000, x441001 => if x37 < x36 then (if 0 ≤ x37 then (if x37 < (x35.length : Int) then (if (Op.bytesLess x441000.toList (((rd_T109 x35 x37).f0).toList)) = true then (if x5.length < 3518437208883 then (conductorref08_put.l1 k (x5 ++ [(⟨(rd_T109 x35 x37).f0, (rd_T109 x35 x37).f1⟩ : S109)]) x35 x36 (wrap64 (x37 + 1)) x441000 x441001) else (none)) else (conductorref08_put.l1 k x5 x35 x36 (wrap64 (x37 + 1)) x441000 x441001)) else (none)) else (none)) else (some x5)
end
def conductorref08_put.f (k : Nat) (l0 : List (S109)) (a1_0 : ByteArray) (l1_1 : List (S28)) : Option ((List (S109))) := conductorref08_put.l0 k l0 (([] : List (S109))) l0 (l0.length : Int) 0 a1_0 l1_1
theorem conductorref08_put.mono_l : ∀ k, (∀ y0 y1 y2 y3 y4 y5 y6, LeO (conductorref08_put.l0 k y0 y1 y2 y3 y4 y5 y6) (conductorref08_put.l0 (k + 1) y0 y1 y2 y3 y4 y5 y6)) ∧ (∀ y0 y1 y2 y3, LeO (conductorref08_put.j1 k y0 y1 y2 y3) (conductorref08_put.j1 (k + 1) y0 y1 y2 y3)) ∧ (∀ y0 y1 y2 y3 y4 y5, LeO (conductorref08_put.l1 k y0 y1 y2 y3 y4 y5) (conductorref08_put.l1 (k + 1) y0 y1 y2 y3 y4 y5))
 | 0 => ⟨fun _ _ _ _ _ _ _ r h => by simp [conductorref08_put.l0] at h, fun _ _ _ _ r h => by simp [conductorref08_put.j1] at h, fun _ _ _ _ _ _ r h => by simp [conductorref08_put.l1] at h⟩
 | k + 1 => by
  obtain ⟨ih0, ih1, ih2⟩ := conductorref08_put.mono_l k
  refine ⟨?_, ?_, ?_⟩
  ·intro y0 y1 y2 y3 y4 y5 y6
   unfold conductorref08_put.l0
   repeat' first
   | (with_reducible exact ih0 _ _ _ _ _ _ _)
   | (with_reducible exact ih1 _ _ _ _)
   | (with_reducible exact ih2 _ _ _ _ _ _)
   | (with_reducible exact LeO.refl _)
   | (with_reducible exact LeO.none _)
   | (with_reducible refine LeO.ite ?_ ?_)
   | (with_reducible refine LeO.bind ?_ (fun _ => ?_))
   | exact ih0 _ _ _ _ _ _ _
   | exact ih1 _ _ _ _
   | exact ih2 _ _ _ _ _ _
   | exact LeO.none _
   | refine LeO.ite ?_ ?_
   | refine LeO.bind ?_ (fun _ => ?_)
  ·intro y0 y1 y2 y3
   unfold conductorref08_put.j1
   repeat' first
   | (with_reducible exact ih0 _ _ _ _ _ _ _)
   | (with_reducible exact ih1 _ _ _ _)
   | (with_reducible exact ih2 _ _ _ _ _ _)
   | (with_reducible exact LeO.refl _)
   | (with_reducible exact LeO.none _)
   | (with_reducible refine LeO.ite ?_ ?_)
   | (with_reducible refine LeO.bind ?_ (fun _ => ?_))
   | exact ih0 _ _ _ _ _ _ _
   | exact ih1 _ _ _ _
   | exact ih2 _ _ _ _ _ _
   | exact LeO.none _
   | refine LeO.ite ?_ ?_
   | refine LeO.bind ?_ (fun _ => ?_)
  ·intro y0 y1 y2 y3 y4 y5
   unfold conductorref08_put.l1
   repeat' first
   | (with_reducible exact ih0 _ _ _ _ _ _ _)
   | (with_reducible exact ih1 _ _ _ _)
   | (with_reducible exact ih2 _ _ _ _ _ _)
   | (with_reducible exact LeO.refl _)
   | (with_reducible exact LeO.none _)
   | (with_reducible refine LeO.ite ?_ ?_)
   | (with_reducible refine LeO.bind ?_ (fun _ => ?_))
   | exact ih0 _ _ _ _ _ _ _
   | exact ih1 _ _ _ _
   | exact ih2 _ _ _ _ _ _
   | exact LeO.none _
   | refine LeO.ite ?_ ?_
   | refine LeO.bind ?_ (fun _ => ?_)
theorem conductorref08_put.mono : ∀ a0 a1 a2 k, LeO (conductorref08_put.f k a0 a1 a2) (conductorref08_put.f (k + 1) a0 a1 a2) := by
 intro a0 a1 a2 k
 obtain ⟨ih0, ih1, ih2⟩ := conductorref08_put.mono_l k
 unfold conductorref08_put.f
 repeat' first
   | (with_reducible exact ih0 _ _ _ _ _ _ _)
   | (with_reducible exact ih1 _ _ _ _)
   | (with_reducible exact ih2 _ _ _ _ _ _)
   | (with_reducible exact LeO.refl _)
   | (with_reducible exact LeO.none _)
   | (with_reducible refine LeO.ite ?_ ?_)
   | (with_reducible refine LeO.bind ?_ (fun _ => ?_))
   | exact ih0 _ _ _ _ _ _ _
   | exact ih1 _ _ _ _
   | exact ih2 _ _ _ _ _ _
   | exact LeO.none _
   | refine LeO.ite ?_ ?_
   | refine LeO.bind ?_ (fun _ => ?_)
set_option maxHeartbeats 8000000 in
set_option maxRecDepth 100000 in
theorem conductorref08_put.calls (k : Nat) (P0_ : Nat → Prop) (A0 : Option Addr) (c0 : Nat) (l0 : List (S109)) (a1_0 : ByteArray) (P1_1_ : Nat → Prop) (A1_1 : Option Addr) (c1_1 : Nat) (l1_1 : List (S28)) (r : List (S109)) (w : World) (hs0 : Kd.V k109 109 w w.heap.size (fun k_ => P0_ k_) (.slice A0 l0.length c0) l0) (hs1_1 : Kd.V k28 28 w w.heap.size (fun k_ => P1_1_ k_) (.slice A1_1 l1_1.length c1_1) l1_1) (h : conductorref08_put.f k l0 a1_0 l1_1 = some r) :
  Calls Try.prog 91 #[.slice A0 l0.length c0, .agg #[.string a1_0, .slice A1_1 l1_1.length c1_1]] w fun e w' => ∃ v0_ : Value, e = .returned (v0_) ∧ Kd.N k109 109 w' w.heap.size (fun k_ => ((P0_ k_ ∨ P1_1_ k_) ∨ w.heap.size ≤ k_)) v0_ r ∧ Below w.heap.size w w' := by
 have hu109 := Try.underlying109
 have HO0 := Aside0.mk (show Kd.V k109 109 w w.heap.size (fun k_ => ((P0_ k_ ∨ P1_1_ k_) ∨ w.heap.size ≤ k_)) (.slice A0 l0.length c0) l0 from Kd.V_mono hs0 (fun k_ hk => .inl (.inl hk)))
 have HO1_1 := Aside0.mk (show Kd.V k28 28 w w.heap.size (fun k_ => ((P0_ k_ ∨ P1_1_ k_) ∨ w.heap.size ≤ k_)) (.slice A1_1 l1_1.length c1_1) l1_1 from Kd.V_mono hs1_1 (fun k_ hk => .inl (.inr hk)))
 have HB := Aside0.mk (Below.refl w.heap.size w)
 have H : (conductorref08_put.l0 k l0 (([] : List (S109))) l0 (l0.length : Int) 0 a1_0 l1_1) = some r := h
 clear h
 obtain ⟨y441, hy441⟩ : ∃ y_ : List (S109), y_ = (([] : List (S109))) := ⟨_, rfl⟩
 replace H : (conductorref08_put.l0 k l0 y441 l0 (l0.length : Int) 0 a1_0 l1_1) = some r := by first | (rw [hy441]; with_reducible exact H) | (have H2_ := (Option.bind_some _ _).symm.trans H; rw [hy441]; with_reducible exact H2_) | (have H2_ := (Option.bind_some _ _).symm.trans H; with_reducible exact H2_) | with_reducible exact H | (rw [hy441]; exact H) | exact H
 have Ny441 := Aside0.mk hy441; clear hy441; have H' := Aside0.mk H; clear H
 go_enter Try.func91, Try.ntmps91
 go_wp2_with (first | ((with_reducible refine gate_dst (N := 3) rfl ?_); refine box_event ?hg (N := 3) ?hd (cs := #[.string a1_0, .slice A1_1 l1_1.length c1_1]) (t := 109) ?hr ?_; (case hd => rfl); (case hg => rfl); (case hr => first | (go_simp; done) | (go_simp; rfl)); intro gb440 hg w3 hbox hb; have n0_ := Aside0.mk (Kd.V_below (Kd.V_elderB (by exact HO0.out) gb440 (Nat.le_of_eq hg.symm)) hb); have n1_ := Aside0.mk (Kd.V_below (Kd.V_elderB (by exact HO1_1.out) gb440 (Nat.le_of_eq hg.symm)) hb); have n2_ := Aside0.mk (below_step bl_ hb); have n3_ := Aside0.mk (hbox); have n4_ := Aside0.mk (bsz_ hg : w.heap.size ≤ gb440); have n5_ := Aside0.mk (bsz_ hg : w.heap.size ≤ gb440); clear HO0; clear HO1_1; clear HB; have HO0 := n0_; have HO1_1 := n1_; have HB := n2_; have BK440 := n3_; have GW440 := n4_; have GE440 := n5_; clear n0_ n1_ n2_ n3_ n4_ n5_; clear hb hbox hg) | ((with_reducible refine gate_dst (N := 10) rfl ?_); refine Kd.N_lit k109 _ 109 ?hg (N' := 10) ?hd (xs := ([] : List (S109))) (inner := []) (ok := (fun k_ => ((P0_ k_ ∨ P1_1_ k_) ∨ w.heap.size ≤ k_) ∧ k_ ≠ gb440)) (okp := (fun k_ => ((P0_ k_ ∨ P1_1_ k_) ∨ w.heap.size ≤ k_) ∧ k_ ≠ gb440)) ?hr ?hp (fun _ hk => hk) ((show ∀ k_, w3.heap.size ≤ k_ → (fun k_ => ((P0_ k_ ∨ P1_1_ k_) ∨ w.heap.size ≤ k_) ∧ k_ ≠ gb440) k_ from fun k_ hk => ⟨(.inr (Nat.le_trans (below_size bl_) hk)), Kd.freshB (g := gb440) (o := .cells #[.string a1_0, .slice A1_1 l1_1.length c1_1] 109 (0, 0)) (by (with_reducible repeat (first | refine blk_drewN ?_ _ | refine blk_drew ?_ | refine blk_alloc ?_ _)); exact BK440.out) k_ hk⟩) _ (Nat.le_refl _)) (Below.refl _ _) (Nat.le_refl _) (by simp) ?_; (case hd => rfl); (case hg => rfl); (case hr => first | (go_simp; done) | (go_simp; rfl)); (case hp => exact (Reps.none _ _)); intro v442 w4 ho5 hb hg_ hnew_; clear hg_ hnew_; (first | rw [← Ny441.out] at ho5 | (simp only [Int.reduceToNat] at ho5; rw [← Ny441.out] at ho5)); have n0_ := Aside0.mk (Kd.V_elder' (by exact HO0.out) (Kd.N_base ho5) hb); have n1_ := Aside0.mk (Kd.V_elder' (by exact HO1_1.out) (Kd.N_base ho5) hb); have n2_ := Aside0.mk (Kd.N_lower ho5 (below_size bl_)); have n3_ := Aside0.mk (blk_below (g := gb440) (o := .cells #[.string a1_0, .slice A1_1 l1_1.length c1_1] 109 (0, 0)) (by (with_reducible repeat (first | refine blk_drewN ?_ _ | refine blk_drew ?_ | refine blk_alloc ?_ _)); exact BK440.out) hb); have n4_ := Aside0.mk (below_step bl_ hb); clear HO0; clear HO1_1; clear BK440; clear HB; have HO0 := n0_; have HO1_1 := n1_; have HO443 := n2_; have BK440 := n3_; have HB := n4_; clear n0_ n1_ n2_ n3_ n4_; clear hb ho5))
 go_loopg [5, 13] k (fun kq v5 v13 w' => ∃ (x5_1 : List (S109)) (x13_1 : Int), v13 = .int .i64 x13_1 ∧ Aside0 (conductorref08_put.l0 kq l0 x5_1 l0 (l0.length : Int) x13_1 a1_0 l1_1 = some r) ∧ Aside0 (kq ≤ k) ∧ Aside0 (Kd.V k109 109 w' w.heap.size (fun k_ => ((P0_ k_ ∨ P1_1_ k_) ∨ w.heap.size ≤ k_) ∧ some k_ ≠ (v5 : Value).ownBlock ∧ k_ ≠ gb440) (.slice A0 l0.length c0) l0) ∧ Aside0 (Kd.N k109 109 w' w.heap.size (fun k_ => ((P0_ k_ ∨ P1_1_ k_) ∨ w.heap.size ≤ k_) ∧ k_ ≠ gb440) v5 x5_1) ∧ Aside0 (Kd.V k109 109 w' w.heap.size (fun k_ => ((P0_ k_ ∨ P1_1_ k_) ∨ w.heap.size ≤ k_) ∧ some k_ ≠ (v5 : Value).ownBlock ∧ k_ ≠ gb440) (.slice A0 l0.length c0) l0) ∧ Aside0 (Kd.V k28 28 w' w.heap.size (fun k_ => ((P0_ k_ ∨ P1_1_ k_) ∨ w.heap.size ≤ k_) ∧ some k_ ≠ (v5 : Value).ownBlock ∧ k_ ≠ gb440) (.slice A1_1 l1_1.length c1_1) l1_1) ∧ Aside0 (w'.heap[gb440]? = some (.cells #[.string a1_0, (.slice A1_1 l1_1.length c1_1)] 109 (0, 0))) ∧ Aside0 (Below w.heap.size w w'))
 case atStart => exact ⟨(y441), (0), (by first | rfl | (simp; done) | (simp [*]; done)), H', ⟨Nat.le_refl _⟩, ⟨by exact Kd.V_mono HO0.out (fun _ hk => ⟨hk.1.1, ⟨hk.2, hk.1.2⟩⟩)⟩, ⟨by exact HO443.out⟩, ⟨by exact Kd.V_mono HO0.out (fun _ hk => ⟨hk.1.1, ⟨hk.2, hk.1.2⟩⟩)⟩, ⟨by exact Kd.V_mono HO1_1.out (fun _ hk => ⟨hk.1.1, ⟨hk.2, hk.1.2⟩⟩)⟩, ⟨by (with_reducible repeat (first | refine blk_drewN ?_ _ | refine blk_drew ?_ | refine blk_alloc ?_ _)); exact BK440.out⟩, ⟨bl_⟩⟩
 case round =>
  clear H'
  try clear c1
  try clear p2
  obtain ⟨x5_1, x13_1, rfl, HA, HK1, HO_0, HO_5, HO_11, HO_441001, BK440, HB⟩ := hrel
  cases gk with
  | zero => exact absurd HA.out (by simp [conductorref08_put.l0])
  | succ k1 =>
   have H := HA.out
   clear HA
   simp only [conductorref08_put.l0] at H
   by_cases c6 : x13_1 < (l0.length : Int)
   ·rw [if_pos c6] at H
    have c6b0 : decide (x13_1 < (l0.length : Int)) = true := decide_eq_true c6
    clear c6
    by_cases c7 : 0 ≤ x13_1
    ·rw [if_pos c7] at H
     have c7b0 : decide (0 ≤ x13_1) = true := decide_eq_true c7
     clear c7
     by_cases c8 : x13_1 < (l0.length : Int)
     ·rw [if_pos c8] at H
      have c8b0 : decide (x13_1 < (l0.length : Int)) = true := decide_eq_true c8
      clear c8
      by_cases c9 : (Op.bytesLess (((rd_T109 l0 x13_1).f0).toList) a1_0.toList) = true
      ·rw [if_pos c9] at H
       have c9b0 : (Op.bytesLess (((rd_T109 l0 x13_1).f0).toList) a1_0.toList) = true := c9
       clear c9
       by_cases c10 : x5_1.length < 3518437208883
       ·rw [if_pos c10] at H
        have LMc10 := Aside0.mk c10; clear c10
        obtain ⟨y446, hy446⟩ : ∃ y_ : List (S109), y_ = (x5_1 ++ [(⟨(rd_T109 l0 x13_1).f0, (rd_T109 l0 x13_1).f1⟩ : S109)]) := ⟨_, rfl⟩
        replace H : (conductorref08_put.l0 k1 l0 y446 l0 (l0.length : Int) (wrap64 (x13_1 + 1)) a1_0 l1_1) = some r := by first | (rw [hy446]; with_reducible exact H) | (have H2_ := (Option.bind_some _ _).symm.trans H; rw [hy446]; with_reducible exact H2_) | (have H2_ := (Option.bind_some _ _).symm.trans H; with_reducible exact H2_) | with_reducible exact H | (rw [hy446]; exact H) | exact H
        have Ny446 := Aside0.mk hy446; clear hy446; have H' := Aside0.mk H; clear H
        have p444 : 0 ≤ (x13_1 : Int) := od_
        have q444 : x13_1 < (l0.length : Int) := od_
        obtain ⟨ad444, A444_1, c444_1, e444, hx444_0, hx444_1, hl444_1, hi444_1⟩ := at_T109 (Kd.V_reads' HO_11.out).2.2 x13_1 p444 q444
        cases e444
        obtain ⟨ce444, hce444, hMe444, hcc444⟩ := Kd.V_get HO_11.out z109 x13_1 p444 (by first | exact q444 | exact od_ | (have e_ := (Kd.V_reads' HO_11.out).1; omega))
        obtain ⟨ua444_1, uc444_1, rfl, ul444_1, ge444_1⟩ := k109_openF hMe444
        have hv444_1 := hcc444 1 _ rfl
        rw [add_field _ _ 1 (by omega)] at hv444_1
        replace hv444_1 := Option.some.inj (hv444_1.symm.trans hx444_1)
        injection hv444_1 with hva_ hvn_ hvc_
        rw [hva_] at ge444_1
        rw [hvc_] at ul444_1
        have HL444_1 := Aside0.mk (show Kd.V k28 28 _ w.heap.size _ _ ((rd_T109 l0 x13_1).f1) from Kd.V_mk ul444_1 ge444_1)
        clear hva_ hvn_ hvc_ ge444_1 ul444_1; clear hcc444 hce444; have HR444_1 := Aside0.mk hi444_1; have HC444_1 := Aside0.mk hl444_1; clear hi444_1 hl444_1; replace p444 := eq_true p444; replace q444 := eq_true q444
        go_wp2_with (first | ((with_reducible refine gate_dst (N := 7) rfl ?_); refine box_event ?hg (N := 7) ?hd (cs := #[.string (⟨#[]⟩ : ByteArray), .slice none 0 0]) (t := 109) ?hr ?_; (case hd => rfl); (case hg => rfl); (case hr => first | (go_simp; done) | (go_simp; rfl)); intro gb445 hg w11 hbox hb; have n0_ := Aside0.mk (Kd.V_below (Kd.V_elderB (by exact HO_0.out) gb445 (Nat.le_of_eq hg.symm)) hb); have n1_ := Aside0.mk (Kd.N_below (Kd.N_elderB (by exact HO_5.out) gb445 (Nat.le_of_eq hg.symm)) hb); have n2_ := Aside0.mk (Kd.V_below (Kd.V_elderB (by exact HO_11.out) gb445 (Nat.le_of_eq hg.symm)) hb); have n3_ := Aside0.mk (Kd.V_below (Kd.V_elderB (by exact HO_441001.out) gb445 (Nat.le_of_eq hg.symm)) hb); have n4_ := Aside0.mk (Kd.V_below (Kd.V_elderB (by exact HL444_1.out) gb445 (Nat.le_of_eq hg.symm)) hb); have n5_ := Aside0.mk (blk_below (g := gb440) (o := .cells #[.string a1_0, .slice A1_1 l1_1.length c1_1] 109 (0, 0)) (by (with_reducible repeat (first | refine blk_drewN ?_ _ | refine blk_drew ?_ | refine blk_alloc ?_ _)); exact BK440.out) hb); have n6_ := Aside0.mk (Kd.C_below (by repeat (first | (with_reducible exact HR444_1.out) | (with_reducible refine Kd.C_alloc ?_ _) | (with_reducible refine Kd.C_drewN ?_ _) | (with_reducible refine Kd.C_drew ?_) | exact HR444_1.out)) hb); have n7_ := Aside0.mk (below_step bl_ hb); have n8_ := Aside0.mk (hbox); have n9_ := Aside0.mk (bsz_ hg : w.heap.size ≤ gb445); have n10_ := Aside0.mk (bsz_ hg : w.heap.size ≤ gb445); have n11_ := Aside0.mk ((by rw [hg]; exact Nat.ne_of_lt (blk_lt (g := gb440) (o := .cells #[.string a1_0, .slice A1_1 l1_1.length c1_1] 109 (0, 0)) (by (with_reducible repeat (first | refine blk_drewN ?_ _ | refine blk_drew ?_ | refine blk_alloc ?_ _)); exact BK440.out)) : gb440 ≠ gb445)); have n12_ := Aside0.mk ((by rw [hg]; exact Nat.ne_of_gt (blk_lt (g := gb440) (o := .cells #[.string a1_0, .slice A1_1 l1_1.length c1_1] 109 (0, 0)) (by (with_reducible repeat (first | refine blk_drewN ?_ _ | refine blk_drew ?_ | refine blk_alloc ?_ _)); exact BK440.out)) : gb445 ≠ gb440)); clear HO_0; clear HO_5; clear HO_11; clear HO_441001; clear HL444_1; clear BK440; clear HR444_1; clear HB; have HO_0 := n0_; have HO_5 := n1_; have HO_11 := n2_; have HO_441001 := n3_; have HL444_1 := n4_; have BK440 := n5_; have HR444_1 := n6_; have HB := n7_; have BK445 := n8_; have GW445 := n9_; have GE445 := n10_; have NB440_445 := n11_; have NB445_440 := n12_; clear n0_ n1_ n2_ n3_ n4_ n5_ n6_ n7_ n8_ n9_ n10_ n11_ n12_; clear hb hbox hg; have hnb12 := NB445_440.out; have hnc12 := NB440_445.out; obtain ⟨hcz13_0, hcz13_1, hfz13_0, hfz13_1⟩ := blk2_ BK445.out) | ((with_reducible refine gate_store (t := 109) (p := 7) rfl ?_); refine store_event (t := 109) (p := 7) (v := ?vo_w14) (w1 := ((w11.setCell ⟨gb445, 0, none⟩ (.string ((rd_T109 l0 x13_1).f0))).setCell ⟨gb445, 1, none⟩ (.slice A444_1 ((rd_T109 l0 x13_1).f1).length c444_1))) ?hg ?ho ?hn ?hr ?_; (case ho => rfl); (case hg => rfl); (case hn => rfl); (case hr => first | (go_simp; done) | (go_simp; rfl)); intro w14 hw; have n0_ : Aside0 (Kd.V k109 109 w14 w.heap.size (fun k_ => ((P0_ k_ ∨ P1_1_ k_) ∨ w.heap.size ≤ k_) ∧ some k_ ≠ (u5 : Value).ownBlock ∧ k_ ≠ gb440 ∧ k_ ≠ gb445) (.slice (some ad444) l0.length c0) l0) := ⟨(by rw [hw]; exact (by exact Kd.V_mono (Kd.V_far (p := ⟨gb445, 1, none⟩) (Kd.V_far (p := ⟨gb445, 0, none⟩) (Kd.V_mono HO_0.out (fun k_ hk => (⟨hk, hk.2⟩ : _ ∧ k_ ≠ gb445))) (fun _ hk => hk.2) (.string ((rd_T109 l0 x13_1).f0))) (fun _ hk => hk.2) (.slice A444_1 ((rd_T109 l0 x13_1).f1).length c444_1)) (fun _ hk => ⟨hk.1.1.1, ⟨hk.1.1.2.1, ⟨hk.1.1.2.2, hk.1.2⟩⟩⟩)))⟩; have n1_ : Aside0 (Kd.N k109 109 w14 w.heap.size (fun k_ => ((P0_ k_ ∨ P1_1_ k_) ∨ w.heap.size ≤ k_) ∧ k_ ≠ gb440 ∧ k_ ≠ gb445) u5 x5_1) := ⟨(by rw [hw]; exact (by exact Kd.N_mono (Kd.N_far (p := ⟨gb445, 1, none⟩) (Kd.N_far (p := ⟨gb445, 0, none⟩) (Kd.N_mono HO_5.out (fun k_ hk => (⟨hk, hk.2⟩ : _ ∧ k_ ≠ gb445))) (fun _ hk => hk.2) (.string ((rd_T109 l0 x13_1).f0))) (fun _ hk => hk.2) (.slice A444_1 ((rd_T109 l0 x13_1).f1).length c444_1)) (fun _ hk => ⟨hk.1.1.1, ⟨hk.1.1.2, hk.1.2⟩⟩)))⟩; have n2_ : Aside0 (Kd.V k109 109 w14 w.heap.size (fun k_ => ((P0_ k_ ∨ P1_1_ k_) ∨ w.heap.size ≤ k_) ∧ some k_ ≠ (u5 : Value).ownBlock ∧ k_ ≠ gb440 ∧ k_ ≠ gb445) (.slice (some ad444) l0.length c0) l0) := ⟨(by rw [hw]; exact (by exact Kd.V_mono (Kd.V_far (p := ⟨gb445, 1, none⟩) (Kd.V_far (p := ⟨gb445, 0, none⟩) (Kd.V_mono HO_11.out (fun k_ hk => (⟨hk, hk.2⟩ : _ ∧ k_ ≠ gb445))) (fun _ hk => hk.2) (.string ((rd_T109 l0 x13_1).f0))) (fun _ hk => hk.2) (.slice A444_1 ((rd_T109 l0 x13_1).f1).length c444_1)) (fun _ hk => ⟨hk.1.1.1, ⟨hk.1.1.2.1, ⟨hk.1.1.2.2, hk.1.2⟩⟩⟩)))⟩; have n3_ : Aside0 (Kd.V k28 28 w14 w.heap.size (fun k_ => ((P0_ k_ ∨ P1_1_ k_) ∨ w.heap.size ≤ k_) ∧ some k_ ≠ (u5 : Value).ownBlock ∧ k_ ≠ gb440 ∧ k_ ≠ gb445) (.slice A1_1 l1_1.length c1_1) l1_1) := ⟨(by rw [hw]; exact (by exact Kd.V_mono (Kd.V_far (p := ⟨gb445, 1, none⟩) (Kd.V_far (p := ⟨gb445, 0, none⟩) (Kd.V_mono HO_441001.out (fun k_ hk => (⟨hk, hk.2⟩ : _ ∧ k_ ≠ gb445))) (fun _ hk => hk.2) (.string ((rd_T109 l0 x13_1).f0))) (fun _ hk => hk.2) (.slice A444_1 ((rd_T109 l0 x13_1).f1).length c444_1)) (fun _ hk => ⟨hk.1.1.1, ⟨hk.1.1.2.1, ⟨hk.1.1.2.2, hk.1.2⟩⟩⟩)))⟩; have n4_ : Aside0 (Kd.V k28 28 w14 w.heap.size (fun k_ => ((P0_ k_ ∨ P1_1_ k_) ∨ w.heap.size ≤ k_) ∧ some k_ ≠ (u5 : Value).ownBlock ∧ k_ ≠ gb440 ∧ k_ ≠ gb445) (.slice A444_1 ((rd_T109 l0 x13_1).f1).length c444_1) ((rd_T109 l0 x13_1).f1)) := ⟨(by rw [hw]; exact (by exact Kd.V_mono (Kd.V_far (p := ⟨gb445, 1, none⟩) (Kd.V_far (p := ⟨gb445, 0, none⟩) (Kd.V_mono HL444_1.out (fun k_ hk => (⟨hk, hk.2⟩ : _ ∧ k_ ≠ gb445))) (fun _ hk => hk.2) (.string ((rd_T109 l0 x13_1).f0))) (fun _ hk => hk.2) (.slice A444_1 ((rd_T109 l0 x13_1).f1).length c444_1)) (fun _ hk => ⟨hk.1.1.1, ⟨hk.1.1.2.1, ⟨hk.1.1.2.2, hk.1.2⟩⟩⟩)))⟩; have n5_ : Aside0 (w14.heap[gb440]? = some (.cells #[.string a1_0, .slice A1_1 l1_1.length c1_1] 109 (0, 0))) := ⟨(by rw [hw]; exact (by (with_reducible repeat (first | refine blk_drewN ?_ _ | refine blk_drew ?_ | refine blk_alloc ?_ _)); refine blk_far ?_ NB440_445.out _; (with_reducible repeat (first | refine blk_drewN ?_ _ | refine blk_drew ?_ | refine blk_alloc ?_ _)); refine blk_far ?_ NB440_445.out _; (with_reducible repeat (first | refine blk_drewN ?_ _ | refine blk_drew ?_ | refine blk_alloc ?_ _)); exact BK440.out))⟩; have n6_ : Aside0 (w14.heap[gb445]? = some (.cells #[.string ((rd_T109 l0 x13_1).f0), .slice A444_1 ((rd_T109 l0 x13_1).f1).length c444_1] 109 (0, 0))) := ⟨(by rw [hw]; exact (by (with_reducible repeat (first | refine blk_drewN ?_ _ | refine blk_drew ?_ | refine blk_alloc ?_ _)); refine blk_put (cs := #[.string ((rd_T109 l0 x13_1).f0), .slice none 0 0]) ?_ 1 _ rfl; refine blk_put (cs := #[.string (⟨#[]⟩ : ByteArray), .slice none 0 0]) ?_ 0 _ rfl; exact BK445.out))⟩; have n7_ : Aside0 (Below w.heap.size w w14) := ⟨(by rw [hw]; exact bl_)⟩; clear hw; clear HO_0; clear HO_5; clear HO_11; clear HO_441001; clear HL444_1; clear BK440; clear BK445; clear HB; have HO_0 := n0_; have HO_5 := n1_; have HO_11 := n2_; have HO_441001 := n3_; have HL444_1 := n4_; have BK440 := n5_; have BK445 := n6_; have HB := n7_; clear n0_ n1_ n2_ n3_ n4_ n5_ n6_ n7_; obtain ⟨hcz15_0, hcz15_1, hfz15_0, hfz15_1⟩ := blk2_ BK445.out; obtain ⟨hcz16_0, hcz16_1, hfz16_0, hfz16_1⟩ := blk2_ BK440.out) | ((with_reducible refine gate_builtin (b := .append) (xs := #[.tmp 22, .tmp 24]) rfl ?_); at_builtin; refine Kd.N_append k109 (w0 := w) w.heap.size rfl (.tmp 22) (.tmp 24) 82 109 (.agg #[(.string ⟨#[]⟩), (.slice none 0 0)]) 40 rfl Try.underlying82 info109 rfl (by decide) (by omega) u5 x5_1 (⟨(rd_T109 l0 x13_1).f0, (rd_T109 l0 x13_1).f1⟩ : S109) [.string ((rd_T109 l0 x13_1).f0), .slice A444_1 ((rd_T109 l0 x13_1).f1).length c444_1] (fun k_ => ((P0_ k_ ∨ P1_1_ k_) ∨ w.heap.size ≤ k_) ∧ k_ ≠ gb440 ∧ k_ ≠ gb445) (fun k_ => ((fun k_ => ((P0_ k_ ∨ P1_1_ k_) ∨ w.heap.size ≤ k_) ∧ k_ ≠ gb440 ∧ k_ ≠ gb445)) k_ ∧ some k_ ≠ (u5 : Value).ownBlock) rfl rfl ?aP (fun _ hk => hk) ?aF ?aO ?aB ?aS ?aL ?_; (case aP => exact (k109_mkF _ _ (⟨(rd_T109 l0 x13_1).f0, (rd_T109 l0 x13_1).f1⟩ : S109) (Kd.V_reads' (Kd.V_mono (ok' := (fun k_ => ((fun k_ => ((P0_ k_ ∨ P1_1_ k_) ∨ w.heap.size ≤ k_) ∧ k_ ≠ gb440 ∧ k_ ≠ gb445)) k_ ∧ some k_ ≠ (u5 : Value).ownBlock)) (HL444_1.out) (fun k_ hk => ⟨⟨hk.1, ⟨hk.2.2.1, hk.2.2.2⟩⟩, hk.2.1⟩))).2.1 (Kd.V_F (Kd.V_mono (ok' := (fun k_ => ((fun k_ => ((P0_ k_ ∨ P1_1_ k_) ∨ w.heap.size ≤ k_) ∧ k_ ≠ gb440 ∧ k_ ≠ gb445)) k_ ∧ some k_ ≠ (u5 : Value).ownBlock)) (HL444_1.out) (fun k_ hk => ⟨⟨hk.1, ⟨hk.2.2.1, hk.2.2.2⟩⟩, hk.2.1⟩))))); (case aB => exact bl_); (case aF => exact (fun k_ hk => ⟨(.inr (Nat.le_trans (below_size bl_) hk)), Kd.freshB (g := gb440) (o := .cells #[.string a1_0, .slice A1_1 l1_1.length c1_1] 109 (0, 0)) (by (with_reducible repeat (first | refine blk_drewN ?_ _ | refine blk_drew ?_ | refine blk_alloc ?_ _)); exact BK440.out) k_ hk, Kd.freshB (g := gb445) (o := .cells #[.string ((rd_T109 l0 x13_1).f0), .slice A444_1 ((rd_T109 l0 x13_1).f1).length c444_1] 109 (0, 0)) (by (with_reducible repeat (first | refine blk_drewN ?_ _ | refine blk_drew ?_ | refine blk_alloc ?_ _)); exact BK445.out) k_ hk⟩)); (case aO => exact (by exact HO_5.out)); (case aS => exact (below_size bl_)); (case aL => have := LMc10.out; omega); intro v447 w17 ho hb hg hat; rw [← Ny446.out] at ho; have n0_ := Aside0.mk (Kd.V_afterv (ok := (fun k_ => ((P0_ k_ ∨ P1_1_ k_) ∨ w.heap.size ≤ k_) ∧ k_ ≠ gb440 ∧ k_ ≠ gb445)) (by exact Kd.V_mono HO_0.out (fun _ hk => ⟨⟨hk.1, ⟨hk.2.2.1, hk.2.2.2⟩⟩, hk.2.1⟩)) hg hat); have n1_ := Aside0.mk (Kd.V_afterv (ok := (fun k_ => ((P0_ k_ ∨ P1_1_ k_) ∨ w.heap.size ≤ k_) ∧ k_ ≠ gb440 ∧ k_ ≠ gb445)) (by exact Kd.V_mono HO_11.out (fun _ hk => ⟨⟨hk.1, ⟨hk.2.2.1, hk.2.2.2⟩⟩, hk.2.1⟩)) hg hat); have n2_ := Aside0.mk (Kd.V_afterv (ok := (fun k_ => ((P0_ k_ ∨ P1_1_ k_) ∨ w.heap.size ≤ k_) ∧ k_ ≠ gb440 ∧ k_ ≠ gb445)) (by exact Kd.V_mono HO_441001.out (fun _ hk => ⟨⟨hk.1, ⟨hk.2.2.1, hk.2.2.2⟩⟩, hk.2.1⟩)) hg hat); have n3_ := Aside0.mk (blk_grown (g := gb440) (o := .cells #[.string a1_0, .slice A1_1 l1_1.length c1_1] 109 (0, 0)) (by (with_reducible repeat (first | refine blk_drewN ?_ _ | refine blk_drew ?_ | refine blk_alloc ?_ _)); exact BK440.out) hg (Kd.N_away HO_5.out (fun _ hk => hk.2.1))); have n4_ := Aside0.mk (Kd.V_afterv (ok := (fun k_ => ((P0_ k_ ∨ P1_1_ k_) ∨ w.heap.size ≤ k_) ∧ k_ ≠ gb440 ∧ k_ ≠ gb445)) (by exact Kd.V_mono HL444_1.out (fun _ hk => ⟨⟨hk.1, ⟨hk.2.2.1, hk.2.2.2⟩⟩, hk.2.1⟩)) hg hat); have n5_ := Aside0.mk (blk_grown (g := gb445) (o := .cells #[.string ((rd_T109 l0 x13_1).f0), .slice A444_1 ((rd_T109 l0 x13_1).f1).length c444_1] 109 (0, 0)) (by (with_reducible repeat (first | refine blk_drewN ?_ _ | refine blk_drew ?_ | refine blk_alloc ?_ _)); exact BK445.out) hg (Kd.N_away HO_5.out (fun _ hk => hk.2.2))); have n6_ := Aside0.mk (hb); have n7_ := Aside0.mk (ho); clear HO_0; clear HO_11; clear HO_441001; clear BK440; clear HL444_1; clear BK445; clear HB; clear HO_5; have HO_0 := n0_; have HO_11 := n1_; have HO_441001 := n2_; have BK440 := n3_; have HL444_1 := n4_; have BK445 := n5_; have HB := n6_; have HO448 := n7_; clear n0_ n1_ n2_ n3_ n4_ n5_ n6_ n7_; clear ho hb hg hat))
        go_roundg k1
        case measure => have := HK1.out; omega
        case rel => exact ⟨(y446), (wrap64 (x13_1 + 1)), (by first | rfl | (simp; done) | (simp [*]; done)), H', ⟨by have := HK1.out; omega⟩, ⟨by exact Kd.V_mono HO_0.out (fun _ hk => ⟨hk.1.1, ⟨hk.2, hk.1.2.1⟩⟩)⟩, ⟨by exact Kd.N_mono HO448.out (fun _ hk => ⟨hk.1, hk.2.1⟩)⟩, ⟨by exact Kd.V_mono HO_11.out (fun _ hk => ⟨hk.1.1, ⟨hk.2, hk.1.2.1⟩⟩)⟩, ⟨by exact Kd.V_mono HO_441001.out (fun _ hk => ⟨hk.1.1, ⟨hk.2, hk.1.2.1⟩⟩)⟩, ⟨by (with_reducible repeat (first | refine blk_drewN ?_ _ | refine blk_drew ?_ | refine blk_alloc ?_ _)); exact BK440.out⟩, ⟨bl_⟩⟩
       ·rw [if_neg c10] at H
        exact absurd H (by simp)
      ·rw [if_neg c9] at H
       have c9b0 : (Op.bytesLess (((rd_T109 l0 x13_1).f0).toList) a1_0.toList) = false := by simpa using c9
       clear c9; have H' := Aside0.mk H; clear H
       have p444 : 0 ≤ (x13_1 : Int) := od_
       have q444 : x13_1 < (l0.length : Int) := od_
       obtain ⟨ad444, A444_1, c444_1, e444, hx444_0, hx444_1, hl444_1, hi444_1⟩ := at_T109 (Kd.V_reads' HO_11.out).2.2 x13_1 p444 q444
       cases e444
       obtain ⟨ce444, hce444, hMe444, hcc444⟩ := Kd.V_get HO_11.out z109 x13_1 p444 (by first | exact q444 | exact od_ | (have e_ := (Kd.V_reads' HO_11.out).1; omega))
       obtain ⟨ua444_1, uc444_1, rfl, ul444_1, ge444_1⟩ := k109_openF hMe444
       have hv444_1 := hcc444 1 _ rfl
       rw [add_field _ _ 1 (by omega)] at hv444_1
       replace hv444_1 := Option.some.inj (hv444_1.symm.trans hx444_1)
       injection hv444_1 with hva_ hvn_ hvc_
       rw [hva_] at ge444_1
       rw [hvc_] at ul444_1
       have HL444_1 := Aside0.mk (show Kd.V k28 28 _ w.heap.size _ _ ((rd_T109 l0 x13_1).f1) from Kd.V_mk ul444_1 ge444_1)
       clear hva_ hvn_ hvc_ ge444_1 ul444_1; clear hcc444 hce444; have HR444_1 := Aside0.mk hi444_1; have HC444_1 := Aside0.mk hl444_1; clear hi444_1 hl444_1; replace p444 := eq_true p444; replace q444 := eq_true q444
       go_wp2_with (first | ((with_reducible refine gate_dst (N := 7) rfl ?_); refine box_event ?hg (N := 7) ?hd (cs := #[.string (⟨#[]⟩ : ByteArray), .slice none 0 0]) (t := 109) ?hr ?_; (case hd => rfl); (case hg => rfl); (case hr => first | (go_simp; done) | (go_simp; rfl)); intro gb445 hg w18 hbox hb; have n0_ := Aside0.mk (Kd.V_below (Kd.V_elderB (by exact HO_0.out) gb445 (Nat.le_of_eq hg.symm)) hb); have n1_ := Aside0.mk (Kd.N_below (Kd.N_elderB (by exact HO_5.out) gb445 (Nat.le_of_eq hg.symm)) hb); have n2_ := Aside0.mk (Kd.V_below (Kd.V_elderB (by exact HO_11.out) gb445 (Nat.le_of_eq hg.symm)) hb); have n3_ := Aside0.mk (Kd.V_below (Kd.V_elderB (by exact HO_441001.out) gb445 (Nat.le_of_eq hg.symm)) hb); have n4_ := Aside0.mk (Kd.V_below (Kd.V_elderB (by exact HL444_1.out) gb445 (Nat.le_of_eq hg.symm)) hb); have n5_ := Aside0.mk (blk_below (g := gb440) (o := .cells #[.string a1_0, .slice A1_1 l1_1.length c1_1] 109 (0, 0)) (by (with_reducible repeat (first | refine blk_drewN ?_ _ | refine blk_drew ?_ | refine blk_alloc ?_ _)); exact BK440.out) hb); have n6_ := Aside0.mk (Kd.C_below (by repeat (first | (with_reducible exact HR444_1.out) | (with_reducible refine Kd.C_alloc ?_ _) | (with_reducible refine Kd.C_drewN ?_ _) | (with_reducible refine Kd.C_drew ?_) | exact HR444_1.out)) hb); have n7_ := Aside0.mk (below_step bl_ hb); have n8_ := Aside0.mk (hbox); have n9_ := Aside0.mk (bsz_ hg : w.heap.size ≤ gb445); have n10_ := Aside0.mk (bsz_ hg : w.heap.size ≤ gb445); have n11_ := Aside0.mk ((by rw [hg]; exact Nat.ne_of_lt (blk_lt (g := gb440) (o := .cells #[.string a1_0, .slice A1_1 l1_1.length c1_1] 109 (0, 0)) (by (with_reducible repeat (first | refine blk_drewN ?_ _ | refine blk_drew ?_ | refine blk_alloc ?_ _)); exact BK440.out)) : gb440 ≠ gb445)); have n12_ := Aside0.mk ((by rw [hg]; exact Nat.ne_of_gt (blk_lt (g := gb440) (o := .cells #[.string a1_0, .slice A1_1 l1_1.length c1_1] 109 (0, 0)) (by (with_reducible repeat (first | refine blk_drewN ?_ _ | refine blk_drew ?_ | refine blk_alloc ?_ _)); exact BK440.out)) : gb445 ≠ gb440)); clear HO_0; clear HO_5; clear HO_11; clear HO_441001; clear HL444_1; clear BK440; clear HR444_1; clear HB; have HO_0 := n0_; have HO_5 := n1_; have HO_11 := n2_; have HO_441001 := n3_; have HL444_1 := n4_; have BK440 := n5_; have HR444_1 := n6_; have HB := n7_; have BK445 := n8_; have GW445 := n9_; have GE445 := n10_; have NB440_445 := n11_; have NB445_440 := n12_; clear n0_ n1_ n2_ n3_ n4_ n5_ n6_ n7_ n8_ n9_ n10_ n11_ n12_; clear hb hbox hg; have hnb19 := NB445_440.out; have hnc19 := NB440_445.out; obtain ⟨hcz20_0, hcz20_1, hfz20_0, hfz20_1⟩ := blk2_ BK445.out; obtain ⟨hcz21_0, hcz21_1, hfz21_0, hfz21_1⟩ := blk2_ BK440.out))
       go_roundg k1
       case measure => have := HK1.out; omega
       case rel => exact ⟨(x5_1), (wrap64 (x13_1 + 1)), (by first | rfl | (simp; done) | (simp [*]; done)), H', ⟨by have := HK1.out; omega⟩, ⟨by exact Kd.V_mono (Kd.V_far (p := ⟨gb445, 1, none⟩) (Kd.V_far (p := ⟨gb445, 0, none⟩) (Kd.V_mono HO_0.out (fun k_ hk => (⟨hk, hk.2⟩ : _ ∧ k_ ≠ gb445))) (fun _ hk => hk.2) (.string ((rd_T109 l0 x13_1).f0))) (fun _ hk => hk.2) (.slice A444_1 ((rd_T109 l0 x13_1).f1).length c444_1)) (fun _ hk => ⟨hk.1.1.1, ⟨hk.1.1.2.1, hk.1.1.2.2⟩⟩)⟩, ⟨by exact Kd.N_mono (Kd.N_far (p := ⟨gb445, 1, none⟩) (Kd.N_far (p := ⟨gb445, 0, none⟩) (Kd.N_mono HO_5.out (fun k_ hk => (⟨hk, hk.2⟩ : _ ∧ k_ ≠ gb445))) (fun _ hk => hk.2) (.string ((rd_T109 l0 x13_1).f0))) (fun _ hk => hk.2) (.slice A444_1 ((rd_T109 l0 x13_1).f1).length c444_1)) (fun _ hk => ⟨hk.1.1.1, hk.1.1.2⟩)⟩, ⟨by exact Kd.V_mono (Kd.V_far (p := ⟨gb445, 1, none⟩) (Kd.V_far (p := ⟨gb445, 0, none⟩) (Kd.V_mono HO_11.out (fun k_ hk => (⟨hk, hk.2⟩ : _ ∧ k_ ≠ gb445))) (fun _ hk => hk.2) (.string ((rd_T109 l0 x13_1).f0))) (fun _ hk => hk.2) (.slice A444_1 ((rd_T109 l0 x13_1).f1).length c444_1)) (fun _ hk => ⟨hk.1.1.1, ⟨hk.1.1.2.1, hk.1.1.2.2⟩⟩)⟩, ⟨by exact Kd.V_mono (Kd.V_far (p := ⟨gb445, 1, none⟩) (Kd.V_far (p := ⟨gb445, 0, none⟩) (Kd.V_mono HO_441001.out (fun k_ hk => (⟨hk, hk.2⟩ : _ ∧ k_ ≠ gb445))) (fun _ hk => hk.2) (.string ((rd_T109 l0 x13_1).f0))) (fun _ hk => hk.2) (.slice A444_1 ((rd_T109 l0 x13_1).f1).length c444_1)) (fun _ hk => ⟨hk.1.1.1, ⟨hk.1.1.2.1, hk.1.1.2.2⟩⟩)⟩, ⟨by (with_reducible repeat (first | refine blk_drewN ?_ _ | refine blk_drew ?_ | refine blk_alloc ?_ _)); refine blk_far ?_ NB440_445.out _; (with_reducible repeat (first | refine blk_drewN ?_ _ | refine blk_drew ?_ | refine blk_alloc ?_ _)); refine blk_far ?_ NB440_445.out _; (with_reducible repeat (first | refine blk_drewN ?_ _ | refine blk_drew ?_ | refine blk_alloc ?_ _)); exact BK440.out⟩, ⟨bl_⟩⟩
     ·rw [if_neg c8] at H
      exact absurd H (by simp)
    ·rw [if_neg c7] at H
     exact absurd H (by simp)
   ·rw [if_neg c6] at H
    have c6b0 : decide (x13_1 < (l0.length : Int)) = false := decide_eq_false c6
    clear c6; have HC22 := Aside0.mk H; clear H; obtain ⟨hcz23_0, hcz23_1, hfz23_0, hfz23_1⟩ := blk2_ BK440.out
    go_upto_if 30 with (fail)
    go_cut [5] (fun v5 wc => ∃ (kq : Nat) (x5_21 : List (S109)), Aside0 (conductorref08_put.j1 kq l0 x5_21 a1_0 l1_1 = some r) ∧ Aside0 (kq ≤ k1) ∧ Aside0 (Kd.V k109 109 wc w.heap.size (fun k_ => ((P0_ k_ ∨ P1_1_ k_) ∨ w.heap.size ≤ k_) ∧ some k_ ≠ (v5 : Value).ownBlock ∧ k_ ≠ gb440) (.slice A0 l0.length c0) l0) ∧ Aside0 (Kd.N k109 109 wc w.heap.size (fun k_ => ((P0_ k_ ∨ P1_1_ k_) ∨ w.heap.size ≤ k_) ∧ k_ ≠ gb440) v5 x5_21) ∧ Aside0 (Kd.V k28 28 wc w.heap.size (fun k_ => ((P0_ k_ ∨ P1_1_ k_) ∨ w.heap.size ≤ k_) ∧ some k_ ≠ (v5 : Value).ownBlock ∧ k_ ≠ gb440) (.slice A1_1 l1_1.length c1_1) l1_1) ∧ Aside0 (wc.heap[gb440]? = some (.cells #[.string a1_0, (.slice A1_1 l1_1.length c1_1)] 109 (0, 0))) ∧ Aside0 (Below w.heap.size w wc))
    case first =>
     have H := HC22.out
     clear HC22
     by_cases c24 : (l1_1.length : Int) > 0
     ·rw [if_pos c24] at H
      have c24b0 : decide (0 < (l1_1.length : Int)) = true := decide_eq_true c24
      have c24b1 : decide (0 < l1_1.length) = true := decide_eq_true (by omega)
      clear c24
      (first | rw [c24b1] | simp only [c24b1] | rw [c24b0] | (simp only [i64_w, i32_w]; rw [c24b0]) | skip)
      by_cases c25 : x5_1.length < 3518437208883
      ·rw [if_pos c25] at H
       have LMc25 := Aside0.mk c25; clear c25
       obtain ⟨y449, hy449⟩ : ∃ y_ : List (S109), y_ = (x5_1 ++ [(⟨a1_0, l1_1⟩ : S109)]) := ⟨_, rfl⟩
       replace H : (conductorref08_put.j1 k1 l0 y449 a1_0 l1_1) = some r := by first | (rw [hy449]; with_reducible exact H) | (have H2_ := (Option.bind_some _ _).symm.trans H; rw [hy449]; with_reducible exact H2_) | (have H2_ := (Option.bind_some _ _).symm.trans H; with_reducible exact H2_) | with_reducible exact H | (rw [hy449]; exact H) | exact H
       have Ny449 := Aside0.mk hy449; clear hy449; have H' := Aside0.mk H; clear H; obtain ⟨hcz26_0, hcz26_1, hfz26_0, hfz26_1⟩ := blk2_ BK440.out
       go_wp2_with (first | ((with_reducible refine gate_builtin (b := .append) (xs := #[.tmp 31, .tmp 33]) rfl ?_); at_builtin; refine Kd.N_append k109 (w0 := w) w.heap.size rfl (.tmp 31) (.tmp 33) 82 109 (.agg #[(.string ⟨#[]⟩), (.slice none 0 0)]) 40 rfl Try.underlying82 info109 rfl (by decide) (by omega) u5 x5_1 (⟨a1_0, l1_1⟩ : S109) [.string a1_0, .slice A1_1 l1_1.length c1_1] (fun k_ => ((P0_ k_ ∨ P1_1_ k_) ∨ w.heap.size ≤ k_) ∧ k_ ≠ gb440) (fun k_ => ((fun k_ => ((P0_ k_ ∨ P1_1_ k_) ∨ w.heap.size ≤ k_) ∧ k_ ≠ gb440)) k_ ∧ some k_ ≠ (u5 : Value).ownBlock) rfl rfl ?aP (fun _ hk => hk) ?aF ?aO ?aB ?aS ?aL ?_; (case aP => exact k109_mkF wr _ (⟨a1_0, l1_1⟩ : S109) (Kd.V_reads' HO_441001.out).2.1 (Kd.F_mono (Kd.V_F HO_441001.out) (fun k_ hk => ⟨⟨hk.1, hk.2.2⟩, hk.2.1⟩))); (case aB => exact bl_); (case aF => exact (fun k_ hk => ⟨(.inr (Nat.le_trans (below_size bl_) hk)), Kd.freshB (g := gb440) (o := .cells #[.string a1_0, .slice A1_1 l1_1.length c1_1] 109 (0, 0)) (by (with_reducible repeat (first | refine blk_drewN ?_ _ | refine blk_drew ?_ | refine blk_alloc ?_ _)); exact BK440.out) k_ hk⟩)); (case aO => exact (by exact HO_5.out)); (case aS => exact (below_size bl_)); (case aL => have := LMc25.out; omega); intro v450 w27 ho hb hg hat; rw [← Ny449.out] at ho; have n0_ := Aside0.mk (Kd.V_afterv (ok := (fun k_ => ((P0_ k_ ∨ P1_1_ k_) ∨ w.heap.size ≤ k_) ∧ k_ ≠ gb440)) (by exact Kd.V_mono HO_0.out (fun _ hk => ⟨⟨hk.1, hk.2.2⟩, hk.2.1⟩)) hg hat); have n1_ := Aside0.mk (Kd.V_afterv (ok := (fun k_ => ((P0_ k_ ∨ P1_1_ k_) ∨ w.heap.size ≤ k_) ∧ k_ ≠ gb440)) (by exact Kd.V_mono HO_11.out (fun _ hk => ⟨⟨hk.1, hk.2.2⟩, hk.2.1⟩)) hg hat); have n2_ := Aside0.mk (Kd.V_afterv (ok := (fun k_ => ((P0_ k_ ∨ P1_1_ k_) ∨ w.heap.size ≤ k_) ∧ k_ ≠ gb440)) (by exact Kd.V_mono HO_441001.out (fun _ hk => ⟨⟨hk.1, hk.2.2⟩, hk.2.1⟩)) hg hat); have n3_ := Aside0.mk (blk_grown (g := gb440) (o := .cells #[.string a1_0, .slice A1_1 l1_1.length c1_1] 109 (0, 0)) (by (with_reducible repeat (first | refine blk_drewN ?_ _ | refine blk_drew ?_ | refine blk_alloc ?_ _)); exact BK440.out) hg (Kd.N_away HO_5.out (fun _ hk => hk.2))); have n4_ := Aside0.mk (hb); have n5_ := Aside0.mk (ho); clear HO_0; clear HO_11; clear HO_441001; clear BK440; clear HB; clear HO_5; have HO_0 := n0_; have HO_11 := n1_; have HO_441001 := n2_; have BK440 := n3_; have HB := n4_; have HO451 := n5_; clear n0_ n1_ n2_ n3_ n4_ n5_; clear ho hb hg hat))
       go_meet
       case rel => exact ⟨_, (y449), H', ⟨by have := HK1.out; first | omega | exact Nat.le_refl _⟩, ⟨by exact Kd.V_mono HO_0.out (fun _ hk => ⟨hk.1.1, ⟨hk.2, hk.1.2⟩⟩)⟩, ⟨by exact HO451.out⟩, ⟨by exact Kd.V_mono HO_441001.out (fun _ hk => ⟨hk.1.1, ⟨hk.2, hk.1.2⟩⟩)⟩, ⟨by (with_reducible repeat (first | refine blk_drewN ?_ _ | refine blk_drew ?_ | refine blk_alloc ?_ _)); exact BK440.out⟩, ⟨bl_⟩⟩
      ·rw [if_neg c25] at H
       exact absurd H (by simp)
     ·rw [if_neg c24] at H
      have c24b0 : decide (0 < (l1_1.length : Int)) = false := decide_eq_false c24
      have c24b1 : decide (0 < l1_1.length) = false := decide_eq_false (by omega)
      clear c24
      (first | rw [c24b1] | simp only [c24b1] | rw [c24b0] | (simp only [i64_w, i32_w]; rw [c24b0]) | skip)
      have H' := Aside0.mk H; clear H
      go_wp2
      go_meet
      case rel => exact ⟨_, (x5_1), H', ⟨by have := HK1.out; first | omega | exact Nat.le_refl _⟩, ⟨by exact HO_0.out⟩, ⟨by exact HO_5.out⟩, ⟨by exact HO_441001.out⟩, ⟨by (with_reducible repeat (first | refine blk_drewN ?_ _ | refine blk_drew ?_ | refine blk_alloc ?_ _)); exact BK440.out⟩, ⟨bl_⟩⟩
    case rest =>
     clear HC22
     try clear c1
     try clear c2
     try clear p2
     try clear c4
     try clear p4
     try clear q4
     try clear hx4
     try clear c6
     try clear c6b0
     try clear p6
     try clear c7
     try clear c7b0
     try clear c8
     try clear c8b0
     try clear c9
     try clear c9b0
     try clear c10
     try clear c12
     try clear c19
     try clear c24
     try clear c24b0
     try clear c24b1
     try clear c25
     try clear hcz13_0
     try clear hcz13_1
     try clear hcz15_0
     try clear hcz15_1
     try clear hcz16_0
     try clear hcz16_1
     try clear hcz20_0
     try clear hcz20_1
     try clear hcz21_0
     try clear hcz21_1
     try clear hcz23_0
     try clear hcz23_1
     try clear hcz26_0
     try clear hcz26_1
     try clear hfz13_0
     try clear hfz13_1
     try clear hfz15_0
     try clear hfz15_1
     try clear hfz16_0
     try clear hfz16_1
     try clear hfz20_0
     try clear hfz20_1
     try clear hfz21_0
     try clear hfz21_1
     try clear hfz23_0
     try clear hfz23_1
     try clear hfz26_0
     try clear hfz26_1
     try clear hx444_0
     try clear hx444_1
     try clear p2
     try clear p444
     try clear q444
     obtain ⟨kq, x5_21, HA, HJ21, HO_0, HO_5, HO_441001, BK440, HB⟩ := hcut
     cases kq with
     | zero => exact absurd HA.out (by simp [conductorref08_put.j1])
     | succ kj21 =>
      have H := HA.out
      clear HA
      simp only [conductorref08_put.j1] at H
      have H' := Aside0.mk H; clear H
      go_wp2
      go_loopg [5, 37] kj21 (fun kq v5 v37 w' => ∃ (x5_3 : List (S109)) (x37_3 : Int), v37 = .int .i64 x37_3 ∧ Aside0 (conductorref08_put.l1 kq x5_3 l0 (l0.length : Int) x37_3 a1_0 l1_1 = some r) ∧ Aside0 (kq ≤ kj21) ∧ Aside0 (Kd.N k109 109 w' w.heap.size (fun k_ => ((P0_ k_ ∨ P1_1_ k_) ∨ w.heap.size ≤ k_) ∧ k_ ≠ gb440) v5 x5_3) ∧ Aside0 (Kd.V k109 109 w' w.heap.size (fun k_ => ((P0_ k_ ∨ P1_1_ k_) ∨ w.heap.size ≤ k_) ∧ some k_ ≠ (v5 : Value).ownBlock ∧ k_ ≠ gb440) (.slice A0 l0.length c0) l0) ∧ Aside0 (Kd.V k28 28 w' w.heap.size (fun k_ => ((P0_ k_ ∨ P1_1_ k_) ∨ w.heap.size ≤ k_) ∧ some k_ ≠ (v5 : Value).ownBlock ∧ k_ ≠ gb440) (.slice A1_1 l1_1.length c1_1) l1_1) ∧ Aside0 (w'.heap[gb440]? = some (.cells #[.string a1_0, (.slice A1_1 l1_1.length c1_1)] 109 (0, 0))) ∧ Aside0 (Below w.heap.size w w'))
      case atStart => exact ⟨(x5_21), (0), (by first | rfl | (simp; done) | (simp [*]; done)), H', ⟨Nat.le_refl _⟩, ⟨by exact HO_5.out⟩, ⟨by exact HO_0.out⟩, ⟨by exact HO_441001.out⟩, ⟨by (with_reducible repeat (first | refine blk_drewN ?_ _ | refine blk_drew ?_ | refine blk_alloc ?_ _)); exact BK440.out⟩, ⟨bl_⟩⟩
      case round =>
       clear H'
       try clear c1
       try clear c2
       try clear p2
       try clear c4
       try clear p4
       try clear q4
       try clear hx4
       try clear c6
       try clear c6b0
       try clear p6
       try clear c7
       try clear c7b0
       try clear c8
       try clear c8b0
       try clear c9
       try clear c9b0
       try clear c10
       try clear c12
       try clear c19
       try clear c24
       try clear c24b0
       try clear c24b1
       try clear c25
       try clear hcz13_0
       try clear hcz13_1
       try clear hcz15_0
       try clear hcz15_1
       try clear hcz16_0
       try clear hcz16_1
       try clear hcz20_0
       try clear hcz20_1
       try clear hcz21_0
       try clear hcz21_1
       try clear hcz23_0
       try clear hcz23_1
       try clear hcz26_0
       try clear hcz26_1
       try clear hfz13_0
       try clear hfz13_1
       try clear hfz15_0
       try clear hfz15_1
       try clear hfz16_0
       try clear hfz16_1
       try clear hfz20_0
       try clear hfz20_1
       try clear hfz21_0
       try clear hfz21_1
       try clear hfz23_0
       try clear hfz23_1
       try clear hfz26_0
       try clear hfz26_1
       try clear hx444_0
       try clear hx444_1
       try clear p2
       try clear p4
       try clear p444
       try clear p6
       try clear q4
       try clear q444
       obtain ⟨x5_3, x37_3, rfl, HA, HK3, HO_5, HO_35, HO_441001, BK440, HB⟩ := hrel
       cases gk with
       | zero => exact absurd HA.out (by simp [conductorref08_put.l1])
       | succ k3 =>
        have H := HA.out
        clear HA
        simp only [conductorref08_put.l1] at H
        by_cases c28 : x37_3 < (l0.length : Int)
        ·rw [if_pos c28] at H
         have c28b0 : decide (x37_3 < (l0.length : Int)) = true := decide_eq_true c28
         clear c28
         by_cases c29 : 0 ≤ x37_3
         ·rw [if_pos c29] at H
          have c29b0 : decide (0 ≤ x37_3) = true := decide_eq_true c29
          clear c29
          by_cases c30 : x37_3 < (l0.length : Int)
          ·rw [if_pos c30] at H
           have c30b0 : decide (x37_3 < (l0.length : Int)) = true := decide_eq_true c30
           clear c30
           by_cases c31 : (Op.bytesLess a1_0.toList (((rd_T109 l0 x37_3).f0).toList)) = true
           ·rw [if_pos c31] at H
            have c31b0 : (Op.bytesLess a1_0.toList (((rd_T109 l0 x37_3).f0).toList)) = true := c31
            clear c31
            by_cases c32 : x5_3.length < 3518437208883
            ·rw [if_pos c32] at H
             have LMc32 := Aside0.mk c32; clear c32
             obtain ⟨y454, hy454⟩ : ∃ y_ : List (S109), y_ = (x5_3 ++ [(⟨(rd_T109 l0 x37_3).f0, (rd_T109 l0 x37_3).f1⟩ : S109)]) := ⟨_, rfl⟩
             replace H : (conductorref08_put.l1 k3 y454 l0 (l0.length : Int) (wrap64 (x37_3 + 1)) a1_0 l1_1) = some r := by first | (rw [hy454]; with_reducible exact H) | (have H2_ := (Option.bind_some _ _).symm.trans H; rw [hy454]; with_reducible exact H2_) | (have H2_ := (Option.bind_some _ _).symm.trans H; with_reducible exact H2_) | with_reducible exact H | (rw [hy454]; exact H) | exact H
             have Ny454 := Aside0.mk hy454; clear hy454; have H' := Aside0.mk H; clear H
             have p452 : 0 ≤ (x37_3 : Int) := od_
             have q452 : x37_3 < (l0.length : Int) := od_
             obtain ⟨ad452, A452_1, c452_1, e452, hx452_0, hx452_1, hl452_1, hi452_1⟩ := at_T109 (Kd.V_reads' HO_35.out).2.2 x37_3 p452 q452
             cases e452
             obtain ⟨ce452, hce452, hMe452, hcc452⟩ := Kd.V_get HO_35.out z109 x37_3 p452 (by first | exact q452 | exact od_ | (have e_ := (Kd.V_reads' HO_35.out).1; omega))
             obtain ⟨ua452_1, uc452_1, rfl, ul452_1, ge452_1⟩ := k109_openF hMe452
             have hv452_1 := hcc452 1 _ rfl
             rw [add_field _ _ 1 (by omega)] at hv452_1
             replace hv452_1 := Option.some.inj (hv452_1.symm.trans hx452_1)
             injection hv452_1 with hva_ hvn_ hvc_
             rw [hva_] at ge452_1
             rw [hvc_] at ul452_1
             have HL452_1 := Aside0.mk (show Kd.V k28 28 _ w.heap.size _ _ ((rd_T109 l0 x37_3).f1) from Kd.V_mk ul452_1 ge452_1)
             clear hva_ hvn_ hvc_ ge452_1 ul452_1; clear hcc452 hce452; have HR452_1 := Aside0.mk hi452_1; have HC452_1 := Aside0.mk hl452_1; clear hi452_1 hl452_1; replace p452 := eq_true p452; replace q452 := eq_true q452
             go_wp2_with (first | ((with_reducible refine gate_dst (N := 9) rfl ?_); refine box_event ?hg (N := 9) ?hd (cs := #[.string (⟨#[]⟩ : ByteArray), .slice none 0 0]) (t := 109) ?hr ?_; (case hd => rfl); (case hg => rfl); (case hr => first | (go_simp; done) | (go_simp; rfl)); intro gb453 hg w33 hbox hb; have n0_ := Aside0.mk (Kd.N_below (Kd.N_elderB (by exact HO_5.out) gb453 (Nat.le_of_eq hg.symm)) hb); have n1_ := Aside0.mk (Kd.V_below (Kd.V_elderB (by exact HO_35.out) gb453 (Nat.le_of_eq hg.symm)) hb); have n2_ := Aside0.mk (Kd.V_below (Kd.V_elderB (by exact HO_441001.out) gb453 (Nat.le_of_eq hg.symm)) hb); have n3_ := Aside0.mk (Kd.V_below (Kd.V_elderB (by exact HL452_1.out) gb453 (Nat.le_of_eq hg.symm)) hb); have n4_ := Aside0.mk (blk_below (g := gb440) (o := .cells #[.string a1_0, .slice A1_1 l1_1.length c1_1] 109 (0, 0)) (by (with_reducible repeat (first | refine blk_drewN ?_ _ | refine blk_drew ?_ | refine blk_alloc ?_ _)); exact BK440.out) hb); have n5_ := Aside0.mk (Kd.C_below (by repeat (first | (with_reducible exact HR452_1.out) | (with_reducible refine Kd.C_alloc ?_ _) | (with_reducible refine Kd.C_drewN ?_ _) | (with_reducible refine Kd.C_drew ?_) | exact HR452_1.out)) hb); have n6_ := Aside0.mk (below_step bl_ hb); have n7_ := Aside0.mk (hbox); have n8_ := Aside0.mk (bsz_ hg : w.heap.size ≤ gb453); have n9_ := Aside0.mk (bsz_ hg : w.heap.size ≤ gb453); have n10_ := Aside0.mk ((by rw [hg]; exact Nat.ne_of_lt (blk_lt (g := gb440) (o := .cells #[.string a1_0, .slice A1_1 l1_1.length c1_1] 109 (0, 0)) (by (with_reducible repeat (first | refine blk_drewN ?_ _ | refine blk_drew ?_ | refine blk_alloc ?_ _)); exact BK440.out)) : gb440 ≠ gb453)); have n11_ := Aside0.mk ((by rw [hg]; exact Nat.ne_of_gt (blk_lt (g := gb440) (o := .cells #[.string a1_0, .slice A1_1 l1_1.length c1_1] 109 (0, 0)) (by (with_reducible repeat (first | refine blk_drewN ?_ _ | refine blk_drew ?_ | refine blk_alloc ?_ _)); exact BK440.out)) : gb453 ≠ gb440)); clear HO_5; clear HO_35; clear HO_441001; clear HL452_1; clear BK440; clear HR452_1; clear HB; have HO_5 := n0_; have HO_35 := n1_; have HO_441001 := n2_; have HL452_1 := n3_; have BK440 := n4_; have HR452_1 := n5_; have HB := n6_; have BK453 := n7_; have GW453 := n8_; have GE453 := n9_; have NB440_453 := n10_; have NB453_440 := n11_; clear n0_ n1_ n2_ n3_ n4_ n5_ n6_ n7_ n8_ n9_ n10_ n11_; clear hb hbox hg; have hnb34 := NB453_440.out; have hnc34 := NB440_453.out; obtain ⟨hcz35_0, hcz35_1, hfz35_0, hfz35_1⟩ := blk2_ BK453.out) | ((with_reducible refine gate_store (t := 109) (p := 9) rfl ?_); refine store_event (t := 109) (p := 9) (v := ?vo_w36) (w1 := ((w33.setCell ⟨gb453, 0, none⟩ (.string ((rd_T109 l0 x37_3).f0))).setCell ⟨gb453, 1, none⟩ (.slice A452_1 ((rd_T109 l0 x37_3).f1).length c452_1))) ?hg ?ho ?hn ?hr ?_; (case ho => rfl); (case hg => rfl); (case hn => rfl); (case hr => first | (go_simp; done) | (go_simp; rfl)); intro w36 hw; have n0_ : Aside0 (Kd.N k109 109 w36 w.heap.size (fun k_ => ((P0_ k_ ∨ P1_1_ k_) ∨ w.heap.size ≤ k_) ∧ k_ ≠ gb440 ∧ k_ ≠ gb453) u5 x5_3) := ⟨(by rw [hw]; exact (by exact Kd.N_mono (Kd.N_far (p := ⟨gb453, 1, none⟩) (Kd.N_far (p := ⟨gb453, 0, none⟩) (Kd.N_mono HO_5.out (fun k_ hk => (⟨hk, hk.2⟩ : _ ∧ k_ ≠ gb453))) (fun _ hk => hk.2) (.string ((rd_T109 l0 x37_3).f0))) (fun _ hk => hk.2) (.slice A452_1 ((rd_T109 l0 x37_3).f1).length c452_1)) (fun _ hk => ⟨hk.1.1.1, ⟨hk.1.1.2, hk.1.2⟩⟩)))⟩; have n1_ : Aside0 (Kd.V k109 109 w36 w.heap.size (fun k_ => ((P0_ k_ ∨ P1_1_ k_) ∨ w.heap.size ≤ k_) ∧ some k_ ≠ (u5 : Value).ownBlock ∧ k_ ≠ gb440 ∧ k_ ≠ gb453) (.slice (some ad452) l0.length c0) l0) := ⟨(by rw [hw]; exact (by exact Kd.V_mono (Kd.V_far (p := ⟨gb453, 1, none⟩) (Kd.V_far (p := ⟨gb453, 0, none⟩) (Kd.V_mono HO_35.out (fun k_ hk => (⟨hk, hk.2⟩ : _ ∧ k_ ≠ gb453))) (fun _ hk => hk.2) (.string ((rd_T109 l0 x37_3).f0))) (fun _ hk => hk.2) (.slice A452_1 ((rd_T109 l0 x37_3).f1).length c452_1)) (fun _ hk => ⟨hk.1.1.1, ⟨hk.1.1.2.1, ⟨hk.1.1.2.2, hk.1.2⟩⟩⟩)))⟩; have n2_ : Aside0 (Kd.V k28 28 w36 w.heap.size (fun k_ => ((P0_ k_ ∨ P1_1_ k_) ∨ w.heap.size ≤ k_) ∧ some k_ ≠ (u5 : Value).ownBlock ∧ k_ ≠ gb440 ∧ k_ ≠ gb453) (.slice A1_1 l1_1.length c1_1) l1_1) := ⟨(by rw [hw]; exact (by exact Kd.V_mono (Kd.V_far (p := ⟨gb453, 1, none⟩) (Kd.V_far (p := ⟨gb453, 0, none⟩) (Kd.V_mono HO_441001.out (fun k_ hk => (⟨hk, hk.2⟩ : _ ∧ k_ ≠ gb453))) (fun _ hk => hk.2) (.string ((rd_T109 l0 x37_3).f0))) (fun _ hk => hk.2) (.slice A452_1 ((rd_T109 l0 x37_3).f1).length c452_1)) (fun _ hk => ⟨hk.1.1.1, ⟨hk.1.1.2.1, ⟨hk.1.1.2.2, hk.1.2⟩⟩⟩)))⟩; have n3_ : Aside0 (Kd.V k28 28 w36 w.heap.size (fun k_ => ((P0_ k_ ∨ P1_1_ k_) ∨ w.heap.size ≤ k_) ∧ some k_ ≠ (u5 : Value).ownBlock ∧ k_ ≠ gb440 ∧ k_ ≠ gb453) (.slice A452_1 ((rd_T109 l0 x37_3).f1).length c452_1) ((rd_T109 l0 x37_3).f1)) := ⟨(by rw [hw]; exact (by exact Kd.V_mono (Kd.V_far (p := ⟨gb453, 1, none⟩) (Kd.V_far (p := ⟨gb453, 0, none⟩) (Kd.V_mono HL452_1.out (fun k_ hk => (⟨hk, hk.2⟩ : _ ∧ k_ ≠ gb453))) (fun _ hk => hk.2) (.string ((rd_T109 l0 x37_3).f0))) (fun _ hk => hk.2) (.slice A452_1 ((rd_T109 l0 x37_3).f1).length c452_1)) (fun _ hk => ⟨hk.1.1.1, ⟨hk.1.1.2.1, ⟨hk.1.1.2.2, hk.1.2⟩⟩⟩)))⟩; have n4_ : Aside0 (w36.heap[gb440]? = some (.cells #[.string a1_0, .slice A1_1 l1_1.length c1_1] 109 (0, 0))) := ⟨(by rw [hw]; exact (by (with_reducible repeat (first | refine blk_drewN ?_ _ | refine blk_drew ?_ | refine blk_alloc ?_ _)); refine blk_far ?_ NB440_453.out _; (with_reducible repeat (first | refine blk_drewN ?_ _ | refine blk_drew ?_ | refine blk_alloc ?_ _)); refine blk_far ?_ NB440_453.out _; (with_reducible repeat (first | refine blk_drewN ?_ _ | refine blk_drew ?_ | refine blk_alloc ?_ _)); exact BK440.out))⟩; have n5_ : Aside0 (w36.heap[gb453]? = some (.cells #[.string ((rd_T109 l0 x37_3).f0), .slice A452_1 ((rd_T109 l0 x37_3).f1).length c452_1] 109 (0, 0))) := ⟨(by rw [hw]; exact (by (with_reducible repeat (first | refine blk_drewN ?_ _ | refine blk_drew ?_ | refine blk_alloc ?_ _)); refine blk_put (cs := #[.string ((rd_T109 l0 x37_3).f0), .slice none 0 0]) ?_ 1 _ rfl; refine blk_put (cs := #[.string (⟨#[]⟩ : ByteArray), .slice none 0 0]) ?_ 0 _ rfl; exact BK453.out))⟩; have n6_ : Aside0 (Below w.heap.size w w36) := ⟨(by rw [hw]; exact bl_)⟩; clear hw; clear HO_5; clear HO_35; clear HO_441001; clear HL452_1; clear BK440; clear BK453; clear HB; have HO_5 := n0_; have HO_35 := n1_; have HO_441001 := n2_; have HL452_1 := n3_; have BK440 := n4_; have BK453 := n5_; have HB := n6_; clear n0_ n1_ n2_ n3_ n4_ n5_ n6_; obtain ⟨hcz37_0, hcz37_1, hfz37_0, hfz37_1⟩ := blk2_ BK453.out; obtain ⟨hcz38_0, hcz38_1, hfz38_0, hfz38_1⟩ := blk2_ BK440.out) | ((with_reducible refine gate_builtin (b := .append) (xs := #[.tmp 46, .tmp 48]) rfl ?_); at_builtin; refine Kd.N_append k109 (w0 := w) w.heap.size rfl (.tmp 46) (.tmp 48) 82 109 (.agg #[(.string ⟨#[]⟩), (.slice none 0 0)]) 40 rfl Try.underlying82 info109 rfl (by decide) (by omega) u5 x5_3 (⟨(rd_T109 l0 x37_3).f0, (rd_T109 l0 x37_3).f1⟩ : S109) [.string ((rd_T109 l0 x37_3).f0), .slice A452_1 ((rd_T109 l0 x37_3).f1).length c452_1] (fun k_ => ((P0_ k_ ∨ P1_1_ k_) ∨ w.heap.size ≤ k_) ∧ k_ ≠ gb440 ∧ k_ ≠ gb453) (fun k_ => ((fun k_ => ((P0_ k_ ∨ P1_1_ k_) ∨ w.heap.size ≤ k_) ∧ k_ ≠ gb440 ∧ k_ ≠ gb453)) k_ ∧ some k_ ≠ (u5 : Value).ownBlock) rfl rfl ?aP (fun _ hk => hk) ?aF ?aO ?aB ?aS ?aL ?_; (case aP => exact (k109_mkF _ _ (⟨(rd_T109 l0 x37_3).f0, (rd_T109 l0 x37_3).f1⟩ : S109) (Kd.V_reads' (Kd.V_mono (ok' := (fun k_ => ((fun k_ => ((P0_ k_ ∨ P1_1_ k_) ∨ w.heap.size ≤ k_) ∧ k_ ≠ gb440 ∧ k_ ≠ gb453)) k_ ∧ some k_ ≠ (u5 : Value).ownBlock)) (HL452_1.out) (fun k_ hk => ⟨⟨hk.1, ⟨hk.2.2.1, hk.2.2.2⟩⟩, hk.2.1⟩))).2.1 (Kd.V_F (Kd.V_mono (ok' := (fun k_ => ((fun k_ => ((P0_ k_ ∨ P1_1_ k_) ∨ w.heap.size ≤ k_) ∧ k_ ≠ gb440 ∧ k_ ≠ gb453)) k_ ∧ some k_ ≠ (u5 : Value).ownBlock)) (HL452_1.out) (fun k_ hk => ⟨⟨hk.1, ⟨hk.2.2.1, hk.2.2.2⟩⟩, hk.2.1⟩))))); (case aB => exact bl_); (case aF => exact (fun k_ hk => ⟨(.inr (Nat.le_trans (below_size bl_) hk)), Kd.freshB (g := gb440) (o := .cells #[.string a1_0, .slice A1_1 l1_1.length c1_1] 109 (0, 0)) (by (with_reducible repeat (first | refine blk_drewN ?_ _ | refine blk_drew ?_ | refine blk_alloc ?_ _)); exact BK440.out) k_ hk, Kd.freshB (g := gb453) (o := .cells #[.string ((rd_T109 l0 x37_3).f0), .slice A452_1 ((rd_T109 l0 x37_3).f1).length c452_1] 109 (0, 0)) (by (with_reducible repeat (first | refine blk_drewN ?_ _ | refine blk_drew ?_ | refine blk_alloc ?_ _)); exact BK453.out) k_ hk⟩)); (case aO => exact (by exact HO_5.out)); (case aS => exact (below_size bl_)); (case aL => have := LMc32.out; omega); intro v455 w39 ho hb hg hat; rw [← Ny454.out] at ho; have n0_ := Aside0.mk (Kd.V_afterv (ok := (fun k_ => ((P0_ k_ ∨ P1_1_ k_) ∨ w.heap.size ≤ k_) ∧ k_ ≠ gb440 ∧ k_ ≠ gb453)) (by exact Kd.V_mono HO_35.out (fun _ hk => ⟨⟨hk.1, ⟨hk.2.2.1, hk.2.2.2⟩⟩, hk.2.1⟩)) hg hat); have n1_ := Aside0.mk (Kd.V_afterv (ok := (fun k_ => ((P0_ k_ ∨ P1_1_ k_) ∨ w.heap.size ≤ k_) ∧ k_ ≠ gb440 ∧ k_ ≠ gb453)) (by exact Kd.V_mono HO_441001.out (fun _ hk => ⟨⟨hk.1, ⟨hk.2.2.1, hk.2.2.2⟩⟩, hk.2.1⟩)) hg hat); have n2_ := Aside0.mk (blk_grown (g := gb440) (o := .cells #[.string a1_0, .slice A1_1 l1_1.length c1_1] 109 (0, 0)) (by (with_reducible repeat (first | refine blk_drewN ?_ _ | refine blk_drew ?_ | refine blk_alloc ?_ _)); exact BK440.out) hg (Kd.N_away HO_5.out (fun _ hk => hk.2.1))); have n3_ := Aside0.mk (Kd.V_afterv (ok := (fun k_ => ((P0_ k_ ∨ P1_1_ k_) ∨ w.heap.size ≤ k_) ∧ k_ ≠ gb440 ∧ k_ ≠ gb453)) (by exact Kd.V_mono HL452_1.out (fun _ hk => ⟨⟨hk.1, ⟨hk.2.2.1, hk.2.2.2⟩⟩, hk.2.1⟩)) hg hat); have n4_ := Aside0.mk (blk_grown (g := gb453) (o := .cells #[.string ((rd_T109 l0 x37_3).f0), .slice A452_1 ((rd_T109 l0 x37_3).f1).length c452_1] 109 (0, 0)) (by (with_reducible repeat (first | refine blk_drewN ?_ _ | refine blk_drew ?_ | refine blk_alloc ?_ _)); exact BK453.out) hg (Kd.N_away HO_5.out (fun _ hk => hk.2.2))); have n5_ := Aside0.mk (hb); have n6_ := Aside0.mk (ho); clear HO_35; clear HO_441001; clear BK440; clear HL452_1; clear BK453; clear HB; clear HO_5; have HO_35 := n0_; have HO_441001 := n1_; have BK440 := n2_; have HL452_1 := n3_; have BK453 := n4_; have HB := n5_; have HO456 := n6_; clear n0_ n1_ n2_ n3_ n4_ n5_ n6_; clear ho hb hg hat))
             go_roundg k3
             case measure => have := HK1.out; have := HJ21.out; have := HK3.out; omega
             case rel => exact ⟨(y454), (wrap64 (x37_3 + 1)), (by first | rfl | (simp; done) | (simp [*]; done)), H', ⟨by have := HK1.out; have := HJ21.out; have := HK3.out; omega⟩, ⟨by exact Kd.N_mono HO456.out (fun _ hk => ⟨hk.1, hk.2.1⟩)⟩, ⟨by exact Kd.V_mono HO_35.out (fun _ hk => ⟨hk.1.1, ⟨hk.2, hk.1.2.1⟩⟩)⟩, ⟨by exact Kd.V_mono HO_441001.out (fun _ hk => ⟨hk.1.1, ⟨hk.2, hk.1.2.1⟩⟩)⟩, ⟨by (with_reducible repeat (first | refine blk_drewN ?_ _ | refine blk_drew ?_ | refine blk_alloc ?_ _)); exact BK440.out⟩, ⟨bl_⟩⟩
            ·rw [if_neg c32] at H
             exact absurd H (by simp)
           ·rw [if_neg c31] at H
            have c31b0 : (Op.bytesLess a1_0.toList (((rd_T109 l0 x37_3).f0).toList)) = false := by simpa using c31
            clear c31; have H' := Aside0.mk H; clear H
            have p452 : 0 ≤ (x37_3 : Int) := od_
            have q452 : x37_3 < (l0.length : Int) := od_
            obtain ⟨ad452, A452_1, c452_1, e452, hx452_0, hx452_1, hl452_1, hi452_1⟩ := at_T109 (Kd.V_reads' HO_35.out).2.2 x37_3 p452 q452
            cases e452
            obtain ⟨ce452, hce452, hMe452, hcc452⟩ := Kd.V_get HO_35.out z109 x37_3 p452 (by first | exact q452 | exact od_ | (have e_ := (Kd.V_reads' HO_35.out).1; omega))
            obtain ⟨ua452_1, uc452_1, rfl, ul452_1, ge452_1⟩ := k109_openF hMe452
            have hv452_1 := hcc452 1 _ rfl
            rw [add_field _ _ 1 (by omega)] at hv452_1
            replace hv452_1 := Option.some.inj (hv452_1.symm.trans hx452_1)
            injection hv452_1 with hva_ hvn_ hvc_
            rw [hva_] at ge452_1
            rw [hvc_] at ul452_1
            have HL452_1 := Aside0.mk (show Kd.V k28 28 _ w.heap.size _ _ ((rd_T109 l0 x37_3).f1) from Kd.V_mk ul452_1 ge452_1)
            clear hva_ hvn_ hvc_ ge452_1 ul452_1; clear hcc452 hce452; have HR452_1 := Aside0.mk hi452_1; have HC452_1 := Aside0.mk hl452_1; clear hi452_1 hl452_1; replace p452 := eq_true p452; replace q452 := eq_true q452
            go_wp2_with (first | ((with_reducible refine gate_dst (N := 9) rfl ?_); refine box_event ?hg (N := 9) ?hd (cs := #[.string (⟨#[]⟩ : ByteArray), .slice none 0 0]) (t := 109) ?hr ?_; (case hd => rfl); (case hg => rfl); (case hr => first | (go_simp; done) | (go_simp; rfl)); intro gb453 hg w40 hbox hb; have n0_ := Aside0.mk (Kd.N_below (Kd.N_elderB (by exact HO_5.out) gb453 (Nat.le_of_eq hg.symm)) hb); have n1_ := Aside0.mk (Kd.V_below (Kd.V_elderB (by exact HO_35.out) gb453 (Nat.le_of_eq hg.symm)) hb); have n2_ := Aside0.mk (Kd.V_below (Kd.V_elderB (by exact HO_441001.out) gb453 (Nat.le_of_eq hg.symm)) hb); have n3_ := Aside0.mk (Kd.V_below (Kd.V_elderB (by exact HL452_1.out) gb453 (Nat.le_of_eq hg.symm)) hb); have n4_ := Aside0.mk (blk_below (g := gb440) (o := .cells #[.string a1_0, .slice A1_1 l1_1.length c1_1] 109 (0, 0)) (by (with_reducible repeat (first | refine blk_drewN ?_ _ | refine blk_drew ?_ | refine blk_alloc ?_ _)); exact BK440.out) hb); have n5_ := Aside0.mk (Kd.C_below (by repeat (first | (with_reducible exact HR452_1.out) | (with_reducible refine Kd.C_alloc ?_ _) | (with_reducible refine Kd.C_drewN ?_ _) | (with_reducible refine Kd.C_drew ?_) | exact HR452_1.out)) hb); have n6_ := Aside0.mk (below_step bl_ hb); have n7_ := Aside0.mk (hbox); have n8_ := Aside0.mk (bsz_ hg : w.heap.size ≤ gb453); have n9_ := Aside0.mk (bsz_ hg : w.heap.size ≤ gb453); have n10_ := Aside0.mk ((by rw [hg]; exact Nat.ne_of_lt (blk_lt (g := gb440) (o := .cells #[.string a1_0, .slice A1_1 l1_1.length c1_1] 109 (0, 0)) (by (with_reducible repeat (first | refine blk_drewN ?_ _ | refine blk_drew ?_ | refine blk_alloc ?_ _)); exact BK440.out)) : gb440 ≠ gb453)); have n11_ := Aside0.mk ((by rw [hg]; exact Nat.ne_of_gt (blk_lt (g := gb440) (o := .cells #[.string a1_0, .slice A1_1 l1_1.length c1_1] 109 (0, 0)) (by (with_reducible repeat (first | refine blk_drewN ?_ _ | refine blk_drew ?_ | refine blk_alloc ?_ _)); exact BK440.out)) : gb453 ≠ gb440)); clear HO_5; clear HO_35; clear HO_441001; clear HL452_1; clear BK440; clear HR452_1; clear HB; have HO_5 := n0_; have HO_35 := n1_; have HO_441001 := n2_; have HL452_1 := n3_; have BK440 := n4_; have HR452_1 := n5_; have HB := n6_; have BK453 := n7_; have GW453 := n8_; have GE453 := n9_; have NB440_453 := n10_; have NB453_440 := n11_; clear n0_ n1_ n2_ n3_ n4_ n5_ n6_ n7_ n8_ n9_ n10_ n11_; clear hb hbox hg; have hnb41 := NB453_440.out; have hnc41 := NB440_453.out; obtain ⟨hcz42_0, hcz42_1, hfz42_0, hfz42_1⟩ := blk2_ BK453.out; obtain ⟨hcz43_0, hcz43_1, hfz43_0, hfz43_1⟩ := blk2_ BK440.out))
            go_roundg k3
            case measure => have := HK1.out; have := HJ21.out; have := HK3.out; omega
            case rel => exact ⟨(x5_3), (wrap64 (x37_3 + 1)), (by first | rfl | (simp; done) | (simp [*]; done)), H', ⟨by have := HK1.out; have := HJ21.out; have := HK3.out; omega⟩, ⟨by exact Kd.N_mono (Kd.N_far (p := ⟨gb453, 1, none⟩) (Kd.N_far (p := ⟨gb453, 0, none⟩) (Kd.N_mono HO_5.out (fun k_ hk => (⟨hk, hk.2⟩ : _ ∧ k_ ≠ gb453))) (fun _ hk => hk.2) (.string ((rd_T109 l0 x37_3).f0))) (fun _ hk => hk.2) (.slice A452_1 ((rd_T109 l0 x37_3).f1).length c452_1)) (fun _ hk => ⟨hk.1.1.1, hk.1.1.2⟩)⟩, ⟨by exact Kd.V_mono (Kd.V_far (p := ⟨gb453, 1, none⟩) (Kd.V_far (p := ⟨gb453, 0, none⟩) (Kd.V_mono HO_35.out (fun k_ hk => (⟨hk, hk.2⟩ : _ ∧ k_ ≠ gb453))) (fun _ hk => hk.2) (.string ((rd_T109 l0 x37_3).f0))) (fun _ hk => hk.2) (.slice A452_1 ((rd_T109 l0 x37_3).f1).length c452_1)) (fun _ hk => ⟨hk.1.1.1, ⟨hk.1.1.2.1, hk.1.1.2.2⟩⟩)⟩, ⟨by exact Kd.V_mono (Kd.V_far (p := ⟨gb453, 1, none⟩) (Kd.V_far (p := ⟨gb453, 0, none⟩) (Kd.V_mono HO_441001.out (fun k_ hk => (⟨hk, hk.2⟩ : _ ∧ k_ ≠ gb453))) (fun _ hk => hk.2) (.string ((rd_T109 l0 x37_3).f0))) (fun _ hk => hk.2) (.slice A452_1 ((rd_T109 l0 x37_3).f1).length c452_1)) (fun _ hk => ⟨hk.1.1.1, ⟨hk.1.1.2.1, hk.1.1.2.2⟩⟩)⟩, ⟨by (with_reducible repeat (first | refine blk_drewN ?_ _ | refine blk_drew ?_ | refine blk_alloc ?_ _)); refine blk_far ?_ NB440_453.out _; (with_reducible repeat (first | refine blk_drewN ?_ _ | refine blk_drew ?_ | refine blk_alloc ?_ _)); refine blk_far ?_ NB440_453.out _; (with_reducible repeat (first | refine blk_drewN ?_ _ | refine blk_drew ?_ | refine blk_alloc ?_ _)); exact BK440.out⟩, ⟨bl_⟩⟩
          ·rw [if_neg c30] at H
           exact absurd H (by simp)
         ·rw [if_neg c29] at H
          exact absurd H (by simp)
        ·rw [if_neg c28] at H
         have c28b0 : decide (x37_3 < (l0.length : Int)) = false := decide_eq_false c28
         clear c28; obtain rfl := Option.some.inj H
         go_wp2
         go_ret
         exact ⟨_, by first | rfl | (simp [errW_none, errW_some] <;> rfl) | (simp [*, errW_none, errW_some] <;> rfl), by exact Kd.N_mono HO_5.out (fun _ hk => hk.1), bl_⟩
end Go.Proofs.Yteofdgonpbmdlaa.C
namespace Go.Proofs.Yteofdgonpbmdlaa.R
open Go.RowKit Go.Maps Go.Proofs.YteofdgonpbmdlaaW.PrintWords Go.Proofs.YteofdgonpbmdlaaW.PrintLast Go.Proofs.YteofdgonpbmdlaaW.PrintMore Go.Proofs.Yteofdgonpbmdlaa.C Go.Proofs.Yteofdgonpbmdlaa.St Go.Proofs.Yteofdgonpbmdlaa.Pure
attribute [local go_sem] max2_int min2_int max2_str min2_str str_leq str_gtr str_geq max_two min_two max_three min_three max_four min_four
/-- The ref's store as plain data. -/
structure RS where
  l0 : Int
  l1 : Int
  l2 : Int
  l3 : Int
  l4 : Int
  l5 : Int
  last : Int
  time : Int
  K : List S109
def rCells (r : RS) (v : Value) : Array Value := #[.int .i64 r.l0, .int .i64 r.l1, .int .i64 r.l2, .int .i64 r.l3, .int .i64 r.l4, .int .i64 r.l5, .int .u64 r.last, .int .u64 r.time, v]
/-- The ref's store at p; its rows lie in blocks of ok, other than p. -/
structure RAt (W : World) (ok : Nat → Prop) (p : Nat) (r : RS) (A : Option Addr) (c : Nat) : Prop where
  cells : W.heap[p]? = some (.cells (rCells r (.slice A r.K.length c)) 84 (0, 0))
  cap : r.K.length ≤ c
  row : Kd.F k109 W (fun k => ok k ∧ k ≠ p) A r.K.length r.K
section
variable {W W1 : World} {ok ok' : Nat → Prop} {p : Nat} {r : RS} {A : Option Addr} {c : Nat}
theorem RAt.lt (h : RAt W ok p r A c) : p < W.heap.size := blk_lt h.cells
theorem RAt.step (h : RAt W ok p r A c) (hp : W1.heap[p]? = W.heap[p]?) (hk : ∀ k, ok k → k ≠ p → k < W.heap.size → W1.heap[k]? = W.heap[k]?) : RAt W1 ok p r A c :=
  ⟨hp.trans h.cells, h.cap, Kd.F_step h.row (fun k hk_ hl => hk k hk_.1 hk_.2 hl)⟩
theorem RAt.below (h : RAt W ok p r A c) (hb : Below W.heap.size W W1) : RAt W1 ok p r A c := h.step (hb.block p h.lt) (fun k _ _ hl => hb.block k hl)
theorem RAt.mono (h : RAt W ok p r A c) (hk : ∀ k, ok k → k < W.heap.size → ok' k) : RAt W ok' p r A c :=
  ⟨h.cells, h.cap, Kd.F_mono (Kd.F_bound h.row) (fun k hk_ => ⟨hk k hk_.1.1 hk_.2, hk_.1.2⟩)⟩
theorem RAt.c8 (h : RAt W ok p r A c) : W.cell? ⟨p, 8, none⟩ = some (.slice A r.K.length c) := (blk_cell h.cells 8).trans rfl
theorem RAt.c7 (h : RAt W ok p r A c) : W.cell? ⟨p, 7, none⟩ = some (.int .u64 r.time) := (blk_cell h.cells 7).trans rfl
theorem RAt.c6 (h : RAt W ok p r A c) : W.cell? ⟨p, 6, none⟩ = some (.int .u64 r.last) := (blk_cell h.cells 6).trans rfl
theorem RAt.c0 (h : RAt W ok p r A c) : W.cell? ⟨p, 0, none⟩ = some (.int .i64 r.l0) := (blk_cell h.cells 0).trans rfl
theorem RAt.c1 (h : RAt W ok p r A c) : W.cell? ⟨p, 1, none⟩ = some (.int .i64 r.l1) := (blk_cell h.cells 1).trans rfl
theorem RAt.c2 (h : RAt W ok p r A c) : W.cell? ⟨p, 2, none⟩ = some (.int .i64 r.l2) := (blk_cell h.cells 2).trans rfl
end
def chK : List S109 → ByteArray → List S28
  | [], _ => []
  | x :: t, key => if x.f0 = key then x.f1 else chK t key
theorem drop_109 (l : List S109) (i : Nat) (h : i < l.length) : l.drop i = l[i] :: l.drop (i + 1) := List.drop_eq_getElem_cons h
theorem streq_t {a b : ByteArray} (h : a = b) : (a.toList == b.toList) = true := by rw [h]; simp
theorem streq_f {a b : ByteArray} (h : ¬ a = b) : (a.toList == b.toList) = false := by
  cases e : (a.toList == b.toList) with
  | false => rfl
  | true => exact absurd (key_inj (by simpa using e)) h
set_option maxRecDepth 100000 in
set_option maxHeartbeats 8000000 in
theorem ref_Chain {W : World} {ok : Nat → Prop} {p : Nat} {r : RS} {A : Option Addr} {c : Nat} (h : Aside0 (RAt W ok p r A c)) (key : ByteArray) (hl : Aside0 (r.K.length ≤ 1000000)) :
    Calls Try.prog 59 #[.pointer (some ⟨p, 0, none⟩), .string key] W fun e w' => (∃ A2 c2, e = .returned (.slice A2 (chK r.K key).length c2) ∧ (chK r.K key).length ≤ c2 ∧ Kd.F k28 w' (fun k => ok k ∧ k ≠ p) A2 (chK r.K key).length (chK r.K key)) ∧ Below W.heap.size W w' := by
  have h8 := h.out.c8
  have HB0 := Aside0.mk (Below.refl W.heap.size W)
  go_enter Try.func59, Try.ntmps59
  go_wp2
  clear h8
  go_loopw [12] (fun vi wr => ∃ i : Nat, vi = .int .i64 i ∧ i ≤ r.K.length ∧ Aside0 (chK (r.K.drop i) key = chK r.K key) ∧ Aside0 (Below W.heap.size W wr)) (fun vi _ => r.K.length - (intOf vi).toNat)
  case atStart => exact ⟨0, rfl, Nat.zero_le _, ⟨rfl⟩, HB0⟩
  case round =>
    clear HB0
    obtain ⟨i, rfl, hi1, HD, HB⟩ := hrel
    by_cases hlt : i < r.K.length
    · have hi4 : i < 1000000 := by have := hl.out; omega
      have HR := Aside0.mk (h.out.below HB.out)
      obtain ⟨ad, ce_, rfl, hcl_, hFK, hcc, hok⟩ := Kd.F_get HR.out.row z109 (i : Int) (by omega) (by omega)
      rw [show r.K.getD (i : Int).toNat z109 = r.K[i] by simp [List.getD, List.getElem?_eq_getElem hlt]] at hFK
      obtain ⟨x, hx⟩ : ∃ x, r.K[i] = x := ⟨_, rfl⟩
      rw [hx] at hFK
      obtain ⟨A2, c2, rfl, hl2, hg2⟩ := k109_openF hFK
      have e0 : wr.cell? (ad.add (i * 2)) = some (.string x.f0) := hcc 0 _ rfl
      have e1 : wr.cell? ⟨(ad.add (i * 2)).block, (ad.add (i * 2)).off + 1, none⟩ = some (.slice A2 x.f1.length c2) := by rw [← add_field _ _ 1 (by omega)]; exact hcc 1 _ rfl
      have HG2 := Aside0.mk hg2
      have HL2 := Aside0.mk hl2
      have hmem : x ∈ r.K := hx ▸ List.getElem_mem hlt
      have HX := Aside0.mk hx
      clear hcl_ hFK hcc hok hl2 hg2 hx
      have hd : chK (x :: r.K.drop (i + 1)) key = chK r.K key := by rw [← HX.out, ← drop_109 _ _ hlt]; exact HD.out
      have HD' := Aside0.mk hd
      clear hd HD
      by_cases hk : x.f0 = key
      · have hkb := streq_t hk
        have HK := Aside0.mk (show chK r.K key = x.f1 by rw [← HD'.out]; exact if_pos hk)
        clear hk
        go_wp2_with (first
          | ((with_reducible refine gate_dst (N := 6) rfl ?_); refine box_event ?hg (N := 6) ?hd (cs := #[.string ⟨#[]⟩, .slice none 0 0]) (t := 109) ?hr ?_; (case hd => rfl); (case hg => rfl); (case hr => first | (go_simp; done) | (go_simp; rfl)); intro g7 hg wax hbox hb; have HBa := Aside0.mk hb; have GEx := Aside0.mk (show wr.heap.size ≤ g7 by rw [hg]; exact Nat.le_refl _); have BKa := Aside0.mk hbox; have z0 := (blk_cell hbox 0).trans (show _ = some (Value.string ⟨#[]⟩) from rfl); have y0 := blk_frozen hbox 0; have z1 := (blk_cell hbox 1).trans (show _ = some (Value.slice none 0 0) from rfl); have y1 := blk_frozen hbox 1; clear hbox hb hg)
          | ((with_reducible refine gate_store (t := 109) (p := 6) rfl ?_); refine store_event (t := 109) (p := 6) (v := ?vo1_) (w1 := (wax.setCell ⟨g7, 0, none⟩ (.string x.f0)).setCell ⟨g7, 1, none⟩ (.slice A2 x.f1.length c2)) ?hg ?ho ?hn ?hr ?_; (case ho => rfl); (case hg => rfl); (case hn => rfl); (case hr => first | (go_simp; done) | (go_simp; rfl)); intro wb hw; have HBx := Aside0.mk (show Below wr.heap.size wr wb by rw [hw]; exact (below_set (below_set HBa.out GEx.out) GEx.out)); have BKx := Aside0.mk (show wb.heap[g7]? = some (.cells #[.string x.f0, .slice A2 x.f1.length c2] 109 (0, 0)) by rw [hw]; exact (blk_put (blk_put BKa.out 0 _ rfl) 1 _ rfl)); clear hw z0 y0 z1 y1 HBa BKa e0 e1; have qx0 := (blk_cell BKx.out 0).trans (show _ = some (Value.string x.f0) from rfl); have fx0 := blk_frozen BKx.out 0; have qx1 := (blk_cell BKx.out 1).trans (show _ = some (Value.slice A2 x.f1.length c2) from rfl); have fx1 := blk_frozen BKx.out 1))
        go_ret
        rw [HK.out]
        exact ⟨⟨A2, c2, rfl, HL2.out, Kd.F_below HG2.out HBx.out⟩, below_step HB.out HBx.out⟩
      · have hkb := streq_f hk
        have HK := Aside0.mk (show chK (r.K.drop (i + 1)) key = chK r.K key by rw [← HD'.out]; exact (if_neg hk).symm)
        clear hk
        go_wp2_with (first
          | ((with_reducible refine gate_dst (N := 6) rfl ?_); refine box_event ?hg (N := 6) ?hd (cs := #[.string ⟨#[]⟩, .slice none 0 0]) (t := 109) ?hr ?_; (case hd => rfl); (case hg => rfl); (case hr => first | (go_simp; done) | (go_simp; rfl)); intro g7 hg wax hbox hb; have HBa := Aside0.mk hb; have GEx := Aside0.mk (show wr.heap.size ≤ g7 by rw [hg]; exact Nat.le_refl _); have BKa := Aside0.mk hbox; have z0 := (blk_cell hbox 0).trans (show _ = some (Value.string ⟨#[]⟩) from rfl); have y0 := blk_frozen hbox 0; have z1 := (blk_cell hbox 1).trans (show _ = some (Value.slice none 0 0) from rfl); have y1 := blk_frozen hbox 1; clear hbox hb hg)
          | ((with_reducible refine gate_store (t := 109) (p := 6) rfl ?_); refine store_event (t := 109) (p := 6) (v := ?vo1_) (w1 := (wax.setCell ⟨g7, 0, none⟩ (.string x.f0)).setCell ⟨g7, 1, none⟩ (.slice A2 x.f1.length c2)) ?hg ?ho ?hn ?hr ?_; (case ho => rfl); (case hg => rfl); (case hn => rfl); (case hr => first | (go_simp; done) | (go_simp; rfl)); intro wb hw; have HBx := Aside0.mk (show Below wr.heap.size wr wb by rw [hw]; exact (below_set (below_set HBa.out GEx.out) GEx.out)); have BKx := Aside0.mk (show wb.heap[g7]? = some (.cells #[.string x.f0, .slice A2 x.f1.length c2] 109 (0, 0)) by rw [hw]; exact (blk_put (blk_put BKa.out 0 _ rfl) 1 _ rfl)); clear hw z0 y0 z1 y1 HBa BKa e0 e1; have qx0 := (blk_cell BKx.out 0).trans (show _ = some (Value.string x.f0) from rfl); have fx0 := blk_frozen BKx.out 0; have qx1 := (blk_cell BKx.out 1).trans (show _ = some (Value.slice A2 x.f1.length c2) from rfl); have fx1 := blk_frozen BKx.out 1))
        go_round
        case rel => exact ⟨i + 1, by go_num, hlt, HK, ⟨below_step HB.out HBx.out⟩⟩
        case measure => simp [intOf]; omega
    · have HK := Aside0.mk (show chK r.K key = [] by rw [← HD.out, List.drop_eq_nil_of_le (by omega)]; rfl)
      go_wp2
      go_ret
      rw [HK.out]
      exact ⟨⟨none, 0, rfl, Nat.le_refl _, Kd.F_nil _ _ _⟩, HB.out⟩
set_option maxRecDepth 100000 in
set_option maxHeartbeats 8000000 in
theorem ref_Read {W : World} {ok : Nat → Prop} {p : Nat} {r : RS} {A : Option Addr} {c : Nat} (h : Aside0 (RAt W ok p r A c)) (key : ByteArray) (hl : Aside0 (r.K.length ≤ 1000000)) (a : Int) (g : List Int × Bool) (hg : Aside0 (∃ k, conductorref07_Get.f k (chK r.K key) a = some g)) :
    Calls Try.prog 79 #[.pointer (some ⟨p, 0, none⟩), .string key, .int .u64 a] W fun e w' => (∃ A2 c2, e = .returned (.tuple #[.slice A2 g.1.length c2, .bool g.2]) ∧ g.1.length ≤ c2 ∧ Kd.F (Kd.int .u8) w' (fun k => ok k ∨ W.heap.size ≤ k) A2 g.1.length g.1) ∧ Below W.heap.size W w' := by
  obtain ⟨L, hL⟩ : ∃ L, chK r.K key = L := ⟨_, rfl⟩
  have HCH := Aside0.mk (ref_Chain h key hl)
  rw [hL] at HCH hg
  obtain ⟨k_, hg_⟩ := hg.out
  have HG := Aside0.mk hg_
  clear hL hg hg_
  go_enter Try.func79, Try.ntmps79
  go_wp2_with (first
    | (go_at_call 59; (with_reducible refine HCH.out.mono ?_); rintro e w1 ⟨⟨A1, c1, rfl, hl1, hF1⟩, hb⟩; have HF1 := Aside0.mk hF1; have HL1 := Aside0.mk hl1; have HB1 := Aside0.mk hb; clear hF1 hl1 hb)
    | (go_at_call 23; (with_reducible refine (conductorref07_Get.calls k_ (fun k => ok k ∧ k ≠ p) _ _ L a g.1 g.2 _ ?s0 HG.out).mono ?_); (case s0 => exact Kd.V_mk HL1.out HF1.out); rintro e w2 ⟨v2, rfl, hv, hb⟩; obtain ⟨A2, c2, rfl, hl2, hF2⟩ := hv; have HF2 := Aside0.mk hF2; have HL2 := Aside0.mk hl2; have HB2 := Aside0.mk (below_step HB1.out hb); clear hF2 hl2 hb))
  go_ret2
  exact ⟨⟨_, _, rfl, HL2.out, Kd.F_mono HF2.out (fun k hk => hk.elim (fun q => .inl q.1) (fun q => .inr (Nat.le_trans HB1.out.size q)))⟩, HB2.out⟩
set_option maxRecDepth 100000 in
set_option maxHeartbeats 8000000 in
theorem ref_Latest {W : World} {ok : Nat → Prop} {p : Nat} {r : RS} {A : Option Addr} {c : Nat} (h : Aside0 (RAt W ok p r A c)) (key : ByteArray) (hl : Aside0 (r.K.length ≤ 1000000)) (g : Int) (hg : Aside0 (∃ k, conductorref07_Last.f k (chK r.K key) = some g)) :
    Calls Try.prog 80 #[.pointer (some ⟨p, 0, none⟩), .string key] W fun e w' => e = .returned (.int .u64 g) ∧ Below W.heap.size W w' := by
  obtain ⟨L, hL⟩ : ∃ L, chK r.K key = L := ⟨_, rfl⟩
  have HCH := Aside0.mk (ref_Chain h key hl)
  rw [hL] at HCH hg
  obtain ⟨k_, hg_⟩ := hg.out
  have HG := Aside0.mk hg_
  clear hL hg hg_
  go_enter Try.func80, Try.ntmps80
  go_wp2_with (first
    | (go_at_call 59; (with_reducible refine HCH.out.mono ?_); rintro e w1 ⟨⟨A1, c1, rfl, hl1, hF1⟩, hb⟩; have HF1 := Aside0.mk hF1; have HL1 := Aside0.mk hl1; have HB1 := Aside0.mk hb; clear hF1 hl1 hb)
    | (go_at_call 27; (with_reducible refine (conductorref07_Last.calls k_ _ _ L g _ ?s0 HL1.out HG.out).mono ?_); (case s0 => exact Kd.F_now HF1.out); rintro e w2 ⟨rfl, hb⟩; have HB2 := Aside0.mk (below_step HB1.out hb); clear hb))
  go_ret
  exact ⟨rfl, HB2.out⟩
def putK (l : List S109) (key : ByteArray) (ch : List S28) : List S109 :=
  l.filter (fun y => Op.bytesLess y.f0.toList key.toList) ++ (if ch.length = 0 then [] else [⟨key, ch⟩]) ++ l.filter (fun y => Op.bytesLess key.toList y.f0.toList)
def withK (g : S102 → List Int × Bool) (pf : S102 → List S28) : List S109 → List S102 → List S109
  | K, [] => K
  | K, x :: t => withK g pf (if x.f1 = true ∧ (g x).2 = false then K else putK K x.f0 (pf x)) t
theorem putK_len (l : List S109) (key : ByteArray) (ch : List S28) (h : ∀ a b : List UInt8, ¬ (Op.bytesLess a b = true ∧ Op.bytesLess b a = true)) : (putK l key ch).length ≤ l.length + 1 := by
  have h1 : (l.filter (fun y => Op.bytesLess y.f0.toList key.toList)).length + (l.filter (fun y => Op.bytesLess key.toList y.f0.toList)).length ≤ l.length := by
    induction l with
    | nil => simp
    | cons x t ih =>
      have := h x.f0.toList key.toList
      cases e1 : Op.bytesLess x.f0.toList key.toList <;> cases e2 : Op.bytesLess key.toList x.f0.toList <;> simp_all <;> omega
  unfold putK
  simp only [List.length_append]
  have h2 : ((if ch.length = 0 then [] else [⟨key, ch⟩]) : List S109).length ≤ 1 := by split <;> simp
  omega
theorem bl_asym (a b : List UInt8) : ¬ (Op.bytesLess a b = true ∧ Op.bytesLess b a = true) := by
  rintro ⟨h1, h2⟩
  rw [Proofs.bytesLess_eq] at h1 h2
  exact lti _ (ltt (of_decide_eq_true h1) (of_decide_eq_true h2))
/-- What `put` of the ref computes, and no more than that is asked of it. -/
theorem RAt.put8 {W : World} {ok ok' : Nat → Prop} {p : Nat} {r : RS} {A : Option Addr} {c : Nat} (h : RAt W ok p r A c) {K : List S109} {A2 : Option Addr} {c2 : Nat} (hc : K.length ≤ c2) (hF : Kd.F k109 W (fun k => ok' k ∧ k ≠ p) A2 K.length K) : RAt (W.setCell ⟨p, 8, none⟩ (.slice A2 K.length c2)) ok' p { r with K := K } A2 c2 :=
  ⟨blk_put h.cells 8 _ rfl, hc, Kd.F_far (p := ⟨p, 8, none⟩) hF (fun _ hk => hk.2) _⟩
theorem RAt.put7 {W : World} {ok : Nat → Prop} {p : Nat} {r : RS} {A : Option Addr} {c : Nat} (h : RAt W ok p r A c) (T : Int) : RAt (W.setCell ⟨p, 7, none⟩ (.int .u64 T)) ok p { r with time := T } A c :=
  ⟨blk_put h.cells 7 _ rfl, h.cap, Kd.F_far (p := ⟨p, 7, none⟩) h.row (fun _ hk => hk.2) _⟩
theorem ref_put {W : World} {okA okB : Nat → Prop} {A : Option Addr} {c : Nat} {l : List S109} (hF : Kd.F k109 W okA A l.length l) (hc : l.length ≤ c) (key : ByteArray) {B : Option Addr} {cb : Nat} {ch : List S28} (hG : Kd.F k28 W okB B ch.length ch) (hcb : ch.length ≤ cb) {R : List S109} (hp : ∃ k, conductorref08_put.f k l key ch = some R) :
    Calls Try.prog 91 #[.slice A l.length c, .agg #[.string key, .slice B ch.length cb]] W fun e w' => (∃ A2 c2, e = .returned (.slice A2 R.length c2) ∧ R.length ≤ c2 ∧ ∀ w3, Below w'.heap.size w' w3 → Kd.F k109 w3 (fun k => (okA k ∨ okB k) ∨ W.heap.size ≤ k) A2 R.length R) ∧ Below W.heap.size W w' := by
  obtain ⟨k, hk⟩ := hp
  refine (conductorref08_put.calls k okA A c l key okB B cb ch R W (Kd.V_mk hc hF) (Kd.V_mk hcb hG) hk).mono ?_
  rintro e w' ⟨v, rfl, hn, hb⟩
  obtain ⟨A2, c2, rfl⟩ := Kd.N_slice hn
  exact ⟨⟨A2, c2, rfl, (Kd.N_reads' hn).2.1, fun w3 h3 => Kd.F_below (Kd.N_F hn) h3⟩, hb⟩
theorem ref_chain_put {W : World} {okA okB : Nat → Prop} {A : Option Addr} {c : Nat} {l : List S28} (hF : Kd.F k28 W okA A l.length l) (hc : l.length ≤ c) (T : Int) (gone : Bool) {B : Option Addr} {cb : Nat} {d : List Int} (hG : Kd.F (Kd.int .u8) W okB B d.length d) (hcb : d.length ≤ cb) {R : List S28 × Int} (hp : ∃ k, conductorref07_Put.f k l T gone d = some R) :
    Calls Try.prog 29 #[.slice A l.length c, .agg #[.int .u64 T, .bool gone, .slice B d.length cb]] W fun e w' => (∃ A2 c2, e = .returned (.tuple #[.slice A2 R.1.length c2, .int .i64 R.2]) ∧ R.1.length ≤ c2 ∧ ∀ w3, Below w'.heap.size w' w3 → Kd.F k28 w3 (fun k => (okA k ∨ okB k) ∨ W.heap.size ≤ k) A2 R.1.length R.1) ∧ Below W.heap.size W w' := by
  obtain ⟨k, hk⟩ := hp
  refine (conductorref07_Put.calls k okA A c l T gone okB B cb d R.1 R.2 W (Kd.V_mk hc hF) (Kd.V_mk hcb hG) hk).mono ?_
  rintro e w' ⟨v, rfl, hn, hb⟩
  obtain ⟨A2, c2, rfl⟩ := Kd.N_slice hn
  exact ⟨⟨A2, c2, rfl, (Kd.N_reads' hn).2.1, fun w3 h3 => Kd.F_below (Kd.N_F hn) h3⟩, hb⟩
theorem step_102 (l : List S102) (i : Nat) (h : i < l.length) : l.drop i = l[i] :: l.drop (i + 1) := List.drop_eq_getElem_cons h
set_option maxRecDepth 100000 in
set_option maxHeartbeats 8000000 in
theorem ref_with {W : World} {ok : Nat → Prop} {p : Nat} {r : RS} {A : Option Addr} {c : Nat} (h : Aside0 (RAt W ok p r A c)) (A1 : Option Addr) (c1 : Nat) (l : List S102) (hF : Aside0 (Kd.F k102 W (fun k => ok k ∧ k ≠ p) A1 l.length l)) (hl : Aside0 (l.length ≤ 1000)) (hK : Aside0 (r.K.length ≤ 50000))
    (g : S102 → List Int × Bool) (hg : Aside0 (∀ x ∈ l, ∃ k, conductorref07_Get.f k (chK r.K x.f0) r.time = some (g x))) (T : Int) (hT : Aside0 (IntKind.u64.wrap (r.time + 1) = T)) (pf : S102 → List S28) (hp : Aside0 (∀ x ∈ l, ¬ (x.f1 = true ∧ (g x).2 = false) → ∃ k ez, conductorref07_Put.f k (chK r.K x.f0) T x.f1 x.f2 = some (pf x, ez)))
    (hq : Aside0 (∀ (K : List S109) (key : ByteArray) (ch : List S28), K.length ≤ 100000 → ∃ k, conductorref08_put.f k K key ch = some (putK K key ch))) :
    Calls Try.prog 89 #[.pointer (some ⟨p, 0, none⟩), .slice A1 l.length c1] W fun e w' => (∃ p2 A2 c2, e = .returned (.pointer (some ⟨p2, 0, none⟩)) ∧ W.heap.size ≤ p2 ∧ RAt w' (fun k => (ok k ∧ k ≠ p) ∨ W.heap.size ≤ k) p2 { r with time := T, K := withK g pf r.K l } A2 c2 ∧ (withK g pf r.K l).length ≤ r.K.length + l.length) ∧ Below W.heap.size W w' := by
  have h20 : ∀ w' : World, (w'.cell? ⟨p, 0, none⟩ = some (.int .i64 r.l0) ∧ w'.cell? ⟨p, 1, none⟩ = some (.int .i64 r.l1) ∧ w'.cell? ⟨p, 2, none⟩ = some (.int .i64 r.l2) ∧ w'.cell? ⟨p, 3, none⟩ = some (.int .i64 r.l3) ∧ w'.cell? ⟨p, 4, none⟩ = some (.int .i64 r.l4) ∧ w'.cell? ⟨p, 5, none⟩ = some (.int .i64 r.l5) ∧ w'.cell? ⟨p, 6, none⟩ = some (.int .u64 r.last) ∧ w'.cell? ⟨p, 7, none⟩ = some (.int .u64 r.time) ∧ w'.cell? ⟨p, 8, none⟩ = some (.slice A r.K.length c) ∧ Below W.heap.size W w') → Below W.heap.size W w' := fun _ h_ => h_.2.2.2.2.2.2.2.2.2
  have H20 := Aside0.mk h20
  have k20 : ∀ w' : World, Below W.heap.size W w' → (w'.cell? ⟨p, 0, none⟩ = some (.int .i64 r.l0) ∧ w'.cell? ⟨p, 1, none⟩ = some (.int .i64 r.l1) ∧ w'.cell? ⟨p, 2, none⟩ = some (.int .i64 r.l2) ∧ w'.cell? ⟨p, 3, none⟩ = some (.int .i64 r.l3) ∧ w'.cell? ⟨p, 4, none⟩ = some (.int .i64 r.l4) ∧ w'.cell? ⟨p, 5, none⟩ = some (.int .i64 r.l5) ∧ w'.cell? ⟨p, 6, none⟩ = some (.int .u64 r.last) ∧ w'.cell? ⟨p, 7, none⟩ = some (.int .u64 r.time) ∧ w'.cell? ⟨p, 8, none⟩ = some (.slice A r.K.length c) ∧ Below W.heap.size W w') := fun w' hb_ => ⟨pw_cell_below hb_ ((blk_cell h.out.cells 0).trans rfl), pw_cell_below hb_ ((blk_cell h.out.cells 1).trans rfl), pw_cell_below hb_ ((blk_cell h.out.cells 2).trans rfl), pw_cell_below hb_ ((blk_cell h.out.cells 3).trans rfl), pw_cell_below hb_ ((blk_cell h.out.cells 4).trans rfl), pw_cell_below hb_ ((blk_cell h.out.cells 5).trans rfl), pw_cell_below hb_ ((blk_cell h.out.cells 6).trans rfl), pw_cell_below hb_ ((blk_cell h.out.cells 7).trans rfl), pw_cell_below hb_ ((blk_cell h.out.cells 8).trans rfl), hb_⟩
  have K20 := Aside0.mk k20
  clear h20 k20
  have htw : IntKind.u64.wrap (r.time + 1) = T := hT.out
  go_enter Try.func89, Try.ntmps89
  go_wp2
  go_cut [5] (fun v5 wc => ∃ p2 : Nat, v5 = .pointer (some ⟨p2, 0, none⟩) ∧ Aside0 (W.heap.size ≤ p2) ∧ Aside0 (RAt wc (fun k => (ok k ∧ k ≠ p) ∨ W.heap.size ≤ k) p2 { r with time := T } A c) ∧ Aside0 (Below W.heap.size W wc))
  case first =>
    go_region_held3 (fun w' : World => (w'.cell? ⟨p, 0, none⟩ = some (.int .i64 r.l0) ∧ w'.cell? ⟨p, 1, none⟩ = some (.int .i64 r.l1) ∧ w'.cell? ⟨p, 2, none⟩ = some (.int .i64 r.l2) ∧ w'.cell? ⟨p, 3, none⟩ = some (.int .i64 r.l3) ∧ w'.cell? ⟨p, 4, none⟩ = some (.int .i64 r.l4) ∧ w'.cell? ⟨p, 5, none⟩ = some (.int .i64 r.l5) ∧ w'.cell? ⟨p, 6, none⟩ = some (.int .u64 r.last) ∧ w'.cell? ⟨p, 7, none⟩ = some (.int .u64 r.time) ∧ w'.cell? ⟨p, 8, none⟩ = some (.slice A r.K.length c) ∧ Below W.heap.size W w')) (first | exact K20.out _ (below_drew1 (Below.refl _ _)) | exact K20.out _ (below_step (H20.out _ (by assumption)) hb2) | assumption | exact K20.out _ (below_alloc (below_drew1 (Below.refl _ _)) _)) (fail)
    all_goals ((try go_wp2); go_meet)
    case rel =>
      refine ⟨W.drew.heap.size, rfl, ⟨Nat.le_refl _⟩, ⟨⟨heap_alloc_new _ _, h.out.cap, ?_⟩⟩, ⟨below_alloc (below_drew1 (Below.refl _ _)) _⟩⟩
      exact Kd.F_mono (Kd.F_below (Kd.F_bound h.out.row) (below_alloc (below_drew1 (Below.refl _ _)) _)) (fun k hk_ => ⟨.inl hk_.1, fun e => by have h1_ := hk_.2; have h2_ : W.drew.heap.size = W.heap.size := rfl; omega⟩)
  case rest =>
    obtain ⟨p2, rfl, GP2, HR0, HB0⟩ := hcut
    clear K20 H20
    go_wp2
    go_loopw [29] (fun vi wr => ∃ (i : Nat) (Kq : List S109) (Aq : Option Addr) (cq : Nat), vi = .int .i64 i ∧ i ≤ l.length ∧ Kq.length ≤ r.K.length + i ∧ Aside0 (withK g pf Kq (l.drop i) = withK g pf r.K l) ∧ Aside0 (RAt wr (fun k => (ok k ∧ k ≠ p) ∨ W.heap.size ≤ k) p2 { r with time := T, K := Kq } Aq cq) ∧ Aside0 (Below W.heap.size W wr)) (fun vi _ => l.length - (intOf vi).toNat)
    case atStart => exact ⟨0, r.K, A, c, rfl, Nat.zero_le _, Nat.le_refl _, ⟨rfl⟩, HR0, HB0⟩
    case round =>
      clear HR0 HB0
      obtain ⟨i, Kq, Aq, cq, rfl, hi1, hkq, HD, HR, HB⟩ := hrel
      by_cases hlt : i < l.length
      · have hi4 : i < 1000 := by have := hl.out; omega
        have HFr := Aside0.mk (Kd.F_below (Kd.F_bound hF.out) HB.out)
        obtain ⟨ad, ce_, rfl, hcl_, hFK, hcc, hok⟩ := Kd.F_get HFr.out z102 (i : Int) (by omega) (by omega)
        rw [show l.getD (i : Int).toNat z102 = l[i] by simp [List.getD, List.getElem?_eq_getElem hlt]] at hFK
        obtain ⟨x, hx⟩ : ∃ x, l[i] = x := ⟨_, rfl⟩
        rw [hx] at hFK
        obtain ⟨A2, c2, rfl, hl2, hg2⟩ := k102_openF hFK
        have e0 : wr.cell? (ad.add (i * 3)) = some (.string x.f0) := hcc 0 _ rfl
        have e1 : wr.cell? ⟨(ad.add (i * 3)).block, (ad.add (i * 3)).off + 1, none⟩ = some (.bool x.f1) := by rw [← add_field _ _ 1 (by omega)]; exact hcc 1 _ rfl
        have e2 : wr.cell? ⟨(ad.add (i * 3)).block, (ad.add (i * 3)).off + 2, none⟩ = some (.slice A2 x.f2.length c2) := by rw [← add_field _ _ 2 (by omega)]; exact hcc 2 _ rfl
        have HG2 := Aside0.mk hg2
        have HL2 := Aside0.mk hl2
        have hmem : x ∈ l := hx ▸ List.getElem_mem hlt
        have hd : withK g pf Kq (x :: l.drop (i + 1)) = withK g pf r.K l := by rw [← hx, ← step_102 _ _ hlt]; exact HD.out
        have HD' := Aside0.mk hd
        obtain ⟨gx, hgx⟩ : ∃ gx, g x = gx := ⟨_, rfl⟩
        have HG1 := Aside0.mk (show ∃ k, conductorref07_Get.f k (chK r.K x.f0) r.time = some gx from hgx ▸ hg.out x hmem)
        have HP1 := Aside0.mk (hp.out x hmem)
        have HGX := Aside0.mk hgx
        rw [hgx] at HP1
        clear hcl_ hFK hcc hok hl2 hg2 hx hd HD hmem hgx
        go_wp2_with (first
          | ((with_reducible refine gate_dst (N := 7) rfl ?_); refine box_event ?hg (N := 7) ?hd (cs := #[.string ⟨#[]⟩, .bool false, .slice none 0 0]) (t := 102) ?hr ?_; (case hd => rfl); (case hg => rfl); (case hr => first | (go_simp; done) | (go_simp; rfl)); intro g7 hg wax hbox hb; have HBa := Aside0.mk hb; have GEx := Aside0.mk (show wr.heap.size ≤ g7 by rw [hg]; exact Nat.le_refl _); have BKa := Aside0.mk hbox; have z0 := (blk_cell hbox 0).trans (show _ = some (Value.string ⟨#[]⟩) from rfl); have y0 := blk_frozen hbox 0; have z1 := (blk_cell hbox 1).trans (show _ = some (Value.bool false) from rfl); have y1 := blk_frozen hbox 1; have z2 := (blk_cell hbox 2).trans (show _ = some (Value.slice none 0 0) from rfl); have y2 := blk_frozen hbox 2; clear hbox hb hg)
          | ((with_reducible refine gate_store (t := 102) (p := 7) rfl ?_); refine store_event (t := 102) (p := 7) (v := ?vo1_) (w1 := ((wax.setCell ⟨g7, 0, none⟩ (.string x.f0)).setCell ⟨g7, 1, none⟩ (.bool x.f1)).setCell ⟨g7, 2, none⟩ (.slice A2 x.f2.length c2)) ?hg ?ho ?hn ?hr ?_; (case ho => rfl); (case hg => rfl); (case hn => rfl); (case hr => first | (go_simp; done) | (go_simp; rfl)); intro wb hw; have HBx := Aside0.mk (show Below wr.heap.size wr wb by rw [hw]; exact (below_set (below_set (below_set HBa.out GEx.out) GEx.out) GEx.out)); have BKx := Aside0.mk (show wb.heap[g7]? = some (.cells #[.string x.f0, .bool x.f1, .slice A2 x.f2.length c2] 102 (0, 0)) by rw [hw]; exact (blk_put (blk_put (blk_put BKa.out 0 _ rfl) 1 _ rfl) 2 _ rfl)); clear hw z0 y0 z1 y1 z2 y2 HBa BKa e0 e1 e2; have qx0 := (blk_cell BKx.out 0).trans (show _ = some (Value.string x.f0) from rfl); have fx0 := blk_frozen BKx.out 0; have qx1 := (blk_cell BKx.out 1).trans (show _ = some (Value.bool x.f1) from rfl); have fx1 := blk_frozen BKx.out 1; have qx2 := (blk_cell BKx.out 2).trans (show _ = some (Value.slice A2 x.f2.length c2) from rfl); have fx2 := blk_frozen BKx.out 2; have HBb := Aside0.mk (below_step HB.out HBx.out); have t7_ := (h.out.below HBb.out).c7; have HRb := Aside0.mk (HR.out.below HBx.out); have HGb := Aside0.mk (Kd.F_below HG2.out HBx.out)))
        clear fx0 fx1 fx2
        have k20 : ∀ w' : World, Below wb.heap.size wb w' → (w'.cell? ⟨g7, 0, none⟩ = some (.string x.f0) ∧ w'.cell? ⟨g7, 1, none⟩ = some (.bool x.f1) ∧ w'.cell? ⟨g7, 2, none⟩ = some (.slice A2 x.f2.length c2) ∧ w'.cell? ⟨p, 7, none⟩ = some (.int .u64 r.time) ∧ Below wb.heap.size wb w') := fun w' hb_ => ⟨pw_cell_below hb_ qx0, pw_cell_below hb_ qx1, pw_cell_below hb_ qx2, pw_cell_below hb_ t7_, hb_⟩
        have K20 := Aside0.mk k20
        have H20 := Aside0.mk (show ∀ w' : World, (w'.cell? ⟨g7, 0, none⟩ = some (.string x.f0) ∧ w'.cell? ⟨g7, 1, none⟩ = some (.bool x.f1) ∧ w'.cell? ⟨g7, 2, none⟩ = some (.slice A2 x.f2.length c2) ∧ w'.cell? ⟨p, 7, none⟩ = some (.int .u64 r.time) ∧ Below wb.heap.size wb w') → Below wb.heap.size wb w' from fun _ h_ => h_.2.2.2.2)
        have RK := Aside0.mk (show ∀ w' : World, Below wb.heap.size wb w' → Calls Try.prog 79 #[.pointer (some ⟨p, 0, none⟩), .string x.f0, .int .u64 r.time] w' (fun e w'' => (∃ A3 c3, e = .returned (.tuple #[.slice A3 gx.1.length c3, .bool gx.2])) ∧ Below w'.heap.size w' w'') from fun w' hb_ => (ref_Read (Aside0.mk (h.out.below (below_step HBb.out hb_))) x.f0 ⟨by have := hK.out; omega⟩ r.time gx HG1).mono (fun e w'' h_ => by obtain ⟨⟨A3, c3, h1_, _⟩, h2_⟩ := h_; exact ⟨⟨A3, c3, h1_⟩, h2_⟩))
        clear k20 qx0 qx1 qx2 t7_
        go_simp
        go_region_held3 (fun w' : World => (w'.cell? ⟨g7, 0, none⟩ = some (.string x.f0) ∧ w'.cell? ⟨g7, 1, none⟩ = some (.bool x.f1) ∧ w'.cell? ⟨g7, 2, none⟩ = some (.slice A2 x.f2.length c2) ∧ w'.cell? ⟨p, 7, none⟩ = some (.int .u64 r.time) ∧ Below wb.heap.size wb w')) (first | exact K20.out _ (below_drew1 (Below.refl _ _)) | exact K20.out _ (below_step (H20.out _ (by assumption)) hb2) | assumption) (first
          | (go_at_call 79; (with_reducible refine (RK.out _ ?s1).mono ?_); (case s1 => exact H20.out _ (by assumption)); rintro e w2 ⟨⟨A3, c3, rfl⟩, hb2⟩))
        rename_i hH
        have HB2 := Aside0.mk (H20.out w2 hH)
        clear hH hb2 RK
        have q1 := (K20.out _ HB2.out).2.1
        cases hx1 : (x.f1 && !gx.2) with
        | true =>
          obtain ⟨h1_, h2_⟩ : x.f1 = true ∧ gx.2 = false := by simpa using hx1
          rw [h1_] at q1
          have HXF := Aside0.mk (And.intro h1_ h2_)
          clear hx1 h1_
          rw [h2_]
          clear h2_
          go_wp2
          go_roundw
          case measure => simp [intOf]; omega
          case rel => exact ⟨i + 1, Kq, Aq, cq, by go_num, hlt, by omega, ⟨by have h_ := HD'.out; simp only [withK] at h_; rw [HGX.out, if_pos HXF.out] at h_; exact h_⟩, ⟨HRb.out.below HB2.out⟩, ⟨below_step HBb.out HB2.out⟩⟩
        | false =>
          have HXF := Aside0.mk (show ¬ (x.f1 = true ∧ gx.2 = false) from fun q => by rw [q.1, q.2] at hx1; cases hx1)
          clear hx1
          obtain ⟨k_, ez, hput_⟩ := HP1.out HXF.out
          obtain ⟨L, hL⟩ : ∃ L, chK r.K x.f0 = L := ⟨_, rfl⟩
          have HPT := Aside0.mk (show ∃ k, conductorref07_Put.f k L T x.f1 x.f2 = some (pf x, ez) from ⟨k_, hL ▸ hput_⟩)
          have CHK := Aside0.mk (show ∀ w' : World, Below wb.heap.size wb w' → Calls Try.prog 59 #[.pointer (some ⟨p, 0, none⟩), .string x.f0] w' (fun e w'' => (∃ A4 c4, e = .returned (.slice A4 L.length c4) ∧ L.length ≤ c4 ∧ ∀ w3, Below w''.heap.size w'' w3 → Kd.F k28 w3 (fun k => (ok k ∧ k < W.heap.size) ∧ k ≠ p) A4 L.length L) ∧ Below w'.heap.size w' w'') from fun w' hb_ => (ref_Chain (Aside0.mk ((h.out.mono (ok' := fun k => ok k ∧ k < W.heap.size) (fun k hk hl => ⟨hk, hl⟩)).below (below_step HBb.out hb_))) x.f0 ⟨by have := hK.out; omega⟩).mono (fun e w'' h_ => by
            obtain ⟨⟨A4, c4, h1_, h2_, h3_⟩, h4_⟩ := h_
            rw [hL] at h1_ h2_ h3_
            exact ⟨⟨A4, c4, h1_, h2_, fun w3 hb3 => Kd.F_below h3_ hb3⟩, h4_⟩))
          have PUT := Aside0.mk (show ∀ (w' : World) (A4 : Option Addr) (c4 : Nat), L.length ≤ c4 → Kd.F k28 w' (fun k => (ok k ∧ k < W.heap.size) ∧ k ≠ p) A4 L.length L → Below wb.heap.size wb w' → Calls Try.prog 29 #[.slice A4 L.length c4, .agg #[.int .u64 T, .bool x.f1, .slice A2 x.f2.length c2]] w' (fun e w'' => (∃ A5 c5, e = .returned (.tuple #[.slice A5 (pf x).length c5, .int .i64 ez]) ∧ (pf x).length ≤ c5 ∧ ∀ w3, Below w''.heap.size w'' w3 → Kd.F k28 w3 (fun k => ((ok k ∧ k ≠ p) ∨ W.heap.size ≤ k) ∧ k ≠ p2) A5 (pf x).length (pf x)) ∧ Below w'.heap.size w' w'') from fun w' A4 c4 hc_ hF_ hb_ => (ref_chain_put hF_ hc_ T x.f1 (Kd.F_below HGb.out hb_) HL2.out HPT.out).mono (fun e w'' h_ => by
            obtain ⟨⟨A5, c5, h1_, h2_, h3_⟩, h4_⟩ := h_
            exact ⟨⟨A5, c5, h1_, h2_, fun w3 hb3 => Kd.F_mono (h3_ w3 hb3) (fun k hk_ => by
              have hz := (below_step HBb.out hb_).size
              have hp2 := HRb.out.lt
              have hs2 := hb_.size
              have h5_ := GP2.out
              rcases hk_ with (q | q) | q
              · exact ⟨.inl ⟨q.1.1, q.2⟩, fun e => by have := q.1.2; omega⟩
              · exact ⟨.inl q.1, fun e => by have := q.2; omega⟩
              · exact ⟨.inr (by omega), fun e => by omega⟩)⟩, h4_⟩))
          obtain ⟨fl, hfl⟩ : ∃ fl, x.f1 = fl := ⟨_, rfl⟩
          have HFL := Aside0.mk hfl
          rw [hfl] at q1
          clear hput_ hL hfl HP1
          have hgo : (fl && !gx.2) = false := by
            have h1_ := HXF.out
            rw [HFL.out] at h1_
            cases fl <;> cases hgz : gx.2 <;> simp_all
          cases fl with
          | false =>
            clear hgo
            go_wp2
            clear q1
            go_region_held3 (fun w' : World => (w'.cell? ⟨g7, 0, none⟩ = some (.string x.f0) ∧ w'.cell? ⟨g7, 1, none⟩ = some (.bool x.f1) ∧ w'.cell? ⟨g7, 2, none⟩ = some (.slice A2 x.f2.length c2) ∧ w'.cell? ⟨p, 7, none⟩ = some (.int .u64 r.time) ∧ Below wb.heap.size wb w')) (first | exact K20.out _ (below_drew1 HB2.out) | exact K20.out _ (below_step (H20.out _ (by assumption)) hb2) | assumption) (first
              | (go_at_call 59; (with_reducible refine (CHK.out _ ?s1).mono ?_); (case s1 => exact H20.out _ (by assumption)); rintro e w3 ⟨⟨A4, c4, rfl, hl4, hF4⟩, hb2⟩; have HF4 := Aside0.mk hF4; have HL4 := Aside0.mk hl4; clear hF4 hl4)
              | (go_at_call 29; (with_reducible refine (PUT.out _ _ _ HL4.out ?s2 ?s1).mono ?_); (case s1 => exact H20.out _ (by assumption)); (case s2 => exact HF4.out _ (by first | exact Below.refl _ _ | exact below_drew1 (Below.refl _ _))); rintro e w5 ⟨⟨A5, c5, rfl, hl5, hF5⟩, hb2⟩; have HF5 := Aside0.mk hF5; have HL5 := Aside0.mk hl5; clear hF5 hl5))
            rename_i hH
            have HB5 := Aside0.mk (H20.out w5 hH)
            clear hH hb2 CHK PUT
            go_wp2
            have HR5 := Aside0.mk (HRb.out.below HB5.out)
            have HQ := Aside0.mk (hq.out Kq x.f0 (pf x) (by have := hK.out; omega))
            have HRW := Aside0.mk (Kd.F_drew HR5.out.row)
            have HF5d := Aside0.mk (HF5.out w5.drew (below_drew1 (Below.refl _ _)))
            have d8 : w5.cell? ⟨p2, 8, none⟩ = some (.slice Aq Kq.length cq) := HR5.out.c8
            have q0 := (K20.out _ HB5.out).1
            go_region_with (go_at_call 91; (with_reducible refine (ref_put HRW.out HR5.out.cap x.f0 HF5d.out HL5.out HQ.out).mono ?_); rintro e w7 ⟨⟨A6, c6, rfl, hl6, hF6⟩, hb7⟩; have HB7 := Aside0.mk (below_step (below_drew1 (Below.refl _ _)) hb7); have HF6 := Aside0.mk (hF6 w7 (Below.refl _ _)); have HL6 := Aside0.mk hl6; clear hb7 hl6 hF6; have d8 := pw_cell_below HB7.out d8; have z8 := blk_frozen (HR5.out.below HB7.out).cells 8; have q0 := pw_cell_below HB7.out q0)
            all_goals
              go_wp2
              have HR8 := Aside0.mk ((HR5.out.below HB7.out).put8 (ok' := (fun k => (ok k ∧ k ≠ p) ∨ W.heap.size ≤ k)) HL6.out (Kd.F_mono HF6.out (fun k hk_ => by
                have hz := (below_step HBb.out HB5.out).size
                have hp2 := HR5.out.lt
                have hdr : w5.drew.heap.size = w5.heap.size := rfl
                rcases hk_ with (q | q) | q
                · exact q
                · exact q
                · exact ⟨.inr (by omega), fun e => by omega⟩)))
              have HB8 := Aside0.mk (below_set (g := p2) (j := 8) (v := .slice A6 (putK Kq x.f0 (pf x)).length c6) (below_step (below_step HBb.out HB5.out) HB7.out) GP2.out)
              have HKL := Aside0.mk (putK_len Kq x.f0 (pf x) bl_asym)
              go_roundw
              case measure => simp [intOf]; omega
              case rel => exact ⟨i + 1, putK Kq x.f0 (pf x), A6, c6, by go_num, hlt, by have := HKL.out; omega, ⟨by have h_ := HD'.out; simp only [withK] at h_; rw [HGX.out, if_neg HXF.out] at h_; exact h_⟩, HR8, HB8⟩
          | true =>
            have hgt : gx.2 = true := by simpa using hgo
            rw [hgt]
            clear hgo hgt
            go_wp2
            clear q1
            go_region_held3 (fun w' : World => (w'.cell? ⟨g7, 0, none⟩ = some (.string x.f0) ∧ w'.cell? ⟨g7, 1, none⟩ = some (.bool x.f1) ∧ w'.cell? ⟨g7, 2, none⟩ = some (.slice A2 x.f2.length c2) ∧ w'.cell? ⟨p, 7, none⟩ = some (.int .u64 r.time) ∧ Below wb.heap.size wb w')) (first | exact K20.out _ (below_drew1 HB2.out) | exact K20.out _ (below_step (H20.out _ (by assumption)) hb2) | assumption) (first
              | (go_at_call 59; (with_reducible refine (CHK.out _ ?s1).mono ?_); (case s1 => exact H20.out _ (by assumption)); rintro e w3 ⟨⟨A4, c4, rfl, hl4, hF4⟩, hb2⟩; have HF4 := Aside0.mk hF4; have HL4 := Aside0.mk hl4; clear hF4 hl4)
              | (go_at_call 29; (with_reducible refine (PUT.out _ _ _ HL4.out ?s2 ?s1).mono ?_); (case s1 => exact H20.out _ (by assumption)); (case s2 => exact HF4.out _ (by first | exact Below.refl _ _ | exact below_drew1 (Below.refl _ _))); rintro e w5 ⟨⟨A5, c5, rfl, hl5, hF5⟩, hb2⟩; have HF5 := Aside0.mk hF5; have HL5 := Aside0.mk hl5; clear hF5 hl5))
            rename_i hH
            have HB5 := Aside0.mk (H20.out w5 hH)
            clear hH hb2 CHK PUT
            go_wp2
            have HR5 := Aside0.mk (HRb.out.below HB5.out)
            have HQ := Aside0.mk (hq.out Kq x.f0 (pf x) (by have := hK.out; omega))
            have HRW := Aside0.mk (Kd.F_drew HR5.out.row)
            have HF5d := Aside0.mk (HF5.out w5.drew (below_drew1 (Below.refl _ _)))
            have d8 : w5.cell? ⟨p2, 8, none⟩ = some (.slice Aq Kq.length cq) := HR5.out.c8
            have q0 := (K20.out _ HB5.out).1
            go_region_with (go_at_call 91; (with_reducible refine (ref_put HRW.out HR5.out.cap x.f0 HF5d.out HL5.out HQ.out).mono ?_); rintro e w7 ⟨⟨A6, c6, rfl, hl6, hF6⟩, hb7⟩; have HB7 := Aside0.mk (below_step (below_drew1 (Below.refl _ _)) hb7); have HF6 := Aside0.mk (hF6 w7 (Below.refl _ _)); have HL6 := Aside0.mk hl6; clear hb7 hl6 hF6; have d8 := pw_cell_below HB7.out d8; have z8 := blk_frozen (HR5.out.below HB7.out).cells 8; have q0 := pw_cell_below HB7.out q0)
            all_goals
              go_wp2
              have HR8 := Aside0.mk ((HR5.out.below HB7.out).put8 (ok' := (fun k => (ok k ∧ k ≠ p) ∨ W.heap.size ≤ k)) HL6.out (Kd.F_mono HF6.out (fun k hk_ => by
                have hz := (below_step HBb.out HB5.out).size
                have hp2 := HR5.out.lt
                have hdr : w5.drew.heap.size = w5.heap.size := rfl
                rcases hk_ with (q | q) | q
                · exact q
                · exact q
                · exact ⟨.inr (by omega), fun e => by omega⟩)))
              have HB8 := Aside0.mk (below_set (g := p2) (j := 8) (v := .slice A6 (putK Kq x.f0 (pf x)).length c6) (below_step (below_step HBb.out HB5.out) HB7.out) GP2.out)
              have HKL := Aside0.mk (putK_len Kq x.f0 (pf x) bl_asym)
              go_roundw
              case measure => simp [intOf]; omega
              case rel => exact ⟨i + 1, putK Kq x.f0 (pf x), A6, c6, by go_num, hlt, by have := HKL.out; omega, ⟨by have h_ := HD'.out; simp only [withK] at h_; rw [HGX.out, if_neg HXF.out] at h_; exact h_⟩, HR8, HB8⟩
      · have hie : i = l.length := by omega
        have HK := Aside0.mk (show Kq = withK g pf r.K l by rw [← HD.out, List.drop_eq_nil_of_le (by omega)]; rfl)
        have hkl := Aside0.mk (show Kq.length ≤ r.K.length + l.length by omega)
        clear hie
        go_wp2
        go_ret
        rw [← HK.out]
        exact ⟨⟨p2, Aq, cq, rfl, GP2.out, HR.out, hkl.out⟩, HB.out⟩
end Go.Proofs.Yteofdgonpbmdlaa.R
