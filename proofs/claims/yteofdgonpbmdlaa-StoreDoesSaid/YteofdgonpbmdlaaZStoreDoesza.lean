/- Texts of this session, merged for the law StoreDoes: VB, VC, VI, PK, VE, VH, PL, VJ, VK, VD. No condition. -/
import Derived.Test.YteofdgonpbmdlaaZStoreDoesz
import Derived.Test.YteofdgonpbmdlaaZStoreDoest
import Derived.Test.YteofdgonpbmdlaaZStoreDoesy
import Derived.Test.YteofdgonpbmdlaaZStoreDoess
set_option linter.unusedVariables false
set_option linter.unusedSimpArgs false
namespace Go.Proofs.Yteofdgonpbmdlaa.R
open Go.RowKit Go.Maps Go.Proofs.YteofdgonpbmdlaaW.PrintWords Go.Proofs.YteofdgonpbmdlaaW.PrintLast Go.Proofs.YteofdgonpbmdlaaW.PrintMore Go.Proofs.Yteofdgonpbmdlaa.C Go.Proofs.Yteofdgonpbmdlaa.St Go.Proofs.Yteofdgonpbmdlaa.Pure
attribute [local go_sem] max2_int min2_int max2_str min2_str str_leq str_gtr str_geq max_two min_two max_three min_three max_four min_four
def cntN : List S109 → Int → Int → Int × Int
  | [], a, b => (a, b)
  | x :: t, a, b => cntN t (wrap64 (a + (x.f1.length : Int))) (wrap64 (b + wrap64 ((x.f0.size : Int) + (dsz x.f1 : Nat))))
theorem _root_.Go.RowKit.Kd.F_elder3 {α : Type} {d : Kd α} {W0 W W' : World} {ok : Nat → Prop} {A : Option Addr} {n : Nat} {xs : List α} (h : Aside0 (Kd.F d W (fun k => ok k ∧ k < W0.heap.size) A n xs)) (hb : Below W.heap.size W W') : Kd.F d W' (fun k => ok k ∧ k < W0.heap.size) A n xs := Kd.F_below h.out hb
set_option maxRecDepth 100000 in
set_option maxHeartbeats 8000000 in
theorem ref_Count {W : World} {ok : Nat → Prop} {p : Nat} {r : RS} {A : Option Addr} {c : Nat} (h : Aside0 (RAt W ok p r A c)) (hl : Aside0 (r.K.length ≤ 100000)) (hz : Aside0 (∀ x ∈ r.K, (∃ k, conductorref07_Size.f k x.f1 = some ((dsz x.f1 : Nat) : Int)) ∧ x.f0.size ≤ 9223372036854775807)) :
    Calls Try.prog 54 #[.pointer (some ⟨p, 0, none⟩)] W fun e w' => e = .returned (.agg #[.int .i64 (r.K.length : Int), .int .i64 (cntN r.K 0 0).1, .int .i64 (cntN r.K 0 0).2]) ∧ Below W.heap.size W w' := by
  have HR0 := Aside0.mk (Kd.F_bound h.out.row)
  go_enter Try.func54, Try.ntmps54
  go_wp2_with (first
    | ((with_reducible refine gate_dst (N := 2) rfl ?_); refine box_event ?hg (N := 2) ?hd (cs := #[.int .i64 0, .int .i64 0, .int .i64 0]) (t := 72) ?hr ?_; (case hd => rfl); (case hg => rfl); (case hr => first | (go_simp; done) | (go_simp; rfl)); intro g2 hg w1 hbox hb; have HB1 := Aside0.mk hb; have GE2 := Aside0.mk (show W.heap.size ≤ g2 by rw [hg]; exact Nat.le_refl _); have BK2 := Aside0.mk hbox; have h8 := (h.out.below hb).c8; clear hbox hb hg)
    | ((with_reducible refine gate_dst (N := 3) rfl ?_); refine box_event ?hg (N := 3) ?hd (cs := #[.int .i64 0, .int .i64 0, .int .i64 0]) (t := 72) ?hr ?_; (case hd => rfl); (case hg => rfl); (case hr => first | (go_simp; done) | (go_simp; rfl)); intro g3 hg wa3 hbox hb; have HBa := Aside0.mk hb; have GE3 := Aside0.mk (show w1.heap.size ≤ g3 by rw [hg]; exact Nat.le_refl _); have BKa := Aside0.mk hbox; have z0 := (blk_cell hbox 0).trans (show _ = some (Value.int .i64 0) from rfl); have y0 := blk_frozen hbox 0; have z1 := (blk_cell hbox 1).trans (show _ = some (Value.int .i64 0) from rfl); have y1 := blk_frozen hbox 1; have z2 := (blk_cell hbox 2).trans (show _ = some (Value.int .i64 0) from rfl); have y2 := blk_frozen hbox 2; have h8 := pw_cell_below hb h8; clear hbox hb hg)
    | ((with_reducible refine gate_store (t := 72) (p := 3) rfl ?_); refine store_event (t := 72) (p := 3) (v := ?vo1_) (w1 := ((wa3.setCell ⟨g3, 0, none⟩ (.int .i64 (r.K.length : Int))).setCell ⟨g3, 1, none⟩ (.int .i64 0)).setCell ⟨g3, 2, none⟩ (.int .i64 0)) ?hg ?ho ?hn ?hr ?_; (case ho => rfl); (case hg => rfl); (case hn => rfl); (case hr => first | (go_simp; done) | (go_simp; rfl)); intro w3 hw; have HB3 := Aside0.mk (show Below w1.heap.size w1 w3 by rw [hw]; exact (below_set (below_set (below_set HBa.out GE3.out) GE3.out) GE3.out)); have BK3 := Aside0.mk (show w3.heap[g3]? = some (.cells #[.int .i64 (r.K.length : Int), .int .i64 0, .int .i64 0] 72 (0, 0)) by rw [hw]; exact (blk_put (blk_put (blk_put BKa.out 0 _ rfl) 1 _ rfl) 2 _ rfl)); clear hw z0 y0 z1 y1 z2 y2 HBa BKa ; have q30 := (blk_cell BK3.out 0).trans (show _ = some (Value.int .i64 (r.K.length : Int)) from rfl); have f30 := blk_frozen BK3.out 0; have q31 := (blk_cell BK3.out 1).trans (show _ = some (Value.int .i64 0) from rfl); have f31 := blk_frozen BK3.out 1; have q32 := (blk_cell BK3.out 2).trans (show _ = some (Value.int .i64 0) from rfl); have f32 := blk_frozen BK3.out 2; have HB3_ := Aside0.mk (below_step HB1.out HB3.out); have BK23 := Aside0.mk (blk_below BK2.out HB3.out); have h8 := (h.out.below HB3_.out).c8; have NE := Aside0.mk (show g2 ≠ g3 from fun e => by have h1_ := blk_lt BK2.out; have h2_ := GE3.out; omega)))
  have GW3 := Aside0.mk (show W.heap.size ≤ g3 from Nat.le_trans HB1.out.size GE3.out)
  clear q30 q31 q32 f30 f31 f32 h8
  go_loopw [17] (fun vi wr => ∃ (i : Nat) (a b : Int), vi = .int .i64 i ∧ i ≤ r.K.length ∧ Aside0 (cntN (r.K.drop i) a b = cntN r.K 0 0) ∧ Aside0 (wr.heap[g3]? = some (.cells #[.int .i64 (r.K.length : Int), .int .i64 a, .int .i64 b] 72 (0, 0))) ∧ Aside0 (wr.heap[g2]? = some (.cells #[.int .i64 0, .int .i64 0, .int .i64 0] 72 (0, 0))) ∧ Aside0 (Below W.heap.size W wr)) (fun vi _ => r.K.length - (intOf vi).toNat)
  case atStart => exact ⟨0, 0, 0, rfl, Nat.zero_le _, ⟨rfl⟩, BK3, BK23, HB3_⟩
  case round =>
    clear HB3_ BK23 BK3 HB3 HB1 BK2
    obtain ⟨i, a, b, rfl, hi1, HD, BK3r, BK2r, HB⟩ := hrel
    by_cases hlt : i < r.K.length
    · have hi4 : i < 100000 := by have := hl.out; omega
      have HR := Aside0.mk (Kd.F_below HR0.out HB.out)
      obtain ⟨ad, ce_, rfl, hcl_, hFK, hcc, hok⟩ := Kd.F_get HR.out z109 (i : Int) (by omega) (by omega)
      rw [show r.K.getD (i : Int).toNat z109 = r.K[i] by simp [List.getD, List.getElem?_eq_getElem hlt]] at hFK
      obtain ⟨x, hx⟩ : ∃ x, r.K[i] = x := ⟨_, rfl⟩
      rw [hx] at hFK
      obtain ⟨A2, c2, rfl, hl2, hg2⟩ := k109_openF hFK
      have e0 : wr.cell? (ad.add (i * 2)) = some (.string x.f0) := hcc 0 _ rfl
      have e1 : wr.cell? ⟨(ad.add (i * 2)).block, (ad.add (i * 2)).off + 1, none⟩ = some (.slice A2 x.f1.length c2) := by rw [← add_field _ _ 1 (by omega)]; exact hcc 1 _ rfl
      have HG2 := Aside0.mk hg2
      have HL2 := Aside0.mk hl2
      have hmem : x ∈ r.K := hx ▸ List.getElem_mem hlt
      have HX := Aside0.mk hx
      clear hcl_ hFK hcc hok hl2 hg2 hx
      have hd : cntN (x :: r.K.drop (i + 1)) a b = cntN r.K 0 0 := by rw [← HX.out, ← drop_109 _ _ hlt]; exact HD.out
      have HD' := Aside0.mk (show cntN (r.K.drop (i + 1)) (wrap64 (a + (x.f1.length : Int))) (wrap64 (b + wrap64 ((x.f0.size : Int) + (dsz x.f1 : Nat)))) = cntN r.K 0 0 from hd)
      obtain ⟨⟨k_, hk_⟩, hks⟩ := hz.out x hmem
      have HZ := Aside0.mk hk_
      obtain ⟨z, hzz⟩ : ∃ z : Int, ((dsz x.f1 : Nat) : Int) = z := ⟨_, rfl⟩
      rw [hzz] at HZ HD'
      have HGx := HG2
      clear hd HD hk_ hzz
      go_wp2_with (first
        | ((with_reducible refine gate_dst (N := 5) rfl ?_); refine box_event ?hg (N := 5) ?hd (cs := #[.string ⟨#[]⟩, .slice none 0 0]) (t := 109) ?hr ?_; (case hd => rfl); (case hg => rfl); (case hr => first | (go_simp; done) | (go_simp; rfl)); intro g7 hg wax hbox hb; have HBa := Aside0.mk hb; have GEx := Aside0.mk (show wr.heap.size ≤ g7 by rw [hg]; exact Nat.le_refl _); have BKa := Aside0.mk hbox; have z0 := (blk_cell hbox 0).trans (show _ = some (Value.string ⟨#[]⟩) from rfl); have y0 := blk_frozen hbox 0; have z1 := (blk_cell hbox 1).trans (show _ = some (Value.slice none 0 0) from rfl); have y1 := blk_frozen hbox 1; clear hbox hb hg)
        | ((with_reducible refine gate_store (t := 109) (p := 5) rfl ?_); refine store_event (t := 109) (p := 5) (v := ?vo2_) (w1 := (wax.setCell ⟨g7, 0, none⟩ (.string x.f0)).setCell ⟨g7, 1, none⟩ (.slice A2 x.f1.length c2)) ?hg ?ho ?hn ?hr ?_; (case ho => rfl); (case hg => rfl); (case hn => rfl); (case hr => first | (go_simp; done) | (go_simp; rfl)); intro wb hw; have HBx := Aside0.mk (show Below wr.heap.size wr wb by rw [hw]; exact (below_set (below_set HBa.out GEx.out) GEx.out)); have BKx := Aside0.mk (show wb.heap[g7]? = some (.cells #[.string x.f0, .slice A2 x.f1.length c2] 109 (0, 0)) by rw [hw]; exact (blk_put (blk_put BKa.out 0 _ rfl) 1 _ rfl)); clear hw z0 y0 z1 y1 HBa BKa e0 e1; have qx0 := (blk_cell BKx.out 0).trans (show _ = some (Value.string x.f0) from rfl); have fx0 := blk_frozen BKx.out 0; have qx1 := (blk_cell BKx.out 1).trans (show _ = some (Value.slice A2 x.f1.length c2) from rfl); have fx1 := blk_frozen BKx.out 1; have BK2b := Aside0.mk (blk_below BK2r.out HBx.out); have BK3b := Aside0.mk (blk_below BK3r.out HBx.out); have o1 := (blk_cell BK3b.out 1).trans (show _ = some (Value.int .i64 a) from rfl); have of1 := blk_frozen BK3b.out 1; have HGb := Aside0.mk (Kd.F_below HG2.out HBx.out); have NE3 := Aside0.mk (show g7 ≠ g3 from fun e => by have h1_ := blk_lt BK3r.out; have h2_ := GEx.out; omega))
        | ((with_reducible refine gate_store (t := 3) (p := 27) rfl ?_); refine store_event (t := 3) (p := 27) (v := ?vo3_) (w1 := wb.setCell ⟨g3, 1, none⟩ (.int .i64 (wrap64 (a + (x.f1.length : Int))))) ?hg ?ho ?hn ?hr ?_; (case ho => rfl); (case hg => rfl); (case hn => rfl); (case hr => first | (go_simp; done) | (go_simp; rfl)); intro wd hw; have BK3d := Aside0.mk (show wd.heap[g3]? = some (.cells #[.int .i64 (r.K.length : Int), .int .i64 (wrap64 (a + (x.f1.length : Int))), .int .i64 b] 72 (0, 0)) by rw [hw]; exact blk_put BK3b.out 1 _ rfl); have BK2d := Aside0.mk (show wd.heap[g2]? = some (.cells #[.int .i64 0, .int .i64 0, .int .i64 0] 72 (0, 0)) by rw [hw]; exact blk_far BK2b.out NE.out _); have BK7d := Aside0.mk (show wd.heap[g7]? = some (.cells #[.string x.f0, .slice A2 x.f1.length c2] 109 (0, 0)) by rw [hw]; exact blk_far BKx.out NE3.out _); have HGd := Aside0.mk (show Kd.F k28 wd (fun k => (ok k ∧ k ≠ p) ∧ k ≠ g3) A2 x.f1.length x.f1 by rw [hw]; exact Kd.F_far (p := ⟨g3, 1, none⟩) (Kd.F_mono (Kd.F_elder3 HGx HBx.out) (fun k hk_ => ⟨hk_.1, fun e => by have h1_ := hk_.2; have h2_ := GW3.out; omega⟩)) (fun k hk_ => hk_.2) _); have HBd := Aside0.mk (show Below W.heap.size W wd by rw [hw]; exact below_set (below_step HB.out HBx.out) GW3.out); clear hw o1 of1 qx0 qx1 fx0 fx1; have d0 := (blk_cell BK7d.out 0).trans (show _ = some (Value.string x.f0) from rfl); have d1 := (blk_cell BK7d.out 1).trans (show _ = some (Value.slice A2 x.f1.length c2) from rfl); have o2 := (blk_cell BK3d.out 2).trans (show _ = some (Value.int .i64 b) from rfl); have of2 := blk_frozen BK3d.out 2))
      have HBz := Aside0.mk (Below.refl wd.heap.size wd)
      go_region_with (go_at_call 35; (with_reducible refine (conductorref07_Size.calls k_ _ _ x.f1 z _ ?s1 HL2.out HZ.out).mono ?_); (case s1 => exact Kd.F_now (Kd.F_drew HGd.out)); rintro e w7 ⟨rfl, hb7⟩; have HB7 := Aside0.mk (below_step (below_drew1 (Below.refl _ _)) hb7); clear hb7; have o2 := pw_cell_below HB7.out o2; have of2 := (blk_frozen (blk_below BK3d.out HB7.out) 2); have d0 := pw_cell_below HB7.out d0; have d1 := pw_cell_below HB7.out d1)
      all_goals
        go_wp2
        have BK38 := Aside0.mk (blk_put (blk_below BK3d.out HB7.out) 2 (.int .i64 (wrap64 (b + wrap64 ((x.f0.size : Int) + z)))) rfl)
        have BK28 := Aside0.mk (blk_far (p := ⟨g3, 2, none⟩) (blk_below BK2d.out HB7.out) NE.out (.int .i64 (wrap64 (b + wrap64 ((x.f0.size : Int) + z)))))
        have HB8 := Aside0.mk (below_set (g := g3) (j := 2) (v := .int .i64 (wrap64 (b + wrap64 ((x.f0.size : Int) + z)))) (below_step HBd.out HB7.out) GW3.out)
        go_roundw
        case measure => simp [intOf]; omega
        case rel => exact ⟨i + 1, _, _, by go_num, hlt, HD', BK38, BK28, HB8⟩
    · have HK := Aside0.mk (show (a, b) = cntN r.K 0 0 by rw [← HD.out, List.drop_eq_nil_of_le (by omega)]; rfl)
      have k0 := (blk_cell BK3r.out 0).trans (show _ = some (Value.int .i64 (r.K.length : Int)) from rfl)
      have k1 := (blk_cell BK3r.out 1).trans (show _ = some (Value.int .i64 a) from rfl)
      have k2 := (blk_cell BK3r.out 2).trans (show _ = some (Value.int .i64 b) from rfl)
      have m0 := blk_frozen BK2r.out 0
      have m1 := blk_frozen BK2r.out 1
      have m2 := blk_frozen BK2r.out 2
      have z0 := (blk_cell BK2r.out 0).trans (show _ = some (Value.int .i64 0) from rfl)
      have z1 := (blk_cell BK2r.out 1).trans (show _ = some (Value.int .i64 0) from rfl)
      have z2 := (blk_cell BK2r.out 2).trans (show _ = some (Value.int .i64 0) from rfl)
      go_wp2_with (((with_reducible refine gate_store (t := 72) (p := 2) rfl ?_); refine store_event (t := 72) (p := 2) (v := ?vo4_) (w1 := ((wr.setCell ⟨g2, 0, none⟩ (.int .i64 (r.K.length : Int))).setCell ⟨g2, 1, none⟩ (.int .i64 a)).setCell ⟨g2, 2, none⟩ (.int .i64 b)) ?hg ?ho ?hn ?hr ?_; (case ho => rfl); (case hg => rfl); (case hn => rfl); (case hr => first | (go_simp; done) | (go_simp; rfl)); intro w9 hw; have BK9 := Aside0.mk (show w9.heap[g2]? = some (.cells #[.int .i64 (r.K.length : Int), .int .i64 a, .int .i64 b] 72 (0, 0)) by rw [hw]; exact blk_put (blk_put (blk_put BK2r.out 0 _ rfl) 1 _ rfl) 2 _ rfl); have HB9 := Aside0.mk (show Below W.heap.size W w9 by rw [hw]; exact below_set (below_set (below_set HB.out GE2.out) GE2.out) GE2.out); clear hw k0 k1 k2 m0 m1 m2 z0 z1 z2))
      have y0 := (blk_cell BK9.out 0).trans (show _ = some (Value.int .i64 (r.K.length : Int)) from rfl)
      have y1 := (blk_cell BK9.out 1).trans (show _ = some (Value.int .i64 a) from rfl)
      have y2 := (blk_cell BK9.out 2).trans (show _ = some (Value.int .i64 b) from rfl)
      rw [← HK.out]
      exact bodyPost_ret (v := .agg #[.int .i64 (r.K.length : Int), .int .i64 a, .int .i64 b]) (by simp [results, Try.results54, go_sem, y0, y1, y2]) rfl ⟨rfl, HB9.out⟩
set_option maxRecDepth 100000 in
set_option maxHeartbeats 8000000 in
theorem ref_fits {W : World} {ok : Nat → Prop} {p : Nat} {r : RS} {A : Option Addr} {c : Nat} (h : Aside0 (RAt W ok p r A c)) (n0 n1 n2 : Int) (hc : Aside0 (Calls Try.prog 54 #[.pointer (some ⟨p, 0, none⟩)] W fun e w' => e = .returned (.agg #[.int .i64 n0, .int .i64 n1, .int .i64 n2]) ∧ Below W.heap.size W w')) :
    Calls Try.prog 90 #[.pointer (some ⟨p, 0, none⟩)] W fun e w' => e = .returned (.bool (decide (n0 ≤ r.l0) && decide (n1 ≤ r.l1) && decide (n2 ≤ r.l2))) ∧ Below W.heap.size W w' := by
  go_enter Try.func90, Try.ntmps90
  go_upto_region 2 with (first
    | (go_at_call 54; (with_reducible refine hc.out.mono ?_); rintro e w1 ⟨rfl, hb⟩; have HB1 := Aside0.mk hb; clear hb)
    | ((with_reducible refine gate_dst (N := 3) rfl ?_); refine box_event ?hg (N := 3) ?hd (cs := #[.int .i64 0, .int .i64 0, .int .i64 0]) (t := 72) ?hr ?_; (case hd => rfl); (case hg => rfl); (case hr => first | (go_simp; done) | (go_simp; rfl)); intro g3 hg wa3 hbox hb; have HBa := Aside0.mk hb; have GE3 := Aside0.mk (show w1.heap.size ≤ g3 by rw [hg]; exact Nat.le_refl _); have BKa := Aside0.mk hbox; have z0 := (blk_cell hbox 0).trans (show _ = some (Value.int .i64 0) from rfl); have y0 := blk_frozen hbox 0; have z1 := (blk_cell hbox 1).trans (show _ = some (Value.int .i64 0) from rfl); have y1 := blk_frozen hbox 1; have z2 := (blk_cell hbox 2).trans (show _ = some (Value.int .i64 0) from rfl); have y2 := blk_frozen hbox 2; clear hbox hb hg)
    | ((with_reducible refine gate_store (t := 72) (p := 3) rfl ?_); refine store_event (t := 72) (p := 3) (v := ?vo1_) (w1 := ((wa3.setCell ⟨g3, 0, none⟩ (.int .i64 n0)).setCell ⟨g3, 1, none⟩ (.int .i64 n1)).setCell ⟨g3, 2, none⟩ (.int .i64 n2)) ?hg ?ho ?hn ?hr ?_; (case ho => rfl); (case hg => rfl); (case hn => rfl); (case hr => first | (go_simp; done) | (go_simp; rfl)); intro w3 hw; have HB3 := Aside0.mk (show Below w1.heap.size w1 w3 by rw [hw]; exact (below_set (below_set (below_set HBa.out GE3.out) GE3.out) GE3.out)); have BK3 := Aside0.mk (show w3.heap[g3]? = some (.cells #[.int .i64 n0, .int .i64 n1, .int .i64 n2] 72 (0, 0)) by rw [hw]; exact (blk_put (blk_put (blk_put BKa.out 0 _ rfl) 1 _ rfl) 2 _ rfl)); clear hw z0 y0 z1 y1 z2 y2 HBa BKa ; have q30 := (blk_cell BK3.out 0).trans (show _ = some (Value.int .i64 n0) from rfl); have f30 := blk_frozen BK3.out 0; have q31 := (blk_cell BK3.out 1).trans (show _ = some (Value.int .i64 n1) from rfl); have f31 := blk_frozen BK3.out 1; have q32 := (blk_cell BK3.out 2).trans (show _ = some (Value.int .i64 n2) from rfl); have f32 := blk_frozen BK3.out 2; have HB3_ := Aside0.mk (below_step HB1.out HB3.out); have l0_ := (h.out.below HB3_.out).c0; have l1_ := (h.out.below HB3_.out).c1; have l2_ := (h.out.below HB3_.out).c2))
  clear f30 f31 f32
  go_simp
  have k0 : w3.cell? ⟨g3, 0, none⟩ = some (.int .i64 n0) := q30
  have k1 : w3.cell? ⟨g3, 1, none⟩ = some (.int .i64 n1) := q31
  have k2 : w3.cell? ⟨g3, 2, none⟩ = some (.int .i64 n2) := q32
  clear q30 q31 q32
  cases d0 : decide (n0 ≤ r.l0)
  · go_quiet (fail)
    go_wp2
    go_ret
    exact ⟨by rw [d0]; rfl, pw_below_drewN HB3_.out _⟩
  · cases d1 : decide (n1 ≤ r.l1)
    · go_quiet (fail)
      go_wp2
      go_ret
      exact ⟨by rw [d0, d1]; rfl, pw_below_drewN HB3_.out _⟩
    · cases d2 : decide (n2 ≤ r.l2)
      all_goals
        go_quiet (fail)
        go_wp2
        go_ret
        exact ⟨by rw [d0, d1, d2]; rfl, pw_below_drewN HB3_.out _⟩
/-- What is asked of a store and writes, for `with` and `fits`. -/
structure WithHyp (r : RS) (l : List S102) (T : Int) (K1 : List S109) : Prop where
  w : ∃ (g : S102 → List Int × Bool) (pf : S102 → List S28), (∀ x ∈ l, ∃ k, conductorref07_Get.f k (chK r.K x.f0) r.time = some (g x)) ∧ (∀ x ∈ l, ¬ (x.f1 = true ∧ (g x).2 = false) → ∃ k ez, conductorref07_Put.f k (chK r.K x.f0) T x.f1 x.f2 = some (pf x, ez)) ∧ withK g pf r.K l = K1
  z : ∀ x ∈ K1, (∃ k, conductorref07_Size.f k x.f1 = some ((dsz x.f1 : Nat) : Int)) ∧ x.f0.size ≤ 9223372036854775807
  l : l.length ≤ 1000
  k : r.K.length ≤ 40000
  t : IntKind.u64.wrap (r.time + 1) = T
theorem RAt.mono3 {W : World} {ok ok' : Nat → Prop} {p : Nat} {r : RS} {A : Option Addr} {c : Nat} (h : RAt W ok p r A c) (hk : ∀ k, ok k → k ≠ p → k < W.heap.size → ok' k) : RAt W ok' p r A c :=
  ⟨h.cells, h.cap, Kd.F_mono (Kd.F_bound h.row) (fun k hk_ => ⟨hk k hk_.1.1 hk_.1.2 hk_.2, hk_.1.2⟩)⟩
def PutHyp : Prop := ∀ (K : List S109) (key : ByteArray) (ch : List S28), K.length ≤ 100000 → ∃ k, conductorref08_put.f k K key ch = some (putK K key ch)
def fitB (r : RS) (K : List S109) : Bool := decide ((K.length : Int) ≤ r.l0) && decide ((cntN K 0 0).1 ≤ r.l1) && decide ((cntN K 0 0).2 ≤ r.l2)
section
variable {W : World} {ok : Nat → Prop} {p : Nat} {r : RS} {A : Option Addr} {c : Nat}
theorem ref_with' (h : RAt W ok p r A c) {l : List S102} {T : Int} {K1 : List S109} (hw : WithHyp r l T K1) (hq : PutHyp) (A1 : Option Addr) (c1 : Nat) (hF : Kd.F k102 W (fun k => ok k ∧ k ≠ p) A1 l.length l) :
    Calls Try.prog 89 #[.pointer (some ⟨p, 0, none⟩), .slice A1 l.length c1] W fun e w' => (∃ p2 A2 c2, e = .returned (.pointer (some ⟨p2, 0, none⟩)) ∧ W.heap.size ≤ p2 ∧ RAt w' (fun k => (ok k ∧ k ≠ p) ∨ W.heap.size ≤ k) p2 { r with time := T, K := K1 } A2 c2 ∧ K1.length ≤ 100000) ∧ Below W.heap.size W w' := by
  obtain ⟨g, pf, h1, h2, h3⟩ := hw.w
  refine (ref_with ⟨h⟩ A1 c1 l ⟨hF⟩ ⟨hw.l⟩ ⟨by have := hw.k; omega⟩ g ⟨h1⟩ T ⟨hw.t⟩ pf ⟨h2⟩ ⟨hq⟩).mono ?_
  rintro e w' ⟨⟨p2, A2, c2, rfl, h4, h5, h6⟩, hb⟩
  rw [h3] at h5 h6
  exact ⟨⟨p2, A2, c2, rfl, h4, h5, by have := hw.k; have := hw.l; omega⟩, hb⟩
theorem ref_fits' (h : RAt W ok p r A c) (hl : r.K.length ≤ 100000) (hz : ∀ x ∈ r.K, (∃ k, conductorref07_Size.f k x.f1 = some ((dsz x.f1 : Nat) : Int)) ∧ x.f0.size ≤ 9223372036854775807) :
    Calls Try.prog 90 #[.pointer (some ⟨p, 0, none⟩)] W fun e w' => e = .returned (.bool (fitB r r.K)) ∧ Below W.heap.size W w' :=
  ref_fits ⟨h⟩ _ _ _ ⟨ref_Count ⟨h⟩ ⟨hl⟩ ⟨hz⟩⟩
end
def ComPost (W : World) (ok : Nat → Prop) (p : Nat) (n ez : Int) (r' : RS) (e : Ending) (w' : World) : Prop :=
  e = .returned (.tuple #[.int .u64 n, .int .i64 ez]) ∧ (∃ A2 c2, RAt w' (fun k => (ok k ∧ k ≠ p) ∨ W.heap.size ≤ k) p r' A2 c2) ∧ Turn p (fun k => k = p) W w'
set_option maxRecDepth 100000 in
set_option maxHeartbeats 8000000 in
theorem commit_bad (W : World) (ok : Nat → Prop) (p : Nat) (r : RS) (A : Option Addr) (c : Nat) (h : Aside0 (RAt W ok p r A c)) (A1 : Option Addr) (c1 : Nat) (l : List S102) (low : Int) (hF : Aside0 (Kd.F k102 W (fun k => ok k ∧ k ≠ p) A1 l.length l)) (hlc : Aside0 (l.length ≤ c1)) (ez : Int) (hne : Aside0 (ez ≠ 0)) (hck : Aside0 (∃ k, conductorref08_Check.f k l = some ez)) : Calls Try.prog 77 #[.pointer (some ⟨p, 0, none⟩), .slice A1 l.length c1, .int .u64 low] W (ComPost W ok p 0 ez r) := by
  obtain ⟨kc, hkc⟩ := hck.out
  have HCK := Aside0.mk hkc
  have hzz : (ez == 0) = false := by simpa using hne.out
  clear hkc hne
  go_enter Try.func77, Try.ntmps77
  go_wp2_with (go_at_call 56; (with_reducible refine (conductorref08_Check.calls kc _ _ l ez _ ?s1 hlc.out HCK.out).mono ?_); (case s1 => exact Kd.F_now hF.out); rintro e w1 ⟨rfl, hb⟩; have HB1 := Aside0.mk hb; have HR1 := Aside0.mk (h.out.below hb); have c7_ := HR1.out.c7; have c6_ := HR1.out.c6; clear hb)
  go_ret2
  exact ⟨rfl, ⟨A, c, HR1.out.mono3 (fun k hk_ hn_ _ => .inl ⟨hk_, hn_⟩)⟩, Turn.of_below HB1.out (Nat.le_of_lt h.out.lt) _⟩
set_option maxRecDepth 100000 in
set_option maxHeartbeats 8000000 in
theorem commit_nil (W : World) (ok : Nat → Prop) (p : Nat) (r : RS) (A : Option Addr) (c : Nat) (h : Aside0 (RAt W ok p r A c)) (A1 : Option Addr) (c1 : Nat) (l : List S102) (low : Int) (hF : Aside0 (Kd.F k102 W (fun k => ok k ∧ k ≠ p) A1 l.length l)) (hlc : Aside0 (l.length ≤ c1)) (hnil : Aside0 (l = [])) (hck : Aside0 (∃ k, conductorref08_Check.f k l = some 0)) : Calls Try.prog 77 #[.pointer (some ⟨p, 0, none⟩), .slice A1 l.length c1, .int .u64 low] W (ComPost W ok p r.time 0 r) := by
  obtain ⟨kc, hkc⟩ := hck.out
  have HCK := Aside0.mk hkc
  have hll : l.length = 0 := by rw [hnil.out]; rfl
  have hzz : ((l.length : Int) == 0) = true := by rw [hll]; rfl
  clear hkc hnil hll
  go_enter Try.func77, Try.ntmps77
  go_wp2_with (go_at_call 56; (with_reducible refine (conductorref08_Check.calls kc _ _ l 0 _ ?s1 hlc.out HCK.out).mono ?_); (case s1 => exact Kd.F_now hF.out); rintro e w1 ⟨rfl, hb⟩; have HB1 := Aside0.mk hb; have HR1 := Aside0.mk (h.out.below hb); have c7_ := HR1.out.c7; have c6_ := HR1.out.c6; clear hb)
  go_ret2
  exact ⟨rfl, ⟨A, c, HR1.out.mono3 (fun k hk_ hn_ _ => .inl ⟨hk_, hn_⟩)⟩, Turn.of_below HB1.out (Nat.le_of_lt h.out.lt) _⟩
set_option maxRecDepth 100000 in
set_option maxHeartbeats 8000000 in
theorem commit_full (W : World) (ok : Nat → Prop) (p : Nat) (r : RS) (A : Option Addr) (c : Nat) (h : Aside0 (RAt W ok p r A c)) (A1 : Option Addr) (c1 : Nat) (l : List S102) (low : Int) (hF : Aside0 (Kd.F k102 W (fun k => ok k ∧ k ≠ p) A1 l.length l)) (hlc : Aside0 (l.length ≤ c1)) (hnil : Aside0 (l ≠ [])) (hck : Aside0 (∃ k, conductorref08_Check.f k l = some 0)) (hful : Aside0 (r.time = r.last)) : Calls Try.prog 77 #[.pointer (some ⟨p, 0, none⟩), .slice A1 l.length c1, .int .u64 low] W (ComPost W ok p 0 5 r) := by
  obtain ⟨kc, hkc⟩ := hck.out
  have HCK := Aside0.mk hkc
  have hzz : ((l.length : Int) == 0) = false := by
    cases e_ : ((l.length : Int) == 0) with
    | false => rfl
    | true => exact absurd (List.eq_nil_of_length_eq_zero (by have := of_decide_eq_true e_; omega)) hnil.out
  clear hkc hnil
  have htl : (r.time == r.last) = true := by rw [hful.out]; simp
  clear hful
  go_enter Try.func77, Try.ntmps77
  go_wp2_with (go_at_call 56; (with_reducible refine (conductorref08_Check.calls kc _ _ l 0 _ ?s1 hlc.out HCK.out).mono ?_); (case s1 => exact Kd.F_now hF.out); rintro e w1 ⟨rfl, hb⟩; have HB1 := Aside0.mk hb; have HR1 := Aside0.mk (h.out.below hb); have c7_ := HR1.out.c7; have c6_ := HR1.out.c6; clear hb)
  go_quiet (fail)
  go_wp2
  go_ret2
  have HB2 := pw_below_drewN HB1.out nq
  exact ⟨rfl, ⟨A, c, (h.out.below HB2).mono3 (fun k hk_ hn_ _ => .inl ⟨hk_, hn_⟩)⟩, Turn.of_below HB2 (Nat.le_of_lt h.out.lt) _⟩
end Go.Proofs.Yteofdgonpbmdlaa.R
namespace Go.Proofs.Yteofdgonpbmdlaa.R
open Go.RowKit Go.Proofs.YteofdgonpbmdlaaW.PrintWords Go.Proofs.Yteofdgonpbmdlaa.C Go.Proofs.Yteofdgonpbmdlaa.St Go.Proofs.Yteofdgonpbmdlaa.Pure
theorem r_get {l : List S28} (hs : rgt 0 l = true) (hl : l.length ≤ 1000) (a : Int) : ∃ k, conductorref07_Get.f k l a = some (getF l a) := (rGet_ev l hl a (up_spec hs a)).rounds
theorem upto_le {l : List S28} (h : ∀ v ∈ l, v.f0 ≤ 18446744073709551615) : Upto l 18446744073709551615 l.length :=
  ⟨Nat.le_refl _, fun j hj _ => h _ (List.getElem_mem hj), fun j hj hn => by omega⟩
theorem rLast_ev2 (l : List S28) (hl : l.length ≤ 1000) (h : ∀ v ∈ l, v.f0 ≤ 18446744073709551615) : Ev (fun k => conductorref07_Last.f k l) (lastF l) := by
  unfold conductorref07_Last.f
  refine Ev.bind (rFind_ev l hl _ (upto_le h)) (Ev.congr (f := fun _ => some _) (fun k => ?_) (Ev.now _))
  unfold lastF
  by_cases h0 : 0 < l.length
  · rw [fndV_pos ⟨h0, Nat.le_refl _⟩, dif_pos h0]
  · rw [fndV_neg (by omega), dif_neg h0]
theorem r_last {l : List S28} (hl : l.length ≤ 1000) (h : ∀ v ∈ l, v.f0 ≤ 18446744073709551615) : ∃ k, conductorref07_Last.f k l = some (lastF l) := (rLast_ev2 l hl h).rounds
theorem r_put {l : List S28} (hl : l.length ≤ 900) (h : ∀ v ∈ l, v.f0 ≤ 18446744073709551615) (v : S28) (h1 : rgt 0 l = true) (h2 : rgt 0 [v] = true) (h3 : ¬ v.f0 ≤ lastF l) : ∃ k ez, conductorref07_Put.f k l v.f0 v.f1 v.f2 = some (l ++ [v], ez) := by
  have e : Ev (fun k => conductorref07_Put.f k l v.f0 v.f1 v.f2) (l ++ [v], 0) := by
    unfold conductorref07_Put.f
    refine Ev.bind (rRight_ev l (by omega)) ?_
    simp only [h1, if_true]
    refine Ev.bind (rRight_ev [(⟨v.f0, v.f1, v.f2⟩ : S28)] (by simp)) ?_
    rw [show rgt 0 [(⟨v.f0, v.f1, v.f2⟩ : S28)] = true from h2]
    refine Ev.step (fun k => by simp only [conductorref07_Put.j0, Bool.not_true, Bool.false_eq_true, if_false]; rfl) ?_
    refine Ev.bind (rLast_ev2 l (by omega) h) ?_
    simp only [if_neg h3, Option.bind_some, List.length_nil, List.nil_append]
    exact Ev.congr (fun _ => by rw [if_pos (by omega), if_pos (by omega)]) (Ev.now _)
  obtain ⟨k, hk⟩ := e.rounds
  exact ⟨k, 0, hk⟩
theorem r_trim {l : List S28} (hs : rgt 0 l = true) (hl : l.length ≤ 1000) (a : Int) : ∃ k, conductorref07_Trim.f k l a = some (trimF l a) := (rTrim_ev hl (up_spec hs a)).rounds
theorem r_size {l : List S28} (hl : l.length ≤ 1000) (hf : ∀ v ∈ l, v.f2.length ≤ 5000) : ∃ k, conductorref07_Size.f k l = some ((dsz l : Nat) : Int) := by
  have h := (sum5 l hf 0 (by omega) (by omega)).1
  rw [Int.zero_add] at h
  rw [← h]
  exact (rSize_ev l (by omega)).rounds
theorem rd109 (l : List S109) (i : Nat) (h : i < l.length) : rd_T109 l (i : Int) = l[i] := by
  simp [rd_T109, List.getD_eq_getElem?_getD, h]
theorem put_loop1 (l : List S109) (key : ByteArray) (ch : List S28) (hl : l.length ≤ 100000) : ∀ (d i k : Nat) (acc : List S109), i + d = l.length → acc.length ≤ 300000 → d < k → conductorref08_put.l1 k acc l l.length i key ch = some (acc ++ (l.drop i).filter (fun y => Op.bytesLess key.toList y.f0.toList)) ∨ 300000 < acc.length + d := by
  intro d
  induction d with
  | zero =>
    intro i k acc hd ha hk
    obtain ⟨k, rfl⟩ : ∃ m, k = m + 1 := ⟨k - 1, by omega⟩
    simp only [conductorref08_put.l1]
    rw [if_neg (by omega), List.drop_eq_nil_of_le (by omega)]; simp
  | succ d ih =>
    intro i k acc hd ha hk
    by_cases hb : 300000 < acc.length + (d + 1)
    · exact .inr hb
    left
    obtain ⟨k, rfl⟩ : ∃ m, k = m + 1 := ⟨k - 1, by omega⟩
    have hi : i < l.length := by omega
    simp only [conductorref08_put.l1]
    rw [if_pos (by omega), if_pos (by omega), if_pos (by omega), w1 hi (by omega), rd109 l i hi, List.drop_eq_getElem_cons hi]
    by_cases h1 : Op.bytesLess key.toList (l[i]).f0.toList = true
    · rw [if_pos h1, if_pos (by omega), List.filter_cons_of_pos (by simpa using h1)]
      rcases ih (i + 1) k (acc ++ [⟨(l[i]).f0, (l[i]).f1⟩]) (by omega) (by simp; omega) (by omega) with h | h
      · rw [h]; simp
      · simp at h; omega
    · rw [if_neg h1, List.filter_cons_of_neg (by simpa using h1)]
      rcases ih (i + 1) k acc (by omega) (by omega) (by omega) with h | h
      · exact h
      · omega
theorem put_loop0 (l : List S109) (key : ByteArray) (ch : List S28) (hl : l.length ≤ 100000) : ∀ (d i k : Nat) (acc : List S109), i + d = l.length → acc.length ≤ i → d + l.length + 3 < k → conductorref08_put.l0 k l acc l l.length i key ch = some (acc ++ (l.drop i).filter (fun y => Op.bytesLess y.f0.toList key.toList) ++ (if ch.length = 0 then [] else [⟨key, ch⟩]) ++ l.filter (fun y => Op.bytesLess key.toList y.f0.toList)) := by
  intro d
  induction d with
  | zero =>
    intro i k acc hd ha hk
    obtain ⟨k, rfl⟩ : ∃ m, k = m + 2 := ⟨k - 2, by omega⟩
    simp only [conductorref08_put.l0, conductorref08_put.j1]
    rw [if_neg (by omega), List.drop_eq_nil_of_le (by omega)]
    by_cases hc : ch.length = 0
    · rw [if_neg (by omega), if_pos hc]
      rcases put_loop1 l key ch hl l.length 0 k acc (by omega) (by omega) (by omega) with h | h
      · rw [show ((0 : Nat) : Int) = 0 from rfl] at h; rw [h]; simp
      · omega
    · rw [if_pos (by omega), if_neg hc, if_pos (by omega)]
      rcases put_loop1 l key ch hl l.length 0 k (acc ++ [⟨key, ch⟩]) (by omega) (by simp; omega) (by omega) with h | h
      · rw [show ((0 : Nat) : Int) = 0 from rfl] at h; rw [h]; simp
      · simp at h; omega
  | succ d ih =>
    intro i k acc hd ha hk
    obtain ⟨k, rfl⟩ : ∃ m, k = m + 1 := ⟨k - 1, by omega⟩
    have hi : i < l.length := by omega
    simp only [conductorref08_put.l0]
    rw [if_pos (by omega), if_pos (by omega), if_pos (by omega), w1 hi (by omega), rd109 l i hi, List.drop_eq_getElem_cons hi]
    by_cases h1 : Op.bytesLess (l[i]).f0.toList key.toList = true
    · rw [if_pos h1, if_pos (by omega), List.filter_cons_of_pos (by simpa using h1), ih (i + 1) k _ (by omega) (by simp; omega) (by omega)]
      simp
    · rw [if_neg h1, List.filter_cons_of_neg (by simpa using h1), ih (i + 1) k _ (by omega) (by omega) (by omega)]
theorem put_hyp : PutHyp := fun K key ch hl => ⟨K.length + K.length + 4, by
  unfold conductorref08_put.f putK
  rw [show ((0 : Int)) = ((0 : Nat) : Int) from rfl, put_loop0 K key ch hl K.length 0 _ [] (by omega) (by simp) (by omega)]
  simp⟩
def chkR : ByteArray → List S102 → Int
  | _, [] => 0
  | q, x :: t => if x.f0.size > 256 then 3 else if x.f2.length > 4096 then 3 else if Op.bytesLess q.toList x.f0.toList = true then (if x.f1 = true ∧ x.f2.length > 0 then 1 else chkR x.f0 t) else 1
theorem rchk_loop (l : List S102) (hl : l.length ≤ 1000) : ∀ (d i k : Nat) (q : ByteArray), i + d = l.length → 2 * d < k → conductorref08_Check.l0 k q l l.length i = some (chkR q (l.drop i)) := by
  intro d
  induction d with
  | zero =>
    intro i k q hd hk
    obtain ⟨k, rfl⟩ : ∃ m, k = m + 1 := ⟨k - 1, by omega⟩
    simp only [conductorref08_Check.l0]
    rw [if_neg (by omega), List.drop_eq_nil_of_le (by omega)]; rfl
  | succ d ih =>
    intro i k q hd hk
    obtain ⟨k, rfl⟩ : ∃ m, k = m + 2 := ⟨k - 2, by omega⟩
    have hi : i < l.length := by omega
    have hw : wrap64 ((i : Int) + 1) = ((i + 1 : Nat) : Int) := by unfold wrap64; omega
    simp only [conductorref08_Check.l0, conductorref08_Check.j1]
    rw [if_pos (by omega), if_pos (by omega), if_pos (by omega), rd102 l i hi, List.drop_eq_getElem_cons hi, hw]
    have hih := ih (i + 1) k (l[i]).f0 (by omega) (by omega)
    rw [hih]
    simp only [chkR]
    by_cases h1 : ((l[i]).f0.size : Int) > 256
    · rw [if_pos h1, if_pos (show (l[i]).f0.size > 256 by omega)]; rfl
    rw [if_neg h1, if_neg (show ¬ (l[i]).f0.size > 256 by omega)]
    by_cases h2 : ((l[i]).f2.length : Int) > 4096
    · rw [if_pos (decide_eq_true h2), if_pos (show (l[i]).f2.length > 4096 by omega)]
    rw [if_neg (by simpa using h2), if_neg (show ¬ (l[i]).f2.length > 4096 by omega)]
    by_cases h3 : Op.bytesLess q.toList (l[i]).f0.toList = true
    · rw [if_pos h3, if_pos h3]
      by_cases h5 : (l[i]).f1 = true <;> by_cases h6 : ((l[i]).f2.length : Int) > 0
      · rw [if_pos h5, if_pos h6, if_pos ⟨h5, by omega⟩]
      · rw [if_pos h5, if_neg h6, if_neg (by omega)]
      · rw [if_neg h5, if_neg (fun h => h5 h.1)]
      · rw [if_neg h5, if_neg (fun h => h5 h.1)]
    · rw [if_neg h3, if_neg h3]
theorem chkR_some : ∀ (l : List S102) (q : ByteArray), chkR q l = chkL (some q) l ∨ q.toList = []
  | [], _ => .inl rfl
  | x :: t, q => by
    by_cases hq : q.toList = []
    · exact .inr hq
    left
    simp only [chkR, chkL]
    by_cases h1 : x.f0.size > 256
    · rw [if_pos h1, if_pos h1]
    rw [if_neg h1, if_neg h1]
    by_cases h2 : x.f2.length > 4096
    · rw [if_pos h2, if_pos h2]
    rw [if_neg h2, if_neg h2]
    by_cases h3 : Op.bytesLess q.toList x.f0.toList = true
    · have h4 : ¬ x.f0.toList = [] := fun e => by
        rw [e, Proofs.bytesLess_eq] at h3
        exact absurd (of_decide_eq_true h3) (List.not_lt_nil _)
      have hb : ¬ ((!Op.bytesLess q.toList x.f0.toList) = true) := by rw [h3]; decide
      rw [if_pos h3, if_neg h4]
      by_cases h5 : x.f1 = true ∧ x.f2.length > 0
      · rw [if_pos h5, if_neg hb, if_pos h5]
      · rw [if_neg h5, if_neg hb, if_neg h5]
        exact (chkR_some t x.f0).resolve_right h4
    · rw [if_neg h3]
      by_cases h4 : x.f0.toList = []
      · rw [if_pos h4]
      · rw [if_neg h4, if_pos (by simpa using h3)]
theorem chkR_none (l : List S102) : chkR ⟨#[]⟩ l = chkL none l := by
  cases l with
  | nil => rfl
  | cons x t =>
    simp only [chkR, chkL]
    by_cases h1 : x.f0.size > 256
    · rw [if_pos h1, if_pos h1]
    rw [if_neg h1, if_neg h1]
    by_cases h2 : x.f2.length > 4096
    · rw [if_pos h2, if_pos h2]
    rw [if_neg h2, if_neg h2]
    have hn : (⟨#[]⟩ : ByteArray).toList = [] := by decide +kernel
    rw [hn]
    by_cases h4 : x.f0.toList = []
    · rw [if_pos h4, h4, if_neg (by decide)]
    · have h3 : Op.bytesLess [] x.f0.toList = true := by
        rw [Proofs.bytesLess_eq]
        cases e : x.f0.toList with
        | nil => exact absurd e h4
        | cons a b => exact decide_eq_true (List.nil_lt_cons a b)
      rw [if_pos h3, if_neg h4]
      by_cases h5 : x.f1 = true ∧ x.f2.length > 0
      · rw [if_pos h5, if_neg (show ¬ (false = true) by decide), if_pos h5]
      · rw [if_neg h5, if_neg (show ¬ (false = true) by decide), if_neg h5]
        exact (chkR_some t x.f0).resolve_right h4
theorem r_check (l : List S102) (hl : l.length ≤ 1000) : ∃ k, conductorref08_Check.f k l = some (chkL none l) := ⟨2 * l.length + 1, by
  unfold conductorref08_Check.f
  rw [show ((0 : Int)) = ((0 : Nat) : Int) from rfl, rchk_loop l hl l.length 0 _ _ (by omega) (by omega), List.drop_zero, chkR_none]⟩
theorem words_loop (l : List ByteArray) (hl : l.length ≤ 1000000) : ∀ (d i k : Nat), i + d = l.length → d < k → conductorref02_Same.l0 k l l l.length i = some true := by
  intro d
  induction d with
  | zero =>
    intro i k hd hk
    obtain ⟨k, rfl⟩ : ∃ m, k = m + 1 := ⟨k - 1, by omega⟩
    simp only [conductorref02_Same.l0]
    rw [if_neg (by omega)]
  | succ d ih =>
    intro i k hd hk
    obtain ⟨k, rfl⟩ : ∃ m, k = m + 1 := ⟨k - 1, by omega⟩
    have hi : i < l.length := by omega
    have hc : (i : Int) < (l.length : Int) := by omega
    have h0 : (0 : Int) ≤ (i : Int) := by omega
    simp only [conductorref02_Same.l0, hc, h0, if_true, w1 hi (show l.length ≤ 9223372036854775807 by omega)]
    exact ih (i + 1) k (by omega) (by omega)
theorem words_refl (l : List ByteArray) (hl : l.length ≤ 1000000) : ∃ k, conductorref02_Same.f k l l = some true :=
  ⟨l.length + 1, by unfold conductorref02_Same.f; rw [if_pos rfl]; exact words_loop l hl l.length 0 _ (by omega) (by omega)⟩
end Go.Proofs.Yteofdgonpbmdlaa.R
namespace Go.Proofs.Yteofdgonpbmdlaa.R
open Go.RowKit Go.Maps Go.Proofs.YteofdgonpbmdlaaW.PrintWords Go.Proofs.YteofdgonpbmdlaaW.PrintLast Go.Proofs.YteofdgonpbmdlaaW.PrintMore Go.Proofs.Yteofdgonpbmdlaa.C Go.Proofs.Yteofdgonpbmdlaa.St Go.Proofs.Yteofdgonpbmdlaa.Pure
attribute [local go_sem] max2_int min2_int max2_str min2_str str_leq str_gtr str_geq max_two min_two max_three min_three max_four min_four
def scanR (gf : S109 → List Int × Bool) (lo hi : ByteArray) : List S109 → List S62
  | [] => []
  | x :: t => if (gf x).2 = true ∧ Op.bytesLess x.f0.toList lo.toList = false ∧ (hi.toList.isEmpty = true ∨ Op.bytesLess x.f0.toList hi.toList = true) then ⟨x.f0, (gf x).1⟩ :: scanR gf lo hi t else scanR gf lo hi t
set_option maxRecDepth 100000 in
set_option maxHeartbeats 8000000 in
theorem ref_Scan {W : World} {ok : Nat → Prop} {p : Nat} {r : RS} {A : Option Addr} {c : Nat} (h : Aside0 (RAt W ok p r A c)) (lo hi : ByteArray) (a : Int) (hl : Aside0 (r.K.length ≤ 100000)) (gf : S109 → List Int × Bool) (hg : Aside0 (∀ x ∈ r.K, ∃ k, conductorref07_Get.f k x.f1 a = some (gf x))) :
    Calls Try.prog 81 #[.pointer (some ⟨p, 0, none⟩), .string lo, .string hi, .int .u64 a] W fun e w' => (∃ A2 c2, e = .returned (.slice A2 (scanR gf lo hi r.K).length c2) ∧ (scanR gf lo hi r.K).length ≤ c2 ∧ Kd.F k62 w' (fun k => ok k ∨ W.heap.size ≤ k) A2 (scanR gf lo hi r.K).length (scanR gf lo hi r.K)) ∧ Below W.heap.size W w' := by
  have HR0 := Aside0.mk (Kd.F_bound h.out.row)
  have h8 := h.out.c8
  have HB0 := Aside0.mk (Below.refl W.heap.size W)
  go_enter Try.func81, Try.ntmps81
  go_wp2
  clear h8
  go_loopw [9, 19] (fun vo vi wr => ∃ (i : Nat) (xs : List S62), vi = .int .i64 i ∧ i ≤ r.K.length ∧ xs.length ≤ i ∧ Aside0 (xs ++ scanR gf lo hi (r.K.drop i) = scanR gf lo hi r.K) ∧ Aside0 (Kd.N k62 62 wr W.heap.size (fun k_ => ok k_ ∨ W.heap.size ≤ k_) vo xs) ∧ Aside0 (Below W.heap.size W wr)) (fun _ vi _ => r.K.length - (intOf vi).toNat)
  case atStart => exact ⟨0, [], rfl, Nat.zero_le _, Nat.le_refl _, ⟨rfl⟩, ⟨Kd.N_nil _ _ _ _ _⟩, HB0⟩
  case round =>
    clear HB0
    obtain ⟨i, xs, rfl, hi1, hi2, HD, HO, HB⟩ := hrel
    by_cases hlt : i < r.K.length
    · have hi4 : i < 100000 := by have := hl.out; omega
      have HR := Aside0.mk (Kd.F_below HR0.out HB.out)
      obtain ⟨ad, ce_, rfl, hcl_, hFK, hcc, hok⟩ := Kd.F_get HR.out z109 (i : Int) (by omega) (by omega)
      rw [show r.K.getD (i : Int).toNat z109 = r.K[i] by simp [List.getD, List.getElem?_eq_getElem hlt]] at hFK
      obtain ⟨x, hx⟩ : ∃ x, r.K[i] = x := ⟨_, rfl⟩
      rw [hx] at hFK
      obtain ⟨A2, c2, rfl, hl2, hg2⟩ := k109_openF hFK
      have e0 : wr.cell? (ad.add (i * 2)) = some (.string x.f0) := hcc 0 _ rfl
      have e1 : wr.cell? ⟨(ad.add (i * 2)).block, (ad.add (i * 2)).off + 1, none⟩ = some (.slice A2 x.f1.length c2) := by rw [← add_field _ _ 1 (by omega)]; exact hcc 1 _ rfl
      have HG2 := Aside0.mk hg2
      have HL2 := Aside0.mk hl2
      have hmem : x ∈ r.K := hx ▸ List.getElem_mem hlt
      have HX := Aside0.mk hx
      clear hcl_ hFK hcc hok hl2 hg2 hx
      have hd : xs ++ scanR gf lo hi (x :: r.K.drop (i + 1)) = scanR gf lo hi r.K := by rw [← HX.out, ← drop_109 _ _ hlt]; exact HD.out
      obtain ⟨k_, hk_⟩ := hg.out x hmem
      obtain ⟨gb, gi, hgf⟩ : ∃ gb gi, gf x = (gb, gi) := ⟨_, _, rfl⟩
      rw [hgf] at hk_
      have HG := Aside0.mk hk_
      have HD' := Aside0.mk hd
      have HGF := Aside0.mk hgf
      clear hd HD hk_ hgf
      cases gi with
      | false =>
        go_wp2_with (first
          | ((with_reducible refine gate_dst (N := 11) rfl ?_); refine box_event ?hg (N := 11) ?hd (cs := #[.string ⟨#[]⟩, .slice none 0 0]) (t := 109) ?hr ?_; (case hd => rfl); (case hg => rfl); (case hr => first | (go_simp; done) | (go_simp; rfl)); intro g7 hg wax hbox hb; have HBa := Aside0.mk hb; have GEx := Aside0.mk (show wr.heap.size ≤ g7 by rw [hg]; exact Nat.le_refl _); have BKa := Aside0.mk hbox; have z0 := (blk_cell hbox 0).trans (show _ = some (Value.string ⟨#[]⟩) from rfl); have y0 := blk_frozen hbox 0; have z1 := (blk_cell hbox 1).trans (show _ = some (Value.slice none 0 0) from rfl); have y1 := blk_frozen hbox 1; clear hbox hb hg)
          | ((with_reducible refine gate_store (t := 109) (p := 11) rfl ?_); refine store_event (t := 109) (p := 11) (v := ?vo2_) (w1 := (wax.setCell ⟨g7, 0, none⟩ (.string x.f0)).setCell ⟨g7, 1, none⟩ (.slice A2 x.f1.length c2)) ?hg ?ho ?hn ?hr ?_; (case ho => rfl); (case hg => rfl); (case hn => rfl); (case hr => first | (go_simp; done) | (go_simp; rfl)); intro wb hw; have HBx := Aside0.mk (show Below wr.heap.size wr wb by rw [hw]; exact (below_set (below_set HBa.out GEx.out) GEx.out)); have BKx := Aside0.mk (show wb.heap[g7]? = some (.cells #[.string x.f0, .slice A2 x.f1.length c2] 109 (0, 0)) by rw [hw]; exact (blk_put (blk_put BKa.out 0 _ rfl) 1 _ rfl)); clear hw z0 y0 z1 y1 HBa BKa e0 e1; have qx0 := (blk_cell BKx.out 0).trans (show _ = some (Value.string x.f0) from rfl); have fx0 := blk_frozen BKx.out 0; have qx1 := (blk_cell BKx.out 1).trans (show _ = some (Value.slice A2 x.f1.length c2) from rfl); have fx1 := blk_frozen BKx.out 1; have HO := Aside0.mk (Kd.N_below HO.out HBx.out); have HBb := Aside0.mk (below_step HB.out HBx.out); have HGb := Aside0.mk (Kd.F_below HG2.out HBx.out))
          | (go_at_call 23; (with_reducible refine (conductorref07_Get.calls k_ (fun k => (ok k ∧ k ≠ p) ∧ k < W.heap.size) _ _ x.f1 a gb false _ ?s0 HG.out).mono ?_); (case s0 => exact Kd.V_mk HL2.out HGb.out); rintro e w2 ⟨v2, rfl, hv, hb⟩; obtain ⟨A3, c3, rfl, hl3, hF3⟩ := hv; have HF3 := Aside0.mk hF3; have HL3 := Aside0.mk hl3; have HO2 := Aside0.mk (Kd.N_below HO.out hb); have HB2 := Aside0.mk (below_step HBb.out hb); have BK2 := Aside0.mk (blk_below BKx.out hb); have HLT := Aside0.mk (Kd.N_lt HO.out); clear hF3 hl3 hb HO qx0 qx1 fx0 fx1; have q0_ := (blk_cell BK2.out 0).trans (show _ = some (Value.string x.f0) from rfl)))
        go_roundw
        case measure => simp [intOf]; omega
        case rel => exact ⟨i + 1, xs, by go_num, hlt, by omega, ⟨by have h_ := HD'.out; simp only [scanR] at h_; rw [HGF.out, if_neg (fun q => absurd q.1 (by simp))] at h_; exact h_⟩, HO2, HB2⟩
      | true =>
        cases z1 : Op.bytesLess x.f0.toList lo.toList with
        | true =>
          go_wp2_with (first
            | ((with_reducible refine gate_dst (N := 11) rfl ?_); refine box_event ?hg (N := 11) ?hd (cs := #[.string ⟨#[]⟩, .slice none 0 0]) (t := 109) ?hr ?_; (case hd => rfl); (case hg => rfl); (case hr => first | (go_simp; done) | (go_simp; rfl)); intro g7 hg wax hbox hb; have HBa := Aside0.mk hb; have GEx := Aside0.mk (show wr.heap.size ≤ g7 by rw [hg]; exact Nat.le_refl _); have BKa := Aside0.mk hbox; have z0 := (blk_cell hbox 0).trans (show _ = some (Value.string ⟨#[]⟩) from rfl); have y0 := blk_frozen hbox 0; have z1 := (blk_cell hbox 1).trans (show _ = some (Value.slice none 0 0) from rfl); have y1 := blk_frozen hbox 1; clear hbox hb hg)
            | ((with_reducible refine gate_store (t := 109) (p := 11) rfl ?_); refine store_event (t := 109) (p := 11) (v := ?vo2_) (w1 := (wax.setCell ⟨g7, 0, none⟩ (.string x.f0)).setCell ⟨g7, 1, none⟩ (.slice A2 x.f1.length c2)) ?hg ?ho ?hn ?hr ?_; (case ho => rfl); (case hg => rfl); (case hn => rfl); (case hr => first | (go_simp; done) | (go_simp; rfl)); intro wb hw; have HBx := Aside0.mk (show Below wr.heap.size wr wb by rw [hw]; exact (below_set (below_set HBa.out GEx.out) GEx.out)); have BKx := Aside0.mk (show wb.heap[g7]? = some (.cells #[.string x.f0, .slice A2 x.f1.length c2] 109 (0, 0)) by rw [hw]; exact (blk_put (blk_put BKa.out 0 _ rfl) 1 _ rfl)); clear hw z0 y0 z1 y1 HBa BKa e0 e1; have qx0 := (blk_cell BKx.out 0).trans (show _ = some (Value.string x.f0) from rfl); have fx0 := blk_frozen BKx.out 0; have qx1 := (blk_cell BKx.out 1).trans (show _ = some (Value.slice A2 x.f1.length c2) from rfl); have fx1 := blk_frozen BKx.out 1; have HO := Aside0.mk (Kd.N_below HO.out HBx.out); have HBb := Aside0.mk (below_step HB.out HBx.out); have HGb := Aside0.mk (Kd.F_below HG2.out HBx.out))
            | (go_at_call 23; (with_reducible refine (conductorref07_Get.calls k_ (fun k => (ok k ∧ k ≠ p) ∧ k < W.heap.size) _ _ x.f1 a gb true _ ?s0 HG.out).mono ?_); (case s0 => exact Kd.V_mk HL2.out HGb.out); rintro e w2 ⟨v2, rfl, hv, hb⟩; obtain ⟨A3, c3, rfl, hl3, hF3⟩ := hv; have HF3 := Aside0.mk hF3; have HL3 := Aside0.mk hl3; have HO2 := Aside0.mk (Kd.N_below HO.out hb); have HB2 := Aside0.mk (below_step HBb.out hb); have BK2 := Aside0.mk (blk_below BKx.out hb); have HLT := Aside0.mk (Kd.N_lt HO.out); clear hF3 hl3 hb HO qx0 qx1 fx0 fx1; have q0_ := (blk_cell BK2.out 0).trans (show _ = some (Value.string x.f0) from rfl)))
          go_roundw
          case measure => simp [intOf]; omega
          case rel => exact ⟨i + 1, xs, by go_num, hlt, by omega, ⟨by have h_ := HD'.out; simp only [scanR] at h_; rw [HGF.out, if_neg (fun q => absurd (z1.symm.trans q.2.1) (by simp))] at h_; exact h_⟩, HO2, HB2⟩
        | false =>
          cases z2 : hi.toList.isEmpty with
          | true =>
            have z2b : (hi.toList == ([] : List UInt8)) = true := by simpa using z2
            go_wp2_with (first
              | ((with_reducible refine gate_dst (N := 11) rfl ?_); refine box_event ?hg (N := 11) ?hd (cs := #[.string ⟨#[]⟩, .slice none 0 0]) (t := 109) ?hr ?_; (case hd => rfl); (case hg => rfl); (case hr => first | (go_simp; done) | (go_simp; rfl)); intro g7 hg wax hbox hb; have HBa := Aside0.mk hb; have GEx := Aside0.mk (show wr.heap.size ≤ g7 by rw [hg]; exact Nat.le_refl _); have BKa := Aside0.mk hbox; have z0 := (blk_cell hbox 0).trans (show _ = some (Value.string ⟨#[]⟩) from rfl); have y0 := blk_frozen hbox 0; have z1 := (blk_cell hbox 1).trans (show _ = some (Value.slice none 0 0) from rfl); have y1 := blk_frozen hbox 1; clear hbox hb hg)
              | ((with_reducible refine gate_store (t := 109) (p := 11) rfl ?_); refine store_event (t := 109) (p := 11) (v := ?vo2_) (w1 := (wax.setCell ⟨g7, 0, none⟩ (.string x.f0)).setCell ⟨g7, 1, none⟩ (.slice A2 x.f1.length c2)) ?hg ?ho ?hn ?hr ?_; (case ho => rfl); (case hg => rfl); (case hn => rfl); (case hr => first | (go_simp; done) | (go_simp; rfl)); intro wb hw; have HBx := Aside0.mk (show Below wr.heap.size wr wb by rw [hw]; exact (below_set (below_set HBa.out GEx.out) GEx.out)); have BKx := Aside0.mk (show wb.heap[g7]? = some (.cells #[.string x.f0, .slice A2 x.f1.length c2] 109 (0, 0)) by rw [hw]; exact (blk_put (blk_put BKa.out 0 _ rfl) 1 _ rfl)); clear hw z0 y0 z1 y1 HBa BKa e0 e1; have qx0 := (blk_cell BKx.out 0).trans (show _ = some (Value.string x.f0) from rfl); have fx0 := blk_frozen BKx.out 0; have qx1 := (blk_cell BKx.out 1).trans (show _ = some (Value.slice A2 x.f1.length c2) from rfl); have fx1 := blk_frozen BKx.out 1; have HO := Aside0.mk (Kd.N_below HO.out HBx.out); have HBb := Aside0.mk (below_step HB.out HBx.out); have HGb := Aside0.mk (Kd.F_below HG2.out HBx.out))
              | (go_at_call 23; (with_reducible refine (conductorref07_Get.calls k_ (fun k => (ok k ∧ k ≠ p) ∧ k < W.heap.size) _ _ x.f1 a gb true _ ?s0 HG.out).mono ?_); (case s0 => exact Kd.V_mk HL2.out HGb.out); rintro e w2 ⟨v2, rfl, hv, hb⟩; obtain ⟨A3, c3, rfl, hl3, hF3⟩ := hv; have HF3 := Aside0.mk hF3; have HL3 := Aside0.mk hl3; have HO2 := Aside0.mk (Kd.N_below HO.out hb); have HB2 := Aside0.mk (below_step HBb.out hb); have BK2 := Aside0.mk (blk_below BKx.out hb); have HLT := Aside0.mk (Kd.N_lt HO.out); clear hF3 hl3 hb HO qx0 qx1 fx0 fx1; have q0_ := (blk_cell BK2.out 0).trans (show _ = some (Value.string x.f0) from rfl))
              | ((with_reducible refine gate_builtin (b := .append) (xs := #[.tmp 47, .tmp 52]) rfl ?_); at_builtin; refine Kd.N_append k62 (w0 := W) W.heap.size rfl (.tmp 47) (.tmp 52) 56 62 (.agg #[(.string ⟨#[]⟩), (.slice none 0 0)]) 40 rfl Try.underlying56 info62 rfl (by decide) (by omega) u9 xs (⟨x.f0, gb⟩ : S62) [.string x.f0, .slice A3 gb.length c3] (fun k_ => ok k_ ∨ W.heap.size ≤ k_) (fun k_ => (ok k_ ∨ W.heap.size ≤ k_) ∧ some k_ ≠ (u9 : Value).ownBlock) rfl rfl ?aP (fun _ hk => hk) ?aF ?aO ?aB ?aS ?aL ?_; (case aP => exact k62_mkF w2 _ (⟨x.f0, gb⟩ : S62) HL3.out (Kd.F_mono HF3.out (fun k_ hk => hk.elim (fun q => ⟨.inl q.1.1, fun e => by have h1_ := Kd.N_base HO2.out k_ e.symm; have h2_ := q.2; omega⟩) (fun q => ⟨.inr (Nat.le_trans HBb.out.size q), fun e => by have h1_ := HLT.out k_ e.symm; omega⟩)))); (case aB => exact HB2.out); (case aF => exact (fun k_ hk => .inr (Nat.le_trans HB2.out.size hk))); (case aO => exact HO2.out); (case aS => exact HB2.out.size); (case aL => have := hl.out; omega); intro v3 w3 ho3 hb3 hg_ hat_; clear hg_ hat_; have HO3 := Aside0.mk ho3; have HB3 := Aside0.mk hb3; clear ho3 hb3))
            go_roundw
            case measure => simp [intOf]; omega
            case rel => exact ⟨i + 1, xs ++ [⟨x.f0, gb⟩], by go_num, hlt, by simp; omega, ⟨by have h_ := HD'.out; simp only [scanR] at h_; rw [HGF.out, if_pos ⟨rfl, z1, .inl z2⟩] at h_; simpa using h_⟩, HO3, HB3⟩
          | false =>
            have z2b : (hi.toList == ([] : List UInt8)) = false := by simpa using z2
            cases z3 : Op.bytesLess x.f0.toList hi.toList with
            | true =>
              go_wp2_with (first
                | ((with_reducible refine gate_dst (N := 11) rfl ?_); refine box_event ?hg (N := 11) ?hd (cs := #[.string ⟨#[]⟩, .slice none 0 0]) (t := 109) ?hr ?_; (case hd => rfl); (case hg => rfl); (case hr => first | (go_simp; done) | (go_simp; rfl)); intro g7 hg wax hbox hb; have HBa := Aside0.mk hb; have GEx := Aside0.mk (show wr.heap.size ≤ g7 by rw [hg]; exact Nat.le_refl _); have BKa := Aside0.mk hbox; have z0 := (blk_cell hbox 0).trans (show _ = some (Value.string ⟨#[]⟩) from rfl); have y0 := blk_frozen hbox 0; have z1 := (blk_cell hbox 1).trans (show _ = some (Value.slice none 0 0) from rfl); have y1 := blk_frozen hbox 1; clear hbox hb hg)
                | ((with_reducible refine gate_store (t := 109) (p := 11) rfl ?_); refine store_event (t := 109) (p := 11) (v := ?vo2_) (w1 := (wax.setCell ⟨g7, 0, none⟩ (.string x.f0)).setCell ⟨g7, 1, none⟩ (.slice A2 x.f1.length c2)) ?hg ?ho ?hn ?hr ?_; (case ho => rfl); (case hg => rfl); (case hn => rfl); (case hr => first | (go_simp; done) | (go_simp; rfl)); intro wb hw; have HBx := Aside0.mk (show Below wr.heap.size wr wb by rw [hw]; exact (below_set (below_set HBa.out GEx.out) GEx.out)); have BKx := Aside0.mk (show wb.heap[g7]? = some (.cells #[.string x.f0, .slice A2 x.f1.length c2] 109 (0, 0)) by rw [hw]; exact (blk_put (blk_put BKa.out 0 _ rfl) 1 _ rfl)); clear hw z0 y0 z1 y1 HBa BKa e0 e1; have qx0 := (blk_cell BKx.out 0).trans (show _ = some (Value.string x.f0) from rfl); have fx0 := blk_frozen BKx.out 0; have qx1 := (blk_cell BKx.out 1).trans (show _ = some (Value.slice A2 x.f1.length c2) from rfl); have fx1 := blk_frozen BKx.out 1; have HO := Aside0.mk (Kd.N_below HO.out HBx.out); have HBb := Aside0.mk (below_step HB.out HBx.out); have HGb := Aside0.mk (Kd.F_below HG2.out HBx.out))
                | (go_at_call 23; (with_reducible refine (conductorref07_Get.calls k_ (fun k => (ok k ∧ k ≠ p) ∧ k < W.heap.size) _ _ x.f1 a gb true _ ?s0 HG.out).mono ?_); (case s0 => exact Kd.V_mk HL2.out HGb.out); rintro e w2 ⟨v2, rfl, hv, hb⟩; obtain ⟨A3, c3, rfl, hl3, hF3⟩ := hv; have HF3 := Aside0.mk hF3; have HL3 := Aside0.mk hl3; have HO2 := Aside0.mk (Kd.N_below HO.out hb); have HB2 := Aside0.mk (below_step HBb.out hb); have BK2 := Aside0.mk (blk_below BKx.out hb); have HLT := Aside0.mk (Kd.N_lt HO.out); clear hF3 hl3 hb HO qx0 qx1 fx0 fx1; have q0_ := (blk_cell BK2.out 0).trans (show _ = some (Value.string x.f0) from rfl))
                | ((with_reducible refine gate_builtin (b := .append) (xs := #[.tmp 47, .tmp 52]) rfl ?_); at_builtin; refine Kd.N_append k62 (w0 := W) W.heap.size rfl (.tmp 47) (.tmp 52) 56 62 (.agg #[(.string ⟨#[]⟩), (.slice none 0 0)]) 40 rfl Try.underlying56 info62 rfl (by decide) (by omega) u9 xs (⟨x.f0, gb⟩ : S62) [.string x.f0, .slice A3 gb.length c3] (fun k_ => ok k_ ∨ W.heap.size ≤ k_) (fun k_ => (ok k_ ∨ W.heap.size ≤ k_) ∧ some k_ ≠ (u9 : Value).ownBlock) rfl rfl ?aP (fun _ hk => hk) ?aF ?aO ?aB ?aS ?aL ?_; (case aP => exact k62_mkF w2 _ (⟨x.f0, gb⟩ : S62) HL3.out (Kd.F_mono HF3.out (fun k_ hk => hk.elim (fun q => ⟨.inl q.1.1, fun e => by have h1_ := Kd.N_base HO2.out k_ e.symm; have h2_ := q.2; omega⟩) (fun q => ⟨.inr (Nat.le_trans HBb.out.size q), fun e => by have h1_ := HLT.out k_ e.symm; omega⟩)))); (case aB => exact HB2.out); (case aF => exact (fun k_ hk => .inr (Nat.le_trans HB2.out.size hk))); (case aO => exact HO2.out); (case aS => exact HB2.out.size); (case aL => have := hl.out; omega); intro v3 w3 ho3 hb3 hg_ hat_; clear hg_ hat_; have HO3 := Aside0.mk ho3; have HB3 := Aside0.mk hb3; clear ho3 hb3))
              go_roundw
              case measure => simp [intOf]; omega
              case rel => exact ⟨i + 1, xs ++ [⟨x.f0, gb⟩], by go_num, hlt, by simp; omega, ⟨by have h_ := HD'.out; simp only [scanR] at h_; rw [HGF.out, if_pos ⟨rfl, z1, .inr z3⟩] at h_; simpa using h_⟩, HO3, HB3⟩
            | false =>
              go_wp2_with (first
                | ((with_reducible refine gate_dst (N := 11) rfl ?_); refine box_event ?hg (N := 11) ?hd (cs := #[.string ⟨#[]⟩, .slice none 0 0]) (t := 109) ?hr ?_; (case hd => rfl); (case hg => rfl); (case hr => first | (go_simp; done) | (go_simp; rfl)); intro g7 hg wax hbox hb; have HBa := Aside0.mk hb; have GEx := Aside0.mk (show wr.heap.size ≤ g7 by rw [hg]; exact Nat.le_refl _); have BKa := Aside0.mk hbox; have z0 := (blk_cell hbox 0).trans (show _ = some (Value.string ⟨#[]⟩) from rfl); have y0 := blk_frozen hbox 0; have z1 := (blk_cell hbox 1).trans (show _ = some (Value.slice none 0 0) from rfl); have y1 := blk_frozen hbox 1; clear hbox hb hg)
                | ((with_reducible refine gate_store (t := 109) (p := 11) rfl ?_); refine store_event (t := 109) (p := 11) (v := ?vo2_) (w1 := (wax.setCell ⟨g7, 0, none⟩ (.string x.f0)).setCell ⟨g7, 1, none⟩ (.slice A2 x.f1.length c2)) ?hg ?ho ?hn ?hr ?_; (case ho => rfl); (case hg => rfl); (case hn => rfl); (case hr => first | (go_simp; done) | (go_simp; rfl)); intro wb hw; have HBx := Aside0.mk (show Below wr.heap.size wr wb by rw [hw]; exact (below_set (below_set HBa.out GEx.out) GEx.out)); have BKx := Aside0.mk (show wb.heap[g7]? = some (.cells #[.string x.f0, .slice A2 x.f1.length c2] 109 (0, 0)) by rw [hw]; exact (blk_put (blk_put BKa.out 0 _ rfl) 1 _ rfl)); clear hw z0 y0 z1 y1 HBa BKa e0 e1; have qx0 := (blk_cell BKx.out 0).trans (show _ = some (Value.string x.f0) from rfl); have fx0 := blk_frozen BKx.out 0; have qx1 := (blk_cell BKx.out 1).trans (show _ = some (Value.slice A2 x.f1.length c2) from rfl); have fx1 := blk_frozen BKx.out 1; have HO := Aside0.mk (Kd.N_below HO.out HBx.out); have HBb := Aside0.mk (below_step HB.out HBx.out); have HGb := Aside0.mk (Kd.F_below HG2.out HBx.out))
                | (go_at_call 23; (with_reducible refine (conductorref07_Get.calls k_ (fun k => (ok k ∧ k ≠ p) ∧ k < W.heap.size) _ _ x.f1 a gb true _ ?s0 HG.out).mono ?_); (case s0 => exact Kd.V_mk HL2.out HGb.out); rintro e w2 ⟨v2, rfl, hv, hb⟩; obtain ⟨A3, c3, rfl, hl3, hF3⟩ := hv; have HF3 := Aside0.mk hF3; have HL3 := Aside0.mk hl3; have HO2 := Aside0.mk (Kd.N_below HO.out hb); have HB2 := Aside0.mk (below_step HBb.out hb); have BK2 := Aside0.mk (blk_below BKx.out hb); have HLT := Aside0.mk (Kd.N_lt HO.out); clear hF3 hl3 hb HO qx0 qx1 fx0 fx1; have q0_ := (blk_cell BK2.out 0).trans (show _ = some (Value.string x.f0) from rfl)))
              go_roundw
              case measure => simp [intOf]; omega
              case rel => exact ⟨i + 1, xs, by go_num, hlt, by omega, ⟨by have h_ := HD'.out; simp only [scanR] at h_; rw [HGF.out, if_neg (fun q => q.2.2.elim (fun u => absurd (z2.symm.trans u) (by simp)) (fun u => absurd (z3.symm.trans u) (by simp)))] at h_; exact h_⟩, HO2, HB2⟩
    · have HK := Aside0.mk (show xs = scanR gf lo hi r.K by rw [← HD.out, List.drop_eq_nil_of_le (by omega)]; simp [scanR])
      obtain ⟨A9, c9, ev⟩ := Kd.N_slice HO.out
      subst ev
      go_wp2
      go_ret
      rw [← HK.out]
      exact ⟨⟨A9, c9, rfl, (Kd.N_reads' HO.out).2.1, Kd.N_F HO.out⟩, HB.out⟩
/-- What comes of the collecting of some. -/
def colR (tf : S109 → List S28) : List S109 → List S109 → List S109
  | K, [] => K
  | K, x :: t => colR tf (putK K x.f0 (tf x)) t
theorem ref_trim {W : World} {okA : Nat → Prop} {A : Option Addr} {c : Nat} {l : List S28} (hF : Kd.F k28 W okA A l.length l) (hc : l.length ≤ c) (a : Int) {R : List S28} (hp : ∃ k, conductorref07_Trim.f k l a = some R) :
    Calls Try.prog 32 #[.slice A l.length c, .int .u64 a] W fun e w' => (∃ A2 c2, e = .returned (.slice A2 R.length c2) ∧ R.length ≤ c2 ∧ ∀ w3, Below w'.heap.size w' w3 → Kd.F k28 w3 (fun k => okA k ∨ W.heap.size ≤ k) A2 R.length R) ∧ Below W.heap.size W w' := by
  obtain ⟨k, hk⟩ := hp
  refine (conductorref07_Trim.calls k okA A c l a R W (Kd.V_mk hc hF) hk).mono ?_
  rintro e w' ⟨v, rfl, hn, hb⟩
  obtain ⟨A2, c2, rfl⟩ := Kd.N_slice hn
  exact ⟨⟨A2, c2, rfl, (Kd.N_reads' hn).2.1, fun w3 h3 => Kd.F_below (Kd.N_F hn) h3⟩, hb⟩
theorem RAt.mono2 {W : World} {ok ok' : Nat → Prop} {p : Nat} {r : RS} {A : Option Addr} {c : Nat} (h : RAt W ok p r A c) (hk : ∀ k, ok k → k ≠ p → k < W.heap.size → ok' k) : RAt W ok' p r A c :=
  ⟨h.cells, h.cap, Kd.F_mono (Kd.F_bound h.row) (fun k hk_ => ⟨hk k hk_.1.1 hk_.1.2 hk_.2, hk_.1.2⟩)⟩
theorem set_le {W W1 : World} (h : W.heap.size ≤ W1.heap.size) (a : Addr) (v : Value) : W.heap.size ≤ (W1.setCell a v).heap.size := by
  have e : (W1.setCell a v).heap.size = W1.heap.size := by simp [World.setCell]
  rw [e]; exact h
set_option maxRecDepth 100000 in
set_option maxHeartbeats 8000000 in
theorem ref_Collect {W : World} {ok : Nat → Prop} {p : Nat} {r : RS} {A : Option Addr} {c : Nat} (h : Aside0 (RAt W ok p r A c)) (low : Int) (hK : Aside0 (r.K.length ≤ 40000)) (tf : S109 → List S28) (ht : Aside0 (∀ x ∈ r.K, ∃ k, conductorref07_Trim.f k x.f1 low = some (tf x)))
    (hz : Aside0 (∀ x ∈ r.K, (∃ k, conductorref07_Size.f k x.f1 = some ((dsz x.f1 : Nat) : Int)) ∧ x.f0.size ≤ 9223372036854775807)) (K' : List S109) (hK' : Aside0 (colR tf r.K r.K = K')) (hz' : Aside0 (∀ x ∈ K', (∃ k, conductorref07_Size.f k x.f1 = some ((dsz x.f1 : Nat) : Int)) ∧ x.f0.size ≤ 9223372036854775807))
    (hq : Aside0 (∀ (K : List S109) (key : ByteArray) (ch : List S28), K.length ≤ 100000 → ∃ k, conductorref08_put.f k K key ch = some (putK K key ch))) :
    Calls Try.prog 78 #[.pointer (some ⟨p, 0, none⟩), .int .u64 low] W fun e w' => e = .returned (.int .i64 (wrap64 ((cntN r.K 0 0).1 - (cntN K' 0 0).1))) ∧ (∃ A2 c2, RAt w' (fun k => (ok k ∧ k ≠ p) ∨ W.heap.size ≤ k) p { r with K := K' } A2 c2) ∧ Turn p (fun k => k = p) W w' := by
  have HR0 := Aside0.mk (Kd.F_bound h.out.row)
  have hplt := Aside0.mk h.out.lt
  have CN := Aside0.mk (ref_Count h ⟨by have := hK.out; omega⟩ hz)
  have fl1 : ∀ (x y z : Int) (w : World), (Instr.field 72 (.agg #[.int .i64 x, .int .i64 y, .int .i64 z]) 1).run Try.prog w = .ok (.int .i64 y) w := fun _ _ _ _ => by kernel_rfl
  go_enter Try.func78, Try.ntmps78
  go_wp2_with (go_at_call 54; (with_reducible refine CN.out.mono ?_); rintro e w1 ⟨rfl, hb⟩; have HB1 := Aside0.mk hb; have HR1 := Aside0.mk (h.out.below hb); have h8 := HR1.out.c8; have hsz1 := Aside0.mk hb.size; have HT1 := Aside0.mk (Turn.of_below (base := p) hb (Nat.le_of_lt hplt.out) (fun k => k = p)); clear hb)
  clear h8 CN
  go_loopw [16] (fun vi wr => ∃ (i : Nat) (Kq : List S109) (Aq : Option Addr) (cq : Nat), vi = .int .i64 i ∧ i ≤ r.K.length ∧ Kq.length ≤ r.K.length + i ∧ Aside0 (colR tf Kq (r.K.drop i) = K') ∧ Aside0 (RAt wr (fun k => (ok k ∧ k ≠ p) ∨ W.heap.size ≤ k) p { r with K := Kq } Aq cq) ∧ Aside0 (Turn p (fun k => k = p) W wr) ∧ Aside0 (W.heap.size ≤ wr.heap.size)) (fun vi _ => r.K.length - (intOf vi).toNat)
  case atStart => exact ⟨0, r.K, A, c, rfl, Nat.zero_le _, by omega, hK', ⟨HR1.out.mono2 (fun k hk_ hn_ hl_ => .inl ⟨hk_, hn_⟩)⟩, HT1, hsz1⟩
  case round =>
    clear HR1 HT1 HB1
    obtain ⟨i, Kq, Aq, cq, rfl, hi1, hkq, HD, HR, HT, hsz0⟩ := hrel
    by_cases hlt : i < r.K.length
    · have hi4 : i < 40000 := by have := hK.out; omega
      have HRo := Aside0.mk (Kd.F_step HR0.out (fun k hk_ hl_ => HT.out.keep k hl_ hk_.1.2))
      obtain ⟨ad, ce_, rfl, hcl_, hFK, hcc, hok⟩ := Kd.F_get HRo.out z109 (i : Int) (by omega) (by omega)
      rw [show r.K.getD (i : Int).toNat z109 = r.K[i] by simp [List.getD, List.getElem?_eq_getElem hlt]] at hFK
      obtain ⟨x, hx⟩ : ∃ x, r.K[i] = x := ⟨_, rfl⟩
      rw [hx] at hFK
      obtain ⟨A2, c2, rfl, hl2, hg2⟩ := k109_openF hFK
      have e0 : wr.cell? (ad.add (i * 2)) = some (.string x.f0) := hcc 0 _ rfl
      have e1 : wr.cell? ⟨(ad.add (i * 2)).block, (ad.add (i * 2)).off + 1, none⟩ = some (.slice A2 x.f1.length c2) := by rw [← add_field _ _ 1 (by omega)]; exact hcc 1 _ rfl
      have HG2 := Aside0.mk hg2
      have HL2 := Aside0.mk hl2
      have hmem : x ∈ r.K := hx ▸ List.getElem_mem hlt
      have HX := Aside0.mk hx
      clear hcl_ hFK hcc hok hl2 hg2 hx
      have hd : colR tf Kq (x :: r.K.drop (i + 1)) = K' := by rw [← HX.out, ← drop_109 _ _ hlt]; exact HD.out
      have HD' := Aside0.mk hd
      have HTR := Aside0.mk (ht.out x hmem)
      have HPU := Aside0.mk (hq.out Kq x.f0 (tf x) (by have := hK.out; omega))
      clear hd HD hmem
      go_wp2_with (first
        | ((with_reducible refine gate_dst (N := 7) rfl ?_); refine box_event ?hg (N := 7) ?hd (cs := #[.string ⟨#[]⟩, .slice none 0 0]) (t := 109) ?hr ?_; (case hd => rfl); (case hg => rfl); (case hr => first | (go_simp; done) | (go_simp; rfl)); intro g7 hg wax hbox hb; have HBa := Aside0.mk hb; have GEx := Aside0.mk (show wr.heap.size ≤ g7 by rw [hg]; exact Nat.le_refl _); have BKa := Aside0.mk hbox; have z0 := (blk_cell hbox 0).trans (show _ = some (Value.string ⟨#[]⟩) from rfl); have y0 := blk_frozen hbox 0; have z1 := (blk_cell hbox 1).trans (show _ = some (Value.slice none 0 0) from rfl); have y1 := blk_frozen hbox 1; clear hbox hb hg)
        | ((with_reducible refine gate_store (t := 109) (p := 7) rfl ?_); refine store_event (t := 109) (p := 7) (v := ?vo1_) (w1 := (wax.setCell ⟨g7, 0, none⟩ (.string x.f0)).setCell ⟨g7, 1, none⟩ (.slice A2 x.f1.length c2)) ?hg ?ho ?hn ?hr ?_; (case ho => rfl); (case hg => rfl); (case hn => rfl); (case hr => first | (go_simp; done) | (go_simp; rfl)); intro wb hw; have HBx := Aside0.mk (show Below wr.heap.size wr wb by rw [hw]; exact (below_set (below_set HBa.out GEx.out) GEx.out)); have BKx := Aside0.mk (show wb.heap[g7]? = some (.cells #[.string x.f0, .slice A2 x.f1.length c2] 109 (0, 0)) by rw [hw]; exact (blk_put (blk_put BKa.out 0 _ rfl) 1 _ rfl)); clear hw z0 y0 z1 y1 HBa BKa e0 e1; have qx0 := (blk_cell BKx.out 0).trans (show _ = some (Value.string x.f0) from rfl); have fx0 := blk_frozen BKx.out 0; have qx1 := (blk_cell BKx.out 1).trans (show _ = some (Value.slice A2 x.f1.length c2) from rfl); have fx1 := blk_frozen BKx.out 1; have HRb := Aside0.mk (HR.out.below HBx.out); have hsz := Aside0.mk (show W.heap.size ≤ wb.heap.size from Nat.le_trans hsz0.out HBx.out.size); have HGb := Aside0.mk (Kd.F_below HG2.out HBx.out); have HTb := Aside0.mk (HT.out.then_ (Turn.of_below HBx.out (Nat.le_of_lt HR.out.lt) (fun _ => False)) (fun _ hk_ => hk_.elim))))
      go_simp
      clear fx0 fx1
      have d8 : wb.cell? ⟨p, 8, none⟩ = some (.slice Aq Kq.length cq) := HRb.out.c8
      go_region_with (first
        | (go_at_call 32; (with_reducible refine (ref_trim (Kd.F_drew HGb.out) HL2.out low HTR.out).mono ?_); rintro e w3 ⟨⟨A3, c3, rfl, hl3, hF3⟩, hb3⟩; have HB3 := Aside0.mk (below_step (below_drew1 (Below.refl _ _)) hb3); have HF3 := Aside0.mk (hF3 w3 (Below.refl _ _)); have HL3 := Aside0.mk hl3; have HRW := Aside0.mk (show Kd.F k109 w3 (fun k => (fun k => (ok k ∧ k ≠ p) ∨ W.heap.size ≤ k) k ∧ k ≠ p) Aq Kq.length Kq from (HRb.out.below HB3.out).row); have HCP := Aside0.mk (show Kq.length ≤ cq from HRb.out.cap); clear hb3 hl3 hF3; have d83 := pw_cell_below HB3.out d8; have qx03 := pw_cell_below HB3.out qx0)
        | (go_at_call 91; (with_reducible refine (ref_put HRW.out HCP.out x.f0 HF3.out HL3.out HPU.out).mono ?_); rintro e w7 ⟨⟨A6, c6, rfl, hl6, hF6⟩, hb7⟩; have HB7 := Aside0.mk (below_step HB3.out hb7); have HF6 := Aside0.mk (hF6 w7 (Below.refl _ _)); have HL6 := Aside0.mk hl6; clear hb7 hl6 hF6; have d87 := (HRb.out.below HB7.out).c8; have z8 := blk_frozen (HRb.out.below HB7.out).cells 8))
      all_goals
        go_wp2
        have HR8 := Aside0.mk ((HRb.out.below HB7.out).put8 (ok' := (fun k => (ok k ∧ k ≠ p) ∨ W.heap.size ≤ k)) HL6.out (Kd.F_mono HF6.out (fun k hk_ => by
          have h1_ := HRb.out.lt
          have h2_ := HB3.out.size
          have h3_ := HTb.out.below.size
          have h5_ := hplt.out
          have h4_ : wb.drew.heap.size = wb.heap.size := rfl
          have h6_ := hsz.out
          rcases hk_ with (q | q | q) | q
          · exact q
          · exact ⟨.inl q.1, q.1.2⟩
          · exact ⟨.inr (by omega), by omega⟩
          · exact ⟨.inr (by omega), by omega⟩)))
        have HT8 := Aside0.mk ((HTb.out.then_ (Turn.of_below HB7.out (Nat.le_of_lt HRb.out.lt) (fun _ => False)) (fun _ hk_ => hk_.elim)).then_ (Turn.set (S := fun k => k = p) ⟨p, 8, none⟩ (.slice A6 (putK Kq x.f0 (tf x)).length c6) (Nat.le_refl _) rfl) (fun _ hk_ => .inl hk_))
        have HKL := Aside0.mk (putK_len Kq x.f0 (tf x) bl_asym)
        go_roundw
        case measure => simp [intOf]; omega
        case rel => exact ⟨i + 1, putK Kq x.f0 (tf x), A6, c6, by go_num, hlt, by have := HKL.out; omega, HD', HR8, HT8, ⟨set_le (Nat.le_trans hsz.out HB7.out.size) _ _⟩⟩
    · have HKE := Aside0.mk (show Kq = K' by rw [← HD.out, List.drop_eq_nil_of_le (by omega)]; rfl)
      have hk80 := Aside0.mk (show Kq.length ≤ 100000 by have := hK.out; omega)
      have HR9 := Aside0.mk (show RAt wr (fun k => (ok k ∧ k ≠ p) ∨ W.heap.size ≤ k) p { r with K := K' } Aq cq from HKE.out ▸ HR.out)
      have CN2 := Aside0.mk (ref_Count HR9 (show Aside0 (K'.length ≤ 100000) from ⟨HKE.out ▸ hk80.out⟩) (show Aside0 (∀ x ∈ K', _) from hz'))
      go_wp2_with (go_at_call 54; (with_reducible refine CN2.out.mono ?_); rintro e w9 ⟨rfl, hb⟩; have HR10 := Aside0.mk (HR9.out.below hb); have HT10 := Aside0.mk (HT.out.then_ (Turn.of_below hb (Nat.le_of_lt HR.out.lt) (fun _ => False)) (fun _ hk_ => hk_.elim)); clear hb)
      go_ret
      exact ⟨rfl, ⟨Aq, cq, HR10.out⟩, HT10.out⟩
end Go.Proofs.Yteofdgonpbmdlaa.R
namespace Go.Proofs.Yteofdgonpbmdlaa.R
open Go.RowKit Go.Proofs.YteofdgonpbmdlaaW.PrintWords Go.Proofs.Yteofdgonpbmdlaa.C Go.Proofs.Yteofdgonpbmdlaa.St Go.Proofs.Yteofdgonpbmdlaa.Pure
def ofS (s : SS) : List S109 := s.keys.map (fun k => ⟨k, s.ch k⟩)
theorem ofS_keys (s : SS) : (ofS s).map (·.f0) = s.keys := by
  unfold ofS; rw [List.map_map]; simp [Function.comp_def]
structure KOk (K : List S109) (ch : ByteArray → List S28) : Prop where
  so : Sorted (K.map (·.f0))
  el : ∀ x ∈ K, x.f1 = ch x.f0
  me : ∀ key, key ∈ K.map (·.f0) ↔ ch key ≠ []
theorem KOk.of {m : Nat} {s : SS} (h : St.Good m s) : KOk (ofS s) s.ch where
  so := by rw [ofS_keys]; exact h.so
  el := fun x hx => by
    obtain ⟨k, _, rfl⟩ := List.mem_map.1 hx
    rfl
  me := fun key => by rw [ofS_keys]; exact h.me key
theorem KOk.form {K : List S109} {ch : ByteArray → List S28} (h : KOk K ch) : K = (K.map (·.f0)).map (fun k => (⟨k, ch k⟩ : S109)) := by
  rw [List.map_map]
  have e : K.map (fun x => x) = K.map ((fun k => (⟨k, ch k⟩ : S109)) ∘ (fun x => x.f0)) := List.map_congr_left (fun x hx => by
    show x = ⟨x.f0, ch x.f0⟩
    rw [← h.el x hx])
  rw [List.map_id'] at e
  exact e
theorem KOk.eq {K K' : List S109} {ch : ByteArray → List S28} (h : KOk K ch) (h' : KOk K' ch) : K = K' := by
  have e : K.map (·.f0) = K'.map (·.f0) := sorted_ext h.so h'.so (fun q => by rw [h.me, h'.me])
  rw [h.form, h'.form, e]
theorem KOk.ofS {m : Nat} {s : SS} {K : List S109} (h : KOk K s.ch) (g : St.Good m s) : K = R.ofS s := h.eq (KOk.of g)
theorem KOk.chain {ch : ByteArray → List S28} (key : ByteArray) : ∀ {K : List S109}, (∀ x ∈ K, x.f1 = ch x.f0) → (key ∈ K.map (·.f0) → chK K key = ch key) ∧ (key ∉ K.map (·.f0) → chK K key = [])
  | [], _ => ⟨fun h => by simp at h, fun _ => rfl⟩
  | x :: t, hel => by
    have ih := KOk.chain (ch := ch) key (K := t) (fun y hy => hel y (List.mem_cons_of_mem _ hy))
    by_cases e : x.f0 = key
    · refine ⟨fun _ => ?_, fun h => absurd (List.mem_map.2 ⟨x, List.mem_cons_self .., e⟩) h⟩
      show (if x.f0 = key then x.f1 else chK t key) = ch key
      rw [if_pos e, hel x (List.mem_cons_self ..), e]
    · have e1 : chK (x :: t) key = chK t key := if_neg e
      rw [e1]
      refine ⟨fun h => ih.1 ?_, fun h => ih.2 (fun h2 => h ?_)⟩
      · rw [List.map_cons, List.mem_cons] at h
        exact h.resolve_left (fun q => e q.symm)
      · rw [List.map_cons, List.mem_cons]
        exact .inr h2
theorem KOk.ch {K : List S109} {ch : ByteArray → List S28} (h : KOk K ch) (key : ByteArray) : chK K key = ch key := by
  by_cases hk : key ∈ K.map (·.f0)
  · exact (KOk.chain key h.el).1 hk
  · rw [(KOk.chain (ch := ch) key h.el).2 hk]
    exact (Classical.not_not.1 (fun q => hk ((h.me key).2 q))).symm
theorem filter_map_keys (K : List S109) (f : ByteArray → Bool) : (K.filter (fun y => f y.f0)).map (·.f0) = (K.map (·.f0)).filter f := by
  rw [List.filter_map]; rfl
theorem bl_dec (a b : ByteArray) : Op.bytesLess a.toList b.toList = decide (a.toList < b.toList) := bl a b
theorem putK_keys (K : List S109) (key : ByteArray) (c : List S28) : (putK K key c).map (·.f0) = (K.map (·.f0)).filter (fun q => decide (q.toList < key.toList)) ++ (if c.length = 0 then [] else [key]) ++ (K.map (·.f0)).filter (fun q => decide (key.toList < q.toList)) := by
  unfold putK
  simp only [bl_dec]
  rw [List.map_append, List.map_append, filter_map_keys K (fun q => decide (q.toList < key.toList)), filter_map_keys K (fun q => decide (key.toList < q.toList))]
  congr 2
  split <;> rfl
theorem KOk.put {K : List S109} {ch : ByteArray → List S28} (h : KOk K ch) (key : ByteArray) (c : List S28) : KOk (putK K key c) (fun q => if q = key then c else ch q) where
  so := by
    rw [putK_keys]
    unfold Sorted
    refine List.pairwise_append.2 ⟨List.pairwise_append.2 ⟨h.so.sublist List.filter_sublist, ?_, ?_⟩, h.so.sublist List.filter_sublist, ?_⟩
    · split <;> simp
    · intro a ha b hb
      have h1 := of_decide_eq_true (List.mem_filter.1 ha).2
      split at hb
      · simp at hb
      · rw [List.mem_singleton.1 hb]; exact h1
    · intro a ha b hb
      have h1 := of_decide_eq_true (List.mem_filter.1 hb).2
      rcases List.mem_append.1 ha with q | q
      · exact ltt (of_decide_eq_true (List.mem_filter.1 q).2) h1
      · split at q
        · simp at q
        · rw [List.mem_singleton.1 q]; exact h1
  el := fun x hx => by
    unfold putK at hx
    simp only [bl_dec] at hx
    rcases List.mem_append.1 hx with hx | hx
    · rcases List.mem_append.1 hx with hx | hx
      · obtain ⟨h1, h2⟩ := List.mem_filter.1 hx
        have hne : ¬ x.f0 = key := fun e => by rw [e] at h2; exact lti _ (of_decide_eq_true h2)
        show x.f1 = if x.f0 = key then c else ch x.f0
        rw [if_neg hne]; exact h.el x h1
      · split at hx
        · simp at hx
        · rw [List.mem_singleton.1 hx]; exact (if_pos rfl).symm
    · obtain ⟨h1, h2⟩ := List.mem_filter.1 hx
      have hne : ¬ x.f0 = key := fun e => by rw [e] at h2; exact lti _ (of_decide_eq_true h2)
      show x.f1 = if x.f0 = key then c else ch x.f0
      rw [if_neg hne]; exact h.el x h1
  me := fun q => by
    rw [putK_keys]
    simp only [List.mem_append, List.mem_filter, decide_eq_true_eq]
    by_cases e : q = key
    · rw [if_pos e, e]
      constructor
      · rintro ((⟨_, h2⟩ | h2) | ⟨_, h2⟩)
        · exact absurd h2 (lti _)
        · intro hc
          rw [hc] at h2
          simp at h2
        · exact absurd h2 (lti _)
      · intro hc
        refine .inl (.inr ?_)
        rw [if_neg (fun e0 => hc (List.eq_nil_of_length_eq_zero e0))]
        exact List.mem_singleton.2 rfl
    · rw [if_neg e, ← h.me q]
      constructor
      · rintro ((⟨h1, _⟩ | h2) | ⟨h1, _⟩)
        · exact h1
        · split at h2
          · simp at h2
          · exact absurd (List.mem_singleton.1 h2) e
        · exact h1
      · intro h1
        rcases lt_tri q.toList key.toList with q1 | q1 | q1
        · exact .inl (.inl ⟨h1, q1⟩)
        · exact absurd (key_inj q1) e
        · exact .inr ⟨h1, q1⟩
def withC (g : S102 → List Int × Bool) (pf : S102 → List S28) : (ByteArray → List S28) → List S102 → (ByteArray → List S28)
  | c, [] => c
  | c, x :: t => withC g pf (if x.f1 = true ∧ (g x).2 = false then c else fun q => if q = x.f0 then pf x else c q) t
theorem withK_ok (g : S102 → List Int × Bool) (pf : S102 → List S28) : ∀ (l : List S102) {K : List S109} {ch : ByteArray → List S28}, KOk K ch → KOk (withK g pf K l) (withC g pf ch l)
  | [], _, _, h => h
  | x :: t, K, ch, h => by
    simp only [withK, withC]
    by_cases hc : x.f1 = true ∧ (g x).2 = false
    · rw [if_pos hc, if_pos hc]; exact withK_ok g pf t h
    · rw [if_neg hc, if_neg hc]; exact withK_ok g pf t (h.put x.f0 (pf x))
theorem withC_at (g : S102 → List Int × Bool) (pf : S102 → List S28) (q : ByteArray) : ∀ (l : List S102) (c : ByteArray → List S28), (l.map (·.f0)).Nodup →
    (q ∉ l.map (·.f0) → withC g pf c l q = c q) ∧ (∀ x ∈ l, x.f0 = q → withC g pf c l q = if x.f1 = true ∧ (g x).2 = false then c q else pf x)
  | [], c, _ => ⟨fun _ => rfl, fun x hx => by simp at hx⟩
  | y :: t, c, hn => by
    rw [List.map_cons, List.nodup_cons] at hn
    obtain ⟨c', hc'⟩ : ∃ c' : ByteArray → List S28, (if y.f1 = true ∧ (g y).2 = false then c else fun q => if q = y.f0 then pf y else c q) = c' := ⟨_, rfl⟩
    have e1 : withC g pf c (y :: t) = withC g pf c' t := by rw [← hc']; rfl
    obtain ⟨i1, i2⟩ := withC_at g pf q t c' hn.2
    rw [e1]
    have hne : ¬ q = y.f0 → c' q = c q := fun hq => by
      rw [← hc']
      split
      · rfl
      · exact if_neg hq
    refine ⟨fun hq => ?_, fun x hx hxq => ?_⟩
    · rw [List.map_cons, List.mem_cons, not_or] at hq
      rw [i1 hq.2, hne hq.1]
    · rcases List.mem_cons.1 hx with e | hx
      · subst e
        rw [i1 (by rw [← hxq]; exact hn.1), ← hc']
        split
        · rfl
        · exact if_pos hxq.symm
      · rw [i2 x hx hxq, hne (fun e => hn.1 (by rw [← e, ← hxq]; exact List.mem_map.2 ⟨x, hx, rfl⟩))]
theorem comesL_mem (ch : ByteArray → List S28) : ∀ (l : List S102) (x : S102), x ∈ comesL ch l ↔ x ∈ l ∧ ¬ (x.f1 && goneC (ch x.f0)) = true
  | [], x => by simp [comesL]
  | y :: t, x => by
    simp only [comesL]
    by_cases hc : (y.f1 && goneC (ch y.f0)) = true
    · rw [if_pos hc, comesL_mem ch t x, List.mem_cons]
      exact ⟨fun h => ⟨.inr h.1, h.2⟩, fun h => ⟨h.1.resolve_left (fun e => h.2 (e ▸ hc)), h.2⟩⟩
    · rw [if_neg hc, List.mem_cons, comesL_mem ch t x, List.mem_cons]
      constructor
      · rintro (e | h)
        · exact ⟨.inl e, e ▸ hc⟩
        · exact ⟨.inr h.1, h.2⟩
      · rintro ⟨e | h, h2⟩
        · exact .inl e
        · exact .inr ⟨h, h2⟩
theorem gone_get {m : Nat} {s : SS} (h : St.Good m s) (key : ByteArray) : (getF (s.ch key) s.now).2 = !goneC (s.ch key) := by
  rw [get_all (h.rg key) (h.tm key)]
  unfold goneC
  by_cases h0 : (s.ch key).length = 0
  · rw [getV_neg (by omega)]; simp [h0]
  · rw [getV_pos ⟨by omega, Nat.le_refl _⟩]
    have e : ((s.ch key).length : Int) - 1 = (((s.ch key).length - 1 : Nat) : Int) := by omega
    rw [e, rd_nat _ _ (by omega)]
    cases hf : ((s.ch key)[(s.ch key).length - 1]).f1 <;> simp [h0]
theorem with_chain {m : Nat} {s : SS} (h : St.Good m s) {l : List S102} (hn : (l.map (·.f0)).Nodup) : withC (fun x => getF (s.ch x.f0) s.now) (fun x => s.ch x.f0 ++ [verOf s.now x]) s.ch l = pfP s (comesL s.ch l) := by
  funext q
  have hsub : ((comesL s.ch l).map (·.f0)).Nodup := hn.sublist ((comesL_sub s.ch l).map _)
  obtain ⟨i1, i2⟩ := withC_at (fun x => getF (s.ch x.f0) s.now) (fun x => s.ch x.f0 ++ [verOf s.now x]) q l s.ch hn
  by_cases hq : q ∈ l.map (·.f0)
  · obtain ⟨x, hx, hxq⟩ := List.mem_map.1 hq
    rw [i2 x hx hxq]
    simp only [gone_get h]
    by_cases hc : (x.f1 && goneC (s.ch x.f0)) = true
    · rw [if_pos (by simpa using hc), pf_not (fun hm => ?_)]
      obtain ⟨y, hy, hyq⟩ := List.mem_map.1 hm
      obtain ⟨hy1, hy2⟩ := (comesL_mem s.ch l y).1 hy
      have e : y = x := by
        have hm2 : y ∈ l.filter (fun z => decide (z.f0 = x.f0)) := List.mem_filter.2 ⟨hy1, decide_eq_true (hyq.trans hxq.symm)⟩
        rw [filter_one l hn x hx] at hm2
        exact List.mem_singleton.1 hm2
      exact hy2 (e ▸ hc)
    · rw [if_neg (by simpa using hc), ← hxq, pf_at hsub ((comesL_mem s.ch l x).2 ⟨hx, hc⟩)]
  · rw [i1 hq, pf_not (fun hm => hq ?_)]
    obtain ⟨y, hy, hyq⟩ := List.mem_map.1 hm
    exact List.mem_map.2 ⟨y, ((comesL_mem s.ch l y).1 hy).1, hyq⟩
def colC (tf : S109 → List S28) : (ByteArray → List S28) → List S109 → (ByteArray → List S28)
  | c, [] => c
  | c, x :: t => colC tf (fun q => if q = x.f0 then tf x else c q) t
theorem colR_ok (tf : S109 → List S28) : ∀ (t : List S109) {K : List S109} {ch : ByteArray → List S28}, KOk K ch → KOk (colR tf K t) (colC tf ch t)
  | [], _, _, h => h
  | x :: t, _, _, h => colR_ok tf t (h.put x.f0 (tf x))
theorem colC_at (tf : S109 → List S28) (q : ByteArray) : ∀ (t : List S109) (c : ByteArray → List S28), (t.map (·.f0)).Nodup → (q ∉ t.map (·.f0) → colC tf c t q = c q) ∧ (∀ x ∈ t, x.f0 = q → colC tf c t q = tf x)
  | [], c, _ => ⟨fun _ => rfl, fun x hx => by simp at hx⟩
  | y :: t, c, hn => by
    rw [List.map_cons, List.nodup_cons] at hn
    obtain ⟨i1, i2⟩ := colC_at tf q t (fun q => if q = y.f0 then tf y else c q) hn.2
    refine ⟨fun hq => ?_, fun x hx hxq => ?_⟩
    · rw [List.map_cons, List.mem_cons, not_or] at hq
      show colC tf _ t q = c q
      rw [i1 hq.2]; exact if_neg hq.1
    · show colC tf _ t q = tf x
      rcases List.mem_cons.1 hx with e | hx
      · subst e
        rw [i1 (by rw [← hxq]; exact hn.1)]; exact if_pos hxq.symm
      · exact i2 x hx hxq
theorem col_K {m : Nat} {s : SS} (h : St.Good m s) (low : Int) : colR (fun x => trimF x.f1 low) (ofS s) (ofS s) = ofS (colP s low) := by
  refine KOk.ofS (m := m) ?_ (h.col low)
  have e : colC (fun x => trimF x.f1 low) s.ch (ofS s) = (colP s low).ch := by
    rw [h.col_ch]
    funext q
    obtain ⟨i1, i2⟩ := colC_at (fun x => trimF x.f1 low) q (ofS s) s.ch (by rw [ofS_keys]; exact h.so.nodup)
    by_cases hq : q ∈ s.keys
    · exact i2 ⟨q, s.ch q⟩ (List.mem_map.2 ⟨q, hq, rfl⟩) rfl
    · rw [i1 (by rw [ofS_keys]; exact hq), h.ch0 hq, trimF_nil]
  rw [← e]
  exact colR_ok _ (ofS s) (KOk.of h)
theorem cntN_c (x : S109) (t : List S109) (a b : Int) : cntN (x :: t) a b = cntN t (wrap64 (a + (x.f1.length : Int))) (wrap64 (b + wrap64 ((x.f0.size : Int) + ((dsz x.f1 : Nat) : Int)))) := rfl
theorem cntN_sum (M : Nat) (hM : M ≤ 1000000000) (K : List S109) : ∀ (a b : Nat), a + sumK (fun x : S109 => x.f1.length) K ≤ M → b + sumK (fun x : S109 => x.f0.size + dsz x.f1) K ≤ M →
    cntN K a b = (((a + sumK (fun x : S109 => x.f1.length) K : Nat) : Int), ((b + sumK (fun x : S109 => x.f0.size + dsz x.f1) K : Nat) : Int)) := by
  induction K with
  | nil => intro a b _ _; rw [sumK_nil, sumK_nil]; rfl
  | cons x t ih =>
    intro a b h1 h2
    simp only [sumK_cons] at h1 h2 ⊢
    have q := ih (a + x.f1.length) (b + (x.f0.size + dsz x.f1)) (by omega) (by omega)
    have k1 : a + x.f1.length ≤ 1000000000 := Nat.le_trans (by omega) hM
    have k2 : x.f0.size + dsz x.f1 ≤ 1000000000 := Nat.le_trans (by omega) hM
    have k3 : b + (x.f0.size + dsz x.f1) ≤ 1000000000 := Nat.le_trans (by omega) hM
    have e1 : wrap64 ((a : Int) + (x.f1.length : Int)) = ((a + x.f1.length : Nat) : Int) := wr_add a x.f1.length k1
    have e2 : wrap64 ((x.f0.size : Int) + (dsz x.f1 : Nat)) = ((x.f0.size + dsz x.f1 : Nat) : Int) := wr_add x.f0.size (dsz x.f1) k2
    have e3 : wrap64 ((b : Int) + ((x.f0.size + dsz x.f1 : Nat) : Int)) = ((b + (x.f0.size + dsz x.f1) : Nat) : Int) := wr_add b (x.f0.size + dsz x.f1) k3
    rw [Nat.add_assoc, Nat.add_assoc b] at q
    refine Eq.trans ?_ q
    rw [cntN_c, e1, e2, e3]
theorem cnt_of {K : List S109} {ch : ByteArray → List S28} (h : KOk K ch) {keys : List ByteArray} (hk : K.map (·.f0) = keys) (h1 : sumK (vN ch) keys ≤ 1000000000) (h2 : sumK (bN ch) keys ≤ 1000000000) : cntN K 0 0 = (((sumK (vN ch) keys : Nat) : Int), ((sumK (bN ch) keys : Nat) : Int)) := by
  have e1 : sumK (fun x : S109 => x.f1.length) K = sumK (vN ch) keys := by
    rw [← hk]
    unfold sumK
    rw [List.map_map]
    exact congrArg List.sum (List.map_congr_left (fun x hx => by show x.f1.length = (ch x.f0).length; rw [h.el x hx]))
  have e2 : sumK (fun x : S109 => x.f0.size + dsz x.f1) K = sumK (bN ch) keys := by
    rw [← hk]
    unfold sumK
    rw [List.map_map]
    exact congrArg List.sum (List.map_congr_left (fun x hx => by show x.f0.size + dsz x.f1 = x.f0.size + dsz (ch x.f0); rw [h.el x hx]))
  have := cntN_sum 1000000000 (Nat.le_refl _) K 0 0 (by omega) (by omega)
  rw [e1, e2, Nat.zero_add, Nat.zero_add] at this
  exact this
theorem scanR_eq (gf : S109 → List Int × Bool) (lo hi : ByteArray) : ∀ K : List S109, scanR gf lo hi K = (K.filter (fun x => (!decide (x.f0.toList < lo.toList)) && (under hi x.f0 && (gf x).2))).map (fun x => ⟨x.f0, (gf x).1⟩)
  | [] => rfl
  | x :: t => by
    simp only [scanR]
    rw [scanR_eq gf lo hi t, bl x.f0 lo, bl x.f0 hi]
    have e : ((gf x).2 = true ∧ decide (x.f0.toList < lo.toList) = false ∧ (hi.toList.isEmpty = true ∨ decide (x.f0.toList < hi.toList) = true)) ↔ ((!decide (x.f0.toList < lo.toList)) && (under hi x.f0 && (gf x).2)) = true := by
      unfold under
      simp only [Bool.and_eq_true, Bool.or_eq_true, Bool.not_eq_true', decide_eq_true_eq, List.isEmpty_iff]
      constructor
      · rintro ⟨a, b, c⟩; exact ⟨b, c, a⟩
      · rintro ⟨b, c, a⟩; exact ⟨a, b, c⟩
    by_cases hc : ((!decide (x.f0.toList < lo.toList)) && (under hi x.f0 && (gf x).2)) = true
    · rw [if_pos (e.2 hc), List.filter_cons, if_pos hc]; rfl
    · rw [if_neg (fun q => hc (e.1 q)), List.filter_cons, if_neg hc]
theorem scan_K {m : Nat} {s : SS} (h : St.Good m s) (lo hi : ByteArray) (a : Int) : scanR (fun x => getF x.f1 a) lo hi (ofS s) = scanP s lo hi a := by
  rw [scanR_eq, scanP_eq h.so]
  unfold ofS scanK
  rw [List.filter_map, List.map_map]
  rfl
end Go.Proofs.Yteofdgonpbmdlaa.R
namespace Go.Proofs.Yteofdgonpbmdlaa.R
open Go.RowKit Go.Maps Go.Proofs.YteofdgonpbmdlaaW.PrintWords Go.Proofs.YteofdgonpbmdlaaW.PrintLast Go.Proofs.YteofdgonpbmdlaaW.PrintMore Go.Proofs.Yteofdgonpbmdlaa.C Go.Proofs.Yteofdgonpbmdlaa.St Go.Proofs.Yteofdgonpbmdlaa.Pure
attribute [local go_sem] max2_int min2_int max2_str min2_str str_leq str_gtr str_geq max_two min_two max_three min_three max_four min_four
set_option maxRecDepth 100000 in
set_option maxHeartbeats 8000000 in
theorem commit_fit (W : World) (ok : Nat → Prop) (p : Nat) (r : RS) (A : Option Addr) (c : Nat) (h : Aside0 (RAt W ok p r A c)) (A1 : Option Addr) (c1 : Nat) (l : List S102) (low : Int) (hF : Aside0 (Kd.F k102 W (fun k => ok k ∧ k ≠ p) A1 l.length l)) (hlc : Aside0 (l.length ≤ c1)) (hnil : Aside0 (l ≠ [])) (hck : Aside0 (∃ k, conductorref08_Check.f k l = some 0)) (hful : Aside0 (¬ r.time = r.last)) (hq : Aside0 PutHyp) (T : Int) (K1 : List S109) (hw : Aside0 (WithHyp r l T K1)) (hft : Aside0 (fitB r K1 = true)) : Calls Try.prog 77 #[.pointer (some ⟨p, 0, none⟩), .slice A1 l.length c1, .int .u64 low] W (ComPost W ok p T 0 { r with time := T, K := K1 }) := by
  obtain ⟨kc, hkc⟩ := hck.out
  have HCK := Aside0.mk hkc
  have hzz : ((l.length : Int) == 0) = false := by
    cases e_ : ((l.length : Int) == 0) with
    | false => rfl
    | true => exact absurd (List.eq_nil_of_length_eq_zero (by have := of_decide_eq_true e_; omega)) hnil.out
  clear hkc hnil
  have htl : (r.time == r.last) = false := by simpa using hful.out
  have hf1 : fitB { r with time := T, K := K1 } K1 = true := hft.out
  clear hful hft
  go_enter Try.func77, Try.ntmps77
  go_wp2_with (go_at_call 56; (with_reducible refine (conductorref08_Check.calls kc _ _ l 0 _ ?s1 hlc.out HCK.out).mono ?_); (case s1 => exact Kd.F_now hF.out); rintro e w1 ⟨rfl, hb⟩; have HB1 := Aside0.mk hb; have HR1 := Aside0.mk (h.out.below hb); have c7_ := HR1.out.c7; have c6_ := HR1.out.c6; clear hb)
  go_quiet (fail)
  have HB2 := Aside0.mk (pw_below_drewN HB1.out nq)
  generalize w1.drewN nq = w2 at HB2 ⊢
  have HR2 := Aside0.mk (h.out.below HB2.out)
  clear HB1 HR1 c7_ c6_
  go_wp2_with (first
    | (go_at_call 89; (with_reducible refine (ref_with' (Aside0.mk (h.out.below HB4.out)).out hw.out hq.out A1 c1 (Kd.F_below hF.out HB4.out)).mono ?_); rintro e w5 ⟨⟨p5, A5, c5, rfl, hp2, hR, hk1⟩, hb⟩; have HX5 := Aside0.mk hR; have HK5 := Aside0.mk hk1; have HP5 := Aside0.mk hp2; have HB5 := Aside0.mk (below_step HB4.out hb); clear hp2 hR hk1 hb)
    | (go_at_call 90; (with_reducible refine (ref_fits' HX5.out HK5.out hw.out.z).mono ?_); rintro e w6 ⟨rfl, hb⟩; have HB6 := Aside0.mk (below_step HB5.out hb); have HX6 := Aside0.mk (HX5.out.below hb); clear hb)
    | (go_at_call 89; (with_reducible refine (ref_with' HR2.out hw.out hq.out A1 c1 (Kd.F_below hF.out HB2.out)).mono ?_); rintro e w3 ⟨⟨p3, A3, c3, rfl, hp2, hR, hk1⟩, hb⟩; have HX3 := Aside0.mk hR; have HK3 := Aside0.mk hk1; have HP3 := Aside0.mk hp2; have HB3 := Aside0.mk (below_step HB2.out hb); clear hp2 hR hk1 hb)
    | (go_at_call 90; (with_reducible refine (ref_fits' HX3.out HK3.out hw.out.z).mono ?_); rintro e w4 ⟨rfl, hb⟩; have HB4 := Aside0.mk (below_step HB3.out hb); have HX4 := Aside0.mk (HX3.out.below hb); clear hb))
  have HR6 := Aside0.mk (h.out.below HB6.out)
  have x7 : w6.cell? ⟨p5, 7, none⟩ = some (.int .u64 T) := HX6.out.c7
  have x8 : w6.cell? ⟨p5, 8, none⟩ = some (.slice A5 K1.length c5) := HX6.out.c8
  have y7 := HR6.out.c7
  have y8 := HR6.out.c8
  have z7 := blk_frozen HR6.out.cells 7
  have z8 := blk_frozen HR6.out.cells 8
  have HRW := Aside0.mk (show Kd.F k109 w6 (fun k => (fun k => (ok k ∧ k ≠ p) ∨ W.heap.size ≤ k) k ∧ k ≠ p) A5 K1.length K1 from Kd.F_mono HX6.out.row (fun k hk_ => by
    have h1_ := h.out.lt
    have h2_ := HB4.out.size
    rcases hk_.1 with q | q
    · exact ⟨.inl q, q.2⟩
    · exact ⟨.inr (by omega), by omega⟩))
  have HCP := Aside0.mk (show K1.length ≤ c5 from HX6.out.cap)
  go_simp
  go_region
  all_goals
    go_wp2
    go_ret2
    exact ⟨rfl, ⟨A5, c5, (RAt.put7 (HR6.out.below (below_drew1 (Below.refl _ _))) T).put8 (ok' := (fun k => (ok k ∧ k ≠ p) ∨ W.heap.size ≤ k)) HCP.out (Kd.F_far (p := ⟨p, 7, none⟩) (Kd.F_drew HRW.out) (fun _ hk_ => hk_.2) _)⟩, ((Turn.of_below (base := p) (below_drew1 HB6.out) (Nat.le_of_lt h.out.lt) (fun k => k = p)).then_ (Turn.set (S := fun k => k = p) ⟨p, 7, none⟩ _ (Nat.le_refl _) rfl) (fun _ hk_ => .inl hk_)).then_ (Turn.set (S := fun k => k = p) ⟨p, 8, none⟩ _ (Nat.le_refl _) rfl) (fun _ hk_ => .inl hk_)⟩
set_option maxRecDepth 100000 in
set_option maxHeartbeats 8000000 in
theorem commit_col_no (W : World) (ok : Nat → Prop) (p : Nat) (r : RS) (A : Option Addr) (c : Nat) (h : Aside0 (RAt W ok p r A c)) (A1 : Option Addr) (c1 : Nat) (l : List S102) (low : Int) (hF : Aside0 (Kd.F k102 W (fun k => ok k ∧ k ≠ p) A1 l.length l)) (hlc : Aside0 (l.length ≤ c1)) (hnil : Aside0 (l ≠ [])) (hck : Aside0 (∃ k, conductorref08_Check.f k l = some 0)) (hful : Aside0 (¬ r.time = r.last)) (hq : Aside0 PutHyp) (T : Int) (K1 : List S109) (hw : Aside0 (WithHyp r l T K1)) (hft : Aside0 (fitB r K1 = false)) (tf : S109 → List S28) (ht : Aside0 (∀ x ∈ r.K, ∃ k, conductorref07_Trim.f k x.f1 low = some (tf x))) (hz : Aside0 (∀ x ∈ r.K, (∃ k, conductorref07_Size.f k x.f1 = some ((dsz x.f1 : Nat) : Int)) ∧ x.f0.size ≤ 9223372036854775807)) (K2 : List S109) (hK2 : Aside0 (colR tf r.K r.K = K2)) (hz' : Aside0 (∀ x ∈ K2, (∃ k, conductorref07_Size.f k x.f1 = some ((dsz x.f1 : Nat) : Int)) ∧ x.f0.size ≤ 9223372036854775807)) (K3 : List S109) (hw2 : Aside0 (WithHyp { r with K := K2 } l T K3)) (hft3 : Aside0 (fitB r K3 = false)) : Calls Try.prog 77 #[.pointer (some ⟨p, 0, none⟩), .slice A1 l.length c1, .int .u64 low] W (ComPost W ok p 0 5 { r with K := K2 }) := by
  obtain ⟨kc, hkc⟩ := hck.out
  have HCK := Aside0.mk hkc
  have hzz : ((l.length : Int) == 0) = false := by
    cases e_ : ((l.length : Int) == 0) with
    | false => rfl
    | true => exact absurd (List.eq_nil_of_length_eq_zero (by have := of_decide_eq_true e_; omega)) hnil.out
  clear hkc hnil
  have htl : (r.time == r.last) = false := by simpa using hful.out
  have hf1 : fitB { r with time := T, K := K1 } K1 = false := hft.out
  have hf3 : fitB { r with time := T, K := K3 } K3 = false := hft3.out
  have hq' := Aside0.mk (show ∀ (K : List S109) (key : ByteArray) (ch : List S28), K.length ≤ 100000 → ∃ k, conductorref08_put.f k K key ch = some (putK K key ch) from hq.out)
  have hzk := Aside0.mk (show r.K.length ≤ 40000 from hw.out.k)
  clear hful hft hft3
  go_enter Try.func77, Try.ntmps77
  go_wp2_with (go_at_call 56; (with_reducible refine (conductorref08_Check.calls kc _ _ l 0 _ ?s1 hlc.out HCK.out).mono ?_); (case s1 => exact Kd.F_now hF.out); rintro e w1 ⟨rfl, hb⟩; have HB1 := Aside0.mk hb; have HR1 := Aside0.mk (h.out.below hb); have c7_ := HR1.out.c7; have c6_ := HR1.out.c6; clear hb)
  go_quiet (fail)
  have HB2 := Aside0.mk (pw_below_drewN HB1.out nq)
  generalize w1.drewN nq = w2 at HB2 ⊢
  have HR2 := Aside0.mk (h.out.below HB2.out)
  clear HB1 HR1 c7_ c6_
  go_wp2_with (first
    | (go_at_call 89; (with_reducible refine (ref_with' HR5.out hw2.out hq.out A1 c1 HF5.out).mono ?_); rintro e w7 ⟨⟨p7, A7, c7, rfl, hp2, hR, hk1⟩, hb⟩; have HX7 := Aside0.mk hR; have HK7 := Aside0.mk hk1; have HP7 := Aside0.mk hp2; have HB7 := Aside0.mk (below_step HB5.out hb); clear hp2 hR hk1 hb)
    | (go_at_call 90; (with_reducible refine (ref_fits' HX7.out HK7.out hw2.out.z).mono ?_); rintro e w8 ⟨rfl, hb⟩; have HB8 := Aside0.mk (below_step HB7.out hb); have HX8 := Aside0.mk (HX7.out.below hb); clear hb)
    | (go_at_call 89; (with_reducible refine (ref_with' HR2.out hw.out hq.out A1 c1 (Kd.F_below hF.out HB2.out)).mono ?_); rintro e w3 ⟨⟨p3, A3, c3, rfl, hp2, hR, hk1⟩, hb⟩; have HX3 := Aside0.mk hR; have HK3 := Aside0.mk hk1; have HP3 := Aside0.mk hp2; have HB3 := Aside0.mk (below_step HB2.out hb); clear hp2 hR hk1 hb)
    | (go_at_call 90; (with_reducible refine (ref_fits' HX3.out HK3.out hw.out.z).mono ?_); rintro e w4 ⟨rfl, hb⟩; have HB4 := Aside0.mk (below_step HB3.out hb); have HX4 := Aside0.mk (HX3.out.below hb); clear hb)
    | (go_at_call 78; (with_reducible refine (ref_Collect (Aside0.mk (h.out.below HB4.out)) low hzk tf ht hz K2 hK2 hz' hq').mono ?_); rintro e w5 ⟨rfl, ⟨A6, c6, hR⟩, hT⟩; have HR5 := Aside0.mk hR; have HT5 := Aside0.mk ((Turn.of_below (base := p) HB4.out (Nat.le_of_lt h.out.lt) (fun k => k = p)).then_ hT (fun _ hk_ => .inl hk_)); have HF5 := Aside0.mk (show Kd.F k102 w5 (fun k => (fun k => (ok k ∧ k ≠ p) ∨ w4.heap.size ≤ k) k ∧ k ≠ p) A1 l.length l from Kd.F_mono (Kd.F_step (Kd.F_below hF.out HB4.out) (fun k hk_ hl_ => hT.keep k hl_ hk_.2)) (fun k hk_ => ⟨.inl hk_, hk_.2⟩)); have H45 := Aside0.mk (show w4.heap.size ≤ w5.heap.size from hT.below.size); have HB5 := Aside0.mk (Below.refl w5.heap.size w5); clear hR hT))
  go_ret2
  exact ⟨rfl, ⟨A6, c6, (HR5.out.below HB8.out).mono3 (fun k hk_ hn_ _ => hk_.elim (fun q => .inl q) (fun q => .inr (Nat.le_trans HB4.out.size q)))⟩, HT5.out.then_ (Turn.of_below HB8.out (Nat.le_of_lt HR5.out.lt) (fun _ => False)) (fun _ hk_ => hk_.elim)⟩
set_option maxRecDepth 100000 in
set_option maxHeartbeats 8000000 in
theorem commit_col_yes (W : World) (ok : Nat → Prop) (p : Nat) (r : RS) (A : Option Addr) (c : Nat) (h : Aside0 (RAt W ok p r A c)) (A1 : Option Addr) (c1 : Nat) (l : List S102) (low : Int) (hF : Aside0 (Kd.F k102 W (fun k => ok k ∧ k ≠ p) A1 l.length l)) (hlc : Aside0 (l.length ≤ c1)) (hnil : Aside0 (l ≠ [])) (hck : Aside0 (∃ k, conductorref08_Check.f k l = some 0)) (hful : Aside0 (¬ r.time = r.last)) (hq : Aside0 PutHyp) (T : Int) (K1 : List S109) (hw : Aside0 (WithHyp r l T K1)) (hft : Aside0 (fitB r K1 = false)) (tf : S109 → List S28) (ht : Aside0 (∀ x ∈ r.K, ∃ k, conductorref07_Trim.f k x.f1 low = some (tf x))) (hz : Aside0 (∀ x ∈ r.K, (∃ k, conductorref07_Size.f k x.f1 = some ((dsz x.f1 : Nat) : Int)) ∧ x.f0.size ≤ 9223372036854775807)) (K2 : List S109) (hK2 : Aside0 (colR tf r.K r.K = K2)) (hz' : Aside0 (∀ x ∈ K2, (∃ k, conductorref07_Size.f k x.f1 = some ((dsz x.f1 : Nat) : Int)) ∧ x.f0.size ≤ 9223372036854775807)) (K3 : List S109) (hw2 : Aside0 (WithHyp { r with K := K2 } l T K3)) (hft3 : Aside0 (fitB r K3 = true)) : Calls Try.prog 77 #[.pointer (some ⟨p, 0, none⟩), .slice A1 l.length c1, .int .u64 low] W (ComPost W ok p T 0 { r with time := T, K := K3 }) := by
  obtain ⟨kc, hkc⟩ := hck.out
  have HCK := Aside0.mk hkc
  have hzz : ((l.length : Int) == 0) = false := by
    cases e_ : ((l.length : Int) == 0) with
    | false => rfl
    | true => exact absurd (List.eq_nil_of_length_eq_zero (by have := of_decide_eq_true e_; omega)) hnil.out
  clear hkc hnil
  have htl : (r.time == r.last) = false := by simpa using hful.out
  have hf1 : fitB { r with time := T, K := K1 } K1 = false := hft.out
  have hf3 : fitB { r with time := T, K := K3 } K3 = true := hft3.out
  have hq' := Aside0.mk (show ∀ (K : List S109) (key : ByteArray) (ch : List S28), K.length ≤ 100000 → ∃ k, conductorref08_put.f k K key ch = some (putK K key ch) from hq.out)
  have hzk := Aside0.mk (show r.K.length ≤ 40000 from hw.out.k)
  clear hful hft hft3
  go_enter Try.func77, Try.ntmps77
  go_wp2_with (go_at_call 56; (with_reducible refine (conductorref08_Check.calls kc _ _ l 0 _ ?s1 hlc.out HCK.out).mono ?_); (case s1 => exact Kd.F_now hF.out); rintro e w1 ⟨rfl, hb⟩; have HB1 := Aside0.mk hb; have HR1 := Aside0.mk (h.out.below hb); have c7_ := HR1.out.c7; have c6_ := HR1.out.c6; clear hb)
  go_quiet (fail)
  have HB2 := Aside0.mk (pw_below_drewN HB1.out nq)
  generalize w1.drewN nq = w2 at HB2 ⊢
  have HR2 := Aside0.mk (h.out.below HB2.out)
  clear HB1 HR1 c7_ c6_
  go_wp2_with (first
    | (go_at_call 89; (with_reducible refine (ref_with' HR5.out hw2.out hq.out A1 c1 HF5.out).mono ?_); rintro e w7 ⟨⟨p7, A7, c7, rfl, hp2, hR, hk1⟩, hb⟩; have HX7 := Aside0.mk hR; have HK7 := Aside0.mk hk1; have HP7 := Aside0.mk hp2; have HB7 := Aside0.mk (below_step HB5.out hb); clear hp2 hR hk1 hb)
    | (go_at_call 90; (with_reducible refine (ref_fits' HX7.out HK7.out hw2.out.z).mono ?_); rintro e w8 ⟨rfl, hb⟩; have HB8 := Aside0.mk (below_step HB7.out hb); have HX8 := Aside0.mk (HX7.out.below hb); clear hb)
    | (go_at_call 89; (with_reducible refine (ref_with' HR2.out hw.out hq.out A1 c1 (Kd.F_below hF.out HB2.out)).mono ?_); rintro e w3 ⟨⟨p3, A3, c3, rfl, hp2, hR, hk1⟩, hb⟩; have HX3 := Aside0.mk hR; have HK3 := Aside0.mk hk1; have HP3 := Aside0.mk hp2; have HB3 := Aside0.mk (below_step HB2.out hb); clear hp2 hR hk1 hb)
    | (go_at_call 90; (with_reducible refine (ref_fits' HX3.out HK3.out hw.out.z).mono ?_); rintro e w4 ⟨rfl, hb⟩; have HB4 := Aside0.mk (below_step HB3.out hb); have HX4 := Aside0.mk (HX3.out.below hb); clear hb)
    | (go_at_call 78; (with_reducible refine (ref_Collect (Aside0.mk (h.out.below HB4.out)) low hzk tf ht hz K2 hK2 hz' hq').mono ?_); rintro e w5 ⟨rfl, ⟨A6, c6, hR⟩, hT⟩; have HR5 := Aside0.mk hR; have HT5 := Aside0.mk ((Turn.of_below (base := p) HB4.out (Nat.le_of_lt h.out.lt) (fun k => k = p)).then_ hT (fun _ hk_ => .inl hk_)); have HF5 := Aside0.mk (show Kd.F k102 w5 (fun k => (fun k => (ok k ∧ k ≠ p) ∨ w4.heap.size ≤ k) k ∧ k ≠ p) A1 l.length l from Kd.F_mono (Kd.F_step (Kd.F_below hF.out HB4.out) (fun k hk_ hl_ => hT.keep k hl_ hk_.2)) (fun k hk_ => ⟨.inl hk_, hk_.2⟩)); have H45 := Aside0.mk (show w4.heap.size ≤ w5.heap.size from hT.below.size); have HB5 := Aside0.mk (Below.refl w5.heap.size w5); clear hR hT))
  have HR8 := Aside0.mk (show RAt w8 (fun k => (ok k ∧ k ≠ p) ∨ w4.heap.size ≤ k) p { r with K := K2 } A6 c6 from HR5.out.below HB8.out)
  have x7 : w8.cell? ⟨p7, 7, none⟩ = some (.int .u64 T) := HX8.out.c7
  have x8 : w8.cell? ⟨p7, 8, none⟩ = some (.slice A7 K3.length c7) := HX8.out.c8
  have y7 : w8.cell? ⟨p, 7, none⟩ = some (.int .u64 r.time) := HR8.out.c7
  have y8 : w8.cell? ⟨p, 8, none⟩ = some (.slice A6 K2.length c6) := HR8.out.c8
  have z7 := blk_frozen HR8.out.cells 7
  have z8 := blk_frozen HR8.out.cells 8
  have HRW := Aside0.mk (show Kd.F k109 w8 (fun k => (fun k => (ok k ∧ k ≠ p) ∨ W.heap.size ≤ k) k ∧ k ≠ p) A7 K3.length K3 from Kd.F_mono HX8.out.row (fun k hk_ => by
    have h1_ := h.out.lt
    have h2_ := HB4.out.size
    have h3_ := H45.out
    rcases hk_.1 with ⟨q | q, hn_⟩ | q
    · exact ⟨.inl q, hn_⟩
    · exact ⟨.inr (by omega), by omega⟩
    · exact ⟨.inr (by omega), by omega⟩))
  have HCP := Aside0.mk (show K3.length ≤ c7 from HX8.out.cap)
  go_simp
  go_region
  all_goals
    go_wp2
    go_ret2
    exact ⟨rfl, ⟨A7, c7, (RAt.put7 (HR8.out.below (below_drew1 (Below.refl _ _))) T).put8 (ok' := (fun k => (ok k ∧ k ≠ p) ∨ W.heap.size ≤ k)) HCP.out (Kd.F_far (p := ⟨p, 7, none⟩) (Kd.F_drew HRW.out) (fun _ hk_ => hk_.2) _)⟩, ((HT5.out.then_ (Turn.of_below (below_drew1 HB8.out) (Nat.le_of_lt HR5.out.lt) (fun _ => False)) (fun _ hk_ => hk_.elim)).then_ (Turn.set (S := fun k => k = p) ⟨p, 7, none⟩ _ (Nat.le_refl _) rfl) (fun _ hk_ => .inl hk_)).then_ (Turn.set (S := fun k => k = p) ⟨p, 8, none⟩ _ (Nat.le_refl _) rfl) (fun _ hk_ => .inl hk_)⟩
set_option maxRecDepth 100000 in
set_option maxHeartbeats 8000000 in
theorem ref_Keys {W : World} {ok : Nat → Prop} {p : Nat} {r : RS} {A : Option Addr} {c : Nat} (h : Aside0 (RAt W ok p r A c)) (hl : Aside0 (r.K.length ≤ 100000)) :
    Calls Try.prog 58 #[.pointer (some ⟨p, 0, none⟩)] W fun e w' => (∃ A2 c2, e = .returned (.slice A2 r.K.length c2) ∧ r.K.length ≤ c2 ∧ Kd.C Kd.string w' A2 r.K.length (r.K.map (·.f0))) ∧ Below W.heap.size W w' := by
  have HR0 := Aside0.mk h.out.row
  have h8 := h.out.c8
  have HB0 := Aside0.mk (Below.refl W.heap.size W)
  go_enter Try.func58, Try.ntmps58
  go_wp2
  clear h8
  go_loopw [3, 11] (fun vo vi wr => ∃ (i : Nat) (xs : List ByteArray), vi = .int .i64 i ∧ i ≤ r.K.length ∧ Aside0 (xs = (r.K.take i).map (·.f0)) ∧ xs.length ≤ i ∧ Aside0 (Kd.N Kd.string 9 wr W.heap.size (fun k_ => True) vo xs) ∧ Aside0 (Below W.heap.size W wr)) (fun _ vi _ => r.K.length - (intOf vi).toNat)
  case atStart => exact ⟨0, [], rfl, Nat.zero_le _, ⟨rfl⟩, Nat.le_refl _, ⟨Kd.N_nil _ _ _ _ _⟩, HB0⟩
  case round =>
    clear HB0
    obtain ⟨i, xs, rfl, hi1, HD, hi2, HO, HB⟩ := hrel
    by_cases hlt : i < r.K.length
    · have hi4 : i < 100000 := by have := hl.out; omega
      have HR := Aside0.mk (Kd.F_below HR0.out HB.out)
      obtain ⟨ad, ce_, rfl, hcl_, hFK, hcc, hok⟩ := Kd.F_get HR.out z109 (i : Int) (by omega) (by omega)
      rw [show r.K.getD (i : Int).toNat z109 = r.K[i] by simp [List.getD, List.getElem?_eq_getElem hlt]] at hFK
      obtain ⟨x, hx⟩ : ∃ x, r.K[i] = x := ⟨_, rfl⟩
      rw [hx] at hFK
      obtain ⟨A2, c2, rfl, hl2, hg2⟩ := k109_openF hFK
      have e0 : wr.cell? (ad.add (i * 2)) = some (.string x.f0) := hcc 0 _ rfl
      have e1 : wr.cell? ⟨(ad.add (i * 2)).block, (ad.add (i * 2)).off + 1, none⟩ = some (.slice A2 x.f1.length c2) := by rw [← add_field _ _ 1 (by omega)]; exact hcc 1 _ rfl
      have HG2 := Aside0.mk hg2
      have HL2 := Aside0.mk hl2
      have hmem : x ∈ r.K := hx ▸ List.getElem_mem hlt
      have HX := Aside0.mk hx
      clear hcl_ hFK hcc hok hl2 hg2 hx
      have HD' := Aside0.mk (show xs ++ [x.f0] = (r.K.take (i + 1)).map (·.f0) by rw [List.take_succ_eq_append_getElem hlt, List.map_append, HD.out, HX.out]; rfl)
      clear HD
      go_wp2_with (first
        | ((with_reducible refine gate_dst (N := 5) rfl ?_); refine box_event ?hg (N := 5) ?hd (cs := #[.string ⟨#[]⟩, .slice none 0 0]) (t := 109) ?hr ?_; (case hd => rfl); (case hg => rfl); (case hr => first | (go_simp; done) | (go_simp; rfl)); intro g7 hg wax hbox hb; have HBa := Aside0.mk hb; have GEx := Aside0.mk (show wr.heap.size ≤ g7 by rw [hg]; exact Nat.le_refl _); have BKa := Aside0.mk hbox; have z0 := (blk_cell hbox 0).trans (show _ = some (Value.string ⟨#[]⟩) from rfl); have y0 := blk_frozen hbox 0; have z1 := (blk_cell hbox 1).trans (show _ = some (Value.slice none 0 0) from rfl); have y1 := blk_frozen hbox 1; clear hbox hb hg)
        | ((with_reducible refine gate_store (t := 109) (p := 5) rfl ?_); refine store_event (t := 109) (p := 5) (v := ?vo3_) (w1 := (wax.setCell ⟨g7, 0, none⟩ (.string x.f0)).setCell ⟨g7, 1, none⟩ (.slice A2 x.f1.length c2)) ?hg ?ho ?hn ?hr ?_; (case ho => rfl); (case hg => rfl); (case hn => rfl); (case hr => first | (go_simp; done) | (go_simp; rfl)); intro wb hw; have HBx := Aside0.mk (show Below wr.heap.size wr wb by rw [hw]; exact (below_set (below_set HBa.out GEx.out) GEx.out)); have BKx := Aside0.mk (show wb.heap[g7]? = some (.cells #[.string x.f0, .slice A2 x.f1.length c2] 109 (0, 0)) by rw [hw]; exact (blk_put (blk_put BKa.out 0 _ rfl) 1 _ rfl)); clear hw z0 y0 z1 y1 HBa BKa e0 e1; have qx0 := (blk_cell BKx.out 0).trans (show _ = some (Value.string x.f0) from rfl); have fx0 := blk_frozen BKx.out 0; have qx1 := (blk_cell BKx.out 1).trans (show _ = some (Value.slice A2 x.f1.length c2) from rfl); have fx1 := blk_frozen BKx.out 1; have HO := Aside0.mk (Kd.N_below HO.out HBx.out); have HBb := Aside0.mk (below_step HB.out HBx.out))
        | ((with_reducible refine gate_builtin (b := .append) (xs := #[.tmp 15, .tmp 18]) rfl ?_); at_builtin; refine Kd.N_append Kd.string (w0 := W) W.heap.size rfl (.tmp 15) (.tmp 18) 75 9 (.string ⟨#[]⟩) 16 rfl Try.underlying75 info9 rfl (by decide) (by omega) u3 xs (x.f0 : ByteArray) [.string x.f0] (fun k_ => True) (fun k_ => False) rfl rfl ?aP (fun _ hk => hk.elim) (fun _ _ => trivial) ?aO ?aB ?aS ?aL ?_; (case aP => exact fun W2 _ => rfl); (case aB => exact HBb.out); (case aO => exact HO.out); (case aS => exact HBb.out.size); (case aL => have := hl.out; omega); intro v3 w3 ho3 hb3 hg_ hat_; clear hg_ hat_; have HO3 := Aside0.mk ho3; have HB3 := Aside0.mk hb3; clear ho3 hb3))
      go_roundw
      case measure => simp [intOf]; omega
      case rel => exact ⟨i + 1, xs ++ [x.f0], by go_num, hlt, HD', by simp; omega, HO3, HB3⟩
    · have hie : i = r.K.length := by omega
      have HK := Aside0.mk (show xs = r.K.map (·.f0) by rw [HD.out, hie, List.take_length])
      have hxl : xs.length = r.K.length := by rw [HK.out, List.length_map]
      have HXL := Aside0.mk hxl
      clear hxl
      obtain ⟨A9, c9, ev⟩ := Kd.N_slice HO.out
      subst ev
      go_wp2
      go_ret
      have q := Kd.N_reads' HO.out
      refine ⟨⟨A9, c9, congrArg (fun n_ => Ending.returned (.slice A9 n_ c9)) HXL.out, by rw [← HXL.out]; exact q.2.1, ?_⟩, HB.out⟩
      rw [← HXL.out, ← HK.out]
      exact q.2.2
end Go.Proofs.Yteofdgonpbmdlaa.R
