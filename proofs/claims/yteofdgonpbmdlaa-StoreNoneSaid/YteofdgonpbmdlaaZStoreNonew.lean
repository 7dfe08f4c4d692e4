/- Texts of this session, merged for the law StoreNone: UU, UV. No condition. -/
import Derived.Test.YteofdgonpbmdlaaZStoreNonev
import Derived.Test.YteofdgonpbmdlaaZStoreNoneu
import Derived.Test.YteofdgonpbmdlaaZStoreNoneq
import Derived.Test.YteofdgonpbmdlaaZStoreNoneo
set_option linter.unusedVariables false
set_option linter.unusedSimpArgs false
namespace Go.Proofs.Yteofdgonpbmdlaa.St
open Go.RowKit Go.Maps Go.Proofs.YteofdgonpbmdlaaW.PrintWords Go.Proofs.YteofdgonpbmdlaaW.PrintLast Go.Proofs.YteofdgonpbmdlaaW.PrintMore Go.Proofs.Yteofdgonpbmdlaa.C Go.Proofs.Yteofdgonpbmdlaa.Pure
attribute [local go_sem] max2_int min2_int max2_str min2_str str_leq str_gtr str_geq max_two min_two max_three min_three max_four min_four
theorem few_one {W : World} {x : S55} {b : Bool} {A : Option Addr} {c : Nat} (hx : ∃ k, conductorlaw08_few.f k [x] = some b) (hC : Aside0 (Kd.C k55 W A [x].length [x])) (hl : Aside0 ([x].length ≤ c)) : Calls Try.prog 38 #[.slice A 1 c] W fun e w' => e = .returned (.bool b) ∧ Below W.heap.size W w' := by
  obtain ⟨k, hk⟩ := hx
  exact conductorlaw08_few.calls k A c [x] b W hC.out hl.out hk
theorem isNone_below {W W' : World} {pv : Value} (h : IsNone W pv) (hb : Below W.heap.size W W') : IsNone W' pv := fun W2 h2 => h W2 (below_step hb h2)
theorem neq72 (a b c : Int) (w : World) : (binOp .neq 72 (.agg #[.int .i64 a, .int .i64 b, .int .i64 c]) (.agg #[.int .i64 a, .int .i64 b, .int .i64 c])).run Try.prog w = .ok (.bool false) w := by
  have hp : Try.prog.stoodInHeld 72 = false := by kernel_rfl
  go_simp
theorem eql72 (a b c : Int) (w : World) : (binOp .eql 72 (.agg #[.int .i64 a, .int .i64 b, .int .i64 c]) (.agg #[.int .i64 a, .int .i64 b, .int .i64 c])).run Try.prog w = .ok (.bool true) w := by
  have hp : Try.prog.stoodInHeld 72 = false := by kernel_rfl
  go_simp
set_option maxRecDepth 100000 in
set_option maxHeartbeats 16000000 in
theorem none_few0 (A0 : Option Addr) (c0 : Nat) (l0 : List S55) (A1 : Option Addr) (c1 : Nat) (x : S55) (w : World) (hC0 : Kd.C k55 w A0 l0.length l0) (hl0 : l0.length ≤ c0) (hl1 : x.f1.length ≤ c1) (hC1 : Kd.C k102 w A1 x.f1.length x.f1) (hm0 : ∀ o ∈ l0, o.f1.length ≤ 9223372036854775807) (hb0 : fewB l0 = false) :
    Calls Try.prog 16 #[.slice A0 l0.length c0, .agg #[.int .i64 x.f0, .slice A1 x.f1.length c1, .int .u64 x.f2, .int .u64 x.f3, .string x.f4, .string x.f5]] w fun e w' => e = .returned (.bool true) ∧ Below w.heap.size w w' := by
  obtain ⟨k0, h0⟩ := few_ev l0 hC0.2.1 hm0
  rw [hb0] at h0
  have H0 := Aside0.mk h0
  have HC0 := Aside0.mk hC0
  have HL0 := Aside0.mk hl0
  have HL1 := Aside0.mk hl1
  have HCF1 := Aside0.mk (Kd.C_F k102_heap hC1)
  clear h0 hC0 hl0 hb0 hm0 hC1 hl1
  go_enter Try.func16, Try.ntmps16
  go_wp2_with (first
    | ((with_reducible refine gate_dst (N := 3) rfl ?_); refine box_event ?hg (N := 3) ?hd (cs := #[.int .i64 x.f0, .slice A1 x.f1.length c1, .int .u64 x.f2, .int .u64 x.f3, .string x.f4, .string x.f5]) (t := 55) ?hr ?_; (case hd => rfl); (case hg => rfl); (case hr => first | (go_simp; done) | (go_simp; rfl)); intro g3 hg w1 hbox hb; have HBq := Aside0.mk hb; have BK1 := Aside0.mk hbox; have HB0 := Aside0.mk (Below.refl w1.heap.size w1); clear hbox hb hg)
    | (go_at_call 37; (refine (live_calls _).mono ?_); rintro e w2 ⟨rfl, hb⟩; have HB1 := Aside0.mk (below_step (by first | exact HB1.out | exact HB0.out) hb); clear hb)
    | (go_at_call 38; (with_reducible refine (conductorlaw08_few.calls k0 _ _ l0 false _ ?s1 HL0.out H0.out).mono ?_); (case s1 => exact Kd.C_below HC0.out (HBq.out.trans (HB1.out.mono HBq.out.size))); rintro e w3 ⟨rfl, hb⟩; have HB1 := Aside0.mk (below_step HB1.out hb); have BK3 := Aside0.mk (blk_below BK1.out HB1.out); have j0 := (blk_cell BK3.out 0).trans (show _ = some (Value.int .i64 x.f0) from rfl); have j1 := (blk_cell BK3.out 1).trans (show _ = some (Value.slice A1 x.f1.length c1) from rfl); have j2 := (blk_cell BK3.out 2).trans (show _ = some (Value.int .u64 x.f2) from rfl); have j3 := (blk_cell BK3.out 3).trans (show _ = some (Value.int .u64 x.f3) from rfl); have j4 := (blk_cell BK3.out 4).trans (show _ = some (Value.string x.f4) from rfl); have j5 := (blk_cell BK3.out 5).trans (show _ = some (Value.string x.f5) from rfl); clear hb))
  go_ret
  exact ⟨rfl, HBq.out.trans (HB1.out.mono HBq.out.size)⟩
set_option maxRecDepth 100000 in
set_option maxHeartbeats 16000000 in
theorem none_few1 (A0 : Option Addr) (c0 : Nat) (l0 : List S55) (A1 : Option Addr) (c1 : Nat) (x : S55) (w : World) (hC0 : Kd.C k55 w A0 l0.length l0) (hl0 : l0.length ≤ c0) (hl1 : x.f1.length ≤ c1) (hC1 : Kd.C k102 w A1 x.f1.length x.f1) (hm0 : ∀ o ∈ l0, o.f1.length ≤ 9223372036854775807) (hb0 : fewB l0 = true) (hx1 : ∃ k, conductorlaw08_few.f k [x] = some false) :
    Calls Try.prog 16 #[.slice A0 l0.length c0, .agg #[.int .i64 x.f0, .slice A1 x.f1.length c1, .int .u64 x.f2, .int .u64 x.f3, .string x.f4, .string x.f5]] w fun e w' => e = .returned (.bool true) ∧ Below w.heap.size w w' := by
  obtain ⟨k0, h0⟩ := few_ev l0 hC0.2.1 hm0
  rw [hb0] at h0
  have H0 := Aside0.mk h0
  have HC0 := Aside0.mk hC0
  have HL0 := Aside0.mk hl0
  have HL1 := Aside0.mk hl1
  have HCF1 := Aside0.mk (Kd.C_F k102_heap hC1)
  have HX1 := Aside0.mk hx1
  clear h0 hC0 hl0 hb0 hm0 hC1 hl1 hx1
  go_enter Try.func16, Try.ntmps16
  go_wp2_with (first
    | ((with_reducible refine gate_dst (N := 3) rfl ?_); refine box_event ?hg (N := 3) ?hd (cs := #[.int .i64 x.f0, .slice A1 x.f1.length c1, .int .u64 x.f2, .int .u64 x.f3, .string x.f4, .string x.f5]) (t := 55) ?hr ?_; (case hd => rfl); (case hg => rfl); (case hr => first | (go_simp; done) | (go_simp; rfl)); intro g3 hg w1 hbox hb; have HBq := Aside0.mk hb; have BK1 := Aside0.mk hbox; have HB0 := Aside0.mk (Below.refl w1.heap.size w1); clear hbox hb hg)
    | (go_at_call 37; (refine (live_calls _).mono ?_); rintro e w2 ⟨rfl, hb⟩; have HB1 := Aside0.mk (below_step (by first | exact HB1.out | exact HB0.out) hb); clear hb)
    | (go_at_call 38; (with_reducible refine (conductorlaw08_few.calls k0 _ _ l0 true _ ?s1 HL0.out H0.out).mono ?_); (case s1 => exact Kd.C_below HC0.out (HBq.out.trans (HB1.out.mono HBq.out.size))); rintro e w3 ⟨rfl, hb⟩; have HB1 := Aside0.mk (below_step HB1.out hb); have BK3 := Aside0.mk (blk_below BK1.out HB1.out); have j0 := (blk_cell BK3.out 0).trans (show _ = some (Value.int .i64 x.f0) from rfl); have j1 := (blk_cell BK3.out 1).trans (show _ = some (Value.slice A1 x.f1.length c1) from rfl); have j2 := (blk_cell BK3.out 2).trans (show _ = some (Value.int .u64 x.f2) from rfl); have j3 := (blk_cell BK3.out 3).trans (show _ = some (Value.int .u64 x.f3) from rfl); have j4 := (blk_cell BK3.out 4).trans (show _ = some (Value.string x.f4) from rfl); have j5 := (blk_cell BK3.out 5).trans (show _ = some (Value.string x.f5) from rfl); clear hb)
    | ((with_reducible refine gate_dst (N := 29) rfl ?_); (try (refine gate_guard (by rfl) ?_; dsimp only)); refine Kd.N_lit k55 (w0 := w3) w3.heap.size 55 ?hg (N' := 29) ?hd (xs := [x]) (inner := [.int .i64 x.f0, .slice A1 x.f1.length c1, .int .u64 x.f2, .int .u64 x.f3, .string x.f4, .string x.f5]) (ok := fun _ => True) (okp := fun k => k < w.heap.size) ?hr ?hp (fun _ _ => trivial) trivial (Below.refl _ _) (Nat.le_refl _) (by simp) ?_; (case hd => rfl); (case hg => rfl); (case hr => first | (go_simp; done) | (go_simp; rfl)); (case hp => exact (Reps.c6 (show Kd.FK k55 _ _ x [.int .i64 x.f0, .slice A1 x.f1.length c1, .int .u64 x.f2, .int .u64 x.f3, .string x.f4, .string x.f5] from k55_mkF _ _ x HL1.out (Kd.F_below HCF1.out (HBq.out.trans (HB1.out.mono HBq.out.size)))) (Reps.none _ _))); intro v4 w4 ho hb2 hg2 hat2; obtain ⟨A4, c4, ev⟩ := Kd.N_slice ho; subst ev; have HC4 := Aside0.mk (Kd.N_reads' ho).2.2; have HL4 := Aside0.mk (Kd.N_reads' ho).2.1; have HB1 := Aside0.mk (below_step HB1.out hb2); clear ho hb2 hg2 hat2 j0 j1 j2 j3 j4 j5)
    | (go_at_call 38; (with_reducible refine (few_one HX1.out HC4 HL4).mono ?_); rintro e w5 ⟨rfl, hb⟩; have HB1 := Aside0.mk (below_step HB1.out hb); clear hb))
  go_ret
  exact ⟨rfl, HBq.out.trans (HB1.out.mono HBq.out.size)⟩
set_option maxRecDepth 100000 in
set_option maxHeartbeats 16000000 in
theorem none_main (A0 : Option Addr) (c0 : Nat) (l0 : List S55) (A1 : Option Addr) (c1 : Nat) (x : S55) (w : World) (hC0 : Kd.C k55 w A0 l0.length l0) (hl0 : l0.length ≤ c0) (hl1 : x.f1.length ≤ c1) (hC1 : Kd.C k102 w A1 x.f1.length x.f1) (hm0 : ∀ o ∈ l0, o.f1.length ≤ 9223372036854775807) (hb0 : fewB l0 = true) (hx1 : ∃ k, conductorlaw08_few.f k [x] = some true) (hxo : FewOp x) :
    Calls Try.prog 16 #[.slice A0 l0.length c0, .agg #[.int .i64 x.f0, .slice A1 x.f1.length c1, .int .u64 x.f2, .int .u64 x.f3, .string x.f4, .string x.f5]] w fun e w' => e = .returned (.bool true) ∧ Below w.heap.size w w' := by
  obtain ⟨k0, h0⟩ := few_ev l0 hC0.2.1 hm0
  rw [hb0] at h0
  have H0 := Aside0.mk h0
  have HC0 := Aside0.mk hC0
  have HL0 := Aside0.mk hl0
  have HL1 := Aside0.mk hl1
  have HCF1 := Aside0.mk (Kd.C_F k102_heap hC1)
  have HX1 := Aside0.mk hx1
  have HO1 := Aside0.mk hxo
  have HCW := Aside0.mk hC0
  have F0 := Aside0.mk (fewB_spec hb0)
  clear h0 hC0 hl0 hb0 hm0 hC1 hl1 hx1 hxo
  go_enter Try.func16, Try.ntmps16
  go_wp2_with (first
    | ((with_reducible refine gate_dst (N := 3) rfl ?_); refine box_event ?hg (N := 3) ?hd (cs := #[.int .i64 x.f0, .slice A1 x.f1.length c1, .int .u64 x.f2, .int .u64 x.f3, .string x.f4, .string x.f5]) (t := 55) ?hr ?_; (case hd => rfl); (case hg => rfl); (case hr => first | (go_simp; done) | (go_simp; rfl)); intro g3 hg w1 hbox hb; have HBq := Aside0.mk hb; have BK1 := Aside0.mk hbox; have HB0 := Aside0.mk (Below.refl w1.heap.size w1); clear hbox hb hg)
    | (go_at_call 37; (refine (live_calls _).mono ?_); rintro e w2 ⟨rfl, hb⟩; have HB1 := Aside0.mk (below_step (by first | exact HB1.out | exact HB0.out) hb); clear hb)
    | (go_at_call 38; (with_reducible refine (conductorlaw08_few.calls k0 _ _ l0 true _ ?s1 HL0.out H0.out).mono ?_); (case s1 => exact Kd.C_below HC0.out (HBq.out.trans (HB1.out.mono HBq.out.size))); rintro e w3 ⟨rfl, hb⟩; have HB1 := Aside0.mk (below_step HB1.out hb); have BK3 := Aside0.mk (blk_below BK1.out HB1.out); have j0 := (blk_cell BK3.out 0).trans (show _ = some (Value.int .i64 x.f0) from rfl); have j1 := (blk_cell BK3.out 1).trans (show _ = some (Value.slice A1 x.f1.length c1) from rfl); have j2 := (blk_cell BK3.out 2).trans (show _ = some (Value.int .u64 x.f2) from rfl); have j3 := (blk_cell BK3.out 3).trans (show _ = some (Value.int .u64 x.f3) from rfl); have j4 := (blk_cell BK3.out 4).trans (show _ = some (Value.string x.f4) from rfl); have j5 := (blk_cell BK3.out 5).trans (show _ = some (Value.string x.f5) from rfl); clear hb)
    | ((with_reducible refine gate_dst (N := 29) rfl ?_); (try (refine gate_guard (by rfl) ?_; dsimp only)); refine Kd.N_lit k55 (w0 := w3) w3.heap.size 55 ?hg (N' := 29) ?hd (xs := [x]) (inner := [.int .i64 x.f0, .slice A1 x.f1.length c1, .int .u64 x.f2, .int .u64 x.f3, .string x.f4, .string x.f5]) (ok := fun _ => True) (okp := fun k => k < w.heap.size) ?hr ?hp (fun _ _ => trivial) trivial (Below.refl _ _) (Nat.le_refl _) (by simp) ?_; (case hd => rfl); (case hg => rfl); (case hr => first | (go_simp; done) | (go_simp; rfl)); (case hp => exact (Reps.c6 (show Kd.FK k55 _ _ x [.int .i64 x.f0, .slice A1 x.f1.length c1, .int .u64 x.f2, .int .u64 x.f3, .string x.f4, .string x.f5] from k55_mkF _ _ x HL1.out (Kd.F_below HCF1.out (HBq.out.trans (HB1.out.mono HBq.out.size)))) (Reps.none _ _))); intro v4 w4 ho hb2 hg2 hat2; obtain ⟨A4, c4, ev⟩ := Kd.N_slice ho; subst ev; have HC4 := Aside0.mk (Kd.N_reads' ho).2.2; have HL4 := Aside0.mk (Kd.N_reads' ho).2.1; have HB1 := Aside0.mk (below_step HB1.out hb2); clear ho hb2 hg2 hat2 j0 j1 j2 j3 j4 j5)
    | (go_at_call 38; (with_reducible refine (few_one (HX1.out ) HC4 HL4).mono ?_); rintro e w5 ⟨rfl, hb⟩; have HB1 := Aside0.mk (below_step HB1.out hb); clear hb)
    | (go_at_call 40; (with_reducible refine (conductorlaw08_Big.calls _ _ _ _ _ _ _ _ big_f).mono ?_); rintro e wm ⟨rfl, hb⟩; have HB1 := Aside0.mk (below_step HB1.out hb); clear hb)
    | (go_at_call 39; (with_reducible refine (made_big _).mono ?_); rintro e wn ⟨⟨p, mb, rfl, hS⟩, hb⟩; obtain ⟨base, hba⟩ : ∃ b, b = wm.heap.size := ⟨_, rfl⟩; rw [← hba] at hS; have HS3 := Aside0.mk hS; have hbase := Aside0.mk (show w1.heap.size ≤ base by rw [hba]; exact HB1.out.size); have HB3 := Aside0.mk (below_step HB1.out hb); clear hS hb hba))
  have HCF0 := Aside0.mk (Kd.C_F k55_heap (Kd.C_below HCW.out HBq.out))
  clear HC0 HC4 BK3 HCW
  go_loopw [40] (fun vi wr => ∃ (i : Nat) (kvr : Value) (nr : Nat) (Dr : DataW Value), vi = .int .i64 i ∧ i ≤ l0.length ∧ Aside0 (nr ≤ 20000 * i) ∧ Aside0 (StoreAt wr base (fun k => base ≤ k) p (runP sBig (l0.take i)) kvr mb nr Dr) ∧ Aside0 (Below w1.heap.size w1 wr)) (fun vi _ => l0.length - (intOf vi).toNat)
  case atStart => exact ⟨0, noCh, 0, .map [], rfl, Nat.zero_le _, ⟨Nat.le_refl _⟩, HS3, HB3⟩
  case round =>
    clear HS3
    obtain ⟨i, kvr, nr, Dr, rfl, hi1, HNr, HS, HB⟩ := hrel
    by_cases hlt : i < l0.length
    · have hi4 : i < 40 := by have := F0.out.1; omega
      have HF := Aside0.mk (Kd.F_below HCF0.out HB.out)
      obtain ⟨ad, ce_, rfl, hcl_, hFK, hcc, hok⟩ := Kd.F_get HF.out z55 (i : Int) (by omega) (by omega)
      rw [show l0.getD (i : Int).toNat z55 = l0[i] by simp [List.getD, List.getElem?_eq_getElem hlt]] at hFK
      obtain ⟨x, hx⟩ : ∃ x, l0[i] = x := ⟨_, rfl⟩
      rw [hx] at hFK
      obtain ⟨A2, c2, rfl, hl2, hg2⟩ := k55_openF hFK
      have e0 : wr.cell? (ad.add (i * 6)) = some (.int .i64 x.f0) := hcc 0 _ rfl
      have e1 : wr.cell? ⟨(ad.add (i * 6)).block, (ad.add (i * 6)).off + 1, none⟩ = some (.slice A2 x.f1.length c2) := by rw [← add_field _ _ 1 (by omega)]; exact hcc 1 _ rfl
      have e2 : wr.cell? ⟨(ad.add (i * 6)).block, (ad.add (i * 6)).off + 2, none⟩ = some (.int .u64 x.f2) := by rw [← add_field _ _ 2 (by omega)]; exact hcc 2 _ rfl
      have e3 : wr.cell? ⟨(ad.add (i * 6)).block, (ad.add (i * 6)).off + 3, none⟩ = some (.int .u64 x.f3) := by rw [← add_field _ _ 3 (by omega)]; exact hcc 3 _ rfl
      have e4 : wr.cell? ⟨(ad.add (i * 6)).block, (ad.add (i * 6)).off + 4, none⟩ = some (.string x.f4) := by rw [← add_field _ _ 4 (by omega)]; exact hcc 4 _ rfl
      have e5 : wr.cell? ⟨(ad.add (i * 6)).block, (ad.add (i * 6)).off + 5, none⟩ = some (.string x.f5) := by rw [← add_field _ _ 5 (by omega)]; exact hcc 5 _ rfl
      have HG2 := Aside0.mk hg2
      have HL2 := Aside0.mk hl2
      have hmem : x ∈ l0 := hx ▸ List.getElem_mem hlt
      have HX := Aside0.mk hx
      clear hcl_ hFK hcc hok hl2 hg2 hx
      have HO := Aside0.mk (F0.out.2 x hmem)
      have HG := Aside0.mk (big_good.runTake l0 F0.out.2 i)
      have hs' : (opP (runP sBig (l0.take i)) x).2 = runP sBig (l0.take (i + 1)) := by rw [runP_step _ _ _ hlt, HX.out]
      have HS' := Aside0.mk hs'
      clear hs'
      go_wp2_with (first
        | ((with_reducible refine gate_dst (N := 7) rfl ?_); refine box_event ?hg (N := 7) ?hd (cs := #[.int .i64 0, .slice none 0 0, .int .u64 0, .int .u64 0, .string ⟨#[]⟩, .string ⟨#[]⟩]) (t := 55) ?hr ?_; (case hd => rfl); (case hg => rfl); (case hr => first | (go_simp; done) | (go_simp; rfl)); intro g7 hg wa hbox hb; have HBa := Aside0.mk hb; have GE7 := Aside0.mk (show wr.heap.size ≤ g7 by rw [hg]; exact Nat.le_refl _); have BKa := Aside0.mk hbox; have z0 := (blk_cell hbox 0).trans (show _ = some (Value.int .i64 0) from rfl); have y0 := blk_frozen hbox 0; have z1 := (blk_cell hbox 1).trans (show _ = some (Value.slice none 0 0) from rfl); have y1 := blk_frozen hbox 1; have z2 := (blk_cell hbox 2).trans (show _ = some (Value.int .u64 0) from rfl); have y2 := blk_frozen hbox 2; have z3 := (blk_cell hbox 3).trans (show _ = some (Value.int .u64 0) from rfl); have y3 := blk_frozen hbox 3; have z4 := (blk_cell hbox 4).trans (show _ = some (Value.string ⟨#[]⟩) from rfl); have y4 := blk_frozen hbox 4; have z5 := (blk_cell hbox 5).trans (show _ = some (Value.string ⟨#[]⟩) from rfl); have y5 := blk_frozen hbox 5; clear hbox hb hg)
        | ((with_reducible refine gate_store (t := 55) (p := 7) rfl ?_); refine store_event (t := 55) (p := 7) (v := ?vo1_) (w1 := (((((wa.setCell ⟨g7, 0, none⟩ (.int .i64 x.f0)).setCell ⟨g7, 1, none⟩ (.slice A2 x.f1.length c2)).setCell ⟨g7, 2, none⟩ (.int .u64 x.f2)).setCell ⟨g7, 3, none⟩ (.int .u64 x.f3)).setCell ⟨g7, 4, none⟩ (.string x.f4)).setCell ⟨g7, 5, none⟩ (.string x.f5)) ?hg ?ho ?hn ?hr ?_; (case ho => rfl); (case hg => rfl); (case hn => rfl); (case hr => first | (go_simp; done) | (go_simp; rfl)); intro wb hw; have HBx := Aside0.mk (show Below wr.heap.size wr wb by rw [hw]; exact (below_set (below_set (below_set (below_set (below_set (below_set HBa.out GE7.out) GE7.out) GE7.out) GE7.out) GE7.out) GE7.out)); have BKx := Aside0.mk (show wb.heap[g7]? = some (.cells #[.int .i64 x.f0, .slice A2 x.f1.length c2, .int .u64 x.f2, .int .u64 x.f3, .string x.f4, .string x.f5] 55 (0, 0)) by rw [hw]; exact (blk_put (blk_put (blk_put (blk_put (blk_put (blk_put BKa.out 0 _ rfl) 1 _ rfl) 2 _ rfl) 3 _ rfl) 4 _ rfl) 5 _ rfl)); have q0 := (blk_cell BKx.out 0).trans (show _ = some (Value.int .i64 x.f0) from rfl); have q1 := (blk_cell BKx.out 1).trans (show _ = some (Value.slice A2 x.f1.length c2) from rfl); have q2 := (blk_cell BKx.out 2).trans (show _ = some (Value.int .u64 x.f2) from rfl); have q3 := (blk_cell BKx.out 3).trans (show _ = some (Value.int .u64 x.f3) from rfl); have q4 := (blk_cell BKx.out 4).trans (show _ = some (Value.string x.f4) from rfl); have q5 := (blk_cell BKx.out 5).trans (show _ = some (Value.string x.f5) from rfl); have fz2 := blk_frozen BKx.out 2; have fz3 := blk_frozen BKx.out 3; clear hw z0 z1 z2 z3 z4 z5 y0 y1 y2 y3 y4 y5 HBa BKa e0 e1 e2 e3 e4 e5)
        | (go_at_call 41; (with_reducible refine (does_op (Aside0.mk (HS.out.below HBx.out)) HG ?s0 x HO (fun k => k < w1.heap.size) ?s1 A2 c2 ?s2 HL2 ?s3).mono ?_); (case s0 => exact ⟨by omega⟩); (case s1 => exact ⟨fun k hk_ => Nat.lt_of_lt_of_le hk_ hbase.out⟩); (case s2 => exact ⟨Kd.F_below HG2.out HBx.out⟩); (case s3 => exact ⟨by have := HNr.out; simp only [maxLen]; omega⟩); rintro e w5 ⟨⟨Ab, cb, As, cs, rfl, hlb, hls, hFb, hFs⟩, kv', n', D', hS, hn, hT, hK⟩; rw [HS'.out] at hS; have HS5 := Aside0.mk hS; have HN5 := Aside0.mk hn; have HB5 := Aside0.mk (show Below w1.heap.size w1 w5 from (below_step HB.out HBx.out).trans (hT.below.mono hbase.out)); clear hS hn hT hK hlb hls hFb hFs q0 q1 q2 q3 q4 q5))
      go_round
      case rel => exact ⟨i + 1, kv', n', D', by go_num, hlt, ⟨by have := HN5.out; have := HNr.out; omega⟩, HS5, HB5⟩
      case measure => simp [intOf]; omega
    · have hie : i = l0.length := by omega
      subst hie
      rw [List.take_length] at HS
      obtain ⟨s1, hs1⟩ : ∃ s1, runP sBig l0 = s1 := ⟨_, rfl⟩
      have HG1 := Aside0.mk (show Good 40 s1 from hs1 ▸ (Good.run l0 big_good F0.out.2).mono (by have := F0.out.1; omega))
      rw [hs1] at HS
      obtain ⟨L, hL⟩ : ∃ L, scanP s1 ⟨#[]⟩ ⟨#[]⟩ s1.now = L := ⟨_, rfl⟩
      have HL := Aside0.mk hL
      have HLl := Aside0.mk (show L.length ≤ 800 from hL ▸ scan_len HG1.out _ _ _)
      have hnr := Aside0.mk (show nr + 20000 < maxLen by have := HNr.out; have := F0.out.1; simp only [maxLen]; omega)
      clear hs1 hL HNr
      go_wp2_with (first
        | (go_at_call 60; (with_reducible refine (store_Clone.calls HS ?s0 ?s1 ?s2).mono ?_); (case s0 => exact ⟨by have := HG1.out.kn; omega⟩); (case s1 => exact ⟨fun key hk_ => (size256 (HG1.out.ks key hk_))⟩); (case s2 => exact ⟨fun key hk_ => Classical.byContradiction (fun h_ => hk_ ((HG1.out.me key).2 h_))⟩); rintro e w6 ⟨⟨p2, mb2, n2, kv2, D2, rfl, hX, hn2, hO2⟩, hb⟩; have HX6 := Aside0.mk (show StoreAt w6 base (Oth base p mb kvr) p2 s1 kv2 mb2 n2 D2 from hX); have HS6 := Aside0.mk (HS.out.below hb); have HB6 := Aside0.mk (below_step HB.out hb); clear hX hn2 hO2 hb)
        | (go_at_call 48; refine (store_Count.calls HS6).mono ?_; rintro e w7 ⟨rfl, hb⟩; have HS7 := Aside0.mk (HS6.out.below hb); have HX7 := Aside0.mk (HX6.out.below hb); have HB7 := Aside0.mk (below_step HB6.out hb); clear hb)
        | (go_at_call 44; refine (store_Now.calls (by first | exact HSk | exact HS7)).mono ?_; rintro e wq ⟨rfl, e1⟩; replace e1 := e1.symm; subst e1)
        | (go_at_call 42; (with_reducible refine (scan_as HS7 HG1 ⟨by decide⟩ _ _ s1.now L HL).mono ?_); rintro e w8 ⟨⟨A8, c8, rfl, hl8, hF8⟩, hb⟩; have HS8 := Aside0.mk (HS7.out.below hb); have HX8 := Aside0.mk (HX7.out.below hb); have HF8 := Aside0.mk hF8; have HL8 := Aside0.mk hl8; have HB8 := Aside0.mk (below_step HB7.out hb); clear hb hF8 hl8)
        | ((with_reducible refine gate_dst (N := 9) rfl ?_); refine box_event ?hg (N := 9) ?hd (cs := #[.int .i64 0, .int .i64 0, .int .i64 0]) (t := 72) ?hr ?_; (case hd => rfl); (case hg => rfl); (case hr => first | (go_simp; done) | (go_simp; rfl)); intro g9 hg wak hbox hb; have HBa := Aside0.mk hb; have GEk := Aside0.mk (show w8.heap.size ≤ g9 by rw [hg]; exact Nat.le_refl _); have BKa := Aside0.mk hbox; have z0 := (blk_cell hbox 0).trans (show _ = some (Value.int .i64 0) from rfl); have y0 := blk_frozen hbox 0; have z1 := (blk_cell hbox 1).trans (show _ = some (Value.int .i64 0) from rfl); have y1 := blk_frozen hbox 1; have z2 := (blk_cell hbox 2).trans (show _ = some (Value.int .i64 0) from rfl); have y2 := blk_frozen hbox 2; clear hbox hb hg)
        | ((with_reducible refine gate_store (t := 72) (p := 9) rfl ?_); refine store_event (t := 72) (p := 9) (v := ?vo2_) (w1 := ((wak.setCell ⟨g9, 0, none⟩ (.int .i64 s1.n0)).setCell ⟨g9, 1, none⟩ (.int .i64 s1.n1)).setCell ⟨g9, 2, none⟩ (.int .i64 s1.n2)) ?hg ?ho ?hn ?hr ?_; (case ho => rfl); (case hg => rfl); (case hn => rfl); (case hr => first | (go_simp; done) | (go_simp; rfl)); intro wk hw; have HBk := Aside0.mk (show Below w8.heap.size w8 wk by rw [hw]; exact (below_set (below_set (below_set HBa.out GEk.out) GEk.out) GEk.out)); have BKk := Aside0.mk (show wk.heap[g9]? = some (.cells #[.int .i64 s1.n0, .int .i64 s1.n1, .int .i64 s1.n2] 72 (0, 0)) by rw [hw]; exact (blk_put (blk_put (blk_put BKa.out 0 _ rfl) 1 _ rfl) 2 _ rfl)); clear hw z0 y0 z1 y1 z2 y2 HBa BKa; have HSk := Aside0.mk (HS8.out.below HBk.out); have HXk := Aside0.mk (HX8.out.below HBk.out); have HFk := Aside0.mk (F_freeBelow HF8.out HBk.out); have HBn := Aside0.mk (below_step HB8.out HBk.out); have BKo := Aside0.mk (blk_below BK1.out HBn.out); have j0 := (blk_cell BKo.out 0).trans (show _ = some (Value.int .i64 x.f0) from rfl); have j1 := (blk_cell BKo.out 1).trans (show _ = some (Value.slice A1 x.f1.length c1) from rfl); have j2 := (blk_cell BKo.out 2).trans (show _ = some (Value.int .u64 x.f2) from rfl); have j3 := (blk_cell BKo.out 3).trans (show _ = some (Value.int .u64 x.f3) from rfl); have j4 := (blk_cell BKo.out 4).trans (show _ = some (Value.string x.f4) from rfl); have j5 := (blk_cell BKo.out 5).trans (show _ = some (Value.string x.f5) from rfl))
        | (go_at_call 41; (with_reducible refine (does_op HSk HG1 ?s0 x HO1 (fun k => k < w.heap.size) ?s1 A1 c1 ?s2 HL1 hnr).mono ?_); (case s0 => exact ⟨by decide⟩); (case s1 => exact ⟨fun k hk_ => Nat.lt_of_lt_of_le (Nat.lt_of_lt_of_le hk_ HBq.out.size) hbase.out⟩); (case s2 => exact ⟨Kd.F_below HCF1.out (HBq.out.trans (HBn.out.mono HBq.out.size))⟩); rintro e w11 ⟨⟨Ab, cb, As, cs, rfl, hlb, hls, hFb, hFs⟩, kv', n', D', hS, hn, hT, hK⟩; have HX11 := Aside0.mk (oth_turn HXk.out hT hK hS); have HF11 := Aside0.mk (F_freeTurn HFk.out hT hK); have BK11 := Aside0.mk ((hT.keep g9 (blk_lt BKk.out) (fun ho => by have := (HS8.out.own ho).2.2; have := GEk.out; omega)).trans BKk.out); have HB11 := Aside0.mk (show Below w1.heap.size w1 w11 from HBn.out.trans (hT.below.mono hbase.out)); clear hS hn hT hK hlb hls hFb hFs j0 j1 j2 j3 j4 j5))
      have h20 : ∀ w' : World, (w'.cell? ⟨g9, 0, none⟩ = some (.int .i64 s1.n0) ∧ w'.cell? ⟨g9, 1, none⟩ = some (.int .i64 s1.n1) ∧ w'.cell? ⟨g9, 2, none⟩ = some (.int .i64 s1.n2) ∧ Below w11.heap.size w11 w') → Below w11.heap.size w11 w' := fun _ h_ => h_.2.2.2
      have H20 := Aside0.mk h20
      have k20 : ∀ w' : World, Below w11.heap.size w11 w' → (w'.cell? ⟨g9, 0, none⟩ = some (.int .i64 s1.n0) ∧ w'.cell? ⟨g9, 1, none⟩ = some (.int .i64 s1.n1) ∧ w'.cell? ⟨g9, 2, none⟩ = some (.int .i64 s1.n2) ∧ Below w11.heap.size w11 w') := fun w' hb_ => ⟨pw_cell_below hb_ ((blk_cell BK11.out 0).trans rfl), pw_cell_below hb_ ((blk_cell BK11.out 1).trans rfl), pw_cell_below hb_ ((blk_cell BK11.out 2).trans rfl), hb_⟩
      have K20 := Aside0.mk k20
      have NK := Aside0.mk (show ∀ w' : World, Below w11.heap.size w11 w' → Calls Try.prog 44 #[.pointer (some ⟨p2, 0, none⟩)] w' (fun e w'' => e = .returned (.int .u64 s1.now) ∧ Below w'.heap.size w' w'') from fun w' hb_ => (store_Now.calls (Aside0.mk (HX11.out.below hb_))).mono (fun e w'' h_ => ⟨h_.1, by rw [h_.2]; exact Below.refl _ _⟩))
      have CK := Aside0.mk (show ∀ w' : World, Below w11.heap.size w11 w' → Calls Try.prog 48 #[.pointer (some ⟨p2, 0, none⟩)] w' (fun e w'' => e = .returned (.agg #[.int .i64 s1.n0, .int .i64 s1.n1, .int .i64 s1.n2]) ∧ Below w'.heap.size w' w'') from fun w' hb_ => store_Count.calls (Aside0.mk (HX11.out.below hb_)))
      have SK := Aside0.mk (show ∀ w' : World, Below w11.heap.size w11 w' → Calls Try.prog 42 #[.pointer (some ⟨p2, 0, none⟩), .string ⟨#[]⟩, .string ⟨#[]⟩, .int .u64 s1.now] w' (fun e w'' => (∃ A c, e = .returned (.slice A L.length c) ∧ L.length ≤ c ∧ ∀ w3, Below w''.heap.size w'' w3 → Kd.C k62 w3 A L.length L) ∧ Below w'.heap.size w' w'') from fun w' hb_ => (scan_as (Aside0.mk (HX11.out.below hb_)) HG1 ⟨by decide⟩ _ _ s1.now L HL).mono (fun e w'' h_ => by
        obtain ⟨⟨A, c, h1_, h2_, h3_⟩, h4_⟩ := h_
        exact ⟨⟨A, c, h1_, h2_, fun w3 hb3 => Kd.C_below (Kd.F_now h3_) hb3⟩, h4_⟩))
      obtain ⟨ks_, hks⟩ := same_refl L (by have := HLl.out; omega)
      have PK := Aside0.mk (show ∀ (w' : World) (A : Option Addr) (c : Nat), L.length ≤ c → Kd.C k62 w' A L.length L → Below w11.heap.size w11 w' → Calls Try.prog 45 #[.slice A L.length c, .slice A8 L.length c8] w' (fun e w'' => e = .returned (.bool true) ∧ Below w'.heap.size w' w'') from fun w' A c hc_ hC_ hb_ => (conductorref08_SamePairs.calls ks_ A c L A8 c8 L true w' hC_ hc_ (Kd.C_below (Kd.F_now HF11.out) hb_) HL8.out hks).mono (fun e w'' h_ => ⟨h_.1, h_.2.below⟩))
      have hq72 := fun w_ => neq72 s1.n0 s1.n1 s1.n2 w_
      have hnow : (s1.now == s1.now) = true := by simp
      clear h20 k20 hks
      go_region_held3 (fun w' : World => (w'.cell? ⟨g9, 0, none⟩ = some (.int .i64 s1.n0) ∧ w'.cell? ⟨g9, 1, none⟩ = some (.int .i64 s1.n1) ∧ w'.cell? ⟨g9, 2, none⟩ = some (.int .i64 s1.n2) ∧ Below w11.heap.size w11 w')) (first | exact K20.out _ (below_drew1 (Below.refl _ _)) | exact K20.out _ (below_step (H20.out _ (by assumption)) hb2) | assumption) (first
        | (go_at_call 44; (with_reducible refine (NK.out _ ?s1).mono ?_); (case s1 => exact H20.out _ (by assumption)); rintro e w12 ⟨rfl, hb2⟩)
        | (go_at_call 48; (with_reducible refine (CK.out _ ?s1).mono ?_); (case s1 => exact H20.out _ (by assumption)); rintro e w13 ⟨rfl, hb2⟩)
        | (go_at_call 42; (with_reducible refine (SK.out _ ?s1).mono ?_); (case s1 => exact H20.out _ (by assumption)); rintro e w14 ⟨⟨A14, c14, rfl, hl14, hF14⟩, hb2⟩; have HF14 := Aside0.mk hF14; have HL14 := Aside0.mk hl14; clear hF14 hl14)
        | (go_at_call 45; (with_reducible refine (PK.out _ _ _ HL14.out ?s2 ?s1).mono ?_); (case s1 => exact H20.out _ (by assumption)); (case s2 => exact HF14.out _ (by first | exact Below.refl _ _ | exact below_drew1 (Below.refl _ _))); rintro e w17 ⟨rfl, hb2⟩))
      rename_i hH
      have HB17 := Aside0.mk (below_step HB11.out (H20.out w17 hH))
      clear hH hb2 K20 H20 NK CK SK PK hq72 hnow
      have hz72 := fun w_ => eql72 0 0 0 w_
      go_wp2_with (first
        | ((with_reducible refine gate_dst (N := 13) rfl ?_); refine box_event ?hg (N := 13) ?hd (cs := #[.int .i64 0, .int .i64 0, .int .i64 0, .int .i64 0, .int .i64 0, .int .i64 0, .int .u64 0, .int .u64 0, .slice none 0 0, .map none, .int .i64 0, .int .i64 0, .int .i64 0]) (t := 91) ?hr ?_; (case hd => rfl); (case hg => rfl); (case hr => first | (go_simp; done) | (go_simp; rfl)); intro g13 hg w18 hbox hb; have HB18 := Aside0.mk (below_step HB17.out hb); have HZ := Aside0.mk (isNone_zero w18 g13 ((blk_cell hbox 9).trans rfl)); have BK18 := Aside0.mk (blk_below BK1.out HB18.out); have j1 := (blk_cell BK18.out 1).trans (show _ = some (Value.slice A1 x.f1.length c1) from rfl); clear hbox hb hg)
        | (go_at_call 61; (with_reducible refine (none_Commit _ (.pointer none) (isNone_nil _) _ _).mono ?_); rintro e wq ⟨rfl, e1⟩; replace e1 := e1.symm; subst e1)
        | (go_at_call 61; (with_reducible refine (none_Commit _ (.pointer (some ⟨g13, 0, none⟩)) HZ.out _ _).mono ?_); rintro e wq ⟨rfl, e1⟩; replace e1 := e1.symm; subst e1)
        | (go_at_call 43; (with_reducible refine (none_Read _ (.pointer none) (isNone_nil _) _ _).mono ?_); rintro e w19 ⟨⟨A19, c19, rfl⟩, hb⟩; have HZ := Aside0.mk (isNone_below HZ.out hb); have HB19 := Aside0.mk (below_step HB18.out hb); clear hb)
        | (go_at_call 44; (with_reducible refine (none_Now _ (.pointer none) (isNone_nil _)).mono ?_); rintro e wq ⟨rfl, e1⟩; replace e1 := e1.symm; subst e1)
        | (go_at_call 42; (with_reducible refine (none_Scan _ (.pointer (some ⟨g13, 0, none⟩)) HZ.out _ _ _).mono ?_); rintro e wq ⟨rfl, e1⟩; replace e1 := e1.symm; subst e1)
        | (go_at_call 62; (with_reducible refine (none_Latest _ (.pointer (some ⟨g13, 0, none⟩)) HZ.out _).mono ?_); rintro e w20 ⟨rfl, hb⟩; have HZ := Aside0.mk (isNone_below HZ.out hb); have HB20 := Aside0.mk (below_step HB19.out hb); clear hb)
        | (go_at_call 49; (with_reducible refine (none_Collect _ (.pointer none) (isNone_nil _) _).mono ?_); rintro e wq ⟨rfl, e1⟩; replace e1 := e1.symm; subst e1)
        | (go_at_call 48; (with_reducible refine (none_Count _ (.pointer (some ⟨g13, 0, none⟩)) HZ.out).mono ?_); rintro e w21 ⟨rfl, hb⟩; have HZ := Aside0.mk (isNone_below HZ.out hb); have HB21 := Aside0.mk (below_step HB20.out hb); clear hb)
        | (go_at_call 51; (with_reducible refine (none_Chain _ (.pointer none) (isNone_nil _) _).mono ?_); rintro e w22 ⟨rfl, hb⟩; have HZ := Aside0.mk (isNone_below HZ.out hb); have HB22 := Aside0.mk (below_step HB21.out hb); clear hb)
        | (go_at_call 50; (with_reducible refine (none_Keys _ (.pointer (some ⟨g13, 0, none⟩)) HZ.out).mono ?_); rintro e wq ⟨rfl, e1⟩; replace e1 := e1.symm; subst e1)
        | (go_at_call 60; (with_reducible refine (none_Clone _ (.pointer none) (isNone_nil _)).mono ?_); rintro e wq ⟨rfl, e1⟩; replace e1 := e1.symm; subst e1)
        | (go_at_call 60; (with_reducible refine (none_Clone _ (.pointer (some ⟨g13, 0, none⟩)) HZ.out).mono ?_); rintro e wq ⟨rfl, e1⟩; replace e1 := e1.symm; subst e1))
      go_ret
      exact ⟨rfl, HBq.out.trans (HB22.out.mono HBq.out.size)⟩
end Go.Proofs.Yteofdgonpbmdlaa.St
namespace Go.Proofs.Yteofdgonpbmdlaa.St
open Go.RowKit Go.Maps Go.Proofs.YteofdgonpbmdlaaW.PrintWords Go.Proofs.Yteofdgonpbmdlaa.C Go.Proofs.Yteofdgonpbmdlaa.Pure
theorem none_law (A0 : Option Addr) (c0 : Nat) (l0 : List S55) (A1 : Option Addr) (c1 : Nat) (x : S55) (w : World) (hC0 : Kd.C k55 w A0 l0.length l0) (hl0 : l0.length ≤ c0) (hC1 : Kd.C k102 w A1 x.f1.length x.f1) (hl1 : x.f1.length ≤ c1) (hm0 : ∀ o ∈ l0, o.f1.length ≤ 9223372036854775807) (hw : W55 x) :
    Calls Try.prog 16 #[.slice A0 l0.length c0, .agg #[.int .i64 x.f0, .slice A1 x.f1.length c1, .int .u64 x.f2, .int .u64 x.f3, .string x.f4, .string x.f5]] w fun e w' => e = .returned (.bool true) ∧ Below w.heap.size w w' := by
  have hx := few_ev [x] (by simp) (fun o ho => by rw [List.mem_singleton.1 ho]; exact hw.2.1.1)
  cases hb0 : fewB l0 with
  | false => exact none_few0 A0 c0 l0 A1 c1 x w hC0 hl0 hl1 hC1 hm0 hb0
  | true =>
    cases hb1 : fewB [x] with
    | false => rw [hb1] at hx; exact none_few1 A0 c0 l0 A1 c1 x w hC0 hl0 hl1 hC1 hm0 hb0 hx
    | true => rw [hb1] at hx; exact none_main A0 c0 l0 A1 c1 x w hC0 hl0 hl1 hC1 hm0 hb0 hx ((fewB_spec hb1).2 x (by simp))
end Go.Proofs.Yteofdgonpbmdlaa.St
