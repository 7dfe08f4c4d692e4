/- Texts of this session, merged for the law StoreLimits: UL, UM, UN. No condition. -/
import Derived.Test.YteofdgonpbmdlaaZStoreLimitsv
import Derived.Test.YteofdgonpbmdlaaZStoreLimitso
set_option linter.unusedVariables false
set_option linter.unusedSimpArgs false
namespace Go.Proofs.Yteofdgonpbmdlaa.St
open Go.RowKit Go.Maps Go.Proofs.YteofdgonpbmdlaaW.PrintWords Go.Proofs.YteofdgonpbmdlaaW.PrintLast Go.Proofs.YteofdgonpbmdlaaW.PrintMore Go.Proofs.Yteofdgonpbmdlaa.C Go.Proofs.Yteofdgonpbmdlaa.Pure
attribute [local go_sem] max2_int min2_int max2_str min2_str str_leq str_gtr str_geq max_two min_two max_three min_three max_four min_four
set_option maxRecDepth 100000 in
set_option maxHeartbeats 16000000 in
theorem limits_few (q0 q1 q2 q3 q4 q5 q6 : Int) (A0 : Option Addr) (c0 : Nat) (l0 : List S55) (w : World) (hC0 : Kd.C k55 w A0 l0.length l0) (hl0 : l0.length ≤ c0) (hm0 : ∀ o ∈ l0, o.f1.length ≤ 9223372036854775807) (hq1 : 0 ≤ q6) (hq2 : q6 ≤ 18446744073709551615) (hb0 : fewB l0 = false) :
    Calls Try.prog 13 #[.agg #[.int .i64 q0, .int .i64 q1, .int .i64 q2, .int .i64 q3, .int .i64 q4, .int .i64 q5, .int .u64 q6], .slice A0 l0.length c0] w fun e w' => e = .returned (.bool true) ∧ Below w.heap.size w w' := by
  obtain ⟨k0, h0⟩ := few_ev l0 hC0.2.1 hm0
  rw [hb0] at h0
  have H0 := Aside0.mk h0
  have HC0 := Aside0.mk hC0
  have HL0 := Aside0.mk hl0
  clear h0 hC0 hl0 hb0 hm0
  go_enter Try.func13, Try.ntmps13
  go_wp2_with (first
    | ((with_reducible refine gate_dst (N := 2) rfl ?_); refine box_event ?hg (N := 2) ?hd (cs := #[.int .i64 q0, .int .i64 q1, .int .i64 q2, .int .i64 q3, .int .i64 q4, .int .i64 q5, .int .u64 q6]) (t := 51) ?hr ?_; (case hd => rfl); (case hg => rfl); (case hr => first | (go_simp; done) | (go_simp; rfl)); intro g2 hg w1 hbox hb; have HBq := Aside0.mk hb; have BK2 := Aside0.mk hbox; clear hbox hb hg)
    | (go_at_call 37; (refine (live_calls _).mono ?_); rintro e w2 ⟨rfl, hb⟩; have HL1 := Aside0.mk (below_step (by first | exact HL2.out | exact Below.refl w1.heap.size w1) hb); clear hb)
    | (go_at_call 38; (with_reducible refine (conductorlaw08_few.calls k0 _ _ l0 false _ ?s1 HL0.out H0.out).mono ?_); (case s1 => exact Kd.C_below HC0.out (below_step HBq.out HL1.out)); rintro e w3 ⟨rfl, hb⟩; have HL2 := Aside0.mk (below_step HL1.out hb); have BK3 := Aside0.mk (blk_below BK2.out HL2.out); have j0 := (blk_cell BK3.out 0).trans (show _ = some (Value.int .i64 q0) from rfl); have j1 := (blk_cell BK3.out 1).trans (show _ = some (Value.int .i64 q1) from rfl); have j2 := (blk_cell BK3.out 2).trans (show _ = some (Value.int .i64 q2) from rfl); have j3 := (blk_cell BK3.out 3).trans (show _ = some (Value.int .i64 q3) from rfl); have j4 := (blk_cell BK3.out 4).trans (show _ = some (Value.int .i64 q4) from rfl); have j5 := (blk_cell BK3.out 5).trans (show _ = some (Value.int .i64 q5) from rfl); have j6 := (blk_cell BK3.out 6).trans (show _ = some (Value.int .u64 q6) from rfl); clear hb))
  go_ret
  exact ⟨rfl, below_step HBq.out HL1.out⟩
set_option maxRecDepth 100000 in
set_option maxHeartbeats 16000000 in
theorem limits_none (q0 q1 q2 q3 q4 q5 q6 : Int) (A0 : Option Addr) (c0 : Nat) (l0 : List S55) (w : World) (hC0 : Kd.C k55 w A0 l0.length l0) (hl0 : l0.length ≤ c0) (hm0 : ∀ o ∈ l0, o.f1.length ≤ 9223372036854775807) (hq1 : 0 ≤ q6) (hq2 : q6 ≤ 18446744073709551615) (hb0 : fewB l0 = true) (hno : ¬ (Room q0 ∧ Room q1 ∧ Room q2 ∧ q6 ≠ 0)) :
    Calls Try.prog 13 #[.agg #[.int .i64 q0, .int .i64 q1, .int .i64 q2, .int .i64 q3, .int .i64 q4, .int .i64 q5, .int .u64 q6], .slice A0 l0.length c0] w fun e w' => e = .returned (.bool true) ∧ Below w.heap.size w w' := by
  obtain ⟨k0, h0⟩ := few_ev l0 hC0.2.1 hm0
  rw [hb0] at h0
  have H0 := Aside0.mk h0
  have HC0 := Aside0.mk hC0
  have HL0 := Aside0.mk hl0
  have hmay := may_f q0 q1 q2 q3 q4 q5 q6 hq1
  rw [decide_eq_false hno] at hmay
  have HMAY := Aside0.mk hmay
  have HNO := Aside0.mk hno
  clear h0 hC0 hl0 hb0 hm0 hmay hno
  go_enter Try.func13, Try.ntmps13
  go_wp2_with (first
    | ((with_reducible refine gate_dst (N := 2) rfl ?_); refine box_event ?hg (N := 2) ?hd (cs := #[.int .i64 q0, .int .i64 q1, .int .i64 q2, .int .i64 q3, .int .i64 q4, .int .i64 q5, .int .u64 q6]) (t := 51) ?hr ?_; (case hd => rfl); (case hg => rfl); (case hr => first | (go_simp; done) | (go_simp; rfl)); intro g2 hg w1 hbox hb; have HBq := Aside0.mk hb; have BK2 := Aside0.mk hbox; clear hbox hb hg)
    | (go_at_call 37; (refine (live_calls _).mono ?_); rintro e w2 ⟨rfl, hb⟩; have HL1 := Aside0.mk (below_step (by first | exact HL2.out | exact Below.refl w1.heap.size w1) hb); clear hb)
    | (go_at_call 38; (with_reducible refine (conductorlaw08_few.calls k0 _ _ l0 true _ ?s1 HL0.out H0.out).mono ?_); (case s1 => exact Kd.C_below HC0.out (below_step HBq.out HL1.out)); rintro e w3 ⟨rfl, hb⟩; have HL2 := Aside0.mk (below_step HL1.out hb); have BK3 := Aside0.mk (blk_below BK2.out HL2.out); have j0 := (blk_cell BK3.out 0).trans (show _ = some (Value.int .i64 q0) from rfl); have j1 := (blk_cell BK3.out 1).trans (show _ = some (Value.int .i64 q1) from rfl); have j2 := (blk_cell BK3.out 2).trans (show _ = some (Value.int .i64 q2) from rfl); have j3 := (blk_cell BK3.out 3).trans (show _ = some (Value.int .i64 q3) from rfl); have j4 := (blk_cell BK3.out 4).trans (show _ = some (Value.int .i64 q4) from rfl); have j5 := (blk_cell BK3.out 5).trans (show _ = some (Value.int .i64 q5) from rfl); have j6 := (blk_cell BK3.out 6).trans (show _ = some (Value.int .u64 q6) from rfl); clear hb)
    | (go_at_call 39; (with_reducible refine (made_bad q0 q1 q2 q3 q4 q5 q6 _ HNO.out).mono ?_); rintro e w4 ⟨rfl, hb⟩; have HL3 := Aside0.mk (below_step HL2.out hb); have BK4 := Aside0.mk (blk_below BK2.out HL3.out); clear j0 j1 j2 j3 j4 j5 j6; have j0 := (blk_cell BK4.out 0).trans (show _ = some (Value.int .i64 q0) from rfl); have j1 := (blk_cell BK4.out 1).trans (show _ = some (Value.int .i64 q1) from rfl); have j2 := (blk_cell BK4.out 2).trans (show _ = some (Value.int .i64 q2) from rfl); have j3 := (blk_cell BK4.out 3).trans (show _ = some (Value.int .i64 q3) from rfl); have j4 := (blk_cell BK4.out 4).trans (show _ = some (Value.int .i64 q4) from rfl); have j5 := (blk_cell BK4.out 5).trans (show _ = some (Value.int .i64 q5) from rfl); have j6 := (blk_cell BK4.out 6).trans (show _ = some (Value.int .u64 q6) from rfl); clear hb)
    | (go_at_call 46; (with_reducible refine (conductorref08_May.calls q0 q1 q2 q3 q4 q5 q6 false _ HMAY.out).mono ?_); rintro e w5 ⟨rfl, hb⟩; have HL4 := Aside0.mk (below_step HL3.out hb); clear hb))
  go_ret
  exact ⟨rfl, below_step HBq.out HL4.out⟩
set_option maxRecDepth 100000 in
set_option maxHeartbeats 16000000 in
theorem limits_main (q0 q1 q2 q3 q4 q5 q6 : Int) (A0 : Option Addr) (c0 : Nat) (l0 : List S55) (w : World) (hC0 : Kd.C k55 w A0 l0.length l0) (hl0 : l0.length ≤ c0) (hm0 : ∀ o ∈ l0, o.f1.length ≤ 9223372036854775807) (hq1 : 0 ≤ q6) (hq2 : q6 ≤ 18446744073709551615) (hb0 : fewB l0 = true) (hr0 : Room q0) (hr1 : Room q1) (hr2 : Room q2) (hq : q6 ≠ 0) :
    Calls Try.prog 13 #[.agg #[.int .i64 q0, .int .i64 q1, .int .i64 q2, .int .i64 q3, .int .i64 q4, .int .i64 q5, .int .u64 q6], .slice A0 l0.length c0] w fun e w' => e = .returned (.bool true) ∧ Below w.heap.size w w' := by
  obtain ⟨k0, h0⟩ := few_ev l0 hC0.2.1 hm0
  rw [hb0] at h0
  have H0 := Aside0.mk h0
  have HC0 := Aside0.mk hC0
  have HL0 := Aside0.mk hl0
  have HN := Aside0.mk (lim_new q0 q1 q2 q3 q4 q5 q6 hr0 hr1 hr2 hq1 hq2)
  have HMG := Aside0.mk (fun w_ => made_good q0 q1 q2 q3 q4 q5 q6 w_ hr0 hr1 hr2 hq)
  obtain ⟨sN, hsN⟩ : ∃ sN, noStore q0 q1 q2 q3 q4 q5 q6 = sN := ⟨_, rfl⟩
  have u0 : sN.l0 = q0 := by rw [← hsN]; rfl
  have u1 : sN.l1 = q1 := by rw [← hsN]; rfl
  have u2 : sN.l2 = q2 := by rw [← hsN]; rfl
  have u6 : sN.last = q6 := by rw [← hsN]; rfl
  rw [hsN] at HN HMG
  have U0 := Aside0.mk u0
  have U1 := Aside0.mk u1
  have U2 := Aside0.mk u2
  have U6 := Aside0.mk u6
  have HQ2 := Aside0.mk hq2
  have HCF0 := Aside0.mk (Kd.C_F k55_heap hC0)
  have F0 := Aside0.mk (fewB_spec hb0)
  clear h0 hC0 hl0 hb0 hm0 hsN u0 u1 u2 u6 hr0 hr1 hr2 hq hq1 hq2
  go_enter Try.func13, Try.ntmps13
  go_wp2_with (first
    | ((with_reducible refine gate_dst (N := 2) rfl ?_); refine box_event ?hg (N := 2) ?hd (cs := #[.int .i64 q0, .int .i64 q1, .int .i64 q2, .int .i64 q3, .int .i64 q4, .int .i64 q5, .int .u64 q6]) (t := 51) ?hr ?_; (case hd => rfl); (case hg => rfl); (case hr => first | (go_simp; done) | (go_simp; rfl)); intro g2 hg w1 hbox hb; have HBq := Aside0.mk hb; have BK2 := Aside0.mk hbox; clear hbox hb hg)
    | (go_at_call 37; (refine (live_calls _).mono ?_); rintro e w2 ⟨rfl, hb⟩; have HL1 := Aside0.mk (below_step (by first | exact HL2.out | exact Below.refl w1.heap.size w1) hb); clear hb)
    | (go_at_call 38; (with_reducible refine (conductorlaw08_few.calls k0 _ _ l0 true _ ?s1 HL0.out H0.out).mono ?_); (case s1 => exact Kd.C_below HC0.out (below_step HBq.out HL1.out)); rintro e w3 ⟨rfl, hb⟩; have HL2 := Aside0.mk (below_step HL1.out hb); have BK3 := Aside0.mk (blk_below BK2.out HL2.out); have j0 := (blk_cell BK3.out 0).trans (show _ = some (Value.int .i64 q0) from rfl); have j1 := (blk_cell BK3.out 1).trans (show _ = some (Value.int .i64 q1) from rfl); have j2 := (blk_cell BK3.out 2).trans (show _ = some (Value.int .i64 q2) from rfl); have j3 := (blk_cell BK3.out 3).trans (show _ = some (Value.int .i64 q3) from rfl); have j4 := (blk_cell BK3.out 4).trans (show _ = some (Value.int .i64 q4) from rfl); have j5 := (blk_cell BK3.out 5).trans (show _ = some (Value.int .i64 q5) from rfl); have j6 := (blk_cell BK3.out 6).trans (show _ = some (Value.int .u64 q6) from rfl); clear hb)
    | (go_at_call 39; (with_reducible refine (HMG.out _).mono ?_); rintro e w4 ⟨⟨p, mb, rfl, hS⟩, hb⟩; obtain ⟨base, hba⟩ : ∃ b, b = w3.heap.size := ⟨_, rfl⟩; rw [← hba] at hS; have HS3 := Aside0.mk hS; have hbase := Aside0.mk (show w1.heap.size ≤ base by rw [hba]; exact HL2.out.size); have HL3 := Aside0.mk (below_step HL2.out hb); clear hS hb hba j0 j1 j2 j3 j4 j5 j6))
  clear HMG
  go_loopw [29] (fun vi wr => ∃ (i : Nat) (kvr : Value) (nr : Nat) (Dr : DataW Value), vi = .int .i64 i ∧ i ≤ l0.length ∧ Aside0 (nr ≤ 20000 * i) ∧ Aside0 (StoreAt wr base (fun k => base ≤ k) p (runP sN (l0.take i)) kvr mb nr Dr) ∧ Aside0 (Below w1.heap.size w1 wr)) (fun vi _ => l0.length - (intOf vi).toNat)
  case atStart => exact ⟨0, noCh, 0, .map [], rfl, Nat.zero_le _, ⟨Nat.le_refl _⟩, HS3, HL3⟩
  case round =>
    clear HS3 HL3 HL2 HL1 BK3
    obtain ⟨i, kvr, nr, Dr, rfl, hi1, HNr, HS, HB⟩ := hrel
    by_cases hlt : i < l0.length
    · have hi4 : i < 40 := by have := F0.out.1; omega
      have HF := Aside0.mk (Kd.F_below HCF0.out (HBq.out.trans (HB.out.mono HBq.out.size)))
      obtain ⟨ad, ce_, rfl, hcl_, hFK, hcc, hok⟩ := Kd.F_get HF.out z55 (i : Int) (by omega) (by omega)
      rw [show l0.getD (i : Int).toNat z55 = l0[i] by simp [List.getD, List.getElem?_eq_getElem hlt]] at hFK
      obtain ⟨x, hx⟩ : ∃ x, l0[i] = x := ⟨_, rfl⟩
      rw [hx] at hFK
      obtain ⟨A2, c2, rfl, hl2, hg2⟩ := k55_openF hFK
      have e0 : wr.cell? (ad.add (i * 6)) = some (.int .i64 x.f0) := hcc 0 _ rfl
      have e1 : wr.cell? ⟨(ad.add (i * 6)).block, (ad.add (i * 6)).off + 1, none⟩ = some (.slice A2 x.f1.length c2) := by rw [← add_field _ _ 1 (by omega)]; exact hcc 1 _ rfl
      have e2 : wr.cell? ⟨(ad.add (i * 6)).block, (ad.add (i * 6)).off + 2, none⟩ = some (.int .u64 x.f2) := by rw [← add_field _ _ 2 (by omega)]; exact hcc 2 _ rfl
      have e3 : wr.cell? ⟨(ad.add (i * 6)).block, (ad.add (i * 6)).off + 3, none⟩ = some (.int .u64 x.f3) := by rw [← add_field _ _ 3 (by omega)]; exact hcc 3 _ rfl
      have e4 : wr.cell? ⟨(ad.add (i * 6)).block, (ad.add (i * 6)).off + 4, none⟩ = some (.string x.f4) := by rw [← add_field _ _ 4 (by omega)]; exact hcc 4 _ rfl
      have e5 : wr.cell? ⟨(ad.add (i * 6)).block, (ad.add (i * 6)).off + 5, none⟩ = some (.string x.f5) := by rw [← add_field _ _ 5 (by omega)]; exact hcc 5 _ rfl
      have HG2 := Aside0.mk hg2
      have HL2 := Aside0.mk hl2
      have hmem : x ∈ l0 := hx ▸ List.getElem_mem hlt
      have HX := Aside0.mk hx
      clear hcl_ hFK hcc hok hl2 hg2 hx
      have HO := Aside0.mk (F0.out.2 x hmem)
      have HLI := Aside0.mk (HN.out.runTake l0 F0.out.2 i)
      have HLJ := Aside0.mk (HN.out.runTake l0 F0.out.2 (i + 1))
      have hs' : (opP (runP sN (l0.take i)) x).2 = runP sN (l0.take (i + 1)) := by rw [runP_step _ _ _ hlt, HX.out]
      obtain ⟨s1, hs1⟩ : ∃ s1, runP sN (l0.take i) = s1 := ⟨_, rfl⟩
      obtain ⟨s2, hs2⟩ : ∃ s2, runP sN (l0.take (i + 1)) = s2 := ⟨_, rfl⟩
      rw [hs1] at HS HLI hs'
      rw [hs2] at HLJ hs'
      have HS' := Aside0.mk hs'
      have HS2 := Aside0.mk hs2
      have HG := Aside0.mk HLI.out.good
      have hwent := op_went HG.out x
      rw [hs'] at hwent
      obtain ⟨R, hR⟩ : ∃ R, (opP s1 x).1 = R := ⟨_, rfl⟩
      rw [hR] at hwent
      have HR := Aside0.mk hR
      obtain ⟨L, hL⟩ : ∃ L, scanP s1 ⟨#[]⟩ ⟨#[]⟩ s1.now = L := ⟨_, rfl⟩
      have HL := Aside0.mk hL
      have HLl := Aside0.mk (show L.length ≤ 800 by have := scan_len HG.out ⟨#[]⟩ ⟨#[]⟩ s1.now; rw [hL] at this; omega)
      have HQ0 := Aside0.mk (show s2.n0 ≤ q0 by have h1_ := HLJ.out.fits.f0; have h2_ := HLJ.out.l0; have h3_ := U0.out; omega)
      have HQ1 := Aside0.mk (show s2.n1 ≤ q1 by have h1_ := HLJ.out.fits.f1; have h2_ := HLJ.out.l1; have h3_ := U1.out; omega)
      have HQ2b := Aside0.mk (show s2.n2 ≤ q2 by have h1_ := HLJ.out.fits.f2; have h2_ := HLJ.out.l2; have h3_ := U2.out; omega)
      have HQ6 := Aside0.mk (show s2.now ≤ q6 by have h1_ := HLJ.out.good.n1; have h2_ := HLJ.out.la; have h3_ := U6.out; omega)
      have HWENT := Aside0.mk hwent
      clear hs1 hs2 hs' hR hL hwent
      have ho1 : decide (q0 < s2.n0) = false := decide_eq_false (by have := HQ0.out; omega)
      have ho2 : decide (q1 < s2.n1) = false := decide_eq_false (by have := HQ1.out; omega)
      have ho3 : decide (q2 < s2.n2) = false := decide_eq_false (by have := HQ2b.out; omega)
      have ho4 : decide (q6 < s2.now) = false := decide_eq_false (by have := HQ6.out; omega)
      go_wp2_with (first
        | ((with_reducible refine gate_dst (N := 7) rfl ?_); refine box_event ?hg (N := 7) ?hd (cs := #[.int .i64 0, .slice none 0 0, .int .u64 0, .int .u64 0, .string ⟨#[]⟩, .string ⟨#[]⟩]) (t := 55) ?hr ?_; (case hd => rfl); (case hg => rfl); (case hr => first | (go_simp; done) | (go_simp; rfl)); intro g7 hg wa hbox hb; have HBa := Aside0.mk hb; have GE7 := Aside0.mk (show wr.heap.size ≤ g7 by rw [hg]; exact Nat.le_refl _); have BKa := Aside0.mk hbox; have z0 := (blk_cell hbox 0).trans (show _ = some (Value.int .i64 0) from rfl); have y0 := blk_frozen hbox 0; have z1 := (blk_cell hbox 1).trans (show _ = some (Value.slice none 0 0) from rfl); have y1 := blk_frozen hbox 1; have z2 := (blk_cell hbox 2).trans (show _ = some (Value.int .u64 0) from rfl); have y2 := blk_frozen hbox 2; have z3 := (blk_cell hbox 3).trans (show _ = some (Value.int .u64 0) from rfl); have y3 := blk_frozen hbox 3; have z4 := (blk_cell hbox 4).trans (show _ = some (Value.string ⟨#[]⟩) from rfl); have y4 := blk_frozen hbox 4; have z5 := (blk_cell hbox 5).trans (show _ = some (Value.string ⟨#[]⟩) from rfl); have y5 := blk_frozen hbox 5; clear hbox hb hg)
        | ((with_reducible refine gate_store (t := 55) (p := 7) rfl ?_); refine store_event (t := 55) (p := 7) (v := ?vo1_) (w1 := (((((wa.setCell ⟨g7, 0, none⟩ (.int .i64 x.f0)).setCell ⟨g7, 1, none⟩ (.slice A2 x.f1.length c2)).setCell ⟨g7, 2, none⟩ (.int .u64 x.f2)).setCell ⟨g7, 3, none⟩ (.int .u64 x.f3)).setCell ⟨g7, 4, none⟩ (.string x.f4)).setCell ⟨g7, 5, none⟩ (.string x.f5)) ?hg ?ho ?hn ?hr ?_; (case ho => rfl); (case hg => rfl); (case hn => rfl); (case hr => first | (go_simp; done) | (go_simp; rfl)); intro wb hw; have HBx := Aside0.mk (show Below wr.heap.size wr wb by rw [hw]; exact (below_set (below_set (below_set (below_set (below_set (below_set HBa.out GE7.out) GE7.out) GE7.out) GE7.out) GE7.out) GE7.out)); have BKx := Aside0.mk (show wb.heap[g7]? = some (.cells #[.int .i64 x.f0, .slice A2 x.f1.length c2, .int .u64 x.f2, .int .u64 x.f3, .string x.f4, .string x.f5] 55 (0, 0)) by rw [hw]; exact (blk_put (blk_put (blk_put (blk_put (blk_put (blk_put BKa.out 0 _ rfl) 1 _ rfl) 2 _ rfl) 3 _ rfl) 4 _ rfl) 5 _ rfl)); have q0_ := (blk_cell BKx.out 0).trans (show _ = some (Value.int .i64 x.f0) from rfl); have q1_ := (blk_cell BKx.out 1).trans (show _ = some (Value.slice A2 x.f1.length c2) from rfl); have q2_ := (blk_cell BKx.out 2).trans (show _ = some (Value.int .u64 x.f2) from rfl); have q3_ := (blk_cell BKx.out 3).trans (show _ = some (Value.int .u64 x.f3) from rfl); have q4_ := (blk_cell BKx.out 4).trans (show _ = some (Value.string x.f4) from rfl); have q5_ := (blk_cell BKx.out 5).trans (show _ = some (Value.string x.f5) from rfl); have fz2 := blk_frozen BKx.out 2; have fz3 := blk_frozen BKx.out 3; clear hw z0 z1 z2 z3 z4 z5 y0 y1 y2 y3 y4 y5 HBa BKa e0 e1 e2 e3 e4 e5; have HSb := Aside0.mk (HS.out.below HBx.out))
        | (go_at_call 44; refine (store_Now.calls HSb).mono ?_; rintro e w6 ⟨rfl, e1⟩; replace e1 := e1.symm; subst e1)
        | (go_at_call 42; (with_reducible refine (scan_as HSb HG ⟨by omega⟩ _ _ s1.now L HL).mono ?_); rintro e w8 ⟨⟨A8, c8, rfl, hl8, hF8⟩, hb⟩; have HS8 := Aside0.mk (HSb.out.below hb); have HF8 := Aside0.mk hF8; have HL8 := Aside0.mk hl8; have HB8 := Aside0.mk (show Below wr.heap.size wr w8 from below_step HBx.out hb); have BK8 := Aside0.mk (blk_below BKx.out hb); clear q0_ q1_ q2_ q3_ q4_ q5_; have q0_ := (blk_cell BK8.out 0).trans (show _ = some (Value.int .i64 x.f0) from rfl); have q1_ := (blk_cell BK8.out 1).trans (show _ = some (Value.slice A2 x.f1.length c2) from rfl); have q2_ := (blk_cell BK8.out 2).trans (show _ = some (Value.int .u64 x.f2) from rfl); have q3_ := (blk_cell BK8.out 3).trans (show _ = some (Value.int .u64 x.f3) from rfl); have q4_ := (blk_cell BK8.out 4).trans (show _ = some (Value.string x.f4) from rfl); have q5_ := (blk_cell BK8.out 5).trans (show _ = some (Value.string x.f5) from rfl); clear hb hF8 hl8)
        | (go_at_call 41; (with_reducible refine (does_op HS8 HG ?s0 x HO (fun k => k < w.heap.size) ?s1 A2 c2 ?s2 HL2 ?s3).mono ?_); (case s0 => exact ⟨by omega⟩); (case s1 => exact ⟨fun k hk_ => Nat.lt_of_lt_of_le (Nat.lt_of_lt_of_le hk_ HBq.out.size) hbase.out⟩); (case s2 => exact ⟨Kd.F_below HG2.out HB8.out⟩); (case s3 => exact ⟨by have := HNr.out; simp only [maxLen]; omega⟩); rw [HR.out]; rintro e w5 ⟨⟨Ab, cb, As, cs, rfl, hlb, hls, hFb, hFs⟩, kv', n', D', hS, hn, hT, hK⟩; rw [HS'.out] at hS; have HS5 := Aside0.mk hS; have HN5 := Aside0.mk hn; have HB5 := Aside0.mk (show Below w1.heap.size w1 w5 from (below_step HB.out HB8.out).trans (hT.below.mono hbase.out)); have HF5 := Aside0.mk (F_freeTurn HF8.out hT hK); have BK5 := Aside0.mk ((hT.keep g7 (blk_lt BK8.out) (fun ho => by have := (HS.out.own ho).2.2; have := GE7.out; omega)).trans BK8.out); clear hS hn hT hK hlb hls hFb hFs q0_ q1_ q2_ q3_ q4_ q5_)
        | ((with_reducible refine gate_dst (N := 10) rfl ?_); refine box_event ?hg (N := 10) ?hd (cs := #[.int .u64 0, .int .i64 0, .slice none 0 0, .bool false, .slice none 0 0]) (t := 58) ?hr ?_; (case hd => rfl); (case hg => rfl); (case hr => first | (go_simp; done) | (go_simp; rfl)); intro g10 hg wad hbox hb; have HBa := Aside0.mk hb; have GEd := Aside0.mk (show w5.heap.size ≤ g10 by rw [hg]; exact Nat.le_refl _); have BKa := Aside0.mk hbox; have z0 := (blk_cell hbox 0).trans (show _ = some (Value.int .u64 0) from rfl); have y0 := blk_frozen hbox 0; have z1 := (blk_cell hbox 1).trans (show _ = some (Value.int .i64 0) from rfl); have y1 := blk_frozen hbox 1; have z2 := (blk_cell hbox 2).trans (show _ = some (Value.slice none 0 0) from rfl); have y2 := blk_frozen hbox 2; have z3 := (blk_cell hbox 3).trans (show _ = some (Value.bool false) from rfl); have y3 := blk_frozen hbox 3; have z4 := (blk_cell hbox 4).trans (show _ = some (Value.slice none 0 0) from rfl); have y4 := blk_frozen hbox 4; clear hbox hb hg)
        | ((with_reducible refine gate_store (t := 58) (p := 10) rfl ?_); refine store_event (t := 58) (p := 10) (v := ?vo2_) (w1 := ((((wad.setCell ⟨g10, 0, none⟩ (.int .u64 R.n)).setCell ⟨g10, 1, none⟩ (.int .i64 R.e)).setCell ⟨g10, 2, none⟩ (.slice Ab R.b.length cb)).setCell ⟨g10, 3, none⟩ (.bool R.is)).setCell ⟨g10, 4, none⟩ (.slice As R.sc.length cs)) ?hg ?ho ?hn ?hr ?_; (case ho => rfl); (case hg => rfl); (case hn => rfl); (case hr => first | (go_simp; done) | (go_simp; rfl)); intro wd hw; have HBd := Aside0.mk (show Below w5.heap.size w5 wd by rw [hw]; exact (below_set (below_set (below_set (below_set (below_set HBa.out GEd.out) GEd.out) GEd.out) GEd.out) GEd.out)); have BKd := Aside0.mk (show wd.heap[g10]? = some (.cells #[.int .u64 R.n, .int .i64 R.e, .slice Ab R.b.length cb, .bool R.is, .slice As R.sc.length cs] 58 (0, 0)) by rw [hw]; exact (blk_put (blk_put (blk_put (blk_put (blk_put BKa.out 0 _ rfl) 1 _ rfl) 2 _ rfl) 3 _ rfl) 4 _ rfl)); clear hw z0 y0 z1 y1 z2 y2 z3 y3 z4 y4 HBa BKa)
        | (go_at_call 48; refine (store_Count.calls (Aside0.mk (HS5.out.below HBd.out))).mono ?_; rintro e we ⟨rfl, hb⟩; have HBe := Aside0.mk (below_step HBd.out hb); have BKe := Aside0.mk (blk_below BKd.out hb); clear hb)
        | ((with_reducible refine gate_dst (N := 11) rfl ?_); refine box_event ?hg (N := 11) ?hd (cs := #[.int .i64 0, .int .i64 0, .int .i64 0]) (t := 72) ?hr ?_; (case hd => rfl); (case hg => rfl); (case hr => first | (go_simp; done) | (go_simp; rfl)); intro g11 hg wak hbox hb; have HBa := Aside0.mk hb; have GEk := Aside0.mk (show we.heap.size ≤ g11 by rw [hg]; exact Nat.le_refl _); have BKa := Aside0.mk hbox; have z0 := (blk_cell hbox 0).trans (show _ = some (Value.int .i64 0) from rfl); have y0 := blk_frozen hbox 0; have z1 := (blk_cell hbox 1).trans (show _ = some (Value.int .i64 0) from rfl); have y1 := blk_frozen hbox 1; have z2 := (blk_cell hbox 2).trans (show _ = some (Value.int .i64 0) from rfl); have y2 := blk_frozen hbox 2; clear hbox hb hg)
        | ((with_reducible refine gate_store (t := 72) (p := 11) rfl ?_); refine store_event (t := 72) (p := 11) (v := ?vo3_) (w1 := ((wak.setCell ⟨g11, 0, none⟩ (.int .i64 s2.n0)).setCell ⟨g11, 1, none⟩ (.int .i64 s2.n1)).setCell ⟨g11, 2, none⟩ (.int .i64 s2.n2)) ?hg ?ho ?hn ?hr ?_; (case ho => rfl); (case hg => rfl); (case hn => rfl); (case hr => first | (go_simp; done) | (go_simp; rfl)); intro wk hw; have HBk := Aside0.mk (show Below we.heap.size we wk by rw [hw]; exact (below_set (below_set (below_set HBa.out GEk.out) GEk.out) GEk.out)); have BKk := Aside0.mk (show wk.heap[g11]? = some (.cells #[.int .i64 s2.n0, .int .i64 s2.n1, .int .i64 s2.n2] 72 (0, 0)) by rw [hw]; exact (blk_put (blk_put (blk_put BKa.out 0 _ rfl) 1 _ rfl) 2 _ rfl)); clear hw z0 y0 z1 y1 z2 y2 HBa BKa))
      have HSk := Aside0.mk (show StoreAt wk base (fun k => base ≤ k) p s2 kv' mb n' D' from HS5.out.below (below_step HBe.out HBk.out))
      have h20 : ∀ w' : World, (w'.cell? ⟨g11, 0, none⟩ = some (.int .i64 s2.n0) ∧ w'.cell? ⟨g11, 1, none⟩ = some (.int .i64 s2.n1) ∧ w'.cell? ⟨g11, 2, none⟩ = some (.int .i64 s2.n2) ∧ w'.cell? ⟨g2, 0, none⟩ = some (.int .i64 q0) ∧ w'.cell? ⟨g2, 1, none⟩ = some (.int .i64 q1) ∧ w'.cell? ⟨g2, 2, none⟩ = some (.int .i64 q2) ∧ w'.cell? ⟨g2, 6, none⟩ = some (.int .u64 q6) ∧ Below wk.heap.size wk w') → Below wk.heap.size wk w' := fun _ h_ => h_.2.2.2.2.2.2.2
      have H20 := Aside0.mk h20
      have BKq := Aside0.mk (blk_below BK2.out (HB5.out.trans ((below_step HBe.out HBk.out).mono HB5.out.size)))
      have k20 : ∀ w' : World, Below wk.heap.size wk w' → (w'.cell? ⟨g11, 0, none⟩ = some (.int .i64 s2.n0) ∧ w'.cell? ⟨g11, 1, none⟩ = some (.int .i64 s2.n1) ∧ w'.cell? ⟨g11, 2, none⟩ = some (.int .i64 s2.n2) ∧ w'.cell? ⟨g2, 0, none⟩ = some (.int .i64 q0) ∧ w'.cell? ⟨g2, 1, none⟩ = some (.int .i64 q1) ∧ w'.cell? ⟨g2, 2, none⟩ = some (.int .i64 q2) ∧ w'.cell? ⟨g2, 6, none⟩ = some (.int .u64 q6) ∧ Below wk.heap.size wk w') := fun w' hb_ => ⟨pw_cell_below hb_ ((blk_cell BKk.out 0).trans rfl), pw_cell_below hb_ ((blk_cell BKk.out 1).trans rfl), pw_cell_below hb_ ((blk_cell BKk.out 2).trans rfl), pw_cell_below hb_ ((blk_cell BKq.out 0).trans rfl), pw_cell_below hb_ ((blk_cell BKq.out 1).trans rfl), pw_cell_below hb_ ((blk_cell BKq.out 2).trans rfl), pw_cell_below hb_ ((blk_cell BKq.out 6).trans rfl), hb_⟩
      have K20 := Aside0.mk k20
      have NK := Aside0.mk (show ∀ w' : World, Below wk.heap.size wk w' → Calls Try.prog 44 #[.pointer (some ⟨p, 0, none⟩)] w' (fun e w'' => e = .returned (.int .u64 s2.now) ∧ Below w'.heap.size w' w'') from fun w' hb_ => (store_Now.calls (Aside0.mk (HSk.out.below hb_))).mono (fun e w'' h_ => ⟨h_.1, by rw [h_.2]; exact Below.refl _ _⟩))
      clear h20 k20
      go_region_held3 (fun w' : World => (w'.cell? ⟨g11, 0, none⟩ = some (.int .i64 s2.n0) ∧ w'.cell? ⟨g11, 1, none⟩ = some (.int .i64 s2.n1) ∧ w'.cell? ⟨g11, 2, none⟩ = some (.int .i64 s2.n2) ∧ w'.cell? ⟨g2, 0, none⟩ = some (.int .i64 q0) ∧ w'.cell? ⟨g2, 1, none⟩ = some (.int .i64 q1) ∧ w'.cell? ⟨g2, 2, none⟩ = some (.int .i64 q2) ∧ w'.cell? ⟨g2, 6, none⟩ = some (.int .u64 q6) ∧ Below wk.heap.size wk w')) (first | exact K20.out _ (below_drew1 (Below.refl _ _)) | exact K20.out _ (below_step (H20.out _ (by assumption)) hb2) | assumption) (first | (go_at_call 44; (with_reducible refine (NK.out _ ?s1).mono ?_); (case s1 => exact H20.out _ (by assumption)); rintro e w17 ⟨rfl, hb2⟩))
      rename_i hH
      have HB17 := Aside0.mk (H20.out w17 hH)
      clear hH hb2 ho1 ho2 ho3 ho4 K20 NK H20
      have HS17 := Aside0.mk (HSk.out.below HB17.out)
      have H517 := Aside0.mk (below_step (below_step HBe.out HBk.out) HB17.out)
      have BK7 := Aside0.mk (blk_below BK5.out H517.out)
      have BKt := Aside0.mk (blk_below (blk_below BKe.out HBk.out) HB17.out)
      have HF17 := Aside0.mk (F_freeBelow HF5.out H517.out)
      have HB1w := Aside0.mk (HB5.out.trans (H517.out.mono HB5.out.size))
      have r0 := (blk_cell BK7.out 0).trans (show _ = some (Value.int .i64 x.f0) from rfl)
      have r1 := (blk_cell BK7.out 1).trans (show _ = some (Value.slice A2 x.f1.length c2) from rfl)
      obtain ⟨nn, hnn⟩ : ∃ nn, x.f1.length = nn := ⟨_, rfl⟩
      rw [hnn] at r1
      have HNN := Aside0.mk hnn
      clear hnn
      have t0_ := (blk_cell BKt.out 0).trans (show _ = some (Value.int .u64 R.n) from rfl)
      have t1_ := (blk_cell BKt.out 1).trans (show _ = some (Value.int .i64 R.e) from rfl)
      have HG2 := Aside0.mk (show Good 41 s2 from HLJ.out.good.mono (by omega))
      clear BKk BKq HSk HS5 HF5 HS8 HF8
      by_cases c0_ : x.f0 = 0
      · have kb0 : (x.f0 == 0) = true := by rw [c0_]; rfl
        by_cases c1_ : R.e = 0
        · have ke0 : (R.e == 0) = true := by rw [c1_]; rfl
          by_cases c2_ : 0 < nn
          · have kl0 : (0:Int) < (nn:Int) := by omega
            obtain ⟨hw1, hw2⟩ := HWENT.out.1 c0_ c1_ (by rw [HNN.out]; exact c2_)
            have hwu : IntKind.u64.wrap (s1.now + 1) = s2.now := by
              have h1_ := HG.out.n0; have h2_ := HQ6.out; have h3_ := HQ2.out
              rw [wrap_u64_small (by omega) (by omega), hw1]
            have hRn : R.n = s2.now := by rw [hw2, hw1]
            clear c0_ c1_ c2_ hw1 hw2
            go_wp2_with (first
              | (go_at_call 44; refine (store_Now.calls HS17).mono ?_; rintro e w20 ⟨rfl, e1⟩; replace e1 := e1.symm; subst e1))
            go_round
            case rel => exact ⟨i + 1, kv', n', D', by go_num, hlt, ⟨by have := HN5.out; have := HNr.out; omega⟩, ⟨by rw [HS2.out]; exact HS17.out⟩, HB1w⟩
            case measure => simp [intOf]; omega
          · have kl0 : ¬ ((0:Int) < (nn:Int)) := by omega
            have hw := HWENT.out.2 (fun h_ => c2_ (HNN.out ▸ h_.2.2))
            clear c0_ c1_ c2_
            obtain ⟨hw1, hw2⟩ := hw
            have HW1 := Aside0.mk hw1
            clear hw1
            have HL2_ := Aside0.mk (show scanP s2 ⟨#[]⟩ ⟨#[]⟩ s1.now = L from (scan_eq HG2.out HG.out _ _ s1.now hw2).trans HL.out)
            obtain ⟨ks_, hks⟩ := same_refl L (by have := HLl.out; omega)
            have HKS := Aside0.mk hks
            clear hks hw2
            go_wp2_with (first
              | (go_at_call 44; refine (store_Now.calls HS17).mono ?_; rintro e w20 ⟨rfl, e1⟩; replace e1 := e1.symm; subst e1; rw [HW1.out])
              | (go_at_call 42; (with_reducible refine (scan_as HS17 HG2 ⟨by decide⟩ _ _ s1.now L HL2_).mono ?_); rintro e w18 ⟨⟨A18, c18, rfl, hl18, hF18⟩, hb⟩; have HF18 := Aside0.mk hF18; have HL18 := Aside0.mk hl18; have HS18 := Aside0.mk (HS17.out.below hb); have HF19 := Aside0.mk (F_freeBelow HF17.out hb); have HB18 := Aside0.mk (below_step HB1w.out hb); clear hb hF18 hl18)
              | (go_at_call 45; (with_reducible refine (conductorref08_SamePairs.calls ks_ _ _ L _ _ L true _ ?s0 HL8.out ?s1 HL18.out HKS.out).mono ?_); (case s0 => exact Kd.F_now HF19.out); (case s1 => exact Kd.F_now HF18.out); rintro e w19 ⟨rfl, hb⟩; have HS19 := Aside0.mk (HS18.out.below hb.below); have HB19 := Aside0.mk (below_step HB18.out hb.below); clear hb))
            go_round
            case rel => exact ⟨i + 1, kv', n', D', by go_num, hlt, ⟨by have := HN5.out; have := HNr.out; omega⟩, ⟨by rw [HS2.out]; exact HS19.out⟩, HB19⟩
            case measure => simp [intOf]; omega
        · have ke0 : (R.e == 0) = false := by simpa using c1_
          have hw := HWENT.out.2 (fun h_ => c1_ h_.2.1)
          clear c0_ c1_
          obtain ⟨hw1, hw2⟩ := hw
          have HW1 := Aside0.mk hw1
          clear hw1
          have HL2_ := Aside0.mk (show scanP s2 ⟨#[]⟩ ⟨#[]⟩ s1.now = L from (scan_eq HG2.out HG.out _ _ s1.now hw2).trans HL.out)
          obtain ⟨ks_, hks⟩ := same_refl L (by have := HLl.out; omega)
          have HKS := Aside0.mk hks
          clear hks hw2
          go_wp2_with (first
            | (go_at_call 44; refine (store_Now.calls HS17).mono ?_; rintro e w20 ⟨rfl, e1⟩; replace e1 := e1.symm; subst e1; rw [HW1.out])
            | (go_at_call 42; (with_reducible refine (scan_as HS17 HG2 ⟨by decide⟩ _ _ s1.now L HL2_).mono ?_); rintro e w18 ⟨⟨A18, c18, rfl, hl18, hF18⟩, hb⟩; have HF18 := Aside0.mk hF18; have HL18 := Aside0.mk hl18; have HS18 := Aside0.mk (HS17.out.below hb); have HF19 := Aside0.mk (F_freeBelow HF17.out hb); have HB18 := Aside0.mk (below_step HB1w.out hb); clear hb hF18 hl18)
            | (go_at_call 45; (with_reducible refine (conductorref08_SamePairs.calls ks_ _ _ L _ _ L true _ ?s0 HL8.out ?s1 HL18.out HKS.out).mono ?_); (case s0 => exact Kd.F_now HF19.out); (case s1 => exact Kd.F_now HF18.out); rintro e w19 ⟨rfl, hb⟩; have HS19 := Aside0.mk (HS18.out.below hb.below); have HB19 := Aside0.mk (below_step HB18.out hb.below); clear hb))
          go_round
          case rel => exact ⟨i + 1, kv', n', D', by go_num, hlt, ⟨by have := HN5.out; have := HNr.out; omega⟩, ⟨by rw [HS2.out]; exact HS19.out⟩, HB19⟩
          case measure => simp [intOf]; omega
      · have kb0 : (x.f0 == 0) = false := by simpa using c0_
        have hw := HWENT.out.2 (fun h_ => c0_ h_.1)
        clear c0_
        obtain ⟨hw1, hw2⟩ := hw
        have HW1 := Aside0.mk hw1
        clear hw1
        have HL2_ := Aside0.mk (show scanP s2 ⟨#[]⟩ ⟨#[]⟩ s1.now = L from (scan_eq HG2.out HG.out _ _ s1.now hw2).trans HL.out)
        obtain ⟨ks_, hks⟩ := same_refl L (by have := HLl.out; omega)
        have HKS := Aside0.mk hks
        clear hks hw2
        go_wp2_with (first
          | (go_at_call 44; refine (store_Now.calls HS17).mono ?_; rintro e w20 ⟨rfl, e1⟩; replace e1 := e1.symm; subst e1; rw [HW1.out])
          | (go_at_call 42; (with_reducible refine (scan_as HS17 HG2 ⟨by decide⟩ _ _ s1.now L HL2_).mono ?_); rintro e w18 ⟨⟨A18, c18, rfl, hl18, hF18⟩, hb⟩; have HF18 := Aside0.mk hF18; have HL18 := Aside0.mk hl18; have HS18 := Aside0.mk (HS17.out.below hb); have HF19 := Aside0.mk (F_freeBelow HF17.out hb); have HB18 := Aside0.mk (below_step HB1w.out hb); clear hb hF18 hl18)
          | (go_at_call 45; (with_reducible refine (conductorref08_SamePairs.calls ks_ _ _ L _ _ L true _ ?s0 HL8.out ?s1 HL18.out HKS.out).mono ?_); (case s0 => exact Kd.F_now HF19.out); (case s1 => exact Kd.F_now HF18.out); rintro e w19 ⟨rfl, hb⟩; have HS19 := Aside0.mk (HS18.out.below hb.below); have HB19 := Aside0.mk (below_step HB18.out hb.below); clear hb))
        go_round
        case rel => exact ⟨i + 1, kv', n', D', by go_num, hlt, ⟨by have := HN5.out; have := HNr.out; omega⟩, ⟨by rw [HS2.out]; exact HS19.out⟩, HB19⟩
        case measure => simp [intOf]; omega
    · go_wp2
      go_ret
      exact ⟨rfl, HBq.out.trans (HB.out.mono HBq.out.size)⟩
end Go.Proofs.Yteofdgonpbmdlaa.St
namespace Go.Proofs.Yteofdgonpbmdlaa.C
open Go.RowKit Go.Proofs.YteofdgonpbmdlaaW.PrintWords
structure S51 where
  f0 : Int
  f1 : Int
  f2 : Int
  f3 : Int
  f4 : Int
  f5 : Int
  f6 : Int
def k51 : Kd S51 := Kd.iso (Kd.pair (Kd.int .i64) (Kd.pair (Kd.int .i64) (Kd.pair (Kd.int .i64) (Kd.pair (Kd.int .i64) (Kd.pair (Kd.int .i64) (Kd.pair (Kd.int .i64) (Kd.int .u64))))))) (fun x : S51 => (x.f0, x.f1, x.f2, x.f3, x.f4, x.f5, x.f6))
theorem k51_open {w : World} {x : S51} {cs : List Value} (h : k51.K w x cs) : cs = [.int .i64 x.f0, .int .i64 x.f1, .int .i64 x.f2, .int .i64 x.f3, .int .i64 x.f4, .int .i64 x.f5, .int .u64 x.f6] := by
  obtain ⟨_, _, rfl, rfl, _, _, rfl, rfl, _, _, rfl, rfl, _, _, rfl, rfl, _, _, rfl, rfl, _, _, rfl, rfl, rfl⟩ := h
  rfl
theorem opens51 : Kd.Opens Try.prog 51 k51 (fun x => 0 ≤ x.f6 ∧ x.f6 ≤ 18446744073709551615) :=
  opens_imp (Kd.opens_struct (fun x : S51 => (x.f0, x.f1, x.f2, x.f3, x.f4, x.f5, x.f6)) (fun p => ⟨p.1, p.2.1, p.2.2.1, p.2.2.2.1, p.2.2.2.2.1, p.2.2.2.2.2.1, p.2.2.2.2.2.2⟩) (fun _ => rfl) Try.underlying51 (by kernel_rfl)
    (Kd.opensF_cons rfl (by kernel_rfl) (Kd.opens_int Try.underlying3) (Kd.opensF_cons rfl (by kernel_rfl) (Kd.opens_int Try.underlying3) (Kd.opensF_cons rfl (by kernel_rfl) (Kd.opens_int Try.underlying3) (Kd.opensF_cons rfl (by kernel_rfl) (Kd.opens_int Try.underlying3) (Kd.opensF_cons rfl (by kernel_rfl) (Kd.opens_int Try.underlying3) (Kd.opensF_cons rfl (by kernel_rfl) (Kd.opens_int Try.underlying3) (Kd.opensF_one rfl (by kernel_rfl) (Kd.opens_int Try.underlying23))))))))) (fun w a cs _ h => wf_u64 h.2.2.2.2.2.2)
end Go.Proofs.Yteofdgonpbmdlaa.C
namespace Go.Proofs.Yteofdgonpbmdlaa.St
open Go.RowKit Go.Maps Go.Proofs.YteofdgonpbmdlaaW.PrintWords Go.Proofs.Yteofdgonpbmdlaa.C
theorem limits_all (a : S51) (A0 : Option Addr) (c0 : Nat) (l0 : List S55) (w : World) (hC0 : Kd.C k55 w A0 l0.length l0) (hl0 : l0.length ≤ c0) (hq : 0 ≤ a.f6 ∧ a.f6 ≤ 18446744073709551615) (hm0 : ∀ o ∈ l0, o.f1.length ≤ 9223372036854775807) :
    Calls Try.prog 13 #[.agg #[.int .i64 a.f0, .int .i64 a.f1, .int .i64 a.f2, .int .i64 a.f3, .int .i64 a.f4, .int .i64 a.f5, .int .u64 a.f6], .slice A0 l0.length c0] w fun e w' => e = .returned (.bool true) ∧ Below w.heap.size w w' := by
  cases h : fewB l0 with
  | false => exact limits_few a.f0 a.f1 a.f2 a.f3 a.f4 a.f5 a.f6 A0 c0 l0 w hC0 hl0 hm0 hq.1 hq.2 h
  | true =>
    by_cases hr : Room a.f0 ∧ Room a.f1 ∧ Room a.f2 ∧ a.f6 ≠ 0
    · exact limits_main a.f0 a.f1 a.f2 a.f3 a.f4 a.f5 a.f6 A0 c0 l0 w hC0 hl0 hm0 hq.1 hq.2 h hr.1 hr.2.1 hr.2.2.1 hr.2.2.2
    · exact limits_none a.f0 a.f1 a.f2 a.f3 a.f4 a.f5 a.f6 A0 c0 l0 w hC0 hl0 hm0 hq.1 hq.2 h hr
end Go.Proofs.Yteofdgonpbmdlaa.St
