/- Texts of this session, merged for the law StoreDoes: VO, VP. No condition. -/
import Derived.Test.YteofdgonpbmdlaaZStoreDoeszb
import Derived.Test.YteofdgonpbmdlaaZStoreDoesz
set_option linter.unusedVariables false
set_option linter.unusedSimpArgs false
namespace Go.Proofs.Yteofdgonpbmdlaa.R
open Go.RowKit Go.Maps Go.Proofs.YteofdgonpbmdlaaW.PrintWords Go.Proofs.YteofdgonpbmdlaaW.PrintLast Go.Proofs.YteofdgonpbmdlaaW.PrintMore Go.Proofs.Yteofdgonpbmdlaa.C Go.Proofs.Yteofdgonpbmdlaa.St Go.Proofs.Yteofdgonpbmdlaa.Pure
attribute [local go_sem] max2_int min2_int max2_str min2_str str_leq str_gtr str_geq max_two min_two max_three min_three max_four min_four
theorem rat_new (W : World) (ok : Nat → Prop) (p3 : Nat) (q0 q1 q2 q3 q4 q5 q6 : Int) (hb : W.heap[p3]? = some (.cells #[.int .i64 q0, .int .i64 q1, .int .i64 q2, .int .i64 q3, .int .i64 q4, .int .i64 q5, .int .u64 q6, .int .u64 0, .slice none 0 0] 84 (0, 0))) : RAt W ok p3 (rOf (noStore q0 q1 q2 q3 q4 q5 q6)) none 0 := ⟨hb, Nat.le_refl _, Kd.F_nil _ _ _⟩
theorem refs_Keys {W : World} {ok : Nat → Prop} {p : Nat} {s : SS} {A : Option Addr} {c : Nat} (h : RAt W ok p (rOf s) A c) (hl : s.keys.length ≤ 100000) : Calls Try.prog 58 #[.pointer (some ⟨p, 0, none⟩)] W fun e w' => (∃ A2 c2, e = .returned (.slice A2 s.keys.length c2) ∧ s.keys.length ≤ c2 ∧ Kd.C Kd.string w' A2 s.keys.length s.keys) ∧ Below W.heap.size W w' := by
  have e1 : (rOf s).K.length = s.keys.length := ofS_len s
  have e2 : (rOf s).K.map (·.f0) = s.keys := ofS_keys s
  refine (ref_Keys ⟨h⟩ ⟨by rw [e1]; exact hl⟩).mono ?_
  rw [e1, e2]
  exact fun _ _ h_ => h_
theorem refs_Chain {W : World} {ok : Nat → Prop} {p : Nat} {s : SS} {A : Option Addr} {c : Nat} (h : RAt W ok p (rOf s) A c) {m : Nat} (g : St.Good m s) (hl : s.keys.length ≤ 100000) (key : ByteArray) (L : List S28) (hL : s.ch key = L) : Calls Try.prog 59 #[.pointer (some ⟨p, 0, none⟩), .string key] W fun e w' => (∃ A2 c2, e = .returned (.slice A2 L.length c2) ∧ L.length ≤ c2 ∧ Kd.C k28 w' A2 L.length L) ∧ Below W.heap.size W w' := by
  have e1 : (rOf s).K.length = s.keys.length := ofS_len s
  have e2 : chK (rOf s).K key = L := ((KOk.of g).ch key).trans hL
  refine (ref_Chain ⟨h⟩ key ⟨by rw [e1]; omega⟩).mono ?_
  rw [e2]
  rintro e w' ⟨⟨A2, c2, h1, h2, h3⟩, hb⟩
  exact ⟨⟨A2, c2, h1, h2, Kd.F_now h3⟩, hb⟩
set_option maxRecDepth 100000 in
set_option maxHeartbeats 16000000 in
theorem does_few (q0 q1 q2 q3 q4 q5 q6 : Int) (A0 : Option Addr) (c0 : Nat) (l0 : List S55) (w : World) (hC0 : Kd.C k55 w A0 l0.length l0) (hl0 : l0.length ≤ c0) (hm0 : ∀ o ∈ l0, o.f1.length ≤ 9223372036854775807) (hq1 : 0 ≤ q6) (hq2 : q6 ≤ 18446744073709551615) (hb0 : fewB l0 = false) :
    Calls Try.prog 15 #[.agg #[.int .i64 q0, .int .i64 q1, .int .i64 q2, .int .i64 q3, .int .i64 q4, .int .i64 q5, .int .u64 q6], .slice A0 l0.length c0] w fun e w' => e = .returned (.bool true) ∧ Below w.heap.size w w' := by
  obtain ⟨k0, h0⟩ := few_ev l0 hC0.2.1 hm0
  rw [hb0] at h0
  have H0 := Aside0.mk h0
  have HC0 := Aside0.mk hC0
  have HL0 := Aside0.mk hl0
  clear h0 hC0 hl0 hb0 hm0
  go_enter Try.func15, Try.ntmps15
  go_wp2_with (first
    | ((with_reducible refine gate_dst (N := 2) rfl ?_); refine box_event ?hg (N := 2) ?hd (cs := #[.int .i64 q0, .int .i64 q1, .int .i64 q2, .int .i64 q3, .int .i64 q4, .int .i64 q5, .int .u64 q6]) (t := 51) ?hr ?_; (case hd => rfl); (case hg => rfl); (case hr => first | (go_simp; done) | (go_simp; rfl)); intro g2 hg w1 hbox hb; have HBq := Aside0.mk hb; have BK2 := Aside0.mk hbox; clear hbox hb hg)
    | (go_at_call 37; (refine (live_calls _).mono ?_); rintro e w2 ⟨rfl, hb⟩; have HL1 := Aside0.mk (below_step (by first | exact HL2.out | exact Below.refl w1.heap.size w1) hb); clear hb)
    | (go_at_call 38; (with_reducible refine (conductorlaw08_few.calls k0 _ _ l0 false _ ?s1 HL0.out H0.out).mono ?_); (case s1 => exact Kd.C_below HC0.out (below_step HBq.out HL1.out)); rintro e w3 ⟨rfl, hb⟩; have HL2 := Aside0.mk (below_step HL1.out hb); have BK3 := Aside0.mk (blk_below BK2.out HL2.out); have j0 := (blk_cell BK3.out 0).trans (show _ = some (Value.int .i64 q0) from rfl); have j1 := (blk_cell BK3.out 1).trans (show _ = some (Value.int .i64 q1) from rfl); have j2 := (blk_cell BK3.out 2).trans (show _ = some (Value.int .i64 q2) from rfl); have j3 := (blk_cell BK3.out 3).trans (show _ = some (Value.int .i64 q3) from rfl); have j4 := (blk_cell BK3.out 4).trans (show _ = some (Value.int .i64 q4) from rfl); have j5 := (blk_cell BK3.out 5).trans (show _ = some (Value.int .i64 q5) from rfl); have j6 := (blk_cell BK3.out 6).trans (show _ = some (Value.int .u64 q6) from rfl); clear hb))
  go_ret
  exact ⟨rfl, below_step HBq.out HL1.out⟩
set_option maxRecDepth 100000 in
set_option maxHeartbeats 16000000 in
theorem does_bad (q0 q1 q2 q3 q4 q5 q6 : Int) (A0 : Option Addr) (c0 : Nat) (l0 : List S55) (w : World) (hC0 : Kd.C k55 w A0 l0.length l0) (hl0 : l0.length ≤ c0) (hm0 : ∀ o ∈ l0, o.f1.length ≤ 9223372036854775807) (hq1 : 0 ≤ q6) (hq2 : q6 ≤ 18446744073709551615) (hb0 : fewB l0 = true) (hno : ¬ (Room q0 ∧ Room q1 ∧ Room q2 ∧ q6 ≠ 0)) :
    Calls Try.prog 15 #[.agg #[.int .i64 q0, .int .i64 q1, .int .i64 q2, .int .i64 q3, .int .i64 q4, .int .i64 q5, .int .u64 q6], .slice A0 l0.length c0] w fun e w' => e = .returned (.bool true) ∧ Below w.heap.size w w' := by
  obtain ⟨k0, h0⟩ := few_ev l0 hC0.2.1 hm0
  rw [hb0] at h0
  have H0 := Aside0.mk h0
  have HC0 := Aside0.mk hC0
  have HL0 := Aside0.mk hl0
  have hmay := may_f q0 q1 q2 q3 q4 q5 q6 hq1
  rw [decide_eq_false hno] at hmay
  have HMAY := Aside0.mk hmay
  have HNB := Aside0.mk (fun w_ => new_bad q0 q1 q2 q3 q4 q5 q6 w_ hno)
  clear h0 hC0 hl0 hb0 hm0 hmay hno
  go_enter Try.func15, Try.ntmps15
  go_wp2_with (first
    | ((with_reducible refine gate_dst (N := 2) rfl ?_); refine box_event ?hg (N := 2) ?hd (cs := #[.int .i64 q0, .int .i64 q1, .int .i64 q2, .int .i64 q3, .int .i64 q4, .int .i64 q5, .int .u64 q6]) (t := 51) ?hr ?_; (case hd => rfl); (case hg => rfl); (case hr => first | (go_simp; done) | (go_simp; rfl)); intro g2 hg w1 hbox hb; have HBq := Aside0.mk hb; have BK2 := Aside0.mk hbox; clear hbox hb hg)
    | (go_at_call 37; (refine (live_calls _).mono ?_); rintro e w2 ⟨rfl, hb⟩; have HL1 := Aside0.mk (below_step (by first | exact HL2.out | exact Below.refl w1.heap.size w1) hb); clear hb)
    | (go_at_call 38; (with_reducible refine (conductorlaw08_few.calls k0 _ _ l0 true _ ?s1 HL0.out H0.out).mono ?_); (case s1 => exact Kd.C_below HC0.out (below_step HBq.out HL1.out)); rintro e w3 ⟨rfl, hb⟩; have HL2 := Aside0.mk (below_step HL1.out hb); have BK3 := Aside0.mk (blk_below BK2.out HL2.out); have j0 := (blk_cell BK3.out 0).trans (show _ = some (Value.int .i64 q0) from rfl); have j1 := (blk_cell BK3.out 1).trans (show _ = some (Value.int .i64 q1) from rfl); have j2 := (blk_cell BK3.out 2).trans (show _ = some (Value.int .i64 q2) from rfl); have j3 := (blk_cell BK3.out 3).trans (show _ = some (Value.int .i64 q3) from rfl); have j4 := (blk_cell BK3.out 4).trans (show _ = some (Value.int .i64 q4) from rfl); have j5 := (blk_cell BK3.out 5).trans (show _ = some (Value.int .i64 q5) from rfl); have j6 := (blk_cell BK3.out 6).trans (show _ = some (Value.int .u64 q6) from rfl); clear hb)
    | (go_at_call 52; (with_reducible refine (HNB.out _).mono ?_); rintro e w4 ⟨rfl, hb⟩; have HL3 := Aside0.mk (below_step HL2.out hb); have BK4 := Aside0.mk (blk_below BK2.out HL3.out); clear j0 j1 j2 j3 j4 j5 j6; have j0 := (blk_cell BK4.out 0).trans (show _ = some (Value.int .i64 q0) from rfl); have j1 := (blk_cell BK4.out 1).trans (show _ = some (Value.int .i64 q1) from rfl); have j2 := (blk_cell BK4.out 2).trans (show _ = some (Value.int .i64 q2) from rfl); have j3 := (blk_cell BK4.out 3).trans (show _ = some (Value.int .i64 q3) from rfl); have j4 := (blk_cell BK4.out 4).trans (show _ = some (Value.int .i64 q4) from rfl); have j5 := (blk_cell BK4.out 5).trans (show _ = some (Value.int .i64 q5) from rfl); have j6 := (blk_cell BK4.out 6).trans (show _ = some (Value.int .u64 q6) from rfl); clear hb)
    | (go_at_call 46; (with_reducible refine (conductorref08_May.calls q0 q1 q2 q3 q4 q5 q6 false _ HMAY.out).mono ?_); rintro e w5 ⟨rfl, hb⟩; have HL4 := Aside0.mk (below_step HL3.out hb); clear hb))
  go_ret
  exact ⟨rfl, below_step HBq.out HL4.out⟩
set_option maxRecDepth 100000 in
set_option maxHeartbeats 16000000 in
theorem does_main (q0 q1 q2 q3 q4 q5 q6 : Int) (A0 : Option Addr) (c0 : Nat) (l0 : List S55) (w : World) (hC0 : Kd.C k55 w A0 l0.length l0) (hl0 : l0.length ≤ c0) (hm0 : ∀ o ∈ l0, o.f1.length ≤ 9223372036854775807) (hq1 : 0 ≤ q6) (hq2 : q6 ≤ 18446744073709551615) (hb0 : fewB l0 = true) (hr0 : Room q0) (hr1 : Room q1) (hr2 : Room q2) (hq : q6 ≠ 0) :
    Calls Try.prog 15 #[.agg #[.int .i64 q0, .int .i64 q1, .int .i64 q2, .int .i64 q3, .int .i64 q4, .int .i64 q5, .int .u64 q6], .slice A0 l0.length c0] w fun e w' => e = .returned (.bool true) ∧ Below w.heap.size w w' := by
  obtain ⟨k0, h0⟩ := few_ev l0 hC0.2.1 hm0
  rw [hb0] at h0
  have H0 := Aside0.mk h0
  have HC0 := Aside0.mk hC0
  have HL0 := Aside0.mk hl0
  have hmay := may_f q0 q1 q2 q3 q4 q5 q6 hq1
  rw [decide_eq_true ⟨hr0, hr1, hr2, hq⟩] at hmay
  have HMAY := Aside0.mk hmay
  have HN := Aside0.mk (lim_new q0 q1 q2 q3 q4 q5 q6 hr0 hr1 hr2 hq1 hq2)
  have HMG := Aside0.mk (fun w_ => store_New.good q0 q1 q2 q3 q4 q5 q6 w_ hr0 hr1 hr2 hq)
  have HRN := Aside0.mk (fun (W_ : World) (ok_ : Nat → Prop) (p_ : Nat) => rat_new W_ ok_ p_ q0 q1 q2 q3 q4 q5 q6)
  have HEM := Aside0.mk (show (noStore q0 q1 q2 q3 q4 q5 q6).ch ⟨#[]⟩ = [] from rfl)
  obtain ⟨sN, hsN⟩ : ∃ sN, noStore q0 q1 q2 q3 q4 q5 q6 = sN := ⟨_, rfl⟩
  rw [hsN] at HN HMG HRN HEM
  have HCW := Aside0.mk hC0
  have F0 := Aside0.mk (fewB_spec hb0)
  clear h0 hC0 hl0 hb0 hm0 hsN hr0 hr1 hr2 hq hq1 hq2 hmay
  go_enter Try.func15, Try.ntmps15
  go_wp2_with (first
    | ((with_reducible refine gate_dst (N := 2) rfl ?_); refine box_event ?hg (N := 2) ?hd (cs := #[.int .i64 q0, .int .i64 q1, .int .i64 q2, .int .i64 q3, .int .i64 q4, .int .i64 q5, .int .u64 q6]) (t := 51) ?hr ?_; (case hd => rfl); (case hg => rfl); (case hr => first | (go_simp; done) | (go_simp; rfl)); intro g2 hg w1 hbox hb; have HBq := Aside0.mk hb; have BK2 := Aside0.mk hbox; clear hbox hb hg)
    | (go_at_call 37; (refine (live_calls _).mono ?_); rintro e w2 ⟨rfl, hb⟩; have HL1 := Aside0.mk (below_step (by first | exact HL2.out | exact Below.refl w1.heap.size w1) hb); clear hb)
    | (go_at_call 38; (with_reducible refine (conductorlaw08_few.calls k0 _ _ l0 true _ ?s1 HL0.out H0.out).mono ?_); (case s1 => exact Kd.C_below HC0.out (below_step HBq.out HL1.out)); rintro e w3 ⟨rfl, hb⟩; have HL2 := Aside0.mk (below_step HL1.out hb); have BK3 := Aside0.mk (blk_below BK2.out HL2.out); have j0 := (blk_cell BK3.out 0).trans (show _ = some (Value.int .i64 q0) from rfl); have j1 := (blk_cell BK3.out 1).trans (show _ = some (Value.int .i64 q1) from rfl); have j2 := (blk_cell BK3.out 2).trans (show _ = some (Value.int .i64 q2) from rfl); have j3 := (blk_cell BK3.out 3).trans (show _ = some (Value.int .i64 q3) from rfl); have j4 := (blk_cell BK3.out 4).trans (show _ = some (Value.int .i64 q4) from rfl); have j5 := (blk_cell BK3.out 5).trans (show _ = some (Value.int .i64 q5) from rfl); have j6 := (blk_cell BK3.out 6).trans (show _ = some (Value.int .u64 q6) from rfl); clear hb)
    | (go_at_call 52; (with_reducible refine (HMG.out _).mono ?_); rintro e w4 ⟨⟨p, mb, rfl, hS⟩, hb⟩; obtain ⟨base, hba⟩ : ∃ b, b = w3.heap.size := ⟨_, rfl⟩; rw [← hba] at hS; have HS4 := Aside0.mk hS; have hbase := Aside0.mk (show w1.heap.size ≤ base by rw [hba]; exact HL2.out.size); have HL4 := Aside0.mk (below_step HL2.out hb); have BK4 := Aside0.mk (blk_below BK2.out HL4.out); clear hS hb hba j0 j1 j2 j3 j4 j5 j6; have j0 := (blk_cell BK4.out 0).trans (show _ = some (Value.int .i64 q0) from rfl); have j1 := (blk_cell BK4.out 1).trans (show _ = some (Value.int .i64 q1) from rfl); have j2 := (blk_cell BK4.out 2).trans (show _ = some (Value.int .i64 q2) from rfl); have j3 := (blk_cell BK4.out 3).trans (show _ = some (Value.int .i64 q3) from rfl); have j4 := (blk_cell BK4.out 4).trans (show _ = some (Value.int .i64 q4) from rfl); have j5 := (blk_cell BK4.out 5).trans (show _ = some (Value.int .i64 q5) from rfl); have j6 := (blk_cell BK4.out 6).trans (show _ = some (Value.int .u64 q6) from rfl))
    | (go_at_call 46; (with_reducible refine (conductorref08_May.calls q0 q1 q2 q3 q4 q5 q6 true _ HMAY.out).mono ?_); rintro e w5 ⟨rfl, hb⟩; have HS5 := Aside0.mk (HS4.out.below hb); have HL5 := Aside0.mk (below_step HL4.out hb); have BK5 := Aside0.mk (blk_below BK2.out HL5.out); clear hb j0 j1 j2 j3 j4 j5 j6; have j0 := (blk_cell BK5.out 0).trans (show _ = some (Value.int .i64 q0) from rfl); have j1 := (blk_cell BK5.out 1).trans (show _ = some (Value.int .i64 q1) from rfl); have j2 := (blk_cell BK5.out 2).trans (show _ = some (Value.int .i64 q2) from rfl); have j3 := (blk_cell BK5.out 3).trans (show _ = some (Value.int .i64 q3) from rfl); have j4 := (blk_cell BK5.out 4).trans (show _ = some (Value.int .i64 q4) from rfl); have j5 := (blk_cell BK5.out 5).trans (show _ = some (Value.int .i64 q5) from rfl); have j6 := (blk_cell BK5.out 6).trans (show _ = some (Value.int .u64 q6) from rfl))
    | ((with_reducible refine gate_dst (N := 42) rfl ?_); refine box_event ?hg (N := 42) ?hd (cs := #[.int .i64 q0, .int .i64 q1, .int .i64 q2, .int .i64 q3, .int .i64 q4, .int .i64 q5, .int .u64 q6, .int .u64 0, .slice none 0 0]) (t := 84) ?hr ?_; (case hd => rfl); (case hg => rfl); (case hr => first | (go_simp; done) | (go_simp; rfl)); intro p3 hg w6 hbox hb; have GP3 := Aside0.mk (show base ≤ p3 by rw [hg]; exact Nat.le_trans (Nat.le_of_lt HS5.out.p_lt |> fun h_ => Nat.le_trans (HS5.out.bb _ HS5.out.bp) h_) (Nat.le_refl _)); have HS6 := Aside0.mk (oth_ex HS5.out hb (by rw [hg]; exact Nat.le_refl _) (blk_lt hbox)); have HR6 := Aside0.mk (HRN.out w6 (Free p mb noCh w6) p3 hbox); have HL6 := Aside0.mk (below_step HL5.out hb); clear hbox hb hg j0 j1 j2 j3 j4 j5 j6))
  have HCF0 := Aside0.mk (Kd.C_F k55_heap (Kd.C_below HCW.out HBq.out))
  clear HMG HRN HCW HC0 HS4 HS5 HL1 HL2 HL4 HL5 BK3 BK4 BK5
  go_loopw [45] (fun vi wr => ∃ (i : Nat) (kvr : Value) (nr : Nat) (Dr : DataW Value) (A3 : Option Addr) (c3 : Nat), vi = .int .i64 i ∧ i ≤ l0.length ∧ Aside0 (nr ≤ 20000 * i) ∧ Aside0 (StoreAt wr base (fun k => base ≤ k ∧ k ≠ p3) p (runP sN (l0.take i)) kvr mb nr Dr) ∧ Aside0 (RAt wr (Free p mb kvr wr) p3 (rOf (runP sN (l0.take i))) A3 c3) ∧ Aside0 (Below w1.heap.size w1 wr)) (fun vi _ => l0.length - (intOf vi).toNat)
  case atStart => exact ⟨0, noCh, 0, .map [], none, 0, rfl, Nat.zero_le _, ⟨Nat.le_refl _⟩, HS6, HR6, HL6⟩
  case round =>
    clear HS6 HR6 HL6
    obtain ⟨i, kvr, nr, Dr, A3, c3, rfl, hi1, HNr, HS, HR3, HB⟩ := hrel
    by_cases hlt : i < l0.length
    · have hi4 : i < 40 := by have := F0.out.1; omega
      have HF := Aside0.mk (Kd.F_below HCF0.out HB.out)
      obtain ⟨ad, ce_, rfl, hcl_, hFK, hcc, hok⟩ := Kd.F_get HF.out z55 (i : Int) (by omega) (by omega)
      rw [show l0.getD (i : Int).toNat z55 = l0[i] by simp [List.getD, List.getElem?_eq_getElem hlt]] at hFK
      obtain ⟨x, hx⟩ : ∃ x, l0[i] = x := ⟨_, rfl⟩
      rw [hx] at hFK
      obtain ⟨A2, c2, rfl, hl2, hg2⟩ := k55_openF hFK
      have e0 : wr.cell? (ad.add (i * 6)) = some (.int .i64 x.f0) := hcc 0 _ rfl
      have e1 : wr.cell? ⟨(ad.add (i * 6)).block, (ad.add (i * 6)).off + 1, none⟩ = some (.slice A2 x.f1.length c2) := by rw [← add_field _ _ 1 (by omega)]; exact hcc 1 _ rfl
      have e2 : wr.cell? ⟨(ad.add (i * 6)).block, (ad.add (i * 6)).off + 2, none⟩ = some (.int .u64 x.f2) := by rw [← add_field _ _ 2 (by omega)]; exact hcc 2 _ rfl
      have e3 : wr.cell? ⟨(ad.add (i * 6)).block, (ad.add (i * 6)).off + 3, none⟩ = some (.int .u64 x.f3) := by rw [← add_field _ _ 3 (by omega)]; exact hcc 3 _ rfl
      have e4 : wr.cell? ⟨(ad.add (i * 6)).block, (ad.add (i * 6)).off + 4, none⟩ = some (.string x.f4) := by rw [← add_field _ _ 4 (by omega)]; exact hcc 4 _ rfl
      have e5 : wr.cell? ⟨(ad.add (i * 6)).block, (ad.add (i * 6)).off + 5, none⟩ = some (.string x.f5) := by rw [← add_field _ _ 5 (by omega)]; exact hcc 5 _ rfl
      have HG2 := Aside0.mk hg2
      have HL2 := Aside0.mk hl2
      have hmem : x ∈ l0 := hx ▸ List.getElem_mem hlt
      have HX := Aside0.mk hx
      clear hcl_ hFK hcc hok hl2 hg2 hx
      have HO := Aside0.mk (F0.out.2 x hmem)
      have HLI := Aside0.mk (HN.out.runTake l0 F0.out.2 i)
      have HLJ := Aside0.mk (HN.out.runTake l0 F0.out.2 (i + 1))
      have hs' : (opP (runP sN (l0.take i)) x).2 = runP sN (l0.take (i + 1)) := by rw [runP_step _ _ _ hlt, HX.out]
      obtain ⟨s1, hs1⟩ : ∃ s1, runP sN (l0.take i) = s1 := ⟨_, rfl⟩
      obtain ⟨s2, hs2⟩ : ∃ s2, runP sN (l0.take (i + 1)) = s2 := ⟨_, rfl⟩
      rw [hs1] at HS HR3 HLI hs'
      rw [hs2] at HLJ hs'
      have HS' := Aside0.mk hs'
      have HS2 := Aside0.mk hs2
      have HG := Aside0.mk HLI.out.good
      have HZ1 := Aside0.mk HLI.out.sized
      have HF1 := Aside0.mk HLI.out.fits
      have HG2s := Aside0.mk HLJ.out.good
      have HZ2 := Aside0.mk HLJ.out.sized
      have HF2 := Aside0.mk HLJ.out.fits
      have hm8 := Aside0.mk (show 0 + i ≤ 800 by omega)
      have hm82 := Aside0.mk (show 0 + (i + 1) ≤ 800 by omega)
      have hokA := Aside0.mk (show ∀ k, k < w1.heap.size → k < base from fun k hk_ => Nat.lt_of_lt_of_le hk_ hbase.out)
      have hnx := Aside0.mk (show nr + 20000 < maxLen by have := HNr.out; simp only [maxLen]; omega)
      have HR0lt := Aside0.mk HR3.out.lt
      obtain ⟨R, hR⟩ : ∃ R, (opP s1 x).1 = R := ⟨_, rfl⟩
      have HR := Aside0.mk hR
      have hscl : R.sc.length ≤ 9223372036854775807 := by
        have h_ := told_sc HG.out x
        rw [hR] at h_
        omega
      obtain ⟨ks_, hks⟩ := same_told R.n R.e R.b R.is R.sc hscl
      have HKS := Aside0.mk hks
      obtain ⟨ce, hce⟩ : ∃ ce, chkL none x.f1 = ce := ⟨_, rfl⟩
      obtain ⟨kc1, hkc1⟩ := chk_ev x.f1 (by have := HO.out.len; omega)
      obtain ⟨kc2, hkc2⟩ := r_check x.f1 (by have := HO.out.len; omega)
      rw [hce] at hkc1 hkc2
      have HCK1 := Aside0.mk hkc1
      have HCK2 := Aside0.mk hkc2
      have HFX := Aside0.mk (show ∀ w' : World, Below w1.heap.size w1 w' → Kd.C k102 w' A2 x.f1.length x.f1 from fun w' hb_ => Kd.F_now (Kd.F_step HG2.out (fun k hk_ _ => (hb_.block k hk_).trans (HB.out.block k hk_).symm)))
      have hnow : (s2.now == s2.now) = true := by simp
      have hcee : (ce == ce) = true := by simp
      have hq72 := fun w_ => neq72 s2.n0 s2.n1 s2.n2 w_
      clear hs1 hs2 hs' hR hks hkc1 hkc2 hce hscl
      go_wp2_with (first
        | ((with_reducible refine gate_dst (N := 9) rfl ?_); refine box_event ?hg (N := 9) ?hd (cs := #[.int .i64 0, .slice none 0 0, .int .u64 0, .int .u64 0, .string ⟨#[]⟩, .string ⟨#[]⟩]) (t := 55) ?hr ?_; (case hd => rfl); (case hg => rfl); (case hr => first | (go_simp; done) | (go_simp; rfl)); intro g7 hg wa hbox hb; have HBa := Aside0.mk hb; have GE7 := Aside0.mk (show wr.heap.size ≤ g7 by rw [hg]; exact Nat.le_refl _); have BKa := Aside0.mk hbox; have z0 := (blk_cell hbox 0).trans (show _ = some (Value.int .i64 0) from rfl); have y0 := blk_frozen hbox 0; have z1 := (blk_cell hbox 1).trans (show _ = some (Value.slice none 0 0) from rfl); have y1 := blk_frozen hbox 1; have z2 := (blk_cell hbox 2).trans (show _ = some (Value.int .u64 0) from rfl); have y2 := blk_frozen hbox 2; have z3 := (blk_cell hbox 3).trans (show _ = some (Value.int .u64 0) from rfl); have y3 := blk_frozen hbox 3; have z4 := (blk_cell hbox 4).trans (show _ = some (Value.string ⟨#[]⟩) from rfl); have y4 := blk_frozen hbox 4; have z5 := (blk_cell hbox 5).trans (show _ = some (Value.string ⟨#[]⟩) from rfl); have y5 := blk_frozen hbox 5; clear hbox hb hg)
        | ((with_reducible refine gate_store (t := 55) (p := 9) rfl ?_); refine store_event (t := 55) (p := 9) (v := ?vo4_) (w1 := (((((wa.setCell ⟨g7, 0, none⟩ (.int .i64 x.f0)).setCell ⟨g7, 1, none⟩ (.slice A2 x.f1.length c2)).setCell ⟨g7, 2, none⟩ (.int .u64 x.f2)).setCell ⟨g7, 3, none⟩ (.int .u64 x.f3)).setCell ⟨g7, 4, none⟩ (.string x.f4)).setCell ⟨g7, 5, none⟩ (.string x.f5)) ?hg ?ho ?hn ?hr ?_; (case ho => rfl); (case hg => rfl); (case hn => rfl); (case hr => first | (go_simp; done) | (go_simp; rfl)); intro wb hw; have HBx := Aside0.mk (show Below wr.heap.size wr wb by rw [hw]; exact (below_set (below_set (below_set (below_set (below_set (below_set HBa.out GE7.out) GE7.out) GE7.out) GE7.out) GE7.out) GE7.out)); have BKx := Aside0.mk (show wb.heap[g7]? = some (.cells #[.int .i64 x.f0, .slice A2 x.f1.length c2, .int .u64 x.f2, .int .u64 x.f3, .string x.f4, .string x.f5] 55 (0, 0)) by rw [hw]; exact (blk_put (blk_put (blk_put (blk_put (blk_put (blk_put BKa.out 0 _ rfl) 1 _ rfl) 2 _ rfl) 3 _ rfl) 4 _ rfl) 5 _ rfl)); have q0 := (blk_cell BKx.out 0).trans (show _ = some (Value.int .i64 x.f0) from rfl); have q1 := (blk_cell BKx.out 1).trans (show _ = some (Value.slice A2 x.f1.length c2) from rfl); have q2 := (blk_cell BKx.out 2).trans (show _ = some (Value.int .u64 x.f2) from rfl); have q3 := (blk_cell BKx.out 3).trans (show _ = some (Value.int .u64 x.f3) from rfl); have q4 := (blk_cell BKx.out 4).trans (show _ = some (Value.string x.f4) from rfl); have q5 := (blk_cell BKx.out 5).trans (show _ = some (Value.string x.f5) from rfl); have fz2 := blk_frozen BKx.out 2; have fz3 := blk_frozen BKx.out 3; clear hw z0 z1 z2 z3 z4 z5 y0 y1 y2 y3 y4 y5 HBa BKa e0 e1 e2 e3 e4 e5))
      clear fz2 fz3
      have HSb := Aside0.mk (HS.out.below HBx.out)
      have HRb := Aside0.mk (HR3.out.freeBelow HBx.out)
      go_simp
      refine start_ (n := 33) (S := fun w' => w'.cell? ⟨g7, 0, none⟩ = some (Value.int .i64 x.f0) ∧ w'.cell? ⟨g7, 1, none⟩ = some (Value.slice A2 x.f1.length c2) ∧ w'.cell? ⟨g7, 2, none⟩ = some (Value.int .u64 x.f2) ∧ w'.cell? ⟨g7, 3, none⟩ = some (Value.int .u64 x.f3) ∧ w'.cell? ⟨g7, 4, none⟩ = some (Value.string x.f4) ∧ w'.cell? ⟨g7, 5, none⟩ = some (Value.string x.f5)) (ds := []) #[false, false, false, false, false, false, false, false, false, false, false, false, false, false, false, false, false, false, false, false, false, false, false, false, false, false, false, false, false, false, false, false, false] (by kernel_rfl) rfl rfl ⟨q0, q1, q2, q3, q4, q5⟩ (fun hHeld => ?_)
      have HSO := Aside0.mk (show ∀ w' : World, w'.heap[g7]? = some (.cells #[.int .i64 x.f0, .slice A2 x.f1.length c2, .int .u64 x.f2, .int .u64 x.f3, .string x.f4, .string x.f5] 55 (0, 0)) → (fun w' : World => w'.cell? ⟨g7, 0, none⟩ = some (Value.int .i64 x.f0) ∧ w'.cell? ⟨g7, 1, none⟩ = some (Value.slice A2 x.f1.length c2) ∧ w'.cell? ⟨g7, 2, none⟩ = some (Value.int .u64 x.f2) ∧ w'.cell? ⟨g7, 3, none⟩ = some (Value.int .u64 x.f3) ∧ w'.cell? ⟨g7, 4, none⟩ = some (Value.string x.f4) ∧ w'.cell? ⟨g7, 5, none⟩ = some (Value.string x.f5)) w' from fun w' hb_ => ⟨(blk_cell hb_ 0).trans rfl, (blk_cell hb_ 1).trans rfl, (blk_cell hb_ 2).trans rfl, (blk_cell hb_ 3).trans rfl, (blk_cell hb_ 4).trans rfl, (blk_cell hb_ 5).trans rfl⟩)
      have hbd := below_drew1 (Below.refl wb.heap.size wb)
      have HSd := Aside0.mk (HSb.out.below hbd)
      have HRd := Aside0.mk (HRb.out.freeBelow hbd)
      have BKd := Aside0.mk (blk_below BKx.out hbd)
      have HBd := Aside0.mk (below_step HBx.out hbd)
      clear hbd q0 q1 q2 q3 q4 q5 HSb HRb
      generalize wb.drew = wd at HSd HRd BKd HBd hHeld ⊢
      refine pure_ (i := 0) (N := some 49) (v := ?_) (a' := ?_) #[true, false, false, false, false, false, false, false, false, false, false, false, false, false, false, false, false, false, false, false, false, false, false, false, false, false, false, false, false, false, false, false, false] rfl rfl (by kernel_rfl) (fun _ _ _ h => h) (Or.inl ⟨by rfl, ?_⟩) ?_ ?_
      rotate_left
      · intro w'
        go_simp
        with_reducible rfl
      rotate_left
      · simp only [Act.put, List.setIfInBounds_toArray, List.set_cons_zero, List.set_cons_succ, i64_w, i32_w]
        rfl
      refine pure_ (i := 3) (N := some 52) (v := ?_) (a' := ?_) #[true, false, false, true, false, false, false, false, false, false, false, false, false, false, false, false, false, false, false, false, false, false, false, false, false, false, false, false, false, false, false, false, false] rfl rfl (by kernel_rfl) (fun _ _ _ h => h) (Or.inl ⟨by rfl, ?_⟩) ?_ ?_
      rotate_left
      · intro w'
        go_simp
        with_reducible rfl
      rotate_left
      · simp only [Act.put, List.setIfInBounds_toArray, List.set_cons_zero, List.set_cons_succ, i64_w, i32_w]
        rfl
      refine take_ (i := 1) (N := some 50) (v := ?_) (a' := ?_) #[true, true, false, true, false, false, false, false, false, false, false, false, false, false, false, false, false, false, false, false, false, false, false, false, false, false, false, false, false, false, false, false, false] rfl rfl (by kernel_rfl) (fun _ _ _ h => h) (Or.inl ⟨by rfl, ?_⟩) hHeld ?_ ?_
      rotate_left
      · rintro w' ⟨s0, s1_, s2_, s3, s4, s5⟩
        go_simp
        with_reducible rfl
      rotate_left
      · simp only [Act.put, List.setIfInBounds_toArray, List.set_cons_zero, List.set_cons_succ, i64_w, i32_w]
        rfl
      refine take_ (i := 4) (N := some 53) (v := ?_) (a' := ?_) #[true, true, false, true, true, false, false, false, false, false, false, false, false, false, false, false, false, false, false, false, false, false, false, false, false, false, false, false, false, false, false, false, false] rfl rfl (by kernel_rfl) (fun _ _ _ h => h) (Or.inl ⟨by rfl, ?_⟩) hHeld ?_ ?_
      rotate_left
      · rintro w' ⟨s0, s1_, s2_, s3, s4, s5⟩
        go_simp
        with_reducible rfl
      rotate_left
      · simp only [Act.put, List.setIfInBounds_toArray, List.set_cons_zero, List.set_cons_succ, i64_w, i32_w]
        rfl
      refine one_ (i := 2) (N := some 51) #[true, true, true, true, true, false, false, false, false, false, false, false, false, false, false, false, false, false, false, false, false, false, false, false, false, false, false, false, false, false, false, false, false] rfl rfl (by kernel_rfl) (by decide) (fun K0 hK0 => ?_)
      refine goes_ Try.func41 (by kernel_rfl) rfl #[.pointer (some ⟨p, 0, none⟩), .agg #[.int .i64 x.f0, .slice A2 x.f1.length c2, .int .u64 x.f2, .int .u64 x.f3, .string x.f4, .string x.f5]] (by rfl) rfl rfl (by (try simp only [List.map_toArray, List.map_cons, List.map_nil]); first | done | rfl) ?_
      with_reducible refine (does_op HSd HG hm8 x HO (fun k => k < w1.heap.size) hokA A2 c2 ⟨Kd.F_below HG2.out HBd.out⟩ HL2 hnx).mono ?_
      rw [HR.out]
      rintro e w5 ⟨⟨Ab, cb, As, cs, rfl, hlb, hls, hFb, hFs⟩, kv', n', D', hS, hn, hT, hK⟩
      refine ⟨_, rfl, ?_⟩
      rw [HS'.out] at hS
      have HS5 := Aside0.mk hS
      have HN5 := Aside0.mk hn
      have HB5 := Aside0.mk (show Below w1.heap.size w1 w5 from (below_step HB.out HBd.out).trans (hT.below.mono hbase.out))
      have HR5 := Aside0.mk (HRd.out.freeTurn hT hK (fun ho => (HSd.out.own ho).2.1.2 rfl))
      have BK5 := Aside0.mk ((hT.keep g7 (blk_lt BKd.out) (fun ho => by have h1_ := (HS.out.own ho).2.2; have h2_ := GE7.out; omega)).trans BKd.out)
      have HFb5 := Aside0.mk hFb
      have HFs5 := Aside0.mk hFs
      have HLb := Aside0.mk hlb
      have HLs := Aside0.mk hls
      clear hS hn hT hK hFb hFs hlb hls HSd HRd BKd
      refine hK0.out _ _ (HSO.out _ BK5.out) (fun hHeld => ?_)
      clear hK0 K0
      refine norm_ (a' := ?_) ?_ ?_
      rotate_left
      · show Act.put _ (some 51) _ = _
        simp only [Act.put, List.setIfInBounds_toArray, List.set_cons_zero, List.set_cons_succ, i64_w, i32_w]
        rfl
      refine one_ (i := 5) (N := some 54) #[true, true, true, true, true, true, false, false, false, false, false, false, false, false, false, false, false, false, false, false, false, false, false, false, false, false, false, false, false, false, false, false, false] rfl rfl (by kernel_rfl) (by decide) (fun K0 hK0 => ?_)
      refine goes_ Try.func53 (by kernel_rfl) rfl #[.pointer (some ⟨p3, 0, none⟩), .agg #[.int .i64 x.f0, .slice A2 x.f1.length c2, .int .u64 x.f2, .int .u64 x.f3, .string x.f4, .string x.f5]] (by rfl) rfl rfl (by (try simp only [List.map_toArray, List.map_cons, List.map_nil]); first | done | rfl) ?_
      with_reducible refine (should_op w5 (Free p mb kv' w5) p3 s1 A3 c3 HR5 HG hm8 HZ1 HF1 x HO A2 c2 ⟨?sF⟩ HL2).mono ?_
      (case sF => exact Kd.F_mono (Kd.F_step HG2.out (fun k hk_ _ => (HB5.out.block k hk_).trans (HB.out.block k hk_).symm)) (fun k hk_ => ⟨⟨⟨Nat.lt_of_lt_of_le hk_ HB5.out.size, fun ho => by have h1_ := (HS5.out.own ho).1; have h2_ := hbase.out; omega⟩, Nat.lt_of_lt_of_le hk_ HB5.out.size⟩, by have h1_ := GP3.out; have h2_ := hbase.out; omega⟩))
      rw [HR.out, HS'.out]
      rintro e w6 ⟨⟨Ab2, cb2, As2, cs2, rfl, hlb2, hls2, hCb2, hCs2⟩, ⟨A6, c6, hR6⟩, hT6⟩
      refine ⟨_, rfl, ?_⟩
      have HS6 := Aside0.mk (HS5.out.aside hT6 (fun k hk_ => hk_.2))
      have HR6 := Aside0.mk (RAt.freeNew HS5.out hR6 hT6.below.size)
      have BK6 := Aside0.mk ((hT6.keep g7 (blk_lt BK5.out) (fun e => by have h1_ := HR0lt.out; have h2_ := GE7.out; have h3_ : g7 = p3 := e; omega)).trans BK5.out)
      have HB6 := Aside0.mk (HB5.out.trans (hT6.below.mono (Nat.le_trans hbase.out GP3.out)))
      have HCb := Aside0.mk (Kd.F_now (Kd.F_step HFb5.out (fun k hk_ hl_ => hT6.keep k hl_ hk_.2.2)))
      have HCs := Aside0.mk (Kd.F_now (Kd.F_step HFs5.out (fun k hk_ hl_ => hT6.keep k hl_ hk_.2.2)))
      have HCb2 := Aside0.mk hCb2
      have HCs2 := Aside0.mk hCs2
      have HLb2 := Aside0.mk hlb2
      have HLs2 := Aside0.mk hls2
      clear hR6 hT6 hCb2 hCs2 hlb2 hls2 HS5 HR5 HB5 BK5 HFb5 HFs5
      refine hK0.out _ _ (HSO.out _ BK6.out) (fun hHeld => ?_)
      clear hK0 K0
      refine norm_ (a' := ?_) ?_ ?_
      rotate_left
      · show Act.put _ (some 54) _ = _
        simp only [Act.put, List.setIfInBounds_toArray, List.set_cons_zero, List.set_cons_succ, i64_w, i32_w]
        rfl
      refine one_ (i := 6) (N := some 55) #[true, true, true, true, true, true, true, false, false, false, false, false, false, false, false, false, false, false, false, false, false, false, false, false, false, false, false, false, false, false, false, false, false] rfl rfl (by kernel_rfl) (by decide) (fun K0 hK0 => ?_)
      refine goes_ Try.func47 (by kernel_rfl) rfl #[.agg #[.int .u64 R.n, .int .i64 R.e, .slice Ab R.b.length cb, .bool R.is, .slice As R.sc.length cs], .agg #[.int .u64 R.n, .int .i64 R.e, .slice Ab2 R.b.length cb2, .bool R.is, .slice As2 R.sc.length cs2]] (by rfl) rfl rfl (by (try simp only [List.map_toArray, List.map_cons, List.map_nil]); first | done | rfl) ?_
      with_reducible refine (conductorlaw08_same.calls ks_ R.n R.e Ab cb R.b R.is As cs R.sc R.n R.e Ab2 cb2 R.b R.is As2 cs2 R.sc true _ HCb.out HLb.out HCs.out HLs.out HCb2.out HLb2.out HCs2.out HLs2.out HKS.out).mono ?_
      rintro e w7 ⟨rfl, hb⟩
      refine ⟨_, rfl, ?_⟩
      have HS7 := Aside0.mk (HS6.out.below hb)
      have HR7 := Aside0.mk (HR6.out.freeBelow hb)
      have BK7 := Aside0.mk (blk_below BK6.out hb)
      have HB7 := Aside0.mk (below_step HB6.out hb)
      have T7 : w7.cell? ⟨p3, 7, none⟩ = some (.int .u64 s2.now) := HR7.out.c7
      clear hb HS6 HR6 BK6 HB6 HCb HCs HCb2 HCs2
      refine hK0.out _ _ (HSO.out _ BK7.out) (fun hHeld => ?_)
      clear hK0 K0
      refine norm_ (a' := ?_) ?_ ?_
      rotate_left
      · show Act.put _ (some 55) _ = _
        simp only [Act.put, List.setIfInBounds_toArray, List.set_cons_zero, List.set_cons_succ, i64_w, i32_w]
        rfl
      refine pure_ (i := 7) (N := some 56) (v := ?_) (a' := ?_) #[true, true, true, true, true, true, true, true, false, false, false, false, false, false, false, false, false, false, false, false, false, false, false, false, false, false, false, false, false, false, false, false, false] rfl rfl (by kernel_rfl) (fun _ _ _ h => h) (Or.inl ⟨by rfl, ?_⟩) ?_ ?_
      rotate_left
      · intro w'
        go_simp
        with_reducible rfl
      rotate_left
      · simp only [Act.put, List.setIfInBounds_toArray, List.set_cons_zero, List.set_cons_succ, i64_w, i32_w]
        rfl
      refine pure_ (i := 8) (N := some 57) (v := ?_) (a' := ?_) #[true, true, true, true, true, true, true, true, true, false, false, false, false, false, false, false, false, false, false, false, false, false, false, false, false, false, false, false, false, false, false, false, false] rfl rfl (by kernel_rfl) (fun _ _ _ h => h) (Or.inl ⟨by rfl, ?_⟩) ?_ ?_
      rotate_left
      · intro w'
        go_simp
        with_reducible rfl
      rotate_left
      · simp only [Act.put, List.setIfInBounds_toArray, List.set_cons_zero, List.set_cons_succ, i64_w, i32_w]
        rfl
      refine pure_ (i := 9) (N := some 58) (v := ?_) (a' := ?_) #[true, true, true, true, true, true, true, true, true, true, false, false, false, false, false, false, false, false, false, false, false, false, false, false, false, false, false, false, false, false, false, false, false] rfl rfl (by kernel_rfl) (fun _ _ _ h => h) (Or.inl ⟨by rfl, ?_⟩) ?_ ?_
      rotate_left
      · intro w'
        go_simp
        with_reducible rfl
      rotate_left
      · simp only [Act.put, List.setIfInBounds_toArray, List.set_cons_zero, List.set_cons_succ, i64_w, i32_w]
        rfl
      refine pure_ (i := 11) (N := some 60) (v := ?_) (a' := ?_) #[true, true, true, true, true, true, true, true, true, true, false, true, false, false, false, false, false, false, false, false, false, false, false, false, false, false, false, false, false, false, false, false, false] rfl rfl (by kernel_rfl) (fun _ _ _ h => h) (Or.inl ⟨by rfl, ?_⟩) ?_ ?_
      rotate_left
      · intro w'
        go_simp
        with_reducible rfl
      rotate_left
      · simp only [Act.put, List.setIfInBounds_toArray, List.set_cons_zero, List.set_cons_succ, i64_w, i32_w]
        rfl
      refine pure_ (i := 12) (N := some 61) (v := ?_) (a' := ?_) #[true, true, true, true, true, true, true, true, true, true, false, true, true, false, false, false, false, false, false, false, false, false, false, false, false, false, false, false, false, false, false, false, false] rfl rfl (by kernel_rfl) (fun _ _ _ h => h) (Or.inl ⟨by rfl, ?_⟩) ?_ ?_
      rotate_left
      · intro w'
        go_simp
        with_reducible rfl
      rotate_left
      · simp only [Act.put, List.setIfInBounds_toArray, List.set_cons_zero, List.set_cons_succ, i64_w, i32_w]
        rfl
      refine pure_ (i := 13) (N := some 62) (v := ?_) (a' := ?_) #[true, true, true, true, true, true, true, true, true, true, false, true, true, true, false, false, false, false, false, false, false, false, false, false, false, false, false, false, false, false, false, false, false] rfl rfl (by kernel_rfl) (fun _ _ _ h => h) (Or.inl ⟨by rfl, ?_⟩) ?_ ?_
      rotate_left
      · intro w'
        go_simp
        with_reducible rfl
      rotate_left
      · simp only [Act.put, List.setIfInBounds_toArray, List.set_cons_zero, List.set_cons_succ, i64_w, i32_w]
        rfl
      refine join_ (σ := Unit) 18 #[true, true, true, true, true, true, true, true, true, true, true, true, true, true, true, false, false, false, false, false, false, false, false, false, false, false, false, false, false, false, false, false, false] (fun _ => [(59, .int .u64 s2.now), (63, .int .u64 s2.now)]) (fun _ w' => w' = w7) ?_ ?_
      rotate_left
      · intro hCont
        refine two_ (i := 10) (j := 14) (Ni := some 59) (Nj := some 63) #[true, true, true, true, true, true, true, true, true, true, true, true, true, true, false, false, false, false, false, false, false, false, false, false, false, false, false, false, false, false, false, false, false] #[true, true, true, true, true, true, true, true, true, true, false, true, true, true, true, false, false, false, false, false, false, false, false, false, false, false, false, false, false, false, false, false, false] rfl rfl rfl rfl (by kernel_rfl) (by decide) (by decide) (fun K0 hK0 => ?_) (fun K0 hK0 => ?_)
        · skip
          refine goes_ Try.func44 (by kernel_rfl) rfl #[.pointer (some ⟨p, 0, none⟩)] (by rfl) rfl rfl (by (try simp only [List.map_toArray, List.map_cons, List.map_nil]); first | done | rfl) ?_
          refine (store_Now.calls HS7).mono ?_
          rintro e wq ⟨rfl, e1⟩
          replace e1 := e1.symm
          subst e1
          refine ⟨_, rfl, ?_⟩
          refine hK0.out _ _ hHeld (fun hHeld2 => ?_)
          clear hK0 K0 hHeld2
          refine norm_ (a' := ?_) ?_ ?_
          rotate_left
          · show Act.put _ (some 59) _ = _
            simp only [Act.put, List.setIfInBounds_toArray, List.set_cons_zero, List.set_cons_succ, i64_w, i32_w]
            rfl
          refine one_ (i := 14) (N := some 63) #[true, true, true, true, true, true, true, true, true, true, true, true, true, true, true, false, false, false, false, false, false, false, false, false, false, false, false, false, false, false, false, false, false] rfl rfl (by kernel_rfl) (by decide) (fun K0 hK0 => ?_)
          refine value_ (w1 := w7) (v := .int .u64 s2.now) (by rfl) rfl (by go_simp) ?_
          refine hK0.out _ _ hHeld (fun hHeld2 => ?_)
          clear hK0 K0 hHeld2
          refine norm_ (a' := ?_) ?_ ?_
          rotate_left
          · show Act.put _ (some 63) _ = _
            simp only [Act.put, List.setIfInBounds_toArray, List.set_cons_zero, List.set_cons_succ, i64_w, i32_w]
            rfl
          exact norm_ (by simp only [putAll, Act.put, List.setIfInBounds_toArray, List.set_cons_zero, List.set_cons_succ]) (hCont () _ rfl)
        · skip
          refine value_ (w1 := w7) (v := .int .u64 s2.now) (by rfl) rfl (by go_simp) ?_
          refine hK0.out _ _ hHeld (fun hHeld2 => ?_)
          clear hK0 K0 hHeld2
          refine norm_ (a' := ?_) ?_ ?_
          rotate_left
          · show Act.put _ (some 63) _ = _
            simp only [Act.put, List.setIfInBounds_toArray, List.set_cons_zero, List.set_cons_succ, i64_w, i32_w]
            rfl
          refine one_ (i := 10) (N := some 59) #[true, true, true, true, true, true, true, true, true, true, true, true, true, true, true, false, false, false, false, false, false, false, false, false, false, false, false, false, false, false, false, false, false] rfl rfl (by kernel_rfl) (by decide) (fun K0 hK0 => ?_)
          refine goes_ Try.func44 (by kernel_rfl) rfl #[.pointer (some ⟨p, 0, none⟩)] (by rfl) rfl rfl (by (try simp only [List.map_toArray, List.map_cons, List.map_nil]); first | done | rfl) ?_
          refine (store_Now.calls HS7).mono ?_
          rintro e wq ⟨rfl, e1⟩
          replace e1 := e1.symm
          subst e1
          refine ⟨_, rfl, ?_⟩
          refine hK0.out _ _ hHeld (fun hHeld2 => ?_)
          clear hK0 K0 hHeld2
          refine norm_ (a' := ?_) ?_ ?_
          rotate_left
          · show Act.put _ (some 59) _ = _
            simp only [Act.put, List.setIfInBounds_toArray, List.set_cons_zero, List.set_cons_succ, i64_w, i32_w]
            rfl
          exact norm_ (by simp only [putAll, Act.put, List.setIfInBounds_toArray, List.set_cons_zero, List.set_cons_succ]) (hCont () _ rfl)
      rintro _ wj rfl
      refine norm_ (a' := ?_) ?_ ?_
      rotate_left
      · simp only [putAll, Act.put, List.setIfInBounds_toArray, List.set_cons_zero, List.set_cons_succ]
        rfl
      refine pure_ (i := 15) (N := some 64) (v := ?_) (a' := ?_) #[true, true, true, true, true, true, true, true, true, true, true, true, true, true, true, true, false, false, false, false, false, false, false, false, false, false, false, false, false, false, false, false, false] rfl rfl (by kernel_rfl) (fun _ _ _ h => h) (Or.inl ⟨by rfl, ?_⟩) ?_ ?_
      rotate_left
      · intro w'
        go_simp
        with_reducible rfl
      rotate_left
      · simp only [Act.put, List.setIfInBounds_toArray, List.set_cons_zero, List.set_cons_succ, i64_w, i32_w]
        rfl
      refine pure_ (i := 16) (N := some 65) (v := ?_) (a' := ?_) #[true, true, true, true, true, true, true, true, true, true, true, true, true, true, true, true, true, false, false, false, false, false, false, false, false, false, false, false, false, false, false, false, false] rfl rfl (by kernel_rfl) (fun _ _ _ h => h) (Or.inl ⟨by rfl, ?_⟩) ?_ ?_
      rotate_left
      · intro w'
        go_simp
        with_reducible rfl
      rotate_left
      · simp only [Act.put, List.setIfInBounds_toArray, List.set_cons_zero, List.set_cons_succ, i64_w, i32_w]
        rfl
      refine pure_ (i := 17) (N := some 66) (v := ?_) (a' := ?_) #[true, true, true, true, true, true, true, true, true, true, true, true, true, true, true, true, true, true, false, false, false, false, false, false, false, false, false, false, false, false, false, false, false] rfl rfl (by kernel_rfl) (fun _ _ _ h => h) (Or.inl ⟨by rfl, ?_⟩) ?_ ?_
      rotate_left
      · intro w'
        go_simp
        with_reducible rfl
      rotate_left
      · simp only [Act.put, List.setIfInBounds_toArray, List.set_cons_zero, List.set_cons_succ, i64_w, i32_w]
        rfl
      refine pure_ (i := 18) (N := some 67) (v := ?_) (a' := ?_) #[true, true, true, true, true, true, true, true, true, true, true, true, true, true, true, true, true, true, true, false, false, false, false, false, false, false, false, false, false, false, false, false, false] rfl rfl (by kernel_rfl) (fun _ _ _ h => h) (Or.inl ⟨by rfl, ?_⟩) ?_ ?_
      rotate_left
      · intro w'
        go_simp
        with_reducible rfl
      rotate_left
      · simp only [Act.put, List.setIfInBounds_toArray, List.set_cons_zero, List.set_cons_succ, i64_w, i32_w]
        rfl
      refine pure_ (i := 20) (N := some 69) (v := ?_) (a' := ?_) #[true, true, true, true, true, true, true, true, true, true, true, true, true, true, true, true, true, true, true, false, true, false, false, false, false, false, false, false, false, false, false, false, false] rfl rfl (by kernel_rfl) (fun _ _ _ h => h) (Or.inl ⟨by rfl, ?_⟩) ?_ ?_
      rotate_left
      · intro w'
        go_simp
        with_reducible rfl
      rotate_left
      · simp only [Act.put, List.setIfInBounds_toArray, List.set_cons_zero, List.set_cons_succ, i64_w, i32_w]
        rfl
      refine one_ (i := 19) (N := some 68) #[true, true, true, true, true, true, true, true, true, true, true, true, true, true, true, true, true, true, true, true, true, false, false, false, false, false, false, false, false, false, false, false, false] rfl rfl (by kernel_rfl) (by decide) (fun K0 hK0 => ?_)
      refine goes_ Try.func48 (by kernel_rfl) rfl #[.pointer (some ⟨p, 0, none⟩)] (by rfl) rfl rfl (by (try simp only [List.map_toArray, List.map_cons, List.map_nil]); first | done | rfl) ?_
      refine (store_Count.calls HS7).mono ?_
      rintro e w8 ⟨rfl, hb⟩
      refine ⟨_, rfl, ?_⟩
      have HS8 := Aside0.mk (HS7.out.below hb)
      have HR8 := Aside0.mk (HR7.out.freeBelow hb)
      have BK8 := Aside0.mk (blk_below BK7.out hb)
      have HB8 := Aside0.mk (below_step HB7.out hb)
      clear hb HS7 HR7 BK7 HB7 T7
      refine hK0.out _ _ (HSO.out _ BK8.out) (fun hHeld => ?_)
      clear hK0 K0
      refine norm_ (a' := ?_) ?_ ?_
      rotate_left
      · show Act.put _ (some 68) _ = _
        simp only [Act.put, List.setIfInBounds_toArray, List.set_cons_zero, List.set_cons_succ, i64_w, i32_w]
        rfl
      refine one_ (i := 21) (N := some 70) #[true, true, true, true, true, true, true, true, true, true, true, true, true, true, true, true, true, true, true, true, true, true, false, false, false, false, false, false, false, false, false, false, false] rfl rfl (by kernel_rfl) (by decide) (fun K0 hK0 => ?_)
      refine goes_ Try.func54 (by kernel_rfl) rfl #[.pointer (some ⟨p3, 0, none⟩)] (by rfl) rfl rfl (by (try simp only [List.map_toArray, List.map_cons, List.map_nil]); first | done | rfl) ?_
      with_reducible refine (refs_Count HR8.out HG2s.out hm82.out HZ2.out HF2.out).mono ?_
      rintro e w9 ⟨rfl, hb⟩
      refine ⟨_, rfl, ?_⟩
      have HS9 := Aside0.mk (HS8.out.below hb)
      have HR9 := Aside0.mk (HR8.out.freeBelow hb)
      have BK9 := Aside0.mk (blk_below BK8.out hb)
      have HB9 := Aside0.mk (below_step HB8.out hb)
      clear hb HS8 HR8 BK8 HB8
      refine hK0.out _ _ (HSO.out _ BK9.out) (fun hHeld => ?_)
      clear hK0 K0
      refine norm_ (a' := ?_) ?_ ?_
      rotate_left
      · show Act.put _ (some 70) _ = _
        simp only [Act.put, List.setIfInBounds_toArray, List.set_cons_zero, List.set_cons_succ, i64_w, i32_w]
        rfl
      refine pure_ (i := 22) (N := some 71) (v := ?_) (a' := ?_) #[true, true, true, true, true, true, true, true, true, true, true, true, true, true, true, true, true, true, true, true, true, true, true, false, false, false, false, false, false, false, false, false, false] rfl rfl (by kernel_rfl) (fun _ _ _ h => h) (Or.inl ⟨by rfl, ?_⟩) ?_ ?_
      rotate_left
      · intro w'
        go_simp
        with_reducible rfl
      rotate_left
      · simp only [Act.put, List.setIfInBounds_toArray, List.set_cons_zero, List.set_cons_succ, i64_w, i32_w]
        rfl
      refine pure_ (i := 23) (N := some 72) (v := ?_) (a' := ?_) #[true, true, true, true, true, true, true, true, true, true, true, true, true, true, true, true, true, true, true, true, true, true, true, true, false, false, false, false, false, false, false, false, false] rfl rfl (by kernel_rfl) (fun _ _ _ h => h) (Or.inl ⟨by rfl, ?_⟩) ?_ ?_
      rotate_left
      · intro w'
        go_simp
        with_reducible rfl
      rotate_left
      · simp only [Act.put, List.setIfInBounds_toArray, List.set_cons_zero, List.set_cons_succ, i64_w, i32_w]
        rfl
      refine pure_ (i := 24) (N := some 73) (v := ?_) (a' := ?_) #[true, true, true, true, true, true, true, true, true, true, true, true, true, true, true, true, true, true, true, true, true, true, true, true, true, false, false, false, false, false, false, false, false] rfl rfl (by kernel_rfl) (fun _ _ _ h => h) (Or.inl ⟨by rfl, ?_⟩) ?_ ?_
      rotate_left
      · intro w'
        go_simp
        with_reducible rfl
      rotate_left
      · simp only [Act.put, List.setIfInBounds_toArray, List.set_cons_zero, List.set_cons_succ, i64_w, i32_w]
        rfl
      refine pure_ (i := 25) (N := some 74) (v := ?_) (a' := ?_) #[true, true, true, true, true, true, true, true, true, true, true, true, true, true, true, true, true, true, true, true, true, true, true, true, true, true, false, false, false, false, false, false, false] rfl rfl (by kernel_rfl) (fun _ _ _ h => h) (Or.inl ⟨by rfl, ?_⟩) ?_ ?_
      rotate_left
      · intro w'
        go_simp
        with_reducible rfl
      rotate_left
      · simp only [Act.put, List.setIfInBounds_toArray, List.set_cons_zero, List.set_cons_succ, i64_w, i32_w]
        rfl
      refine pure_ (i := 28) (N := some 77) (v := ?_) (a' := ?_) #[true, true, true, true, true, true, true, true, true, true, true, true, true, true, true, true, true, true, true, true, true, true, true, true, true, true, false, false, true, false, false, false, false] rfl rfl (by kernel_rfl) (fun _ _ _ h => h) (Or.inl ⟨by rfl, ?_⟩) ?_ ?_
      rotate_left
      · intro w'
        go_simp
        with_reducible rfl
      rotate_left
      · simp only [Act.put, List.setIfInBounds_toArray, List.set_cons_zero, List.set_cons_succ, i64_w, i32_w]
        rfl
      refine take_ (i := 26) (N := some 75) (v := ?_) (a' := ?_) #[true, true, true, true, true, true, true, true, true, true, true, true, true, true, true, true, true, true, true, true, true, true, true, true, true, true, true, false, true, false, false, false, false] rfl rfl (by kernel_rfl) (fun _ _ _ h => h) (Or.inl ⟨by rfl, ?_⟩) hHeld ?_ ?_
      rotate_left
      · rintro w' ⟨s0, s1_, s2_, s3, s4, s5⟩
        go_simp
        with_reducible rfl
      rotate_left
      · simp only [Act.put, List.setIfInBounds_toArray, List.set_cons_zero, List.set_cons_succ, i64_w, i32_w]
        rfl
      refine take_ (i := 29) (N := some 78) (v := ?_) (a' := ?_) #[true, true, true, true, true, true, true, true, true, true, true, true, true, true, true, true, true, true, true, true, true, true, true, true, true, true, true, false, true, true, false, false, false] rfl rfl (by kernel_rfl) (fun _ _ _ h => h) (Or.inl ⟨by rfl, ?_⟩) hHeld ?_ ?_
      rotate_left
      · rintro w' ⟨s0, s1_, s2_, s3, s4, s5⟩
        go_simp
        with_reducible rfl
      rotate_left
      · simp only [Act.put, List.setIfInBounds_toArray, List.set_cons_zero, List.set_cons_succ, i64_w, i32_w]
        rfl
      refine one_ (i := 27) (N := some 76) #[true, true, true, true, true, true, true, true, true, true, true, true, true, true, true, true, true, true, true, true, true, true, true, true, true, true, true, true, true, true, false, false, false] rfl rfl (by kernel_rfl) (by decide) (fun K0 hK0 => ?_)
      refine goes_ Try.func55 (by kernel_rfl) rfl #[.slice A2 x.f1.length c2] (by rfl) rfl rfl (by (try simp only [List.map_toArray, List.map_cons, List.map_nil]); first | done | rfl) ?_
      with_reducible refine (store_Check.calls kc1 A2 c2 x.f1 ce _ (HFX.out _ HB9.out) HL2.out HCK1.out).mono ?_
      rintro e w10 ⟨rfl, hb⟩
      refine ⟨_, rfl, ?_⟩
      have HS10 := Aside0.mk (HS9.out.below hb)
      have HR10 := Aside0.mk (HR9.out.freeBelow hb)
      have BK10 := Aside0.mk (blk_below BK9.out hb)
      have HB10 := Aside0.mk (below_step HB9.out hb)
      clear hb HS9 HR9 BK9 HB9
      refine hK0.out _ _ (HSO.out _ BK10.out) (fun hHeld => ?_)
      clear hK0 K0
      refine norm_ (a' := ?_) ?_ ?_
      rotate_left
      · show Act.put _ (some 76) _ = _
        simp only [Act.put, List.setIfInBounds_toArray, List.set_cons_zero, List.set_cons_succ, i64_w, i32_w]
        rfl
      refine one_ (i := 30) (N := some 79) #[true, true, true, true, true, true, true, true, true, true, true, true, true, true, true, true, true, true, true, true, true, true, true, true, true, true, true, true, true, true, true, false, false] rfl rfl (by kernel_rfl) (by decide) (fun K0 hK0 => ?_)
      refine goes_ Try.func56 (by kernel_rfl) rfl #[.slice A2 x.f1.length c2] (by rfl) rfl rfl (by (try simp only [List.map_toArray, List.map_cons, List.map_nil]); first | done | rfl) ?_
      with_reducible refine (conductorref08_Check.calls kc2 A2 c2 x.f1 ce _ (HFX.out _ HB10.out) HL2.out HCK2.out).mono ?_
      rintro e w11 ⟨rfl, hb⟩
      refine ⟨_, rfl, ?_⟩
      have HS11 := Aside0.mk (HS10.out.below hb)
      have HR11 := Aside0.mk (HR10.out.freeBelow hb)
      have BK11 := Aside0.mk (blk_below BK10.out hb)
      have HB11 := Aside0.mk (below_step HB10.out hb)
      clear hb HS10 HR10 BK10 HB10
      refine hK0.out _ _ (HSO.out _ BK11.out) (fun hHeld => ?_)
      clear hK0 K0
      refine norm_ (a' := ?_) ?_ ?_
      rotate_left
      · show Act.put _ (some 79) _ = _
        simp only [Act.put, List.setIfInBounds_toArray, List.set_cons_zero, List.set_cons_succ, i64_w, i32_w]
        rfl
      refine pure_ (i := 31) (N := some 80) (v := ?_) (a' := ?_) #[true, true, true, true, true, true, true, true, true, true, true, true, true, true, true, true, true, true, true, true, true, true, true, true, true, true, true, true, true, true, true, true, false] rfl rfl (by kernel_rfl) (fun _ _ _ h => h) (Or.inl ⟨by rfl, ?_⟩) ?_ ?_
      rotate_left
      · intro w'
        go_simp
        with_reducible rfl
      rotate_left
      · simp only [Act.put, List.setIfInBounds_toArray, List.set_cons_zero, List.set_cons_succ, i64_w, i32_w]
        rfl
      refine pure_ (i := 32) (N := some 81) (v := ?_) (a' := ?_) #[true, true, true, true, true, true, true, true, true, true, true, true, true, true, true, true, true, true, true, true, true, true, true, true, true, true, true, true, true, true, true, true, true] rfl rfl (by kernel_rfl) (fun _ _ _ h => h) (Or.inl ⟨by rfl, ?_⟩) ?_ ?_
      rotate_left
      · intro w'
        go_simp
        with_reducible rfl
      rotate_left
      · simp only [Act.put, List.setIfInBounds_toArray, List.set_cons_zero, List.set_cons_succ, i64_w, i32_w]
        rfl
      refine done_ (by kernel_rfl) ?_
      go_wp2
      go_round
      case rel => exact ⟨i + 1, kv', n', D', A6, c6, by go_num, hlt, ⟨by have := HN5.out; have := HNr.out; omega⟩, ⟨by rw [HS2.out]; exact HS11.out⟩, ⟨by rw [HS2.out]; exact HR11.out⟩, HB11⟩
      case measure => simp [intOf]; omega
    · have hie : i = l0.length := by omega
      subst hie
      rw [List.take_length] at HS HR3
      have HLI := Aside0.mk (HN.out.run l0 F0.out.2)
      have HE := Aside0.mk (empty_run l0 HN.out.good HEM.out F0.out.2)
      obtain ⟨s, hs⟩ : ∃ s, runP sN l0 = s := ⟨_, rfl⟩
      rw [hs] at HS HR3 HLI HE
      have HG := Aside0.mk (show St.Good 40 s from HLI.out.good.mono (by have := F0.out.1; omega))
      have HKL := Aside0.mk (show s.keys.length ≤ 800 from HG.out.kn)
      have hk1 : s.keys.length ≤ 100000 := by have := HKL.out; omega
      have HK1 := Aside0.mk hk1
      obtain ⟨kw, hkw⟩ := words_refl s.keys (by omega)
      have HKW := Aside0.mk hkw
      clear hs hkw hk1 HN HEM HCF0
      go_wp2_with (first
        | (go_at_call 50; (with_reducible refine (store_Keys.calls HS ⟨by have := HKL.out; omega⟩).mono ?_); rintro e w8 ⟨v, rfl, ho, hb⟩; obtain ⟨A8, c8, ev⟩ := Kd.R_slice ho; subst ev; have HC8 := Aside0.mk (Kd.R_reads' ho).2.2; have HL8 := Aside0.mk (Kd.R_reads' ho).2.1; have HS8 := Aside0.mk (HS.out.below hb); have HR8 := Aside0.mk (HR3.out.freeBelow hb); have HB8 := Aside0.mk (below_step HB.out hb); clear ho hb)
        | (go_at_call 58; (with_reducible refine (refs_Keys HR10.out HK1.out).mono ?_); rintro e w11 ⟨⟨A11, c11, rfl, hl11, hC11⟩, hb⟩; have HC11 := Aside0.mk hC11; have HS11 := Aside0.mk (HS10.out.below hb); have HR11 := Aside0.mk (HR10.out.freeBelow hb); have HB11 := Aside0.mk (below_step HB10.out hb); clear hl11 hC11 hb)
        | (go_at_call 58; (with_reducible refine (refs_Keys HR8.out HK1.out).mono ?_); rintro e w9 ⟨⟨A9, c9, rfl, hl9, hC9⟩, hb⟩; have HC9 := Aside0.mk hC9; have HL9 := Aside0.mk hl9; have HC89 := Aside0.mk (Kd.C_below HC8.out hb); have HS9 := Aside0.mk (HS8.out.below hb); have HR9 := Aside0.mk (HR8.out.freeBelow hb); have HB9 := Aside0.mk (below_step HB8.out hb); clear hl9 hC9 hb)
        | (go_at_call 57; (with_reducible refine (conductorref02_Same.calls kw _ _ s.keys _ _ s.keys true _ HC89.out HL8.out HC9.out HL9.out HKW.out).mono ?_); rintro e w10 ⟨rfl, hb⟩; have HS10 := Aside0.mk (HS9.out.below hb.below); have HR10 := Aside0.mk (HR9.out.freeBelow hb.below); have HB10 := Aside0.mk (below_step HB9.out hb.below); clear hb))
      clear HS HR3 HB HS8 HR8 HB8 HS9 HR9 HB9 HS10 HR10 HB10 HC8 HC89 HC9
      go_loopw [92] (fun vi wr => ∃ i : Nat, vi = .int .i64 i ∧ i ≤ s.keys.length ∧ Aside0 (Below w11.heap.size w11 wr)) (fun vi _ => s.keys.length - (intOf vi).toNat)
      case atStart => exact ⟨0, rfl, Nat.zero_le _, ⟨Below.refl _ _⟩⟩
      case round =>
        obtain ⟨i, rfl, hi1, HB⟩ := hrel
        have HSr := Aside0.mk (HS11.out.below HB.out)
        have HRr := Aside0.mk (HR11.out.freeBelow HB.out)
        by_cases hlt : i < s.keys.length
        · have hi4 : i < 800 := by have := HKL.out; omega
          obtain ⟨ad, e_, hx⟩ := Kd.at_string (Kd.C_below HC11.out HB.out) (i : Int) (by omega) (by omega)
          subst e_
          obtain ⟨key, hkey⟩ : ∃ key, ks s.keys (i : Nat) = key := ⟨_, rfl⟩
          have hx2 : wr.cell? (ad.add i) = some (.string key) := by rw [← hkey]; exact hx
          have hmem : key ∈ s.keys := by rw [← hkey, ks_get _ _ hlt]; exact List.getElem_mem hlt
          have HKEY := Aside0.mk (size256 (HG.out.ks key hmem))
          obtain ⟨L, hL⟩ : ∃ L, s.ch key = L := ⟨_, rfl⟩
          have HL := Aside0.mk hL
          have HLL := Aside0.mk (show L.length ≤ 1000000 by have := HG.out.ln key; rw [hL] at this; omega)
          have HLD := Aside0.mk (show ∀ v ∈ L, v.f2.length ≤ 1000000 from fun v hv => by have := HG.out.dl key v (by rw [hL]; exact hv); omega)
          obtain ⟨kq, hkq⟩ := (rSame_refl L (by have := HLL.out; omega)).rounds
          have HKQ := Aside0.mk hkq
          clear hx hkey hmem hL hkq
          go_wp2_with (first
            | (go_at_call 51; (with_reducible refine (store_Chain.calls HSr key HKEY L HL HLL HLD).mono ?_); rintro e w12 ⟨⟨A12, c12, rfl, hl12, hC12⟩, hb⟩; have HC12 := Aside0.mk hC12; have HL12 := Aside0.mk hl12; have HR12 := Aside0.mk (HRr.out.freeBelow hb); have HB12 := Aside0.mk (below_step HB.out hb); clear hC12 hl12 hb)
            | (go_at_call 59; (with_reducible refine (refs_Chain HR12.out HG.out HK1.out key L HL.out).mono ?_); rintro e w13 ⟨⟨A13, c13, rfl, hl13, hC13⟩, hb⟩; have HC13 := Aside0.mk hC13; have HL13 := Aside0.mk hl13; have HC123 := Aside0.mk (Kd.C_below HC12.out hb); have HB13 := Aside0.mk (below_step HB12.out hb); clear hC13 hl13 hb)
            | (go_at_call 30; (with_reducible refine (conductorref07_Same.calls kq _ _ L _ _ L true _ HC123.out HL12.out HC13.out HL13.out HKQ.out).mono ?_); rintro e w14 ⟨rfl, hb⟩; have HB14 := Aside0.mk (below_step HB13.out hb); clear hb))
          go_round
          case rel => exact ⟨i + 1, by go_num, hlt, HB14⟩
          case measure => simp [intOf]; omega
        · have HKEY := Aside0.mk (show (⟨#[]⟩ : ByteArray).size ≤ maxLen by simp only [maxLen]; decide +kernel)
          have H0 : Aside0 (([] : List S28).length ≤ 1000000) := ⟨by simp⟩
          have H1 : Aside0 (∀ v ∈ ([] : List S28), v.f2.length ≤ 1000000) := ⟨fun v hv => by simp at hv⟩
          go_wp2_with (first
            | (go_at_call 51; (with_reducible refine (store_Chain.calls HSr ⟨#[]⟩ HKEY [] HE H0 H1).mono ?_); rintro e w15 ⟨⟨A15, c15, rfl, hl15, hC15⟩, hb⟩; have HB15 := Aside0.mk (below_step HB.out hb); clear hC15 hl15 hb))
          go_ret
          exact ⟨rfl, HBq.out.trans ((HB11.out.trans (HB15.out.mono HB11.out.size)).mono HBq.out.size)⟩
end Go.Proofs.Yteofdgonpbmdlaa.R
namespace Go.Proofs.Yteofdgonpbmdlaa.R
open Go.RowKit Go.Maps Go.Proofs.YteofdgonpbmdlaaW.PrintWords Go.Proofs.Yteofdgonpbmdlaa.C Go.Proofs.Yteofdgonpbmdlaa.St
theorem does_all (a : S51) (A0 : Option Addr) (c0 : Nat) (l0 : List S55) (w : World) (hC0 : Kd.C k55 w A0 l0.length l0) (hl0 : l0.length ≤ c0) (hq : 0 ≤ a.f6 ∧ a.f6 ≤ 18446744073709551615) (hm0 : ∀ o ∈ l0, o.f1.length ≤ 9223372036854775807) :
    Calls Try.prog 15 #[.agg #[.int .i64 a.f0, .int .i64 a.f1, .int .i64 a.f2, .int .i64 a.f3, .int .i64 a.f4, .int .i64 a.f5, .int .u64 a.f6], .slice A0 l0.length c0] w fun e w' => e = .returned (.bool true) ∧ Below w.heap.size w w' := by
  cases h : fewB l0 with
  | false => exact does_few a.f0 a.f1 a.f2 a.f3 a.f4 a.f5 a.f6 A0 c0 l0 w hC0 hl0 hm0 hq.1 hq.2 h
  | true =>
    by_cases hr : Room a.f0 ∧ Room a.f1 ∧ Room a.f2 ∧ a.f6 ≠ 0
    · exact does_main a.f0 a.f1 a.f2 a.f3 a.f4 a.f5 a.f6 A0 c0 l0 w hC0 hl0 hm0 hq.1 hq.2 h hr.1 hr.2.1 hr.2.2.1 hr.2.2.2
    · exact does_bad a.f0 a.f1 a.f2 a.f3 a.f4 a.f5 a.f6 A0 c0 l0 w hC0 hl0 hm0 hq.1 hq.2 h hr
end Go.Proofs.Yteofdgonpbmdlaa.R
