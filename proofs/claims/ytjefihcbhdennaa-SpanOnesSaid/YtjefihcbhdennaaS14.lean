/- Printed by a program of this session (pp.py) over the print of the kit: functions of the translation as plain functions, and the contracts of their calls. No condition. -/
import Derived.Test.YtjefihcbhdennaaS0
import Derived.Test.YtjefihcbhdennaaS13
import Derived.Test.YtjefihcbhdennaaS26
namespace Go.Proofs.Ytjefihcbhdennaa.S
open Go.RowKit Go.Proofs.YtjefihcbhdennaaW.PrintWords Go.Proofs.YtjefihcbhdennaaW.PrintLast Go.Proofs.YtjefihcbhdennaaW.PrintMore
attribute [local go_sem] max2_int min2_int max2_str min2_str str_leq str_gtr str_geq max_two min_two max_three min_three max_four min_four   -- for this text's walks alone
set_option linter.unusedVariables false
set_option linter.unusedSimpArgs false

/-! ### span_Join: function 27 -/
def rightB (x : S41) : Bool := (span_Right.f x.f0 x.f1).getD false
theorem rightB_eq (x : S41) : span_Right.f x.f0 x.f1 = some (rightB x) := by
  unfold rightB span_Right.f
  by_cases h : x.f1.toList = [] <;> simp only [h, if_true, if_false, Option.getD_some]
set_option maxHeartbeats 2000000 in
set_option maxRecDepth 100000 in
theorem keep60 (A : Option Addr) (c : Nat) (l : List S41) (q : Nat) (u0 : Value) (acc : List S41) (w0 w : World) (hr : Kd.C k41 w0 A l.length l) (hc : l.length ≤ c) (hB : Below w0.heap.size w0 w) (hq0 : w0.heap.size ≤ q) (hq : w.heap[q]? = some (.cells #[u0] 24 (0, 0))) (ho : Kd.R k41 41 w w0.heap.size (fun k_ => k_ ≠ q) u0 acc) (hl : acc.length + l.length < 4398046511104) :
    Calls Try.prog 60 #[.slice A l.length c, .pointer (some ⟨q, 0, none⟩)] w fun e w' => e = .returned (.tuple #[]) ∧ ∃ u' : Value, w'.heap[q]? = some (.cells #[u'] 24 (0, 0)) ∧ Kd.R k41 41 w' w0.heap.size (fun k_ => k_ ≠ q) u' (acc ++ l.filter rightB) ∧ Below w0.heap.size w0 w' := by
  have hu41 := Try.underlying41
  have hm : l.length ≤ 9223372036854775807 := hr.2.1
  have HR := Aside0.mk hr
  have HC := Aside0.mk hc
  have HL := Aside0.mk hl
  have HQ0 := Aside0.mk hq0
  have HB0 := Aside0.mk hB
  have HQ := Aside0.mk hq
  have HO := Aside0.mk ho
  clear hr hc hB hq0 hq ho hl
  go_enter Try.func60, Try.ntmps60
  go_wp2
  go_loopw [7] (fun i wr => ∃ (k : Nat) (u : Value), i = .int .i64 k ∧ k ≤ l.length ∧ Aside0 (wr.heap[q]? = some (.cells #[u] 24 (0, 0))) ∧ Aside0 (Kd.R k41 41 wr w0.heap.size (fun k_ => k_ ≠ q) u (acc ++ (l.take k).filter rightB)) ∧ Aside0 (Below w0.heap.size w0 wr)) (fun i _ => l.length - (intOf i).toNat)
  case atStart => exact ⟨0, u0, rfl, Nat.zero_le _, HQ, ⟨by simpa using HO.out⟩, HB0⟩
  case round =>
    clear HQ HO HB0
    obtain ⟨k, u, rfl, hk, HQ, HO, HB⟩ := hrel
    by_cases hlt : k < l.length
    · obtain ⟨ad, e, hx0, hx1⟩ := at_T41 (Kd.C_below HR.out HB.out) (k : Int) (by omega) (by omega)
      subst e
      simp only [Int.toNat_natCast] at hx0 hx1
      have HE := Aside0.mk (show acc ++ (l.take (k + 1)).filter rightB = (acc ++ (l.take k).filter rightB) ++ (if rightB (rd_T41 l (k : Int)) then [rd_T41 l (k : Int)] else []) by
        rw [List.take_succ_eq_append_getElem hlt, List.filter_append, List.append_assoc]
        simp [rd_T41, List.getD_eq_getElem?_getD, hlt, List.filter_cons])
      have HK := Aside0.mk (show (acc ++ (l.take k).filter rightB).length < 4398046511104 by
        have h1 := List.length_filter_le rightB (l.take k); have h2 := List.length_take_le k l; have := HL.out
        rw [List.length_append]; omega)
      cases hpx : rightB (rd_T41 l (k : Int)) with
      | true =>
        have HPX := Aside0.mk hpx
        clear hpx
        go_wp2_with (first | ((with_reducible refine gate_dst (N := 4) rfl ?_); refine box_event ?hg (N := 4) ?hd (cs := #[.string (⟨#[]⟩ : ByteArray), .string (⟨#[]⟩ : ByteArray)]) (t := 41) ?hr ?_; (case hd => rfl); (case hg => rfl); (case hr => first | (go_simp; done) | (go_simp; rfl)); intro gb hg w8 hbox hb; have n0_ := Aside0.mk (Kd.R_below (Kd.R_elderB HO.out gb (Nat.le_of_eq hg.symm)) hb); have n1_ := Aside0.mk (below_step HB.out hb); have n2_ := Aside0.mk (blk_below HQ.out hb); have n3_ := Aside0.mk (show q ≠ gb by have := blk_lt HQ.out; omega); have n4_ := Aside0.mk (show w0.heap.size ≤ gb by rw [hg]; exact below_size HB.out); clear HO HB HQ; have HO := n0_; have HB := n1_; have HQ := n2_; have HN := n3_; have GE := n4_; have BK := Aside0.mk hbox; clear n0_ n1_ n2_ n3_ n4_ hb hg hbox; have hcz0 := (blk_cell BK.out 0); have hcz1 := (blk_cell BK.out 1); have hfz0 := blk_frozen BK.out 0; have hfz1 := blk_frozen BK.out 1) | (go_at_call 30; (with_reducible refine (span_Right.calls _ _ true _ ?side).mono ?_); (case side => rw [rightB_eq, HPX.out]); rintro e w10 ⟨rfl, hb⟩; have n0_ := Aside0.mk (Kd.R_below (Kd.R_far (p := ⟨gb, 1, none⟩) (Kd.R_far (p := ⟨gb, 0, none⟩) HO.out (fun _ h_ => h_.2) (.string (rd_T41 l (k : Int)).f0)) (fun _ h_ => h_.2) (.string (rd_T41 l (k : Int)).f1)) hb); have n1_ := Aside0.mk (below_step (below_set (below_set HB.out GE.out) GE.out) hb); have n2_ := Aside0.mk (blk_below ((Below.heap_setCell _ _ _ _ HN.out).trans ((Below.heap_setCell _ _ _ _ HN.out).trans HQ.out)) hb); have n3_ := Aside0.mk (blk_below (blk_put (cs := #[.string ((rd_T41 l (k : Int)).f0), .string (⟨#[]⟩ : ByteArray)]) (cs' := #[.string ((rd_T41 l (k : Int)).f0), .string ((rd_T41 l (k : Int)).f1)]) (blk_put (cs := #[.string (⟨#[]⟩ : ByteArray), .string (⟨#[]⟩ : ByteArray)]) BK.out 0 _ rfl) 1 _ rfl) hb); clear HO HB HQ BK; have HO := n0_; have HB := n1_; have HQ := n2_; have BK := n3_; clear n0_ n1_ n2_ n3_ hb; have hcy0 := (blk_cell BK.out 0); have hcy1 := (blk_cell BK.out 1); have hfy0 := blk_frozen BK.out 0; have hfy1 := blk_frozen BK.out 1; have hcq := blk_cell HQ.out 0; have hfq := blk_frozen HQ.out 0) | ((with_reducible refine gate_builtin (b := .append) (xs := #[.tmp 13, .tmp 15]) rfl ?_); at_builtin; refine Kd.R_append k41 (w0 := w0) w0.heap.size rfl (.tmp 13) (.tmp 15) 24 41 (.agg #[(.string ⟨#[]⟩), (.string ⟨#[]⟩)]) 32 rfl Try.underlying24 info41 rfl (by decide) (by omega) u (acc ++ (l.take k).filter rightB) (⟨(rd_T41 l (k : Int)).f0, (rd_T41 l (k : Int)).f1⟩ : S41) [.string ((rd_T41 l (k : Int)).f0), .string ((rd_T41 l (k : Int)).f1)] (fun k_ => k_ ≠ q ∧ k_ ≠ gb) (fun _ => False) rfl rfl ?aP (fun _ hk => hk.elim) ?aF HO.out HB.out ?aS ?aL ?_; (case aP => exact k41_mkM _ _ _ (⟨(rd_T41 l (k : Int)).f0, (rd_T41 l (k : Int)).f1⟩ : S41)); (case aF => exact (fun k_ hk => ⟨Kd.freshB HQ.out k_ hk, Kd.freshB BK.out k_ hk⟩)); (case aS => exact HB.out.size); (case aL => have := HK.out; omega); intro v1 w12 ho hb hg hat; obtain ⟨A1_, c1_, ev_⟩ := Kd.R_slice ho; subst ev_; have n0_ := Aside0.mk (Kd.R_drop ho); have n2_ := Aside0.mk (blk_grown HQ.out hg (Kd.R_away HO.out (fun _ hk => hk.1))); clear HO HB HQ BK; have HO := n0_; have HB := Aside0.mk hb; have HQ := n2_; clear n0_ n2_ ho hb hg hat; have hcq := blk_cell HQ.out 0; have hfq := blk_frozen HQ.out 0))
        go_roundw
        case measure => simp [intOf]; omega
        case rel => exact ⟨k + 1, _, by go_num, by omega, ⟨blk_put HQ.out 0 _ rfl⟩, ⟨by rw [HE.out, HPX.out]; have h_ := Kd.R_far (p := ⟨q, 0, none⟩) HO.out (fun _ h_ => h_) (Value.slice A1_ (acc.length + ((List.filter rightB (List.take k l)).length + 1)) c1_); simpa [Nat.add_assoc] using h_⟩, ⟨HB.out.setCell HQ0.out _⟩⟩
      | false =>
        have HPX := Aside0.mk hpx
        clear hpx
        go_wp2_with (first | ((with_reducible refine gate_dst (N := 4) rfl ?_); refine box_event ?hg (N := 4) ?hd (cs := #[.string (⟨#[]⟩ : ByteArray), .string (⟨#[]⟩ : ByteArray)]) (t := 41) ?hr ?_; (case hd => rfl); (case hg => rfl); (case hr => first | (go_simp; done) | (go_simp; rfl)); intro gb hg w8 hbox hb; have n0_ := Aside0.mk (Kd.R_below (Kd.R_elderB HO.out gb (Nat.le_of_eq hg.symm)) hb); have n1_ := Aside0.mk (below_step HB.out hb); have n2_ := Aside0.mk (blk_below HQ.out hb); have n3_ := Aside0.mk (show q ≠ gb by have := blk_lt HQ.out; omega); have n4_ := Aside0.mk (show w0.heap.size ≤ gb by rw [hg]; exact below_size HB.out); clear HO HB HQ; have HO := n0_; have HB := n1_; have HQ := n2_; have HN := n3_; have GE := n4_; have BK := Aside0.mk hbox; clear n0_ n1_ n2_ n3_ n4_ hb hg hbox; have hcz0 := (blk_cell BK.out 0); have hcz1 := (blk_cell BK.out 1); have hfz0 := blk_frozen BK.out 0; have hfz1 := blk_frozen BK.out 1) | (go_at_call 30; (with_reducible refine (span_Right.calls _ _ false _ ?side).mono ?_); (case side => rw [rightB_eq, HPX.out]); rintro e w10 ⟨rfl, hb⟩; have n0_ := Aside0.mk (Kd.R_below (Kd.R_far (p := ⟨gb, 1, none⟩) (Kd.R_far (p := ⟨gb, 0, none⟩) HO.out (fun _ h_ => h_.2) (.string (rd_T41 l (k : Int)).f0)) (fun _ h_ => h_.2) (.string (rd_T41 l (k : Int)).f1)) hb); have n1_ := Aside0.mk (below_step (below_set (below_set HB.out GE.out) GE.out) hb); have n2_ := Aside0.mk (blk_below ((Below.heap_setCell _ _ _ _ HN.out).trans ((Below.heap_setCell _ _ _ _ HN.out).trans HQ.out)) hb); clear HO HB HQ BK; have HO := n0_; have HB := n1_; have HQ := n2_; clear n0_ n1_ n2_ hb))
        go_roundw
        case measure => simp [intOf]; omega
        case rel => exact ⟨k + 1, u, by go_num, by omega, HQ, ⟨by rw [HE.out, HPX.out]; simpa using Kd.R_drop HO.out⟩, HB⟩
    · have hkl : k = l.length := by omega
      have HO2 := Aside0.mk (show Kd.R k41 41 wr w0.heap.size (fun k_ => k_ ≠ q) u (acc ++ l.filter rightB) by have := HO.out; rwa [hkl, List.take_length] at this)
      clear hkl HO
      go_wp2
      first | go_end0 | ((try simp only [Exit.inBlock, Exit.then]); refine bodyPost_ret (results_none rfl _ _ _) rfl ?_)
      exact ⟨rfl, u, HQ.out, HO2.out, HB.out⟩
theorem store_hi {W : World} {base n c : Nat} {ok : Nat → Prop} {ad : Addr} {out : List S41} (h : Kd.R k41 41 W base ok (.slice (some ad) n c) out) (j : Int) (h0 : 0 ≤ j) (h1 : j < out.length) (b : ByteArray) :
    W.frozen? ⟨(ad.add (j.toNat * 2)).block, (ad.add (j.toNat * 2)).off + 1, none⟩ = false ∧
    Kd.R k41 41 (W.setCell ⟨(ad.add (j.toNat * 2)).block, (ad.add (j.toNat * 2)).off + 1, none⟩ (.string b)) base ok (.slice (some ad) n c) (out.set j.toNat ⟨(rd_T41 out j).f0, b⟩) ∧
    W.grownBy (W.setCell ⟨(ad.add (j.toNat * 2)).block, (ad.add (j.toNat * 2)).off + 1, none⟩ (.string b)) (Value.slice (some ad) n c).ownBlock ∧ base ≤ (ad.add (j.toNat * 2)).block := by
  obtain ⟨g, cap, e, hb, _⟩ := Kd.R_form h (by omega)
  injection e with e1 e2 e3
  injection e1 with e1
  subst e1; subst e2; subst e3
  obtain ⟨cl, hcl, hM, hcc, hfz⟩ := Kd.R_elem h z41 j h0 h1
  have hc := k41_openM hM
  obtain ⟨hR, hg⟩ := Kd.R_seg (x' := (⟨(rd_T41 out j).f0, b⟩ : S41)) (okp := fun k_ => ok k_ ∧ k_ ≠ g) (seg := [.string b]) (j := 1) h j h0 h1 hcl hcc (Nat.le_refl 2) (by rw [hc]; exact k41_mkM _ _ _ (⟨(rd_T41 out j).f0, b⟩ : S41)) (fun _ hk => hk)
  have e4 : (Addr.mk g 0 none).add (j.toNat * 2) = ⟨g, j.toNat * 2, none⟩ := by unfold Addr.add; split <;> simp_all
  rw [e4]
  exact ⟨hfz 1, hR, hg, hb⟩
def mstep (out : List S41) (s : S41) : List S41 :=
  if out = [] then [s]
  else if (rd_T41 out ((out.length : Int) - 1)).f1.toList ≠ [] ∧ Op.bytesLess (rd_T41 out ((out.length : Int) - 1)).f1.toList s.f0.toList = true then out ++ [s]
  else if (rd_T41 out ((out.length : Int) - 1)).f1.toList ≠ [] ∧ (s.f1.toList = [] ∨ Op.bytesLess (rd_T41 out ((out.length : Int) - 1)).f1.toList s.f1.toList = true) then out.set ((out.length : Int) - 1).toNat ⟨(rd_T41 out ((out.length : Int) - 1)).f0, s.f1⟩
  else out
theorem mstep_len (out : List S41) (s : S41) : (mstep out s).length ≤ out.length + 1 := by
  unfold mstep
  split
  · simp
  · split
    · simp
    · split
      · simp
      · omega
theorem mfold_len (s : List S41) : ∀ out : List S41, (s.foldl mstep out).length ≤ out.length + s.length := by
  induction s with
  | nil => intro out; simp
  | cons x t ih => intro out; have h1 := ih (mstep out x); have h2 := mstep_len out x; rw [List.foldl_cons, List.length_cons]; omega
def span_Join.f (k : Nat) (l0 l1 : List S41) : Option (List S41) :=
  if l0.length + l1.length < 4398046511104 then (api_Span_61.f k ((l0 ++ l1).filter rightB)).bind fun s => if s.length < 4398046511104 then some (s.foldl mstep []) else none
  else none
theorem span_Join.mono : ∀ a0 a1 k, LeO (span_Join.f k a0 a1) (span_Join.f (k + 1) a0 a1) := fun a0 a1 k => by
  unfold span_Join.f
  exact LeO.ite (LeO.bind (api_Span_61.mono _ _) (fun _ => LeO.refl _)) (LeO.refl _)
set_option maxHeartbeats 4000000 in
set_option maxRecDepth 100000 in
theorem span_Join.calls (k : Nat) (A0 : Option Addr) (c0 : Nat) (l0 : List S41) (A1 : Option Addr) (c1 : Nat) (l1 : List S41) (r : List S41) (w : World) (hr0 : Kd.C k41 w A0 l0.length l0) (hc0 : l0.length ≤ c0) (hr1 : Kd.C k41 w A1 l1.length l1) (hc1 : l1.length ≤ c1) (h : span_Join.f k l0 l1 = some r) :
    Calls Try.prog 27 #[.slice A0 l0.length c0, .slice A1 l1.length c1] w fun e w' => ∃ v0_ : Value, e = .returned (v0_) ∧ Kd.R k41 41 w' w.heap.size (fun _ => True) v0_ r ∧ Below w.heap.size w w' := by
  have hu41 := Try.underlying41
  unfold span_Join.f at h
  by_cases hl : l0.length + l1.length < 4398046511104
  · rw [if_pos hl] at h
    obtain ⟨s, hs, h⟩ := Option.bind_eq_some_iff.1 h
    by_cases hsl : s.length < 4398046511104
    · rw [if_pos hsl] at h
      obtain rfl := Option.some.inj h
      have HSL := Aside0.mk hsl
      have HL := Aside0.mk hl
      have HR0 := Aside0.mk hr0
      have HC0 := Aside0.mk hc0
      have HR1 := Aside0.mk hr1
      have HC1 := Aside0.mk hc1
      have HB := Aside0.mk (Below.refl w.heap.size w)
      rw [List.filter_append] at hs
      have HS := Aside0.mk hs
      clear hr0 hc0 hr1 hc1 h hs
      go_enter Try.func27, Try.ntmps27
      go_wp2_with (first | ((with_reducible refine gate_dst (N := 17) rfl ?_); refine Kd.R_makec k41 (w0 := w) w.heap.size 41 rfl rfl 24 _ _ rfl ((l0.length : Int) + (l1.length : Int)) ?mx ?my Try.underlying24 (.agg #[(.string ⟨#[]⟩), (.string ⟨#[]⟩)]) 32 info41 rfl (by decide) (by omega) z41 (ok := fun _ => True) (okp := fun _ => False) ?mz (fun _ hk => hk.elim) trivial ?m0 ?ml HB.out (Nat.le_refl _) ?_; (case mx => first | rfl | (go_simp; done) | (go_simp; rfl)); (case my => first | rfl | (go_simp; done) | (go_simp; rfl)); (case mz => exact k41_mkM _ _ _ z41); (case m0 => omega); (case ml => omega); intro v1 w1 ho hb hg hat; obtain ⟨Am_, cm_, em_⟩ := Kd.R_slice ho; subst em_; clear HB; have HB := Aside0.mk hb; have HO := Aside0.mk ho; clear ho hb hg hat) | ((with_reducible refine gate_dst (N := 5) rfl ?_); refine box_event ?hg (N := 5) ?hd (cs := #[.slice none 0 0]) (t := 24) ?hr ?_; (case hd => rfl); (case hg => rfl); (case hr => first | (go_simp; done) | (go_simp; rfl)); intro gb hg w2 hbox hb; have n0_ := Aside0.mk (Kd.R_below (Kd.R_elderB HO.out gb (Nat.le_of_eq hg.symm)) hb); have n1_ := Aside0.mk (below_step HB.out hb); have n4_ := Aside0.mk (show w.heap.size ≤ gb by rw [hg]; exact below_size HB.out); clear HO HB; have HO := n0_; have HB := n1_; have GE := n4_; have BK := Aside0.mk hbox; clear n0_ n1_ n4_ hb hg hbox; have hcz0 := (blk_cell BK.out 0); have hfz0 := blk_frozen BK.out 0) | (go_at_call 60; (refine (keep60 A0 c0 l0 gb _ [] w _ HR0.out HC0.out (HB.out.setCell GE.out _) GE.out (blk_put BK.out 0 _ rfl) (Kd.R_mono (Kd.R_far (p := ⟨gb, 0, none⟩) HO.out (fun _ h_ => h_.2) _) (fun _ h_ => h_.2)) ?l1).mono ?_); (case l1 => have := HL.out; rw [List.length_nil]; omega); rintro e w3 ⟨rfl, u3, hq3, ho3, hb3⟩; rw [List.nil_append] at ho3; obtain ⟨A3_, c3_, e3_⟩ := Kd.R_slice ho3; subst e3_; clear HO HB BK; have HO := Aside0.mk ho3; have HB := Aside0.mk hb3; have BK := Aside0.mk hq3; clear ho3 hb3 hq3) | (go_at_call 60; (refine (keep60 A1 c1 l1 gb _ (l0.filter rightB) w _ HR1.out HC1.out HB.out GE.out BK.out HO.out ?l1).mono ?_); (case l1 => have := HL.out; have := List.length_filter_le rightB l0; omega); rintro e w4 ⟨rfl, u4, hq4, ho4, hb4⟩; obtain ⟨L_, hL_⟩ : ∃ L, List.filter rightB l0 ++ List.filter rightB l1 = L := ⟨_, rfl⟩; rw [hL_] at ho4; have HS1 := Aside0.mk (show api_Span_61.f k L_ = some s by rw [← hL_]; exact HS.out); clear hL_; obtain ⟨A4_, c4_, e4_⟩ := Kd.R_slice ho4; subst e4_; clear HO HB BK; have HO := Aside0.mk ho4; have HB := Aside0.mk hb4; have BK := Aside0.mk hq4; clear ho4 hb4 hq4; have hcy0 := (blk_cell BK.out 0)) | (go_at_call 61; (refine (api_Span_61.calls k (fun k_ => k_ ≠ gb) _ _ s w _ HB.out HO.out HS1.out).mono ?_); rintro e w5 ⟨rfl, ho5, hb5, hk5⟩; have n1_ := Aside0.mk (blk_kept BK.out hk5 (fun h_ => h_ rfl)); clear HO HB BK; have HO := Aside0.mk (Kd.R_mono (ok' := fun _ => True) ho5 (fun _ _ => trivial)); have HB := Aside0.mk hb5; have BK := n1_; clear n1_ ho5 hb5 hk5; have hcx0 := (blk_cell BK.out 0)))
      have eL : L_.length = s.length := (Kd.R_reads' HO.out).1
      have HOA0 := Aside0.mk (Kd.R_mono (ok' := fun k_ => True ∧ some k_ ≠ (Value.slice none 0 0).ownBlock) (show Kd.R k41 41 w5 w.heap.size (fun _ => True) (.slice A4_ s.length c4_) s by rw [← eL]; exact HO.out) (fun k_ _ => ⟨trivial, by simp [Value.ownBlock]⟩))
      rw [eL]
      have hsm : s.length ≤ 9223372036854775807 := by have := HSL.out; omega
      clear HO BK HS HS1 eL hcx0 hcy0
      try clear hcz0 hfz0
      go_loopw [7, 29] (fun v7 v29 wr => ∃ (k1 : Nat) (v : Value), v7 = v ∧ v29 = .int .i64 k1 ∧ k1 ≤ s.length ∧ Aside0 (Kd.R k41 41 wr w.heap.size (fun _ => True) v ((s.take k1).foldl mstep [])) ∧ Aside0 (Kd.R k41 41 wr w.heap.size (fun k_ => True ∧ some k_ ≠ v.ownBlock) (.slice A4_ s.length c4_) s) ∧ Aside0 (Below w.heap.size w wr)) (fun _ v29 _ => s.length - (intOf v29).toNat)
      case atStart => exact ⟨0, _, rfl, rfl, Nat.zero_le _, ⟨Kd.R_nil _ _ _ _ _⟩, HOA0, HB⟩
      case round =>
        clear HOA0 HB
        obtain ⟨k1, v, rfl, rfl, hk, HO0, HOA, HB⟩ := hrel
        by_cases hlt : k1 < s.length
        · obtain ⟨out, hout⟩ : ∃ o, (s.take k1).foldl mstep [] = o := ⟨_, rfl⟩
          have hol : out.length ≤ k1 := by rw [← hout]; have h1 := mfold_len (s.take k1) []; have h2 := List.length_take_le k1 s; simp only [List.length_nil] at h1; omega
          have ho_ := HO0.out
          rw [hout] at ho_
          obtain ⟨A2_, c2_, ev_⟩ := Kd.R_slice ho_
          subst ev_
          have HO := Aside0.mk ho_
          clear HO0 ho_
          obtain ⟨ad, e, hx0, hx1⟩ := at_T41 (Kd.R_reads' HOA.out).2.2 (k1 : Int) (by omega) (by omega)
          subst e
          simp only [Int.toNat_natCast] at hx0 hx1
          have HE := Aside0.mk (show (s.take (k1 + 1)).foldl mstep [] = mstep out (rd_T41 s (k1 : Int)) by rw [List.take_succ_eq_append_getElem hlt, List.foldl_append, hout]; simp [rd_T41, List.getD_eq_getElem?_getD, hlt])
          obtain ⟨x, hx⟩ : ∃ x, rd_T41 s (k1 : Int) = x := ⟨_, rfl⟩
          have HE2 := Aside0.mk (show (s.take (k1 + 1)).foldl mstep [] = mstep out x by rw [← hx]; exact HE.out)
          rw [hx] at hx0 hx1
          clear HE hx hout
          go_wp2_with (first | ((with_reducible refine gate_dst (N := 9) rfl ?_); refine box_event ?hg (N := 9) ?hd (cs := #[.string (⟨#[]⟩ : ByteArray), .string (⟨#[]⟩ : ByteArray)]) (t := 41) ?hr ?_; (case hd => rfl); (case hg => rfl); (case hr => first | (go_simp; done) | (go_simp; rfl)); intro gc hg w8 hbox hb; have n0_ := Aside0.mk (Kd.R_below (Kd.R_elderB HO.out gc (Nat.le_of_eq hg.symm)) hb); have n1_ := Aside0.mk (Kd.R_below (Kd.R_elderB HOA.out gc (Nat.le_of_eq hg.symm)) hb); have n2_ := Aside0.mk (below_step HB.out hb); have n4_ := Aside0.mk (show w.heap.size ≤ gc by rw [hg]; exact below_size HB.out); clear HO HOA HB; have HO := n0_; have HOA := n1_; have HB := n2_; have GC := n4_; have BC := Aside0.mk hbox; clear n0_ n1_ n2_ n4_ hb hg hbox; have hcv0 := (blk_cell BC.out 0); have hcv1 := (blk_cell BC.out 1); have hfv0 := blk_frozen BC.out 0; have hfv1 := blk_frozen BC.out 1))
          have h3 := Kd.R_mono (ok' := fun _ => True) (Kd.R_far (p := ⟨gc, 1, none⟩) (Kd.R_far (p := ⟨gc, 0, none⟩) HO.out (fun _ h_ => h_.2) (.string x.f0)) (fun _ h_ => h_.2) (.string x.f1)) (fun _ _ => trivial)
          have h4 := Kd.R_mono (ok' := fun k_ => True ∧ some k_ ≠ (Value.slice A2_ out.length c2_).ownBlock) (Kd.R_far (p := ⟨gc, 1, none⟩) (Kd.R_far (p := ⟨gc, 0, none⟩) HOA.out (fun _ h_ => h_.2) (.string x.f0)) (fun _ h_ => h_.2) (.string x.f1)) (fun _ h_ => h_.1)
          have h5 := below_set (v := .string x.f1) (j := 1) (below_set (v := .string x.f0) (j := 0) HB.out GC.out) GC.out
          have h6 := blk_put (cs := #[.string x.f0, .string (⟨#[]⟩ : ByteArray)]) (cs' := #[.string x.f0, .string x.f1]) (blk_put (cs := #[.string (⟨#[]⟩ : ByteArray), .string (⟨#[]⟩ : ByteArray)]) BC.out 0 (.string x.f0) rfl) 1 (.string x.f1) rfl
          obtain ⟨W, hW⟩ : ∃ W, (w8.setCell ⟨gc, 0, none⟩ (.string x.f0)).setCell ⟨gc, 1, none⟩ (.string x.f1) = W := ⟨_, rfl⟩
          rw [hW] at h3 h4 h5 h6
          rw [hW]
          clear hW HO HOA HB BC hcv0 hcv1 hfv0 hfv1 hx0 hx1
          have HO := Aside0.mk h3
          have HOA := Aside0.mk h4
          have HB := Aside0.mk h5
          have hcs0 : W.cell? ⟨gc, 0, none⟩ = some (.string x.f0) := (blk_cell h6 0).trans rfl
          have hcs1 : W.cell? ⟨gc, 1, none⟩ = some (.string x.f1) := (blk_cell h6 1).trans rfl
          clear h3 h4 h5 h6
          by_cases hn : out = []
          · subst hn
            go_quiet (fail)
            go_wp2_with (first | ((with_reducible refine gate_builtin (b := .append) (xs := #[.tmp 57, .tmp 59]) rfl ?_); at_builtin; refine Kd.R_append k41 (w0 := w) w.heap.size rfl (.tmp 57) (.tmp 59) 24 41 (.agg #[(.string ⟨#[]⟩), (.string ⟨#[]⟩)]) 32 rfl Try.underlying24 info41 rfl (by decide) (by omega) _ ([] : List S41) (⟨x.f0, x.f1⟩ : S41) [.string x.f0, .string x.f1] (fun _ => True) (fun _ => False) rfl rfl ?aP (fun _ hk => hk.elim) (fun _ _ => trivial) (Kd.R_drewN HO.out _) (pw_below_drewN HB.out _) (pw_below_drewN HB.out _).size ?aL ?_; (case aP => exact k41_mkM _ _ _ (⟨x.f0, x.f1⟩ : S41)); (case aL => have := HSL.out; first | omega | (rw [List.length_nil]; omega)); intro v1 w12 ho hb hg hat; have n1_ := Aside0.mk (Kd.R_after (Kd.R_drewN HOA.out _) hg hat); clear HO HOA HB; have HO := Aside0.mk ho; have HOA := n1_; have HB := Aside0.mk hb; clear ho hb hg hat))
            go_roundw
            case measure => simp [intOf]; omega
            case rel => exact ⟨k1 + 1, _, rfl, by go_num, by omega, ⟨by rw [HE2.out, show mstep [] x = [] ++ [(⟨x.f0, x.f1⟩ : S41)] by unfold mstep; rw [if_pos rfl]; rfl]; exact HO.out⟩, HOA, HB⟩
          · have hpos : 0 < out.length := List.length_pos_iff.2 hn
            obtain ⟨j, hj⟩ : ∃ j : Int, (out.length : Int) - 1 = j := ⟨_, rfl⟩
            have hjw : IntKind.i64.wrap ((out.length : Int) - 1) = j := by rw [i64_w, ← hj]; unfold wrap64; omega
            have hj0 : 0 ≤ j := by omega
            have hj1 : j < (out.length : Int) := by omega
            have hn0 : ((out.length : Int) == 0) = false := by simp; omega
            obtain ⟨ad2, e2, hy0, hy1⟩ := at_T41 (Kd.R_reads' HO.out).2.2 j hj0 hj1
            subst e2
            obtain ⟨hfz, hSt, hGr, hBb⟩ := store_hi HO.out j hj0 hj1 x.f1
            obtain ⟨t, ht⟩ : ∃ t, rd_T41 out j = t := ⟨_, rfl⟩
            have HMS := Aside0.mk (show mstep out x = if t.f1.toList ≠ [] ∧ Op.bytesLess t.f1.toList x.f0.toList = true then out ++ [x] else if t.f1.toList ≠ [] ∧ (x.f1.toList = [] ∨ Op.bytesLess t.f1.toList x.f1.toList = true) then out.set j.toNat ⟨t.f0, x.f1⟩ else out by unfold mstep; rw [if_neg hn, hj, ht])
            have HT := Aside0.mk ht
            rw [ht] at hy0 hy1
            have HBb := Aside0.mk hBb
            clear hSt hGr hBb ht hj hn
            have hj0' := eq_true hj0
            have hj1' := eq_true hj1
            by_cases c1 : t.f1.toList = ([] : List UInt8)
            · have c1b0 : (t.f1.toList == ([] : List UInt8)) = true := beq_iff_eq.mpr c1
              have c1b1 : (t.f1.toList != ([] : List UInt8)) = false := bne_eq_false_iff_eq.mpr c1
              have HC1 := Aside0.mk c1
              clear c1
              go_quiet (fail)
              go_wp2
              go_quiet (fail)
              try go_wp2
              go_roundw
              case measure => simp [intOf]; omega
              case rel => exact ⟨k1 + 1, _, rfl, by go_num, by omega, ⟨by rw [HE2.out, HMS.out, if_neg (fun h => h.1 HC1.out), if_neg (fun h => h.1 HC1.out)]; exact (by (with_reducible repeat (first | apply Kd.R_alloc | apply Kd.R_drewN | apply Kd.R_drew)); exact HO.out)⟩, ⟨(by (with_reducible repeat (first | apply Kd.R_alloc | apply Kd.R_drewN | apply Kd.R_drew)); exact HOA.out)⟩, ⟨(by repeat (first | exact HB.out | apply pw_below_drewN | apply below_drew1))⟩⟩
            · have c1b0 : (t.f1.toList == ([] : List UInt8)) = false := beq_eq_false_iff_ne.mpr c1
              have c1b1 : (t.f1.toList != ([] : List UInt8)) = true := bne_iff_ne.mpr c1
              have HC1 := Aside0.mk c1
              clear c1
              cases c2 : Op.bytesLess t.f1.toList x.f0.toList with
              | true =>
                go_quiet (fail)
                go_wp2_with (first | ((with_reducible refine gate_builtin (b := .append) (xs := #[.tmp 57, .tmp 59]) rfl ?_); at_builtin; refine Kd.R_append k41 (w0 := w) w.heap.size rfl (.tmp 57) (.tmp 59) 24 41 (.agg #[(.string ⟨#[]⟩), (.string ⟨#[]⟩)]) 32 rfl Try.underlying24 info41 rfl (by decide) (by omega) _ out (⟨x.f0, x.f1⟩ : S41) [.string x.f0, .string x.f1] (fun _ => True) (fun _ => False) rfl rfl ?aP (fun _ hk => hk.elim) (fun _ _ => trivial) (Kd.R_drewN HO.out _) (pw_below_drewN HB.out _) (pw_below_drewN HB.out _).size ?aL ?_; (case aP => exact k41_mkM _ _ _ (⟨x.f0, x.f1⟩ : S41)); (case aL => have := HSL.out; first | omega | (rw [List.length_nil]; omega)); intro v1 w12 ho hb hg hat; have n1_ := Aside0.mk (Kd.R_after (Kd.R_drewN HOA.out _) hg hat); clear HO HOA HB; have HO := Aside0.mk ho; have HOA := n1_; have HB := Aside0.mk hb; clear ho hb hg hat))
                go_roundw
                case measure => simp [intOf]; omega
                case rel => exact ⟨k1 + 1, _, rfl, by go_num, by omega, ⟨by rw [HE2.out, HMS.out, if_pos ⟨HC1.out, c2⟩]; exact HO.out⟩, HOA, HB⟩
              | false =>
                by_cases c3 : x.f1.toList = ([] : List UInt8)
                · have c3b0 : (x.f1.toList == ([] : List UInt8)) = true := beq_iff_eq.mpr c3
                  have c3b1 : (x.f1.toList != ([] : List UInt8)) = false := bne_eq_false_iff_eq.mpr c3
                  have HC3 := Aside0.mk c3
                  have HC2 := Aside0.mk c2
                  clear c3
                  go_quiet (fail)
                  go_wp2
                  go_quiet (fail)
                  try go_wp2
                  go_roundw
                  case measure => simp [intOf]; omega
                  case rel => exact ⟨k1 + 1, _, rfl, by go_num, by omega, ⟨by rw [HE2.out, HMS.out, if_neg (fun h => by rw [HC2.out] at h; exact absurd h.2 (by decide)), if_pos ⟨HC1.out, .inl HC3.out⟩]; have h_ := fun W_ hW_ => (store_hi (W := W_) (ok := fun _ => True) (base := w.heap.size) (n := out.length) (c := c2_) (ad := ad2) (out := out) hW_ j hj0 hj1 x.f1).2.1; rw [HT.out] at h_; exact h_ _ (by (with_reducible repeat (first | apply Kd.R_alloc | apply Kd.R_drewN | apply Kd.R_drew)); exact HO.out)⟩, ⟨Kd.R_grown (by (with_reducible repeat (first | apply Kd.R_alloc | apply Kd.R_drewN | apply Kd.R_drew)); exact HOA.out) (store_hi (by (with_reducible repeat (first | apply Kd.R_alloc | apply Kd.R_drewN | apply Kd.R_drew)); exact HO.out) j hj0 hj1 x.f1).2.2.1 (fun _ h_ => h_.2)⟩, ⟨below_set (by repeat (first | exact HB.out | apply pw_below_drewN | apply below_drew1)) HBb.out⟩⟩
                · have c3b0 : (x.f1.toList == ([] : List UInt8)) = false := beq_eq_false_iff_ne.mpr c3
                  have c3b1 : (x.f1.toList != ([] : List UInt8)) = true := bne_iff_ne.mpr c3
                  have HC3 := Aside0.mk c3
                  have HC2 := Aside0.mk c2
                  clear c3
                  cases c4 : Op.bytesLess t.f1.toList x.f1.toList with
                  | true =>
                    have HC4 := Aside0.mk c4
                    go_quiet (fail)
                    go_wp2
                    go_quiet (fail)
                    try go_wp2
                    go_roundw
                    case measure => simp [intOf]; omega
                    case rel => exact ⟨k1 + 1, _, rfl, by go_num, by omega, ⟨by rw [HE2.out, HMS.out, if_neg (fun h => by rw [HC2.out] at h; exact absurd h.2 (by decide)), if_pos ⟨HC1.out, .inr HC4.out⟩]; have h_ := fun W_ hW_ => (store_hi (W := W_) (ok := fun _ => True) (base := w.heap.size) (n := out.length) (c := c2_) (ad := ad2) (out := out) hW_ j hj0 hj1 x.f1).2.1; rw [HT.out] at h_; exact h_ _ (by (with_reducible repeat (first | apply Kd.R_alloc | apply Kd.R_drewN | apply Kd.R_drew)); exact HO.out)⟩, ⟨Kd.R_grown (by (with_reducible repeat (first | apply Kd.R_alloc | apply Kd.R_drewN | apply Kd.R_drew)); exact HOA.out) (store_hi (by (with_reducible repeat (first | apply Kd.R_alloc | apply Kd.R_drewN | apply Kd.R_drew)); exact HO.out) j hj0 hj1 x.f1).2.2.1 (fun _ h_ => h_.2)⟩, ⟨below_set (by repeat (first | exact HB.out | apply pw_below_drewN | apply below_drew1)) HBb.out⟩⟩
                  | false =>
                    have HC4 := Aside0.mk c4
                    go_quiet (fail)
                    go_wp2
                    go_quiet (fail)
                    try go_wp2
                    go_roundw
                    case measure => simp [intOf]; omega
                    case rel => exact ⟨k1 + 1, _, rfl, by go_num, by omega, ⟨by rw [HE2.out, HMS.out, if_neg (fun h => by rw [HC2.out] at h; exact absurd h.2 (by decide)), if_neg (fun h => h.2.elim HC3.out (fun h4 => by rw [HC4.out] at h4; cases h4))]; exact (by (with_reducible repeat (first | apply Kd.R_alloc | apply Kd.R_drewN | apply Kd.R_drew)); exact HO.out)⟩, ⟨(by (with_reducible repeat (first | apply Kd.R_alloc | apply Kd.R_drewN | apply Kd.R_drew)); exact HOA.out)⟩, ⟨(by repeat (first | exact HB.out | apply pw_below_drewN | apply below_drew1))⟩⟩
        · have hkl : k1 = s.length := by omega
          have h_ := HO0.out
          rw [hkl, List.take_length] at h_
          have HO2 := Aside0.mk h_
          clear hkl HO0 h_
          go_wp2
          go_ret
          exact ⟨_, rfl, HO2.out, HB.out⟩
    · rw [if_neg hsl] at h; cases h
  · rw [if_neg hl] at h; cases h

end Go.Proofs.Ytjefihcbhdennaa.S
