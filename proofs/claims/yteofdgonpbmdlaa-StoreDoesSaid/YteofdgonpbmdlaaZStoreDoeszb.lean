/- Texts of this session, merged for the law StoreDoes: UG, UH, PM, VL, PI, PJ, UO, VN, TI, UU. No condition. -/
import Derived.Test.YteofdgonpbmdlaaZStoreDoesy
import Derived.Test.YteofdgonpbmdlaaZStoreDoess
import Derived.Test.YteofdgonpbmdlaaZStoreDoesza
import Derived.Test.YteofdgonpbmdlaaZStoreDoesx
import Derived.Test.YteofdgonpbmdlaaZStoreDoesr
import Derived.Test.YteofdgonpbmdlaaZStoreDoesz
set_option linter.unusedVariables false
set_option linter.unusedSimpArgs false
namespace Go.Proofs.Yteofdgonpbmdlaa.C
open Go.RowKit Go.Maps Go.Proofs.YteofdgonpbmdlaaW.PrintWords Go.Proofs.YteofdgonpbmdlaaW.PrintLast Go.Proofs.YteofdgonpbmdlaaW.PrintMore
attribute [local go_sem] max2_int min2_int max_two min_two max_three min_three max_four min_four
set_option maxHeartbeats 1000000 in
theorem clone_bytes (A0 : Option Addr) (c0 : Nat) (l0 : List Int) (w : World) (hr0 : Kd.C (Kd.int .u8) w A0 l0.length l0) (hc0 : l0.length ≤ c0) (hl : l0.length < 8796093022208) :
    Calls Try.prog 76 #[.slice A0 l0.length c0] w fun e w' => ∃ v0_ : Value, e = .returned (v0_) ∧ Kd.R (Kd.int .u8) 5 w' w.heap.size (fun _ => True) v0_ l0 ∧ Below w.heap.size w w' := by
  have HL := Aside0.mk hl
  clear hl
  cases A0 with
  | none =>
    have hn : l0 = [] := by
      cases l0 with
      | nil => rfl
      | cons x t => have := hr0.2.2 (by simp); obtain ⟨ad, h1, _⟩ := this; cases h1
    subst hn
    have HR := Aside0.mk hr0
    clear hr0
    have heq := fun W => Lib.run_eql_slice_nil (P := Try.prog) W 26 5 (none : Option Addr) 0 c0 0 0 Try.underlying26
    go_enter Try.func76, Try.ntmps76
    go_wp2
    go_ret
    exact ⟨_, rfl, Kd.R_nil _ _ _ _ _, Below.refl _ _⟩
  | some ad =>
    have HR := Aside0.mk hr0
    have HC := Aside0.mk hc0
    have heq := fun W => Lib.run_eql_slice_nil (P := Try.prog) W 26 5 (some ad) l0.length c0 0 0 Try.underlying26
    clear hr0 hc0
    go_enter Try.func76, Try.ntmps76
    go_wp2_with (first
      | ((with_reducible refine gate_dst (N := 5) rfl ?_); refine Kd.R_lit (Kd.int .u8) _ 5 ?hg (N := 5) ?hd (xs := ([] : List Int)) (inner := []) (ok := fun _ => True) (okp := fun _ => True) ?hr ?hp (fun _ hk => hk) trivial (Below.refl w.heap.size w) (Nat.le_refl _) (by simp) ?_; (case hd => rfl); (case hg => rfl); (case hr => first | (go_simp; done) | (go_simp; rfl)); (case hp => exact Reps.none _ _); intro v1 w1 ho1 hb1 hg_ hnew_; clear hg_ hnew_; have HO1 := Aside0.mk ho1; have HB1 := Aside0.mk hb1; clear ho1 hb1)
      | ((with_reducible refine gate_builtin (b := .append) (xs := #[.tmp 5, .tmp 6]) rfl ?_); at_builtin; refine Kd.R_append_rows (Kd.int .u8) (w0 := w) w.heap.size rfl (.tmp 5) (.tmp 6) 26 5 (.int .u8 0) 1 rfl Try.underlying26 info5 rfl (by decide) (by omega) v1 [] l0 _ _ _ (fun _ => True) (fun _ => False) rfl rfl ?aO ?aR (fun _ _ h => h) (fun _ h => h.elim) ?aF ?aB ?aS ?aL ?_; (case aR => exact (Kd.C_below HR.out HB1.out)); (case aF => exact (fun _ _ => trivial)); (case aO => exact HO1.out); (case aB => exact HB1.out); (case aS => exact HB1.out.size); (case aL => have := HL.out; simp only [List.length_nil]; omega); intro v2 w2 ho2 hb2 hg_ hnew_; clear hg_ hnew_; have HO2 := Aside0.mk ho2; have HB2 := Aside0.mk hb2; clear ho2 hb2))
    go_ret
    exact ⟨_, rfl, HO2.out, HB2.out⟩
set_option maxHeartbeats 1000000 in
theorem clone_vers (A0 : Option Addr) (c0 : Nat) (l0 : List S28) (w : World) (hr0 : Kd.F k28 w (fun k => k < w.heap.size) A0 l0.length l0) (hc0 : l0.length ≤ c0) (hl : l0.length < 1000000000000) :
    Calls Try.prog 75 #[.slice A0 l0.length c0] w fun e w' => ∃ v0_ : Value, e = .returned (v0_) ∧ Kd.N k28 28 w' w.heap.size (fun _ => True) v0_ l0 ∧ Below w.heap.size w w' := by
  have HL := Aside0.mk hl
  clear hl
  cases A0 with
  | none =>
    have hn : l0 = [] := by
      cases l0 with
      | nil => rfl
      | cons x t => have := (Kd.F_now hr0).2.2 (by simp); obtain ⟨ad, h1, _⟩ := this; cases h1
    subst hn
    have HR := Aside0.mk hr0
    clear hr0
    have heq := fun W => Lib.run_eql_slice_nil (P := Try.prog) W 22 28 (none : Option Addr) 0 c0 0 0 Try.underlying22
    go_enter Try.func75, Try.ntmps75
    go_wp2
    go_ret
    exact ⟨_, rfl, Kd.N_nil _ _ _ _ _, Below.refl _ _⟩
  | some ad =>
    have HR := Aside0.mk hr0
    have HC := Aside0.mk hc0
    have heq := fun W => Lib.run_eql_slice_nil (P := Try.prog) W 22 28 (some ad) l0.length c0 0 0 Try.underlying22
    clear hr0 hc0
    go_enter Try.func75, Try.ntmps75
    go_wp2_with (first
      | ((with_reducible refine gate_dst (N := 5) rfl ?_); refine Kd.N_lit k28 (w0 := w) w.heap.size 28 ?hg (N' := 5) ?hd (xs := ([] : List S28)) (inner := []) (ok := fun _ => True) (okp := fun _ => True) ?hr ?hp (fun _ hk => hk) trivial (Below.refl w.heap.size w) (Nat.le_refl _) (by decide) ?_; (case hd => rfl); (case hg => rfl); (case hr => first | (go_simp; done) | (go_simp; rfl)); (case hp => exact Reps.none _ _); intro v1 w1 ho1 hb1 hg_ hnew_; have HN1 := Aside0.mk hnew_; clear hg_; have HO1 := Aside0.mk ho1; have HB1 := Aside0.mk hb1; have HV1 := Aside0.mk (show ∀ k, v1.ownBlock = some k → w.heap.size ≤ k from fun k hk => Kd.N_base ho1 k hk); clear ho1 hb1 hnew_)
      | ((with_reducible refine gate_builtin (b := .append) (xs := #[.tmp 5, .tmp 6]) rfl ?_); at_builtin; refine Kd.N_append_rows k28 (w0 := w) w.heap.size rfl (.tmp 5) (.tmp 6) 22 28 (.agg #[(.int .u64 0), (.bool false), (.slice none 0 0)]) 40 rfl Try.underlying22 info28 rfl (by decide) (by omega) v1 [] l0 _ _ _ (fun _ => True) (fun k => k < w.heap.size) rfl rfl ?aO ?aR ?aP ?aF ?aB ?aS ?aL ?_; (case aR => exact (Kd.F_below HR.out HB1.out)); (case aP => exact fun k hk => ⟨trivial, fun e => by have := HV1.out k e.symm; omega⟩); (case aF => exact (fun _ _ => trivial)); (case aO => exact HO1.out); (case aB => exact HB1.out); (case aS => exact HB1.out.size); (case aL => have := HL.out; simp only [List.length_nil]; omega); intro v2 w2 ho2 hb2 hg_ hnew_; clear hg_ hnew_; have HO2 := Aside0.mk ho2; have HB2 := Aside0.mk hb2; clear ho2 hb2))
    go_ret
    exact ⟨_, rfl, HO2.out, HB2.out⟩
/-- An element's data replaced by a copy of themselves. -/
theorem N_data {W : World} {base g n cap : Nat} {L : List S28} (h : Kd.N k28 28 W base (fun _ => True) (.slice (some ⟨g, 0, none⟩) n cap) L) (i : Nat) (hi : i < L.length) (hn : n = L.length) {okp : Nat → Prop} (hokp : ∀ k, okp k → k ≠ g) {A : Option Addr} {c' : Nat} (hl : (L[i]).f2.length ≤ c') (hF : Kd.F (Kd.int .u8) W okp A (L[i]).f2.length (L[i]).f2) :
    Kd.N k28 28 (W.setCell ⟨g, i * 3 + 2, none⟩ (.slice A (L[i]).f2.length c')) base (fun _ => True) (.slice (some ⟨g, 0, none⟩) n cap) L := by
  obtain ⟨c, hcl, hM, hcc, hfr⟩ := Kd.N_elem h z28 (i : Int) (by omega) (by omega)
  rw [show L.getD (i : Int).toNat z28 = L[i] by simp [List.getD, List.getElem?_eq_getElem hi]] at hM
  obtain ⟨A2, c2, rfl, hl2, hg2⟩ := k28_openF hM
  have := (Kd.N_seg h (i : Int) (by omega) (by omega) (seg := [.slice A (L[i]).f2.length c']) (j := 2) hcl hcc (by show 2 + 1 ≤ 3; omega) (x' := L[i]) (k28_mkF W okp (L[i]) hl hF) (fun k hk => ⟨trivial, hokp k hk⟩)).1
  rw [show L.set (i : Int).toNat L[i] = L by simp] at this
  exact this
set_option maxRecDepth 100000 in
set_option maxHeartbeats 4000000 in
theorem store_Chain.calls {W : World} {base p : Nat} {B : Nat → Prop} {s : SS} {kv : Value} {mb n : Nat} {D : DataW Value} (h : Aside0 (StoreAt W base B p s kv mb n D)) (key : ByteArray) (hk : Aside0 (key.size ≤ maxLen)) (L : List S28) (hL : Aside0 (s.ch key = L)) (hl : Aside0 (L.length ≤ 1000000)) (hd : Aside0 (∀ v ∈ L, v.f2.length ≤ 1000000)) :
    Calls Try.prog 51 #[.pointer (some ⟨p, 0, none⟩), .string key] W fun e w' => (∃ A c, e = .returned (.slice A L.length c) ∧ L.length ≤ c ∧ Kd.C k28 w' A L.length L) ∧ Below W.heap.size W w' := by
  go_enter Try.func51, Try.ntmps51
  go_wp2_with (first
    | (go_at_call 72; refine (store_chain.calls h key hk).mono ?_; rintro e w1 ⟨⟨A0, c0, rfl, hl0, hF0⟩, e1⟩; replace e1 := e1.symm; subst e1; rw [hL.out] at hl0 hF0 ⊢; have HF0 := Aside0.mk (Kd.F_mono (Kd.F_bound hF0) (fun k hk_ => hk_.2)); have HL0 := Aside0.mk hl0; clear hl0 hF0)
    | (go_at_call 75; refine (clone_vers A0 c0 L _ HF0.out HL0.out (by have := hl.out; omega)).mono ?_; rintro e w2 ⟨v, rfl, ho, hb⟩; obtain ⟨A5, c5, ev⟩ := Kd.N_slice ho; subst ev; have HO := Aside0.mk ho; have HB := Aside0.mk hb; clear ho hb))
  clear HF0 HL0
  go_loopw [13] (fun vi wr => ∃ i : Nat, vi = .int .i64 i ∧ i ≤ L.length ∧ Aside0 (Kd.N k28 28 wr W.heap.size (fun _ => True) (.slice A5 L.length c5) L) ∧ Aside0 (Below W.heap.size W wr)) (fun vi _ => L.length - (intOf vi).toNat)
  case atStart => exact ⟨0, rfl, Nat.zero_le _, HO, HB⟩
  case round =>
    clear HO HB
    obtain ⟨i, rfl, hi1, HO, HB⟩ := hrel
    by_cases hlt : i < L.length
    · have hi3 : i < 1000000 := by have := hl.out; omega
      obtain ⟨ad, c_, rfl, hcl_, hK_, hcc_⟩ := Kd.C_get (Kd.N_reads' HO.out).2.2 z28 (i : Int) (by omega) (by omega)
      obtain ⟨g, rfl⟩ : ∃ g, ad = ⟨g, 0, none⟩ := by
        obtain ⟨_, rows, _, hR, _⟩ := HO.out
        exact Kd.R_head hR
      clear hcl_ hK_ hcc_
      obtain ⟨c, hcl, hM, hcc, hfr⟩ := Kd.N_elem HO.out z28 (i : Int) (by omega) (by omega)
      rw [show L.getD (i : Int).toNat z28 = L[i] by simp [List.getD, List.getElem?_eq_getElem hlt]] at hM
      obtain ⟨x, hx⟩ : ∃ x, L[i] = x := ⟨_, rfl⟩
      rw [hx] at hM
      obtain ⟨A2, c2, rfl, hl2, hg2⟩ := k28_openF hM
      have e2 : wr.cell? ⟨g, i * 3 + 2, none⟩ = some (.slice A2 x.f2.length c2) := hcc 2 _ rfl
      have HX := Aside0.mk hx
      have HG2 := Aside0.mk hg2
      have HL2 := Aside0.mk hl2
      have HDX := Aside0.mk (hd.out x (hx ▸ List.getElem_mem hlt))
      have HGB := Aside0.mk (show W.heap.size ≤ g from Kd.N_base HO.out g (by simp [Value.ownBlock]))
      have HGL := Aside0.mk (show g < wr.heap.size from Kd.N_lt HO.out g (by simp [Value.ownBlock]))
      clear hcl hM hcc hfr hx hg2 hl2
      go_wp2_with (first
        | (go_at_call 76; refine (clone_bytes A2 c2 x.f2 _ (Kd.F_now HG2.out) HL2.out (by have := HDX.out; omega)).mono ?_; rintro e w3 ⟨v, rfl, ho, hb⟩; obtain ⟨A3, c3, ev⟩ := Kd.R_slice ho; subst ev; have HO3 := Aside0.mk (Kd.R_F (Kd.R_mono (Kd.R_bound ho) (ok' := fun k => wr.heap.size ≤ k) (fun k hk_ => hk_.2.1))); have HL3 := Aside0.mk (Kd.R_reads' ho).2.1; have HB3 := Aside0.mk (below_step HB.out hb); have HN3 := Aside0.mk (Kd.N_below HO.out hb); have hfr := (Kd.N_elem HN3.out z28 (i : Int) (by omega) (by omega)).choose_spec.2.2.2 2; have hfr2 : w3.frozen? ⟨g, i * 3 + 2, none⟩ = false := hfr; have e3 := pw_cell_below hb e2; clear ho hb hfr)
        | ((with_reducible refine gate_store (t := 26) (p := 25) rfl ?_); refine store_event (t := 26) (p := 25) (v := ?vo1_) (w1 := w3.setCell ⟨g, i * 3 + 2, none⟩ (.slice A3 x.f2.length c3)) ?hg ?ho ?hn ?hr ?_; (case ho => rfl); (case hg => rfl); (case hn => rfl); (case hr => first | (go_simp; done) | (go_simp; rfl)); intro w4 hw; have HO4 := Aside0.mk (show Kd.N k28 28 w4 W.heap.size (fun _ => True) (.slice (some ⟨g, 0, none⟩) L.length c5) L by rw [hw]; have := N_data HN3.out i hlt rfl (okp := fun k => wr.heap.size ≤ k) (fun k hk_ e => by have := HGL.out; omega) (A := A3) (c' := c3) (by rw [HX.out]; exact HL3.out) (by rw [HX.out]; exact HO3.out); rw [HX.out] at this; exact this); have HB4 := Aside0.mk (show Below W.heap.size W w4 by rw [hw]; exact below_set HB3.out HGB.out); clear hw))
      go_round
      case rel => exact ⟨i + 1, by go_num, hlt, HO4, HB4⟩
      case measure => simp [intOf]; omega
    · go_wp2
      go_ret
      exact ⟨⟨A5, c5, rfl, (Kd.N_reads' HO.out).2.1, (Kd.N_reads' HO.out).2.2⟩, HB.out⟩
end Go.Proofs.Yteofdgonpbmdlaa.C
namespace Go.Proofs.Yteofdgonpbmdlaa.St
open Go.RowKit Go.Maps Go.Proofs.YteofdgonpbmdlaaW.PrintWords Go.Proofs.YteofdgonpbmdlaaW.PrintLast Go.Proofs.YteofdgonpbmdlaaW.PrintMore Go.Proofs.Yteofdgonpbmdlaa.C Go.Proofs.Yteofdgonpbmdlaa.Pure
theorem went_eq (s : SS) (low : Int) : wentP s low = wrap64 (s.n1 - (colP s low).n1) := rfl
end Go.Proofs.Yteofdgonpbmdlaa.St
namespace Go.Proofs.Yteofdgonpbmdlaa.R
open Go.RowKit Go.Proofs.YteofdgonpbmdlaaW.PrintWords Go.Proofs.Yteofdgonpbmdlaa.C Go.Proofs.Yteofdgonpbmdlaa.St Go.Proofs.Yteofdgonpbmdlaa.Pure
def rOf (s : SS) : RS := ⟨s.l0, s.l1, s.l2, s.l3, s.l4, s.l5, s.last, s.now, ofS s⟩
theorem ofS_len (s : SS) : (ofS s).length = s.keys.length := by unfold ofS; rw [List.length_map]
theorem zs {m : Nat} {s : SS} (h : St.Good m s) (hm : m ≤ 900) : ∀ x ∈ ofS s, (∃ k, conductorref07_Size.f k x.f1 = some ((dsz x.f1 : Nat) : Int)) ∧ x.f0.size ≤ 9223372036854775807 := fun x hx => by
  obtain ⟨q, hq, rfl⟩ := List.mem_map.1 hx
  have h1 := h.ln q
  have h2 := h.ks q hq
  exact ⟨r_size (l := s.ch q) (by omega) (fun v hv => by have := h.dl q v hv; omega), by show q.size ≤ _; omega⟩
theorem r_get_s {m : Nat} {s : SS} (h : St.Good m s) (hm : m ≤ 900) (key : ByteArray) (a : Int) : ∃ k, conductorref07_Get.f k (chK (ofS s) key) a = some (getF (s.ch key) a) := by
  rw [(KOk.of h).ch]
  have := h.ln key
  exact r_get (h.rg key) (by omega) a
theorem good_put {m : Nat} {s : SS} (h : St.Good m s) (_ : m ≤ 800) {l : List S102} (hw : WOk l) (hl : l.length ≤ 20) (hnow : ¬ s.last ≤ s.now) (N : Int × Int × Int) : St.Good (m + 1) (putS s (pfP s (comesL s.ch l)) (comesL s.ch l) N) :=
  h.put (hw.sub (comesL_sub s.ch l)) (Nat.le_trans (comesL_sub s.ch l).length_le hl) hnow N
section
variable {m : Nat} {s : SS} (h : St.Good m s) (hm : m ≤ 800) (hs : Sized s) (hf : Fits s) {l : List S102} (hw : WOk l) (hl : l.length ≤ 20) (hk : ∀ x ∈ l, x.f0.size ≤ 300) (hd : ∀ x ∈ l, x.f2.length ≤ 5000) (hnow : ¬ s.last ≤ s.now)
include h hm hw hl hnow
theorem with_K (N : Int × Int × Int) : withK (fun x => getF (s.ch x.f0) s.now) (fun x => s.ch x.f0 ++ [verOf s.now x]) (ofS s) l = ofS (putS s (pfP s (comesL s.ch l)) (comesL s.ch l) N) := by
  refine KOk.ofS (m := m + 1) ?_ (good_put h hm hw hl hnow N)
  have e : (putS s (pfP s (comesL s.ch l)) (comesL s.ch l) N).ch = pfP s (comesL s.ch l) := pf_colCh s _
  rw [e, ← with_chain h hw.so.nodup]
  exact withK_ok _ _ l (KOk.of h)
theorem with_hyp (N : Int × Int × Int) : WithHyp (rOf s) l (s.now + 1) (ofS (putS s (pfP s (comesL s.ch l)) (comesL s.ch l) N)) where
  w := by
    refine ⟨fun x => getF (s.ch x.f0) s.now, fun x => s.ch x.f0 ++ [verOf s.now x], fun x _ => r_get_s h (by omega) x.f0 s.now, fun x hx _ => ?_, with_K h hm hw hl hnow N⟩
    show ∃ k ez, conductorref07_Put.f k (chK (ofS s) x.f0) (s.now + 1) x.f1 x.f2 = some (s.ch x.f0 ++ [verOf s.now x], ez)
    rw [(KOk.of h).ch]
    have h0 := h.n0
    have h1 := h.n1
    have h2 := h.la
    have h3 := h.ln x.f0
    refine r_put (l := s.ch x.f0) (by omega) (fun v hv => by have := h.tm x.f0 v hv; omega) (verOf s.now x) (h.rg x.f0) ?_ ?_
    · rw [rgt_iff]
      refine ⟨fun v hv => ?_, by simp⟩
      rw [List.mem_singleton.1 hv]
      exact ⟨by show 0 < s.now + 1; omega, hw.go x hx⟩
    · have := lastF_le h0 (h.tm x.f0)
      show ¬ s.now + 1 ≤ _
      omega
  z := zs (good_put h hm hw hl hnow N) (by omega)
  l := by omega
  k := by
    show (ofS s).length ≤ 40000
    rw [ofS_len]
    have := h.kn
    omega
  t := by
    have h0 := h.n0
    have h2 := h.la
    show IntKind.u64.wrap (s.now + 1) = s.now + 1
    exact wrap_u64_small (by omega) (by omega)
include hs hf hk hd
theorem fit_eq : fitB (rOf s) (ofS (putS s (pfP s (comesL s.ch l)) (comesL s.ch l) (sizesOf s l))) = fitsB s (sizesOf s l) := by
  have hn : ((comesL s.ch l).map (·.f0)).Nodup := (hw.sub (comesL_sub s.ch l)).so.nodup
  have e := sizes_true h hs hf hl hk hd hn
  obtain ⟨e0, e1, e2⟩ := put_sums h hn
  have z1 := hs.z1
  have z2 := hs.z2
  obtain ⟨f0, f1, f2, g0, g1, g2⟩ := hf
  have hle := (comesL_sub s.ch l).length_le
  have hb : ∀ L : List S102, L.length ≤ 20 → (∀ x ∈ L, x.f0.size ≤ 300 ∧ x.f2.length ≤ 5000) → sumK (fun x : S102 => x.f2.length) L ≤ 100000 ∧ sumK (fun x : S102 => x.f0.size) L ≤ 6000 := fun L hL hx => by
    have a1 : sumK (fun x : S102 => x.f2.length) L ≤ sumK (fun _ => 5000) L := sumK_le (fun x hx' => (hx x hx').2)
    have a2 : sumK (fun x : S102 => x.f0.size) L ≤ sumK (fun _ => 300) L := sumK_le (fun x hx' => (hx x hx').1)
    have h2 : ∀ (c : Nat) (q : List S102), sumK (fun _ => c) q = c * q.length := fun c q => by
      induction q with
      | nil => rfl
      | cons x t ih => rw [sumK_cons, ih, List.length_cons, Nat.mul_succ]; omega
    rw [h2] at a1 a2
    omega
  have hL : ∀ x ∈ comesL s.ch l, x.f0.size ≤ 300 ∧ x.f2.length ≤ 5000 := fun x hx => ⟨hk x ((comesL_sub s.ch l).mem hx), hd x ((comesL_sub s.ch l).mem hx)⟩
  have b1 := (hb (comesL s.ch l) (by omega) hL).1
  have b2 := (hb ((comesL s.ch l).filter (fun x => decide ((s.ch x.f0).length = 0))) (Nat.le_trans (List.length_filter_le _ _) (by omega)) (fun x hx => hL x (List.mem_filter.1 hx).1)).2
  have c1 : sumK (vN (pfP s (comesL s.ch l))) (insK (pfP s (comesL s.ch l)) (comesL s.ch l) s.keys) ≤ 1000000000 := by rw [e1]; omega
  have c2 : sumK (bN (pfP s (comesL s.ch l))) (insK (pfP s (comesL s.ch l)) (comesL s.ch l) s.keys) ≤ 1000000000 := by rw [e2]; omega
  have hko := KOk.of (good_put h hm hw hl hnow (sizesOf s l))
  have hch : (putS s (pfP s (comesL s.ch l)) (comesL s.ch l) (sizesOf s l)).ch = pfP s (comesL s.ch l) := pf_colCh s _
  rw [hch] at hko
  have hc := cnt_of hko (ofS_keys _) (by exact c1) (by exact c2)
  have hlen : ((ofS (putS s (pfP s (comesL s.ch l)) (comesL s.ch l) (sizesOf s l))).length : Int) = (sizesOf s l).1 := by
    rw [ofS_len, e]
    rfl
  unfold fitB fitsB
  rw [hlen, hc]
  have q1 : (sizesOf s l).2.1 = ((sumK (vN (pfP s (comesL s.ch l))) (insK (pfP s (comesL s.ch l)) (comesL s.ch l) s.keys) : Nat) : Int) := congrArg (·.2.1) e
  have q2 : (sizesOf s l).2.2 = ((sumK (bN (pfP s (comesL s.ch l))) (insK (pfP s (comesL s.ch l)) (comesL s.ch l) s.keys) : Nat) : Int) := congrArg (·.2.2) e
  rw [q1, q2]
  rfl
end
theorem cnt_s {m : Nat} {s : SS} (h : St.Good m s) (hs : Sized s) (hf : Fits s) : cntN (ofS s) 0 0 = (s.n1, s.n2) ∧ ((ofS s).length : Int) = s.n0 := by
  have z0 := hs.z0
  have z1 := hs.z1
  have z2 := hs.z2
  obtain ⟨f0, f1, f2, g0, g1, g2⟩ := hf
  refine ⟨?_, by rw [ofS_len, z0]⟩
  rw [cnt_of (KOk.of h) (ofS_keys s) (by omega) (by omega), ← z1, ← z2]
section
variable {W : World} {ok : Nat → Prop} {p : Nat} {s : SS} {A : Option Addr} {c : Nat} (h : RAt W ok p (rOf s) A c) {m : Nat} (g : St.Good m s) (hm : m ≤ 800) (hs : Sized s) (hf : Fits s)
include h g hm hs hf
theorem refs_Count : Calls Try.prog 54 #[.pointer (some ⟨p, 0, none⟩)] W fun e w' => e = .returned (.agg #[.int .i64 s.n0, .int .i64 s.n1, .int .i64 s.n2]) ∧ Below W.heap.size W w' := by
  have hl : (ofS s).length ≤ 100000 := by rw [ofS_len]; have := g.kn; omega
  refine (ref_Count ⟨h⟩ ⟨hl⟩ ⟨zs g (by omega)⟩).mono ?_
  rintro e w' ⟨rfl, hb⟩
  obtain ⟨e1, e2⟩ := cnt_s g hs hf
  exact ⟨by show Ending.returned (.agg #[.int .i64 ((ofS s).length : Int), .int .i64 (cntN (ofS s) 0 0).1, .int .i64 (cntN (ofS s) 0 0).2]) = _; rw [e1, e2], hb⟩
theorem refs_Collect (low : Int) : Calls Try.prog 78 #[.pointer (some ⟨p, 0, none⟩), .int .u64 low] W fun e w' => e = .returned (.int .i64 (wentP s low)) ∧ (∃ A2 c2, RAt w' (fun k => (ok k ∧ k ≠ p) ∨ W.heap.size ≤ k) p (rOf (colP s low)) A2 c2) ∧ Turn p (fun k => k = p) W w' := by
  have hl : (ofS s).length ≤ 40000 := by rw [ofS_len]; have := g.kn; omega
  have g2 := g.col low
  obtain ⟨hs2, hf2⟩ := hs.col g hf low
  refine (ref_Collect ⟨h⟩ low ⟨hl⟩ (fun x => trimF x.f1 low) ⟨fun x hx => ?_⟩ ⟨zs g (by omega)⟩ (ofS (colP s low)) ⟨col_K g low⟩ ⟨zs g2 (by omega)⟩ ⟨put_hyp⟩).mono ?_
  · obtain ⟨q, hq, rfl⟩ := List.mem_map.1 hx
    have := g.ln q
    exact r_trim (g.rg q) (by show (s.ch q).length ≤ 1000; omega) low
  · rintro e w' ⟨rfl, hR, hT⟩
    refine ⟨?_, hR, hT⟩
    show Ending.returned (.int .i64 (wrap64 ((cntN (ofS s) 0 0).1 - (cntN (ofS (colP s low)) 0 0).1))) = _
    rw [(cnt_s g hs hf).1, (cnt_s g2 hs2 hf2).1, went_eq]
theorem refs_Commit (A1 : Option Addr) (c1 : Nat) (l : List S102) (low : Int) (hF : Kd.F k102 W (fun k => ok k ∧ k ≠ p) A1 l.length l) (hlc : l.length ≤ c1) (hl : l.length ≤ 20) (hk : ∀ x ∈ l, x.f0.size ≤ 300) (hd : ∀ x ∈ l, x.f2.length ≤ 5000) :
    Calls Try.prog 77 #[.pointer (some ⟨p, 0, none⟩), .slice A1 l.length c1, .int .u64 low] W (ComPost W ok p (comP s l low).1 (comP s l low).2.1 (rOf (comP s l low).2.2)) := by
  have hck := r_check l (by omega)
  by_cases hce : chkL none l ≠ 0
  · have e : comP s l low = (0, chkL none l, s) := if_pos hce
    rw [e]
    exact commit_bad W ok p (rOf s) A c ⟨h⟩ A1 c1 l low ⟨hF⟩ ⟨hlc⟩ _ ⟨hce⟩ ⟨hck⟩
  have hce0 : chkL none l = 0 := Classical.not_not.1 hce
  rw [hce0] at hck
  by_cases hnil : l.length = 0
  · have e : comP s l low = (s.now, 0, s) := (if_neg hce).trans (if_pos hnil)
    rw [e]
    exact commit_nil W ok p (rOf s) A c ⟨h⟩ A1 c1 l low ⟨hF⟩ ⟨hlc⟩ ⟨List.eq_nil_of_length_eq_zero hnil⟩ ⟨hck⟩
  have hne : l ≠ [] := fun e => hnil (by rw [e]; rfl)
  by_cases hnow : s.last ≤ s.now
  · have e : comP s l low = (0, 5, s) := (if_neg hce).trans ((if_neg hnil).trans (if_pos hnow))
    rw [e]
    exact commit_full W ok p (rOf s) A c ⟨h⟩ A1 c1 l low ⟨hF⟩ ⟨hlc⟩ ⟨hne⟩ ⟨hck⟩ ⟨by have := g.n1; show s.now = s.last; omega⟩
  have hful : ¬ (rOf s).time = (rOf s).last := fun e => hnow (by have e' : s.now = s.last := e; omega)
  have hw := chk_wok hce0
  have e3 : comP s l low = if fitsB (comS s l low) (sizesOf (comS s l low) l) = true then (s.now + 1, 0, putS (comS s l low) (pfP (comS s l low) (comL s l low)) (comesL (comS s l low).ch l) (sizesOf (comS s l low) l)) else (0, 5, comS s l low) := (if_neg hce).trans ((if_neg hnil).trans (if_neg hnow))
  have hwy := with_hyp g hm hw hl hnow (sizesOf s l)
  have hft := fit_eq g hm hs hf hw hl hk hd hnow
  cases hfb : fitsB s (sizesOf s l) with
  | true =>
    have e1 : comS s l low = s := if_pos hfb
    have e2 : comL s l low = comesL s.ch l := by unfold comL; rw [e1]
    rw [e1, e2, if_pos hfb] at e3
    rw [e3]
    exact commit_fit W ok p (rOf s) A c ⟨h⟩ A1 c1 l low ⟨hF⟩ ⟨hlc⟩ ⟨hne⟩ ⟨hck⟩ ⟨hful⟩ ⟨put_hyp⟩ (s.now + 1) _ ⟨hwy⟩ ⟨hft.trans hfb⟩
  | false =>
    have e1 : comS s l low = colP s low := if_neg (by rw [hfb]; decide)
    have e2 : comL s l low = comesL (colP s low).ch l := by unfold comL; rw [e1]
    rw [e1, e2] at e3
    have g2 := g.col low
    obtain ⟨hs2, hf2⟩ := hs.col g hf low
    have hnow2 : ¬ (colP s low).last ≤ (colP s low).now := hnow
    have hwy2 := with_hyp g2 hm hw hl hnow2 (sizesOf (colP s low) l)
    have hft2 := fit_eq g2 hm hs2 hf2 hw hl hk hd hnow2
    have ht : ∀ x ∈ (rOf s).K, ∃ k, conductorref07_Trim.f k x.f1 low = some (trimF x.f1 low) := fun x hx => by
      obtain ⟨q, hq, rfl⟩ := List.mem_map.1 hx
      have := g.ln q
      exact r_trim (g.rg q) (by show (s.ch q).length ≤ 1000; omega) low
    cases hfb2 : fitsB (colP s low) (sizesOf (colP s low) l) with
    | true =>
      rw [if_pos hfb2] at e3
      rw [e3]
      exact commit_col_yes W ok p (rOf s) A c ⟨h⟩ A1 c1 l low ⟨hF⟩ ⟨hlc⟩ ⟨hne⟩ ⟨hck⟩ ⟨hful⟩ ⟨put_hyp⟩ (s.now + 1) _ ⟨hwy⟩ ⟨hft.trans hfb⟩ (fun x => trimF x.f1 low) ⟨ht⟩ ⟨zs g (by omega)⟩ (ofS (colP s low)) ⟨col_K g low⟩ ⟨zs g2 (by omega)⟩ _ ⟨hwy2⟩ ⟨hft2.trans hfb2⟩
    | false =>
      rw [if_neg (by rw [hfb2]; decide)] at e3
      rw [e3]
      exact commit_col_no W ok p (rOf s) A c ⟨h⟩ A1 c1 l low ⟨hF⟩ ⟨hlc⟩ ⟨hne⟩ ⟨hck⟩ ⟨hful⟩ ⟨put_hyp⟩ (s.now + 1) _ ⟨hwy⟩ ⟨hft.trans hfb⟩ (fun x => trimF x.f1 low) ⟨ht⟩ ⟨zs g (by omega)⟩ (ofS (colP s low)) ⟨col_K g low⟩ ⟨zs g2 (by omega)⟩ _ ⟨hwy2⟩ ⟨hft2.trans hfb2⟩
end
end Go.Proofs.Yteofdgonpbmdlaa.R
namespace Go.Proofs.Yteofdgonpbmdlaa.R
open Go.RowKit Go.Maps Go.Proofs.YteofdgonpbmdlaaW.PrintWords Go.Proofs.YteofdgonpbmdlaaW.PrintLast Go.Proofs.YteofdgonpbmdlaaW.PrintMore Go.Proofs.Yteofdgonpbmdlaa.C Go.Proofs.Yteofdgonpbmdlaa.St Go.Proofs.Yteofdgonpbmdlaa.Pure
attribute [local go_sem] max2_int min2_int max2_str min2_str str_leq str_gtr str_geq max_two min_two max_three min_three max_four min_four
theorem RAt.set {W : World} {ok : Nat → Prop} {p : Nat} {r : RS} {A : Option Addr} {c : Nat} (h : RAt W ok p r A c) (g j : Nat) (v : Value) (hp : p ≠ g) (hg : ∀ k, ok k → k ≠ g) : RAt (W.setCell ⟨g, j, none⟩ v) ok p r A c :=
  h.step (Below.heap_setCell W ⟨g, j, none⟩ v p hp) (fun k hk _ _ => Below.heap_setCell W ⟨g, j, none⟩ v k (hg k hk))
theorem RAt.set5 {W : World} {ok : Nat → Prop} {p : Nat} {r : RS} {A : Option Addr} {c : Nat} (h : RAt W ok p r A c) (g : Nat) (u0 u1 u2 u3 u4 : Value) (hp : p ≠ g) (hg : ∀ k, ok k → k ≠ g) : RAt (((((W.setCell ⟨g, 0, none⟩ u0).setCell ⟨g, 1, none⟩ u1).setCell ⟨g, 2, none⟩ u2).setCell ⟨g, 3, none⟩ u3).setCell ⟨g, 4, none⟩ u4) ok p r A c :=
  ((((h.set g 0 u0 hp hg).set g 1 u1 hp hg).set g 2 u2 hp hg).set g 3 u3 hp hg).set g 4 u4 hp hg
def ShPost (W : World) (ok : Nat → Prop) (p : Nat) (R : OpTold) (s' : SS) (e : Ending) (w' : World) : Prop :=
  (∃ Ab cb As cs, e = .returned (.agg #[.int .u64 R.n, .int .i64 R.e, .slice Ab R.b.length cb, .bool R.is, .slice As R.sc.length cs]) ∧ R.b.length ≤ cb ∧ R.sc.length ≤ cs ∧ Kd.C (Kd.int .u8) w' Ab R.b.length R.b ∧ Kd.C k62 w' As R.sc.length R.sc) ∧ (∃ A2 c2, RAt w' (fun k => (ok k ∧ k ≠ p) ∨ W.heap.size ≤ k) p (rOf s') A2 c2) ∧ Turn p (fun k => k = p) W w'
set_option maxRecDepth 100000 in
set_option maxHeartbeats 8000000 in
theorem should_commit (W : World) (ok : Nat → Prop) (p : Nat) (s : SS) (A : Option Addr) (c : Nat) (h : Aside0 (RAt W ok p (rOf s) A c)) {m : Nat} (g : Aside0 (St.Good m s)) (hm : Aside0 (m ≤ 800)) (hs : Aside0 (Sized s)) (hf : Aside0 (Fits s)) (A1 : Option Addr) (c1 : Nat) (l : List S102) (low at_ : Int) (lo hi : ByteArray) (hF : Aside0 (Kd.F k102 W (fun k => (ok k ∧ k < W.heap.size) ∧ k ≠ p) A1 l.length l)) (hlc : Aside0 (l.length ≤ c1)) (hl : Aside0 (l.length ≤ 20)) (hk : Aside0 (∀ x ∈ l, x.f0.size ≤ 300)) (hd : Aside0 (∀ x ∈ l, x.f2.length ≤ 5000)) :
    Calls Try.prog 53 #[.pointer (some ⟨p, 0, none⟩), .agg #[.int .i64 0, .slice A1 l.length c1, .int .u64 low, .int .u64 at_, .string lo, .string hi]] W (ShPost W ok p ⟨(comP s l low).1, (comP s l low).2.1, [], false, []⟩ ((comP s l low).2.2)) := by
  have H0 := Aside0.mk (h.out.mono3 (ok' := fun k => ok k ∧ k < W.heap.size) (fun k a_ _ c_ => ⟨a_, c_⟩))
  have hplt := Aside0.mk h.out.lt
  obtain ⟨r_, hr⟩ : ∃ r_, comP s l low = r_ := ⟨_, rfl⟩
  rw [hr]
  go_enter Try.func53, Try.ntmps53
  go_wp2_with (first
    | ((with_reducible refine gate_dst (N := 3) rfl ?_); refine box_event ?hg (N := 3) ?hd (cs := #[.int .i64 0, .slice A1 l.length c1, .int .u64 low, .int .u64 at_, .string lo, .string hi]) (t := 55) ?hr ?_; (case hd => rfl); (case hg => rfl); (case hr => first | (go_simp; done) | (go_simp; rfl)); intro g3 hg w1 hbox hb; have HB1 := Aside0.mk hb; have BK3 := Aside0.mk hbox; clear hbox hb hg)
    | ((with_reducible refine gate_dst (N := 4) rfl ?_); refine box_event ?hg (N := 4) ?hd (cs := #[.int .u64 0, .int .i64 0, .slice none 0 0, .bool false, .slice none 0 0]) (t := 58) ?hr ?_; (case hd => rfl); (case hg => rfl); (case hr => first | (go_simp; done) | (go_simp; rfl)); intro g4 hg w2 hbox hb; have HB2 := Aside0.mk (below_step HB1.out hb); have G4 := Aside0.mk (show W.heap.size ≤ g4 by rw [hg]; exact HB1.out.size); have BK4 := Aside0.mk hbox; have L4 := Aside0.mk (blk_lt hbox); have HR2 := Aside0.mk (H0.out.below HB2.out); have BK32 := Aside0.mk (blk_below BK3.out hb); have HT2 := Aside0.mk (Turn.of_below (base := p) HB2.out (Nat.le_of_lt hplt.out) (fun k => k = p)); have o0 := (blk_cell BK32.out 0).trans (show _ = some (Value.int .i64 0) from rfl); have o1 := (blk_cell BK32.out 1).trans (show _ = some (Value.slice A1 l.length c1) from rfl); have o2 := (blk_cell BK32.out 2).trans (show _ = some (Value.int .u64 low) from rfl); have o3 := (blk_cell BK32.out 3).trans (show _ = some (Value.int .u64 at_) from rfl); have o4 := (blk_cell BK32.out 4).trans (show _ = some (Value.string lo) from rfl); have o5 := (blk_cell BK32.out 5).trans (show _ = some (Value.string hi) from rfl); clear hbox hb hg)
    | (go_at_call 77; (with_reducible refine (refs_Commit HR2.out g.out hm.out hs.out hf.out A1 c1 l low (Kd.F_below hF.out HB2.out) hlc.out hl.out hk.out hd.out).mono ?_); rw [hr]; rintro e w6 ⟨rfl, ⟨A6, c6, hR⟩, hT⟩; obtain ⟨okZ, hokZ⟩ : ∃ okZ : Nat → Prop, okZ = (fun k => ((ok k ∧ k < W.heap.size) ∧ k ≠ p) ∨ w2.heap.size ≤ k) := ⟨_, rfl⟩; rw [← hokZ] at hR; have HZ := Aside0.mk (show ∀ k, okZ k → k ≠ g4 from fun k hk_ e => by rw [hokZ] at hk_; have h1_ := G4.out; have h2_ := L4.out; rcases hk_ with q | q; (· have := q.1.2; omega); (· omega)); have HZO := Aside0.mk (show ∀ (n_ : Nat) k, okZ k → k ≠ p → k < n_ → ((ok k ∧ k ≠ p) ∨ W.heap.size ≤ k) from fun _ k hk_ hn_ _ => by rw [hokZ] at hk_; exact hk_.elim (fun q => .inl ⟨q.1.1, hn_⟩) (fun q => .inr (Nat.le_trans HB2.out.size q))); clear hokZ; have HR6 := Aside0.mk hR; clear hR; have BK46 := Aside0.mk ((hT.keep g4 L4.out (fun e => by have h1_ := hplt.out; have h2_ := G4.out; have h3_ : g4 = p := e; omega)).trans BK4.out); have HT6 := Aside0.mk (HT2.out.then_ hT (fun _ hk_ => .inl hk_)); clear hT o0 o1 o2 o3 o4 o5; have z0 := (blk_cell BK46.out 0).trans (show _ = some (Value.int .u64 0) from rfl); have z1 := (blk_cell BK46.out 1).trans (show _ = some (Value.int .i64 0) from rfl); have z2 := (blk_cell BK46.out 2).trans (show _ = some (Value.slice none 0 0) from rfl); have z3 := (blk_cell BK46.out 3).trans (show _ = some (Value.bool false) from rfl); have z4 := (blk_cell BK46.out 4).trans (show _ = some (Value.slice none 0 0) from rfl); have y0 := blk_frozen BK46.out 0; have y1 := blk_frozen BK46.out 1; have y2 := blk_frozen BK46.out 2; have y3 := blk_frozen BK46.out 3; have y4 := blk_frozen BK46.out 4)
    | ((with_reducible refine gate_store (t := 58) (p := 4) rfl ?_); refine store_event (t := 58) (p := 4) (v := ?vo1_) (w1 := ((((w6.setCell ⟨g4, 0, none⟩ (.int .u64 r_.1)).setCell ⟨g4, 1, none⟩ (.int .i64 r_.2.1)).setCell ⟨g4, 2, none⟩ (.slice none 0 0)).setCell ⟨g4, 3, none⟩ (.bool false)).setCell ⟨g4, 4, none⟩ (.slice none 0 0)) ?hg ?ho ?hn ?hr ?_; (case ho => rfl); (case hg => rfl); (case hn => rfl); (case hr => first | (go_simp; done) | (go_simp; rfl)); intro w7 hw; have HR7 := Aside0.mk (show RAt w7 okZ p (rOf (r_.2.2)) A6 c6 by rw [hw]; exact HR6.out.set5 g4 (.int .u64 r_.1) (.int .i64 r_.2.1) (.slice none 0 0) (.bool false) (.slice none 0 0) (by have := hplt.out; have := G4.out; omega) HZ.out); have HT7 := Aside0.mk (show Turn p (fun k => k = p) W w7 by rw [hw]; exact HT6.out.set5 g4 (.int .u64 r_.1) (.int .i64 r_.2.1) (.slice none 0 0) (.bool false) (.slice none 0 0) (by have := hplt.out; have := G4.out; omega) G4.out); have BK7 := Aside0.mk (show w7.heap[g4]? = some (.cells #[.int .u64 r_.1, .int .i64 r_.2.1, .slice none 0 0, .bool false, .slice none 0 0] 58 (0, 0)) by rw [hw]; exact blk_put5 BK46.out (.int .u64 r_.1) (.int .i64 r_.2.1) (.slice none 0 0) (.bool false) (.slice none 0 0)); skip; clear hw z0 z1 z2 z3 z4 y0 y1 y2 y3 y4; have v0 := (blk_cell BK7.out 0).trans (show _ = some (Value.int .u64 r_.1) from rfl); have v1 := (blk_cell BK7.out 1).trans (show _ = some (Value.int .i64 r_.2.1) from rfl); have v2 := (blk_cell BK7.out 2).trans (show _ = some (Value.slice none 0 0) from rfl); have v3 := (blk_cell BK7.out 3).trans (show _ = some (Value.bool false) from rfl); have v4 := (blk_cell BK7.out 4).trans (show _ = some (Value.slice none 0 0) from rfl)))
  exact bodyPost_ret (v := .agg #[.int .u64 r_.1, .int .i64 r_.2.1, .slice none 0 0, .bool false, .slice none 0 0]) (by simp [results, Try.results53, go_sem, v0, v1, v2, v3, v4]) rfl ⟨⟨_, _, _, _, rfl, Nat.le_refl _, Nat.le_refl _, Kd.C_nil _ _, Kd.C_nil _ _⟩, ⟨A6, c6, HR7.out.mono3 (HZO.out _)⟩, HT7.out⟩
set_option maxRecDepth 100000 in
set_option maxHeartbeats 8000000 in
theorem should_collect (W : World) (ok : Nat → Prop) (p : Nat) (s : SS) (A : Option Addr) (c : Nat) (h : Aside0 (RAt W ok p (rOf s) A c)) {m : Nat} (g : Aside0 (St.Good m s)) (hm : Aside0 (m ≤ 800)) (hs : Aside0 (Sized s)) (hf : Aside0 (Fits s)) (A1 : Option Addr) (c1 : Nat) (l : List S102) (low at_ : Int) (lo hi : ByteArray)  :
    Calls Try.prog 53 #[.pointer (some ⟨p, 0, none⟩), .agg #[.int .i64 1, .slice A1 l.length c1, .int .u64 low, .int .u64 at_, .string lo, .string hi]] W (ShPost W ok p ⟨IntKind.u64.wrap (wentP s low), 0, [], false, []⟩ (colP s low)) := by
  have H0 := Aside0.mk (h.out.mono3 (ok' := fun k => ok k ∧ k < W.heap.size) (fun k a_ _ c_ => ⟨a_, c_⟩))
  have hplt := Aside0.mk h.out.lt
  obtain ⟨r_, hr⟩ : ∃ r_, wentP s low = r_ := ⟨_, rfl⟩
  obtain ⟨u_, hu⟩ : ∃ u_, IntKind.u64.wrap r_ = u_ := ⟨_, rfl⟩
  rw [hr, hu]
  go_enter Try.func53, Try.ntmps53
  go_wp2_with (first
    | ((with_reducible refine gate_dst (N := 3) rfl ?_); refine box_event ?hg (N := 3) ?hd (cs := #[.int .i64 1, .slice A1 l.length c1, .int .u64 low, .int .u64 at_, .string lo, .string hi]) (t := 55) ?hr ?_; (case hd => rfl); (case hg => rfl); (case hr => first | (go_simp; done) | (go_simp; rfl)); intro g3 hg w1 hbox hb; have HB1 := Aside0.mk hb; have BK3 := Aside0.mk hbox; clear hbox hb hg)
    | ((with_reducible refine gate_dst (N := 4) rfl ?_); refine box_event ?hg (N := 4) ?hd (cs := #[.int .u64 0, .int .i64 0, .slice none 0 0, .bool false, .slice none 0 0]) (t := 58) ?hr ?_; (case hd => rfl); (case hg => rfl); (case hr => first | (go_simp; done) | (go_simp; rfl)); intro g4 hg w2 hbox hb; have HB2 := Aside0.mk (below_step HB1.out hb); have G4 := Aside0.mk (show W.heap.size ≤ g4 by rw [hg]; exact HB1.out.size); have BK4 := Aside0.mk hbox; have L4 := Aside0.mk (blk_lt hbox); have HR2 := Aside0.mk (H0.out.below HB2.out); have BK32 := Aside0.mk (blk_below BK3.out hb); have HT2 := Aside0.mk (Turn.of_below (base := p) HB2.out (Nat.le_of_lt hplt.out) (fun k => k = p)); have o0 := (blk_cell BK32.out 0).trans (show _ = some (Value.int .i64 1) from rfl); have o1 := (blk_cell BK32.out 1).trans (show _ = some (Value.slice A1 l.length c1) from rfl); have o2 := (blk_cell BK32.out 2).trans (show _ = some (Value.int .u64 low) from rfl); have o3 := (blk_cell BK32.out 3).trans (show _ = some (Value.int .u64 at_) from rfl); have o4 := (blk_cell BK32.out 4).trans (show _ = some (Value.string lo) from rfl); have o5 := (blk_cell BK32.out 5).trans (show _ = some (Value.string hi) from rfl); clear hbox hb hg)
    | (go_at_call 78; (with_reducible refine (refs_Collect HR2.out g.out hm.out hs.out hf.out low).mono ?_); rw [hr]; rintro e w6 ⟨rfl, ⟨A6, c6, hR⟩, hT⟩; obtain ⟨okZ, hokZ⟩ : ∃ okZ : Nat → Prop, okZ = (fun k => ((ok k ∧ k < W.heap.size) ∧ k ≠ p) ∨ w2.heap.size ≤ k) := ⟨_, rfl⟩; rw [← hokZ] at hR; have HZ := Aside0.mk (show ∀ k, okZ k → k ≠ g4 from fun k hk_ e => by rw [hokZ] at hk_; have h1_ := G4.out; have h2_ := L4.out; rcases hk_ with q | q; (· have := q.1.2; omega); (· omega)); have HZO := Aside0.mk (show ∀ (n_ : Nat) k, okZ k → k ≠ p → k < n_ → ((ok k ∧ k ≠ p) ∨ W.heap.size ≤ k) from fun _ k hk_ hn_ _ => by rw [hokZ] at hk_; exact hk_.elim (fun q => .inl ⟨q.1.1, hn_⟩) (fun q => .inr (Nat.le_trans HB2.out.size q))); clear hokZ; have HR6 := Aside0.mk hR; clear hR; have BK46 := Aside0.mk ((hT.keep g4 L4.out (fun e => by have h1_ := hplt.out; have h2_ := G4.out; have h3_ : g4 = p := e; omega)).trans BK4.out); have HT6 := Aside0.mk (HT2.out.then_ hT (fun _ hk_ => .inl hk_)); clear hT o0 o1 o2 o3 o4 o5; have z0 := (blk_cell BK46.out 0).trans (show _ = some (Value.int .u64 0) from rfl); have z1 := (blk_cell BK46.out 1).trans (show _ = some (Value.int .i64 0) from rfl); have z2 := (blk_cell BK46.out 2).trans (show _ = some (Value.slice none 0 0) from rfl); have z3 := (blk_cell BK46.out 3).trans (show _ = some (Value.bool false) from rfl); have z4 := (blk_cell BK46.out 4).trans (show _ = some (Value.slice none 0 0) from rfl); have y0 := blk_frozen BK46.out 0; have y1 := blk_frozen BK46.out 1; have y2 := blk_frozen BK46.out 2; have y3 := blk_frozen BK46.out 3; have y4 := blk_frozen BK46.out 4)
    | ((with_reducible refine gate_store (t := 58) (p := 4) rfl ?_); refine store_event (t := 58) (p := 4) (v := ?vo2_) (w1 := ((((w6.setCell ⟨g4, 0, none⟩ (.int .u64 u_)).setCell ⟨g4, 1, none⟩ (.int .i64 0)).setCell ⟨g4, 2, none⟩ (.slice none 0 0)).setCell ⟨g4, 3, none⟩ (.bool false)).setCell ⟨g4, 4, none⟩ (.slice none 0 0)) ?hg ?ho ?hn ?hr ?_; (case ho => rfl); (case hg => rfl); (case hn => rfl); (case hr => first | (go_simp; done) | (go_simp; rfl)); intro w7 hw; have HR7 := Aside0.mk (show RAt w7 okZ p (rOf (colP s low)) A6 c6 by rw [hw]; exact HR6.out.set5 g4 (.int .u64 u_) (.int .i64 0) (.slice none 0 0) (.bool false) (.slice none 0 0) (by have := hplt.out; have := G4.out; omega) HZ.out); have HT7 := Aside0.mk (show Turn p (fun k => k = p) W w7 by rw [hw]; exact HT6.out.set5 g4 (.int .u64 u_) (.int .i64 0) (.slice none 0 0) (.bool false) (.slice none 0 0) (by have := hplt.out; have := G4.out; omega) G4.out); have BK7 := Aside0.mk (show w7.heap[g4]? = some (.cells #[.int .u64 u_, .int .i64 0, .slice none 0 0, .bool false, .slice none 0 0] 58 (0, 0)) by rw [hw]; exact blk_put5 BK46.out (.int .u64 u_) (.int .i64 0) (.slice none 0 0) (.bool false) (.slice none 0 0)); skip; clear hw z0 z1 z2 z3 z4 y0 y1 y2 y3 y4; have v0 := (blk_cell BK7.out 0).trans (show _ = some (Value.int .u64 u_) from rfl); have v1 := (blk_cell BK7.out 1).trans (show _ = some (Value.int .i64 0) from rfl); have v2 := (blk_cell BK7.out 2).trans (show _ = some (Value.slice none 0 0) from rfl); have v3 := (blk_cell BK7.out 3).trans (show _ = some (Value.bool false) from rfl); have v4 := (blk_cell BK7.out 4).trans (show _ = some (Value.slice none 0 0) from rfl)))
  exact bodyPost_ret (v := .agg #[.int .u64 u_, .int .i64 0, .slice none 0 0, .bool false, .slice none 0 0]) (by simp [results, Try.results53, go_sem, v0, v1, v2, v3, v4]) rfl ⟨⟨_, _, _, _, rfl, Nat.le_refl _, Nat.le_refl _, Kd.C_nil _ _, Kd.C_nil _ _⟩, ⟨A6, c6, HR7.out.mono3 (HZO.out _)⟩, HT7.out⟩
set_option maxRecDepth 100000 in
set_option maxHeartbeats 8000000 in
theorem should_read (W : World) (ok : Nat → Prop) (p : Nat) (s : SS) (A : Option Addr) (c : Nat) (h : Aside0 (RAt W ok p (rOf s) A c)) {m : Nat} (g : Aside0 (St.Good m s)) (hm : Aside0 (m ≤ 800)) (hs : Aside0 (Sized s)) (hf : Aside0 (Fits s)) (A1 : Option Addr) (c1 : Nat) (l : List S102) (low at_ : Int) (lo hi : ByteArray)  :
    Calls Try.prog 53 #[.pointer (some ⟨p, 0, none⟩), .agg #[.int .i64 2, .slice A1 l.length c1, .int .u64 low, .int .u64 at_, .string lo, .string hi]] W (ShPost W ok p ⟨lastF (s.ch lo), 0, (getF (s.ch lo) at_).1, (getF (s.ch lo) at_).2, []⟩ (s)) := by
  have H0 := Aside0.mk (h.out.mono3 (ok' := fun k => ok k ∧ k < W.heap.size) (fun k a_ _ c_ => ⟨a_, c_⟩))
  have hplt := Aside0.mk h.out.lt
  obtain ⟨gb, gi, hgf⟩ : ∃ gb gi, getF (s.ch lo) at_ = (gb, gi) := ⟨_, _, rfl⟩
  obtain ⟨n_, hn_⟩ : ∃ n_, lastF (s.ch lo) = n_ := ⟨_, rfl⟩
  have hKl := Aside0.mk (show (rOf s).K.length ≤ 1000000 by show (ofS s).length ≤ _; rw [ofS_len]; have h1_ := g.out.kn; have h2_ := hm.out; omega)
  have HG := Aside0.mk (show ∃ k, conductorref07_Get.f k (chK (rOf s).K lo) at_ = some (gb, gi) from hgf ▸ r_get_s g.out (by have := hm.out; omega) lo at_)
  have HN := Aside0.mk (show ∃ k, conductorref07_Last.f k (chK (rOf s).K lo) = some n_ by
    rw [show chK (rOf s).K lo = s.ch lo from (KOk.of g.out).ch lo, ← hn_]
    exact r_last (by have h1_ := g.out.ln lo; have h2_ := hm.out; omega) (fun v hv => by have h1_ := g.out.tm lo v hv; have h2_ := g.out.n1; have h3_ := g.out.la; omega))
  rw [hgf, hn_]
  clear hgf hn_
  go_enter Try.func53, Try.ntmps53
  go_wp2_with (first
    | ((with_reducible refine gate_dst (N := 3) rfl ?_); refine box_event ?hg (N := 3) ?hd (cs := #[.int .i64 2, .slice A1 l.length c1, .int .u64 low, .int .u64 at_, .string lo, .string hi]) (t := 55) ?hr ?_; (case hd => rfl); (case hg => rfl); (case hr => first | (go_simp; done) | (go_simp; rfl)); intro g3 hg w1 hbox hb; have HB1 := Aside0.mk hb; have BK3 := Aside0.mk hbox; clear hbox hb hg)
    | ((with_reducible refine gate_dst (N := 4) rfl ?_); refine box_event ?hg (N := 4) ?hd (cs := #[.int .u64 0, .int .i64 0, .slice none 0 0, .bool false, .slice none 0 0]) (t := 58) ?hr ?_; (case hd => rfl); (case hg => rfl); (case hr => first | (go_simp; done) | (go_simp; rfl)); intro g4 hg w2 hbox hb; have HB2 := Aside0.mk (below_step HB1.out hb); have G4 := Aside0.mk (show W.heap.size ≤ g4 by rw [hg]; exact HB1.out.size); have BK4 := Aside0.mk hbox; have L4 := Aside0.mk (blk_lt hbox); have HR2 := Aside0.mk (H0.out.below HB2.out); have BK32 := Aside0.mk (blk_below BK3.out hb); have HT2 := Aside0.mk (Turn.of_below (base := p) HB2.out (Nat.le_of_lt hplt.out) (fun k => k = p)); have o0 := (blk_cell BK32.out 0).trans (show _ = some (Value.int .i64 2) from rfl); have o1 := (blk_cell BK32.out 1).trans (show _ = some (Value.slice A1 l.length c1) from rfl); have o2 := (blk_cell BK32.out 2).trans (show _ = some (Value.int .u64 low) from rfl); have o3 := (blk_cell BK32.out 3).trans (show _ = some (Value.int .u64 at_) from rfl); have o4 := (blk_cell BK32.out 4).trans (show _ = some (Value.string lo) from rfl); have o5 := (blk_cell BK32.out 5).trans (show _ = some (Value.string hi) from rfl); clear hbox hb hg)
    | (go_at_call 79; (with_reducible refine (ref_Read HR2 lo hKl at_ (gb, gi) HG).mono ?_); rintro e w5 ⟨⟨A3, c3, rfl, hl3, hF3⟩, hb⟩; have HF3 := Aside0.mk hF3; have HL3 := Aside0.mk hl3; have HB5 := Aside0.mk hb; have HR5 := Aside0.mk (HR2.out.below hb); have BK35 := Aside0.mk (blk_below BK32.out hb); clear hF3 hl3 hb o0 o1 o2 o3 o4 o5; have o4 := (blk_cell BK35.out 4).trans (show _ = some (Value.string lo) from rfl); have o0 := o4; have o1 := o4; have o2 := o4; have o3 := o4; have o5 := o4)
    | (go_at_call 80; (with_reducible refine (ref_Latest HR5 lo hKl n_ HN).mono ?_); rintro e w6 ⟨rfl, hb⟩; have HB26 := Aside0.mk (below_step HB5.out hb); have HF6 := Aside0.mk (Kd.F_below HF3.out hb); have hR := HR2.out.below HB26.out; obtain ⟨A6, hA6⟩ : ∃ A6, A = A6 := ⟨_, rfl⟩; obtain ⟨c6, hc6⟩ : ∃ c6, c = c6 := ⟨_, rfl⟩; rw [hA6, hc6] at hR; clear hA6 hc6 hb; obtain ⟨okZ, hokZ⟩ : ∃ okZ : Nat → Prop, okZ = (fun k => ok k ∧ k < W.heap.size) := ⟨_, rfl⟩; rw [← hokZ] at hR; have HZ := Aside0.mk (show ∀ k, okZ k → k ≠ g4 from fun k hk_ e => by rw [hokZ] at hk_; have h1_ := G4.out; have := hk_.2; omega); have HZO := Aside0.mk (show ∀ (n_ : Nat) k, okZ k → k ≠ p → k < n_ → ((ok k ∧ k ≠ p) ∨ W.heap.size ≤ k) from fun _ k hk_ hn_ _ => by rw [hokZ] at hk_; exact .inl ⟨hk_.1, hn_⟩); clear hokZ; have HR6 := Aside0.mk hR; clear hR; have BK46 := Aside0.mk (blk_below BK4.out HB26.out); have HT6 := Aside0.mk (HT2.out.then_ (Turn.of_below HB26.out (Nat.le_of_lt HR2.out.lt) (fun _ => False)) (fun _ hk_ => hk_.elim)); clear o0 o1 o2 o3 o4 o5; have z0 := (blk_cell BK46.out 0).trans (show _ = some (Value.int .u64 0) from rfl); have z1 := (blk_cell BK46.out 1).trans (show _ = some (Value.int .i64 0) from rfl); have z2 := (blk_cell BK46.out 2).trans (show _ = some (Value.slice none 0 0) from rfl); have z3 := (blk_cell BK46.out 3).trans (show _ = some (Value.bool false) from rfl); have z4 := (blk_cell BK46.out 4).trans (show _ = some (Value.slice none 0 0) from rfl); have y0 := blk_frozen BK46.out 0; have y1 := blk_frozen BK46.out 1; have y2 := blk_frozen BK46.out 2; have y3 := blk_frozen BK46.out 3; have y4 := blk_frozen BK46.out 4)
    | ((with_reducible refine gate_store (t := 58) (p := 4) rfl ?_); refine store_event (t := 58) (p := 4) (v := ?vo3_) (w1 := ((((w6.setCell ⟨g4, 0, none⟩ (.int .u64 n_)).setCell ⟨g4, 1, none⟩ (.int .i64 0)).setCell ⟨g4, 2, none⟩ (.slice A3 gb.length c3)).setCell ⟨g4, 3, none⟩ (.bool gi)).setCell ⟨g4, 4, none⟩ (.slice none 0 0)) ?hg ?ho ?hn ?hr ?_; (case ho => rfl); (case hg => rfl); (case hn => rfl); (case hr => first | (go_simp; done) | (go_simp; rfl)); intro w7 hw; have HR7 := Aside0.mk (show RAt w7 okZ p (rOf (s)) A6 c6 by rw [hw]; exact HR6.out.set5 g4 (.int .u64 n_) (.int .i64 0) (.slice A3 gb.length c3) (.bool gi) (.slice none 0 0) (by have := hplt.out; have := G4.out; omega) HZ.out); have HT7 := Aside0.mk (show Turn p (fun k => k = p) W w7 by rw [hw]; exact HT6.out.set5 g4 (.int .u64 n_) (.int .i64 0) (.slice A3 gb.length c3) (.bool gi) (.slice none 0 0) (by have := hplt.out; have := G4.out; omega) G4.out); have BK7 := Aside0.mk (show w7.heap[g4]? = some (.cells #[.int .u64 n_, .int .i64 0, .slice A3 gb.length c3, .bool gi, .slice none 0 0] 58 (0, 0)) by rw [hw]; exact blk_put5 BK46.out (.int .u64 n_) (.int .i64 0) (.slice A3 gb.length c3) (.bool gi) (.slice none 0 0)); have HC7 := Aside0.mk (show Kd.C (Kd.int .u8) w7 A3 gb.length gb by rw [hw]; exact Kd.F_now (Kd.F_far (p := ⟨g4, 4, none⟩) (Kd.F_far (p := ⟨g4, 3, none⟩) (Kd.F_far (p := ⟨g4, 2, none⟩) (Kd.F_far (p := ⟨g4, 1, none⟩) (Kd.F_far (p := ⟨g4, 0, none⟩) HF6.out (fun k hk_ e => by have h1_ := G4.out; have h2_ := L4.out; have h3_ : k = g4 := e; rcases hk_ with q | q; (· have := q.2; omega); (· omega)) _) (fun k hk_ e => by have h1_ := G4.out; have h2_ := L4.out; have h3_ : k = g4 := e; rcases hk_ with q | q; (· have := q.2; omega); (· omega)) _) (fun k hk_ e => by have h1_ := G4.out; have h2_ := L4.out; have h3_ : k = g4 := e; rcases hk_ with q | q; (· have := q.2; omega); (· omega)) _) (fun k hk_ e => by have h1_ := G4.out; have h2_ := L4.out; have h3_ : k = g4 := e; rcases hk_ with q | q; (· have := q.2; omega); (· omega)) _) (fun k hk_ e => by have h1_ := G4.out; have h2_ := L4.out; have h3_ : k = g4 := e; rcases hk_ with q | q; (· have := q.2; omega); (· omega)) _)); clear hw z0 z1 z2 z3 z4 y0 y1 y2 y3 y4; have v0 := (blk_cell BK7.out 0).trans (show _ = some (Value.int .u64 n_) from rfl); have v1 := (blk_cell BK7.out 1).trans (show _ = some (Value.int .i64 0) from rfl); have v2 := (blk_cell BK7.out 2).trans (show _ = some (Value.slice A3 gb.length c3) from rfl); have v3 := (blk_cell BK7.out 3).trans (show _ = some (Value.bool gi) from rfl); have v4 := (blk_cell BK7.out 4).trans (show _ = some (Value.slice none 0 0) from rfl)))
  exact bodyPost_ret (v := .agg #[.int .u64 n_, .int .i64 0, .slice A3 gb.length c3, .bool gi, .slice none 0 0]) (by simp [results, Try.results53, go_sem, v0, v1, v2, v3, v4]) rfl ⟨⟨_, _, _, _, rfl, HL3.out, Nat.le_refl _, HC7.out, Kd.C_nil _ _⟩, ⟨A6, c6, HR7.out.mono3 (HZO.out _)⟩, HT7.out⟩
set_option maxRecDepth 100000 in
set_option maxHeartbeats 8000000 in
theorem should_scan (W : World) (ok : Nat → Prop) (p : Nat) (s : SS) (A : Option Addr) (c : Nat) (h : Aside0 (RAt W ok p (rOf s) A c)) {m : Nat} (g : Aside0 (St.Good m s)) (hm : Aside0 (m ≤ 800)) (hs : Aside0 (Sized s)) (hf : Aside0 (Fits s)) (A1 : Option Addr) (c1 : Nat) (l : List S102) (low at_ : Int) (lo hi : ByteArray)  :
    Calls Try.prog 53 #[.pointer (some ⟨p, 0, none⟩), .agg #[.int .i64 3, .slice A1 l.length c1, .int .u64 low, .int .u64 at_, .string lo, .string hi]] W (ShPost W ok p ⟨0, 0, [], false, scanP s lo hi at_⟩ (s)) := by
  have H0 := Aside0.mk (h.out.mono3 (ok' := fun k => ok k ∧ k < W.heap.size) (fun k a_ _ c_ => ⟨a_, c_⟩))
  have hplt := Aside0.mk h.out.lt
  obtain ⟨L, hL⟩ : ∃ L, scanP s lo hi at_ = L := ⟨_, rfl⟩
  have hKl := Aside0.mk (show (rOf s).K.length ≤ 100000 by show (ofS s).length ≤ _; rw [ofS_len]; have h1_ := g.out.kn; have h2_ := hm.out; omega)
  have HSC := Aside0.mk (show scanR (fun x => getF x.f1 at_) lo hi (rOf s).K = L from (scan_K g.out lo hi at_).trans hL)
  have HG := Aside0.mk (show ∀ x ∈ (rOf s).K, ∃ k, conductorref07_Get.f k x.f1 at_ = some ((fun x : S109 => getF x.f1 at_) x) from fun x hx => by
    obtain ⟨q, hq, rfl⟩ := List.mem_map.1 hx
    have h1_ := g.out.ln q
    have h2_ := hm.out
    exact r_get (g.out.rg q) (by show (s.ch q).length ≤ 1000; omega) at_)
  rw [hL]
  clear hL
  go_enter Try.func53, Try.ntmps53
  go_wp2_with (first
    | ((with_reducible refine gate_dst (N := 3) rfl ?_); refine box_event ?hg (N := 3) ?hd (cs := #[.int .i64 3, .slice A1 l.length c1, .int .u64 low, .int .u64 at_, .string lo, .string hi]) (t := 55) ?hr ?_; (case hd => rfl); (case hg => rfl); (case hr => first | (go_simp; done) | (go_simp; rfl)); intro g3 hg w1 hbox hb; have HB1 := Aside0.mk hb; have BK3 := Aside0.mk hbox; clear hbox hb hg)
    | ((with_reducible refine gate_dst (N := 4) rfl ?_); refine box_event ?hg (N := 4) ?hd (cs := #[.int .u64 0, .int .i64 0, .slice none 0 0, .bool false, .slice none 0 0]) (t := 58) ?hr ?_; (case hd => rfl); (case hg => rfl); (case hr => first | (go_simp; done) | (go_simp; rfl)); intro g4 hg w2 hbox hb; have HB2 := Aside0.mk (below_step HB1.out hb); have G4 := Aside0.mk (show W.heap.size ≤ g4 by rw [hg]; exact HB1.out.size); have BK4 := Aside0.mk hbox; have L4 := Aside0.mk (blk_lt hbox); have HR2 := Aside0.mk (H0.out.below HB2.out); have BK32 := Aside0.mk (blk_below BK3.out hb); have HT2 := Aside0.mk (Turn.of_below (base := p) HB2.out (Nat.le_of_lt hplt.out) (fun k => k = p)); have o0 := (blk_cell BK32.out 0).trans (show _ = some (Value.int .i64 3) from rfl); have o1 := (blk_cell BK32.out 1).trans (show _ = some (Value.slice A1 l.length c1) from rfl); have o2 := (blk_cell BK32.out 2).trans (show _ = some (Value.int .u64 low) from rfl); have o3 := (blk_cell BK32.out 3).trans (show _ = some (Value.int .u64 at_) from rfl); have o4 := (blk_cell BK32.out 4).trans (show _ = some (Value.string lo) from rfl); have o5 := (blk_cell BK32.out 5).trans (show _ = some (Value.string hi) from rfl); clear hbox hb hg)
    | (go_at_call 81; (with_reducible refine (ref_Scan HR2 lo hi at_ hKl (fun x => getF x.f1 at_) HG).mono ?_); rw [HSC.out]; rintro e w6 ⟨⟨A3, c3, rfl, hl3, hF3⟩, hb⟩; have HF6 := Aside0.mk hF3; have HL3 := Aside0.mk hl3; have HB26 := Aside0.mk hb; have hR := HR2.out.below hb; obtain ⟨A6, hA6⟩ : ∃ A6, A = A6 := ⟨_, rfl⟩; obtain ⟨c6, hc6⟩ : ∃ c6, c = c6 := ⟨_, rfl⟩; rw [hA6, hc6] at hR; clear hA6 hc6 hb hF3 hl3; obtain ⟨okZ, hokZ⟩ : ∃ okZ : Nat → Prop, okZ = (fun k => ok k ∧ k < W.heap.size) := ⟨_, rfl⟩; rw [← hokZ] at hR; have HZ := Aside0.mk (show ∀ k, okZ k → k ≠ g4 from fun k hk_ e => by rw [hokZ] at hk_; have h1_ := G4.out; have := hk_.2; omega); have HZO := Aside0.mk (show ∀ (n_ : Nat) k, okZ k → k ≠ p → k < n_ → ((ok k ∧ k ≠ p) ∨ W.heap.size ≤ k) from fun _ k hk_ hn_ _ => by rw [hokZ] at hk_; exact .inl ⟨hk_.1, hn_⟩); clear hokZ; have HR6 := Aside0.mk hR; clear hR; have BK46 := Aside0.mk (blk_below BK4.out HB26.out); have HT6 := Aside0.mk (HT2.out.then_ (Turn.of_below HB26.out (Nat.le_of_lt HR2.out.lt) (fun _ => False)) (fun _ hk_ => hk_.elim)); clear o0 o1 o2 o3 o4 o5; have z0 := (blk_cell BK46.out 0).trans (show _ = some (Value.int .u64 0) from rfl); have z1 := (blk_cell BK46.out 1).trans (show _ = some (Value.int .i64 0) from rfl); have z2 := (blk_cell BK46.out 2).trans (show _ = some (Value.slice none 0 0) from rfl); have z3 := (blk_cell BK46.out 3).trans (show _ = some (Value.bool false) from rfl); have z4 := (blk_cell BK46.out 4).trans (show _ = some (Value.slice none 0 0) from rfl); have y0 := blk_frozen BK46.out 0; have y1 := blk_frozen BK46.out 1; have y2 := blk_frozen BK46.out 2; have y3 := blk_frozen BK46.out 3; have y4 := blk_frozen BK46.out 4)
    | ((with_reducible refine gate_store (t := 58) (p := 4) rfl ?_); refine store_event (t := 58) (p := 4) (v := ?vo4_) (w1 := ((((w6.setCell ⟨g4, 0, none⟩ (.int .u64 0)).setCell ⟨g4, 1, none⟩ (.int .i64 0)).setCell ⟨g4, 2, none⟩ (.slice none 0 0)).setCell ⟨g4, 3, none⟩ (.bool false)).setCell ⟨g4, 4, none⟩ (.slice A3 L.length c3)) ?hg ?ho ?hn ?hr ?_; (case ho => rfl); (case hg => rfl); (case hn => rfl); (case hr => first | (go_simp; done) | (go_simp; rfl)); intro w7 hw; have HR7 := Aside0.mk (show RAt w7 okZ p (rOf (s)) A6 c6 by rw [hw]; exact HR6.out.set5 g4 (.int .u64 0) (.int .i64 0) (.slice none 0 0) (.bool false) (.slice A3 L.length c3) (by have := hplt.out; have := G4.out; omega) HZ.out); have HT7 := Aside0.mk (show Turn p (fun k => k = p) W w7 by rw [hw]; exact HT6.out.set5 g4 (.int .u64 0) (.int .i64 0) (.slice none 0 0) (.bool false) (.slice A3 L.length c3) (by have := hplt.out; have := G4.out; omega) G4.out); have BK7 := Aside0.mk (show w7.heap[g4]? = some (.cells #[.int .u64 0, .int .i64 0, .slice none 0 0, .bool false, .slice A3 L.length c3] 58 (0, 0)) by rw [hw]; exact blk_put5 BK46.out (.int .u64 0) (.int .i64 0) (.slice none 0 0) (.bool false) (.slice A3 L.length c3)); have HC7 := Aside0.mk (show Kd.C k62 w7 A3 L.length L by rw [hw]; exact Kd.F_now (Kd.F_far (p := ⟨g4, 4, none⟩) (Kd.F_far (p := ⟨g4, 3, none⟩) (Kd.F_far (p := ⟨g4, 2, none⟩) (Kd.F_far (p := ⟨g4, 1, none⟩) (Kd.F_far (p := ⟨g4, 0, none⟩) HF6.out (fun k hk_ e => by have h1_ := G4.out; have h2_ := L4.out; have h3_ : k = g4 := e; rcases hk_ with q | q; (· have := q.2; omega); (· omega)) _) (fun k hk_ e => by have h1_ := G4.out; have h2_ := L4.out; have h3_ : k = g4 := e; rcases hk_ with q | q; (· have := q.2; omega); (· omega)) _) (fun k hk_ e => by have h1_ := G4.out; have h2_ := L4.out; have h3_ : k = g4 := e; rcases hk_ with q | q; (· have := q.2; omega); (· omega)) _) (fun k hk_ e => by have h1_ := G4.out; have h2_ := L4.out; have h3_ : k = g4 := e; rcases hk_ with q | q; (· have := q.2; omega); (· omega)) _) (fun k hk_ e => by have h1_ := G4.out; have h2_ := L4.out; have h3_ : k = g4 := e; rcases hk_ with q | q; (· have := q.2; omega); (· omega)) _)); clear hw z0 z1 z2 z3 z4 y0 y1 y2 y3 y4; have v0 := (blk_cell BK7.out 0).trans (show _ = some (Value.int .u64 0) from rfl); have v1 := (blk_cell BK7.out 1).trans (show _ = some (Value.int .i64 0) from rfl); have v2 := (blk_cell BK7.out 2).trans (show _ = some (Value.slice none 0 0) from rfl); have v3 := (blk_cell BK7.out 3).trans (show _ = some (Value.bool false) from rfl); have v4 := (blk_cell BK7.out 4).trans (show _ = some (Value.slice A3 L.length c3) from rfl)))
  exact bodyPost_ret (v := .agg #[.int .u64 0, .int .i64 0, .slice none 0 0, .bool false, .slice A3 L.length c3]) (by simp [results, Try.results53, go_sem, v0, v1, v2, v3, v4]) rfl ⟨⟨_, _, _, _, rfl, Nat.le_refl _, HL3.out, Kd.C_nil _ _, HC7.out⟩, ⟨A6, c6, HR7.out.mono3 (HZO.out _)⟩, HT7.out⟩
set_option maxRecDepth 100000 in
set_option maxHeartbeats 8000000 in
theorem should_none (W : World) (ok : Nat → Prop) (p : Nat) (s : SS) (A : Option Addr) (c : Nat) (h : Aside0 (RAt W ok p (rOf s) A c)) {m : Nat} (g : Aside0 (St.Good m s)) (hm : Aside0 (m ≤ 800)) (hs : Aside0 (Sized s)) (hf : Aside0 (Fits s)) (A1 : Option Addr) (c1 : Nat) (l : List S102) (low at_ : Int) (lo hi : ByteArray) (d : Int) (h0 : ¬ d = 0) (h1 : ¬ d = 1) (h2 : ¬ d = 2) (h3 : ¬ d = 3) :
    Calls Try.prog 53 #[.pointer (some ⟨p, 0, none⟩), .agg #[.int .i64 d, .slice A1 l.length c1, .int .u64 low, .int .u64 at_, .string lo, .string hi]] W (ShPost W ok p ⟨0, 0, [], false, []⟩ (s)) := by
  have H0 := Aside0.mk (h.out.mono3 (ok' := fun k => ok k ∧ k < W.heap.size) (fun k a_ _ c_ => ⟨a_, c_⟩))
  have hplt := Aside0.mk h.out.lt
  have b0 : (d == 0) = false := by simpa using h0
  have b1 : (d == 1) = false := by simpa using h1
  have b2 : (d == 2) = false := by simpa using h2
  have b3 : (d == 3) = false := by simpa using h3
  clear h0 h1 h2 h3
  go_enter Try.func53, Try.ntmps53
  go_wp2_with (first
    | ((with_reducible refine gate_dst (N := 3) rfl ?_); refine box_event ?hg (N := 3) ?hd (cs := #[.int .i64 d, .slice A1 l.length c1, .int .u64 low, .int .u64 at_, .string lo, .string hi]) (t := 55) ?hr ?_; (case hd => rfl); (case hg => rfl); (case hr => first | (go_simp; done) | (go_simp; rfl)); intro g3 hg w1 hbox hb; have HB1 := Aside0.mk hb; have BK3 := Aside0.mk hbox; clear hbox hb hg)
    | ((with_reducible refine gate_dst (N := 4) rfl ?_); refine box_event ?hg (N := 4) ?hd (cs := #[.int .u64 0, .int .i64 0, .slice none 0 0, .bool false, .slice none 0 0]) (t := 58) ?hr ?_; (case hd => rfl); (case hg => rfl); (case hr => first | (go_simp; done) | (go_simp; rfl)); intro g4 hg w2 hbox hb; have HB2 := Aside0.mk (below_step HB1.out hb); have G4 := Aside0.mk (show W.heap.size ≤ g4 by rw [hg]; exact HB1.out.size); have BK4 := Aside0.mk hbox; have L4 := Aside0.mk (blk_lt hbox); have HR2 := Aside0.mk (H0.out.below HB2.out); have BK32 := Aside0.mk (blk_below BK3.out hb); have HT2 := Aside0.mk (Turn.of_below (base := p) HB2.out (Nat.le_of_lt hplt.out) (fun k => k = p)); have o0 := (blk_cell BK32.out 0).trans (show _ = some (Value.int .i64 d) from rfl); have o1 := (blk_cell BK32.out 1).trans (show _ = some (Value.slice A1 l.length c1) from rfl); have o2 := (blk_cell BK32.out 2).trans (show _ = some (Value.int .u64 low) from rfl); have o3 := (blk_cell BK32.out 3).trans (show _ = some (Value.int .u64 at_) from rfl); have o4 := (blk_cell BK32.out 4).trans (show _ = some (Value.string lo) from rfl); have o5 := (blk_cell BK32.out 5).trans (show _ = some (Value.string hi) from rfl); have hR := HR2.out; obtain ⟨A6, hA6⟩ : ∃ A6, A = A6 := ⟨_, rfl⟩; obtain ⟨c6, hc6⟩ : ∃ c6, c = c6 := ⟨_, rfl⟩; rw [hA6, hc6] at hR; clear hA6 hc6; obtain ⟨okZ, hokZ⟩ : ∃ okZ : Nat → Prop, okZ = (fun k => ok k ∧ k < W.heap.size) := ⟨_, rfl⟩; rw [← hokZ] at hR; have HZ := Aside0.mk (show ∀ k, okZ k → k ≠ g4 from fun k hk_ e => by rw [hokZ] at hk_; have h1_ := G4.out; have := hk_.2; omega); have HZO := Aside0.mk (show ∀ (n_ : Nat) k, okZ k → k ≠ p → k < n_ → ((ok k ∧ k ≠ p) ∨ W.heap.size ≤ k) from fun _ k hk_ hn_ _ => by rw [hokZ] at hk_; exact .inl ⟨hk_.1, hn_⟩); clear hokZ; have HR6 := Aside0.mk hR; clear hR; have BK46 := BK4; have HT6 := HT2; have z0 := (blk_cell BK46.out 0).trans (show _ = some (Value.int .u64 0) from rfl); have z1 := (blk_cell BK46.out 1).trans (show _ = some (Value.int .i64 0) from rfl); have z2 := (blk_cell BK46.out 2).trans (show _ = some (Value.slice none 0 0) from rfl); have z3 := (blk_cell BK46.out 3).trans (show _ = some (Value.bool false) from rfl); have z4 := (blk_cell BK46.out 4).trans (show _ = some (Value.slice none 0 0) from rfl); have y0 := blk_frozen BK46.out 0; have y1 := blk_frozen BK46.out 1; have y2 := blk_frozen BK46.out 2; have y3 := blk_frozen BK46.out 3; have y4 := blk_frozen BK46.out 4; clear hbox hb hg)
    | ((with_reducible refine gate_store (t := 58) (p := 4) rfl ?_); refine store_event (t := 58) (p := 4) (v := ?vo5_) (w1 := ((((w2.setCell ⟨g4, 0, none⟩ (.int .u64 0)).setCell ⟨g4, 1, none⟩ (.int .i64 0)).setCell ⟨g4, 2, none⟩ (.slice none 0 0)).setCell ⟨g4, 3, none⟩ (.bool false)).setCell ⟨g4, 4, none⟩ (.slice none 0 0)) ?hg ?ho ?hn ?hr ?_; (case ho => rfl); (case hg => rfl); (case hn => rfl); (case hr => first | (go_simp; done) | (go_simp; rfl)); intro w7 hw; have HR7 := Aside0.mk (show RAt w7 okZ p (rOf (s)) A6 c6 by rw [hw]; exact HR6.out.set5 g4 (.int .u64 0) (.int .i64 0) (.slice none 0 0) (.bool false) (.slice none 0 0) (by have := hplt.out; have := G4.out; omega) HZ.out); have HT7 := Aside0.mk (show Turn p (fun k => k = p) W w7 by rw [hw]; exact HT6.out.set5 g4 (.int .u64 0) (.int .i64 0) (.slice none 0 0) (.bool false) (.slice none 0 0) (by have := hplt.out; have := G4.out; omega) G4.out); have BK7 := Aside0.mk (show w7.heap[g4]? = some (.cells #[.int .u64 0, .int .i64 0, .slice none 0 0, .bool false, .slice none 0 0] 58 (0, 0)) by rw [hw]; exact blk_put5 BK46.out (.int .u64 0) (.int .i64 0) (.slice none 0 0) (.bool false) (.slice none 0 0)); skip; clear hw z0 z1 z2 z3 z4 y0 y1 y2 y3 y4; have v0 := (blk_cell BK7.out 0).trans (show _ = some (Value.int .u64 0) from rfl); have v1 := (blk_cell BK7.out 1).trans (show _ = some (Value.int .i64 0) from rfl); have v2 := (blk_cell BK7.out 2).trans (show _ = some (Value.slice none 0 0) from rfl); have v3 := (blk_cell BK7.out 3).trans (show _ = some (Value.bool false) from rfl); have v4 := (blk_cell BK7.out 4).trans (show _ = some (Value.slice none 0 0) from rfl)))
  exact bodyPost_ret (v := .agg #[.int .u64 0, .int .i64 0, .slice none 0 0, .bool false, .slice none 0 0]) (by simp [results, Try.results53, go_sem, v0, v1, v2, v3, v4]) rfl ⟨⟨_, _, _, _, rfl, Nat.le_refl _, Nat.le_refl _, Kd.C_nil _ _, Kd.C_nil _ _⟩, ⟨A6, c6, HR7.out.mono3 (HZO.out _)⟩, HT7.out⟩
end Go.Proofs.Yteofdgonpbmdlaa.R
namespace Go.Proofs.Yteofdgonpbmdlaa.St
open Go.RowKit Go.Maps Go.Proofs.YteofdgonpbmdlaaW.PrintWords Go.Proofs.Yteofdgonpbmdlaa.C Go.Proofs.Yteofdgonpbmdlaa.Pure
theorem rd28' (l : List S28) (i : Nat) (h : i < l.length) : rd_T28 l (i : Int) = l[i] := by
  simp [rd_T28, List.getD_eq_getElem?_getD, h]
theorem goneC_drop (l : List S28) (t : Nat) (ht : t < l.length) : goneC (l.drop t) = goneC l := by
  unfold goneC
  have e1 : ((l.drop t).length : Int) - 1 = ((l.length - t - 1 : Nat) : Int) := by rw [List.length_drop]; omega
  have e2 : (l.length : Int) - 1 = ((l.length - 1 : Nat) : Int) := by omega
  rw [e1, e2, rd28' _ _ (by rw [List.length_drop]; omega), rd28' _ _ (by omega), List.getElem_drop]
  have e3 : (l.drop t).length ≠ 0 := by rw [List.length_drop]; omega
  have e4 : l.length ≠ 0 := by omega
  rw [decide_eq_false e3, decide_eq_false e4]
  congr 2
  congr 1
  omega
theorem goneC_trim {l : List S28} (hs : rgt 0 l = true) (a : Int) : goneC (trimF l a) = goneC l := by
  have hu := up_spec hs a
  have hle := tAt_le l (up l a)
  have hn := hu.1
  unfold trimF
  by_cases h : tAt l (up l a) < l.length
  · exact goneC_drop l _ h
  · rw [List.drop_eq_nil_of_le (by omega)]
    have e : up l a = l.length := by omega
    by_cases h0 : l.length = 0
    · rw [List.eq_nil_of_length_eq_zero h0]
    · have ht : tAt l l.length = l.length := by rw [e] at h hle; omega
      rw [tPos ⟨by omega, Nat.le_refl _⟩] at ht
      have hg : (l[l.length - 1]).f1 = true := by
        cases hx : (l[l.length - 1]).f1 with
        | true => rfl
        | false => rw [if_pos hx] at ht; omega
      unfold goneC
      have e2 : (l.length : Int) - 1 = ((l.length - 1 : Nat) : Int) := by omega
      rw [e2, rd28' _ _ (by omega), hg]
      simp
theorem trim_app {l : List S28} (hs : rgt 0 l = true) (v : S28) (h : ∀ x ∈ l, x.f0 < v.f0) (h0 : 0 < v.f0) (hg : v.f1 = true → v.f2 = []) {a : Int} (ha : a < v.f0) : trimF (l ++ [v]) a = trimF l a ++ [v] := by
  have h1 := up_spec hs a
  have hn := h1.1
  have hle := tAt_le l (up l a)
  have h2 : Upto (l ++ [v]) a (up l a) := by
    refine ⟨by simp; omega, fun j hj hlt => ?_, fun j hj hge => ?_⟩
    · rw [List.getElem_append_left (by omega)]; exact h1.2.1 j (by omega) hlt
    · by_cases hjl : j < l.length
      · rw [List.getElem_append_left hjl]; exact h1.2.2 j hjl hge
      · rw [List.getElem_append_right (by omega)]; simpa using ha
  have e : up (l ++ [v]) a = up l a := up_is (rgt_app hs v h h0 hg) h2
  have e2 : tAt (l ++ [v]) (up l a) = tAt l (up l a) := by
    by_cases hp : 0 < up l a
    · rw [tPos ⟨hp, by simp; omega⟩, tPos ⟨hp, hn⟩, List.getElem_append_left (by omega)]
    · unfold tAt
      rw [dif_neg (fun q => hp q.1), dif_neg (fun q => hp q.1)]
  unfold trimF
  rw [e, e2, List.drop_append_of_le_length (by omega)]
theorem comesL_congr {c1 c2 : ByteArray → List S28} (h : ∀ k, goneC (c1 k) = goneC (c2 k)) : ∀ l : List S102, comesL c1 l = comesL c2 l
  | [] => rfl
  | x :: t => by simp only [comesL, h, comesL_congr h t]
structure Uns (low : Int) (m : Nat) (s0 s x : SS) : Prop where
  ls : Lim m s0 s
  lx : Lim m s0 x
  now : s.now = x.now
  tr : ∀ key, trimF (s.ch key) low = trimF (x.ch key) low
theorem Uns.get {low a : Int} {m : Nat} {s0 s x : SS} (h : Uns low m s0 s x) (hl : low ≤ a) (key : ByteArray) : getF (s.ch key) a = getF (x.ch key) a := by
  rw [← get_trimF (h.ls.good.rg key) hl, ← get_trimF (h.lx.good.rg key) hl, h.tr key]
theorem Uns.scan {low a : Int} {m : Nat} {s0 s x : SS} (h : Uns low m s0 s x) (hl : low ≤ a) (lo hi : ByteArray) : scanP s lo hi a = scanP x lo hi a :=
  scan_eq h.ls.good h.lx.good lo hi a (h.get hl)
theorem Uns.gone {low : Int} {m : Nat} {s0 s x : SS} (h : Uns low m s0 s x) (key : ByteArray) : goneC (s.ch key) = goneC (x.ch key) := by
  rw [← goneC_trim (h.ls.good.rg key) low, ← goneC_trim (h.lx.good.rg key) low, h.tr key]
/-- What a store collected would come to is no more than what it would come to as it is. -/
theorem col_sizes {m : Nat} {s0 s : SS} (h : Lim m s0 s) {l : List S102} (hl : l.length ≤ 20) (hk : ∀ x ∈ l, x.f0.size ≤ 300) (hd : ∀ x ∈ l, x.f2.length ≤ 5000) (hw : WOk l) (low : Int) (hfit : fitsB s (sizesOf s l) = true) : fitsB (colP s low) (sizesOf (colP s low) l) = true := by
  obtain ⟨hs1, hf1⟩ := h.sized.col h.good h.fits low
  have hg1 := h.good.col low
  have hch : ∀ k, (colP s low).ch k = trimF (s.ch k) low := fun k => by rw [h.good.col_ch]
  have hLe : comesL (colP s low).ch l = comesL s.ch l := comesL_congr (fun k => by rw [hch]; exact goneC_trim (h.good.rg k) low) l
  have hn : ((comesL s.ch l).map (·.f0)).Nodup := (hw.sub (comesL_sub s.ch l)).so.nodup
  have e := sizes_true h.good h.sized h.fits hl hk hd hn
  have e1 := sizes_true hg1 hs1 hf1 hl hk hd (by rw [hLe]; exact hn)
  rw [hLe] at e1
  obtain ⟨so, me⟩ := insK_all (pfP s (comesL s.ch l)) (comesL s.ch l) s.keys h.good.so hn (pf_len h.good hn)
  obtain ⟨so1, me1⟩ := insK_all (pfP (colP s low) (comesL s.ch l)) (comesL s.ch l) (colP s low).keys hg1.so hn (pf_len hg1 hn)
  have hsub : ∀ q ∈ insK (pfP (colP s low) (comesL s.ch l)) (comesL s.ch l) (colP s low).keys, q ∈ insK (pfP s (comesL s.ch l)) (comesL s.ch l) s.keys := fun q hq => by
    rw [me]
    rcases (me1 q).1 hq with e2 | e2
    · rw [col_keys] at e2
      exact .inl (List.mem_filter.1 e2).1
    · exact .inr e2
  have hv : ∀ k, pfP (colP s low) (comesL s.ch l) k = trimF (s.ch k) low ++ ((comesL s.ch l).filter (fun x => decide (x.f0 = k))).map (verOf s.now) := fun k => by
    unfold pfP
    rw [hch]
    rfl
  have i0 : (insK (pfP (colP s low) (comesL s.ch l)) (comesL s.ch l) (colP s low).keys).length ≤ (insK (pfP s (comesL s.ch l)) (comesL s.ch l) s.keys).length := by
    rw [← sumK_one, ← sumK_one]
    exact sumK_sub so1.nodup hsub (fun _ _ => Nat.le_refl _)
  have i1 : sumK (vN (pfP (colP s low) (comesL s.ch l))) (insK (pfP (colP s low) (comesL s.ch l)) (comesL s.ch l) (colP s low).keys) ≤ sumK (vN (pfP s (comesL s.ch l))) (insK (pfP s (comesL s.ch l)) (comesL s.ch l) s.keys) := by
    refine sumK_sub so1.nodup hsub (fun k _ => ?_)
    show (pfP (colP s low) (comesL s.ch l) k).length ≤ (pfP s (comesL s.ch l) k).length
    rw [hv, List.length_append]
    have := trim_len (s.ch k) low
    show _ ≤ (s.ch k ++ ((comesL s.ch l).filter (fun x => decide (x.f0 = k))).map (verOf s.now)).length
    rw [List.length_append]
    omega
  have i2 : sumK (bN (pfP (colP s low) (comesL s.ch l))) (insK (pfP (colP s low) (comesL s.ch l)) (comesL s.ch l) (colP s low).keys) ≤ sumK (bN (pfP s (comesL s.ch l))) (insK (pfP s (comesL s.ch l)) (comesL s.ch l) s.keys) := by
    refine sumK_sub so1.nodup hsub (fun k _ => ?_)
    show k.size + dsz (pfP (colP s low) (comesL s.ch l) k) ≤ k.size + dsz (s.ch k ++ ((comesL s.ch l).filter (fun x => decide (x.f0 = k))).map (verOf s.now))
    rw [hv, dsz_vers, dsz_vers]
    have := dsz_sub (trim_sub (s.ch k) low)
    omega
  have hb : ((sizesOf s l).1 ≤ s.l0 ∧ (sizesOf s l).2.1 ≤ s.l1) ∧ (sizesOf s l).2.2 ≤ s.l2 := by
    simpa only [fitsB, Bool.and_eq_true, decide_eq_true_eq] using hfit
  rw [e] at hb
  simp only [fitsB, Bool.and_eq_true, decide_eq_true_eq, e1]
  show ((_ ≤ s.l0 ∧ _ ≤ s.l1) ∧ _ ≤ s.l2)
  obtain ⟨⟨b0, b1⟩, b2⟩ := hb
  refine ⟨⟨?_, ?_⟩, ?_⟩
  · exact Int.le_trans (Int.ofNat_le.2 i0) b0
  · exact Int.le_trans (Int.ofNat_le.2 i1) b1
  · exact Int.le_trans (Int.ofNat_le.2 i2) b2
section
variable {low : Int} {m : Nat} {s0 s x : SS}
theorem Uns.colCh (h : Uns low m s0 s x) : (colP s low).ch = (colP x low).ch := by
  rw [h.ls.good.col_ch, h.lx.good.col_ch]
  exact funext h.tr
theorem Uns.colKeys (h : Uns low m s0 s x) : (colP s low).keys = (colP x low).keys :=
  sorted_ext (h.ls.good.col low).so (h.lx.good.col low).so (fun q => by rw [(h.ls.good.col low).me, (h.lx.good.col low).me, h.colCh])
theorem Uns.colFits (h : Uns low m s0 s x) (l : List S102) : fitsB (colP s low) (sizesOf (colP s low) l) = fitsB (colP x low) (sizesOf (colP x low) l) := by
  obtain ⟨hs, _⟩ := h.ls.sized.col h.ls.good h.ls.fits low
  obtain ⟨hx, _⟩ := h.lx.sized.col h.lx.good h.lx.fits low
  have e0 : (colP s low).n0 = (colP x low).n0 := by rw [hs.z0, hx.z0, h.colKeys]
  have e1 : (colP s low).n1 = (colP x low).n1 := by rw [hs.z1, hx.z1, h.colKeys, h.colCh]
  have e2 : (colP s low).n2 = (colP x low).n2 := by rw [hs.z2, hx.z2, h.colKeys, h.colCh]
  have f0 : (colP s low).l0 = (colP x low).l0 := h.ls.l0.trans h.lx.l0.symm
  have f1 : (colP s low).l1 = (colP x low).l1 := h.ls.l1.trans h.lx.l1.symm
  have f2 : (colP s low).l2 = (colP x low).l2 := h.ls.l2.trans h.lx.l2.symm
  unfold sizesOf fitsB
  rw [h.colCh, e0, e1, e2, f0, f1, f2]
theorem ok_col (h : Lim m s0 s) {l : List S102} (hl : l.length ≤ 20) (hk : ∀ x ∈ l, x.f0.size ≤ 300) (hd : ∀ x ∈ l, x.f2.length ≤ 5000) (hw : WOk l) (low : Int) :
    fitsB (comS s l low) (sizesOf (comS s l low) l) = fitsB (colP s low) (sizesOf (colP s low) l) := by
  by_cases hf : fitsB s (sizesOf s l) = true
  · have e : comS s l low = s := if_pos hf
    rw [e, hf, col_sizes h hl hk hd hw low hf]
  · have e : comS s l low = colP s low := if_neg hf
    rw [e]
theorem trim_coS (h : Good m s) (l : List S102) (low : Int) (k : ByteArray) : trimF ((comS s l low).ch k) low = trimF (s.ch k) low := by
  rcases comS_cases s l low with e | e <;> rw [e]
  rw [h.col_ch]
  exact trim_trim (h.rg k) (Int.le_refl low)
theorem gone_coS (h : Good m s) (l : List S102) (low : Int) (k : ByteArray) : goneC ((comS s l low).ch k) = goneC (s.ch k) := by
  rcases comS_cases s l low with e | e <;> rw [e]
  rw [h.col_ch]
  exact goneC_trim (h.rg k) low
theorem Uns.comL (h : Uns low m s0 s x) (l : List S102) : comL s l low = comL x l low :=
  comesL_congr (fun k => by rw [gone_coS h.ls.good, gone_coS h.lx.good, h.gone]) l
theorem trim_put (h : Good m s) {l : List S102} (hw : WOk l) (low : Int) (hlow : low ≤ s.now) (N : Int × Int × Int) (k : ByteArray) :
    trimF ((putS (comS s l low) (pfP (comS s l low) (comL s l low)) (comL s l low) N).ch k) low = trimF (s.ch k) low ++ ((comL s l low).filter (fun x => decide (x.f0 = k))).map (verOf s.now) := by
  have hch : (putS (comS s l low) (pfP (comS s l low) (comL s l low)) (comL s l low) N).ch = pfP (comS s l low) (comL s l low) := pf_colCh _ _
  rw [hch]
  have hw2 : WOk (comL s l low) := hw.sub (comesL_sub (comS s l low).ch l)
  have hg := h.coS l low
  have hnow := comS_now s l low
  have h0 := h.n0
  rw [← trim_coS h l low k]
  by_cases hk : k ∈ (comL s l low).map (·.f0)
  · obtain ⟨y, hy, rfl⟩ := List.mem_map.1 hk
    rw [pf_at hw2.so.nodup hy, filter_one _ hw2.so.nodup y hy, hnow]
    exact trim_app (hg.rg _) (verOf s.now y) (fun z hz => by have := hg.tm _ z hz; rw [hnow] at this; show z.f0 < s.now + 1; omega) (by show 0 < s.now + 1; omega) (hw2.go y hy) (by show low < s.now + 1; omega)
  · rw [pf_not hk]
    have : (comL s l low).filter (fun x => decide (x.f0 = k)) = [] := List.filter_eq_nil_iff.2 (fun y hy e => hk (List.mem_map.2 ⟨y, hy, of_decide_eq_true e⟩))
    rw [this]
    simp
theorem Uns.com (h : Uns low m s0 s x) {l : List S102} (hl : l.length ≤ 20) (hk : ∀ x ∈ l, x.f0.size ≤ 300) (hd : ∀ x ∈ l, x.f2.length ≤ 5000) (hlow : low ≤ s.now) :
    (comP s l low).1 = (comP x l low).1 ∧ (comP s l low).2.1 = (comP x l low).2.1 ∧ (comP s l low).2.2.now = (comP x l low).2.2.now ∧ ∀ key, trimF ((comP s l low).2.2.ch key) low = trimF ((comP x l low).2.2.ch key) low := by
  have hla : s.last = x.last := h.ls.la.trans h.lx.la.symm
  unfold comP comR
  by_cases h1 : chkL none l ≠ 0
  · rw [if_pos h1, if_pos h1]
    exact ⟨rfl, rfl, h.now, h.tr⟩
  rw [if_neg h1, if_neg h1]
  by_cases h2 : l.length = 0
  · rw [if_pos h2, if_pos h2]
    exact ⟨h.now, rfl, h.now, h.tr⟩
  rw [if_neg h2, if_neg h2, ← hla, ← h.now]
  by_cases h3 : s.last ≤ s.now
  · rw [if_pos h3, if_pos h3]
    exact ⟨rfl, rfl, h.now, h.tr⟩
  rw [if_neg h3, if_neg h3]
  have hw := chk_wok (Classical.not_not.1 h1)
  have e : fitsB (comS s l low) (sizesOf (comS s l low) l) = fitsB (comS x l low) (sizesOf (comS x l low) l) := by
    rw [ok_col h.ls hl hk hd hw, ok_col h.lx hl hk hd hw, h.colFits]
  show (if fitsB (comS s l low) (sizesOf (comS s l low) l) = true then _ else _ : Int × Int × SS).1 = (if fitsB (comS x l low) (sizesOf (comS x l low) l) = true then _ else _ : Int × Int × SS).1 ∧ (if fitsB (comS s l low) (sizesOf (comS s l low) l) = true then _ else _ : Int × Int × SS).2.1 = (if fitsB (comS x l low) (sizesOf (comS x l low) l) = true then _ else _ : Int × Int × SS).2.1 ∧ (if fitsB (comS s l low) (sizesOf (comS s l low) l) = true then _ else _ : Int × Int × SS).2.2.now = (if fitsB (comS x l low) (sizesOf (comS x l low) l) = true then _ else _ : Int × Int × SS).2.2.now ∧ ∀ key, trimF ((if fitsB (comS s l low) (sizesOf (comS s l low) l) = true then _ else _ : Int × Int × SS).2.2.ch key) low = trimF ((if fitsB (comS x l low) (sizesOf (comS x l low) l) = true then _ else _ : Int × Int × SS).2.2.ch key) low
  rw [← e]
  by_cases h4 : fitsB (comS s l low) (sizesOf (comS s l low) l) = true
  · rw [if_pos h4, if_pos h4]
    refine ⟨rfl, rfl, ?_, fun key => ?_⟩
    · show (comS s l low).now + 1 = (comS x l low).now + 1
      rw [comS_now, comS_now, h.now]
    · have e1 := trim_put h.ls.good hw low hlow (sizesOf (comS s l low) l) key
      have e2 := trim_put h.lx.good hw low (h.now ▸ hlow) (sizesOf (comS x l low) l) key
      refine e1.trans (Eq.trans ?_ e2.symm)
      rw [h.tr key, h.comL, h.now]
  · rw [if_neg h4, if_neg h4]
    refine ⟨rfl, rfl, ?_, fun key => ?_⟩
    · show (comS s l low).now = (comS x l low).now
      rw [comS_now, comS_now, h.now]
    · show trimF ((comS s l low).ch key) low = trimF ((comS x l low).ch key) low
      rw [trim_coS h.ls.good, trim_coS h.lx.good, h.tr key]
theorem Uns.op (h : Uns low m s0 s x) {o : S55} (ho : FewOp o) (h1 : o.f0 ≠ 1) (hlow : o.f2 = low) (hn : low ≤ s.now) (ha : low ≤ o.f3) :
    Uns low (m + 1) s0 (opP s o).2 (opP x o).2 ∧ (opP s o).1.e = (opP x o).1.e ∧ (opP s o).1.b = (opP x o).1.b ∧ (opP s o).1.is = (opP x o).1.is ∧ (opP s o).1.sc = (opP x o).1.sc ∧ (o.f0 ≠ 2 → (opP s o).1.n = (opP x o).1.n) := by
  have hls := h.ls.op ho
  have hlx := h.lx.op ho
  by_cases h0 : o.f0 = 0
  · simp only [opP, if_pos h0, hlow] at hls hlx ⊢
    obtain ⟨a, b, c, d⟩ := h.com ho.len ho.key ho.dat hn
    exact ⟨⟨hls, hlx, c, d⟩, b, trivial, trivial, trivial, fun _ => a⟩
  by_cases h2 : o.f0 = 2
  · simp only [opP, if_neg h0, if_neg h1, if_pos h2] at hls hlx ⊢
    exact ⟨⟨hls, hlx, h.now, h.tr⟩, trivial, by rw [h.get ha], by rw [h.get ha], trivial, fun e => absurd h2 e⟩
  by_cases h3 : o.f0 = 3
  · simp only [opP, if_neg h0, if_neg h1, if_neg h2, if_pos h3] at hls hlx ⊢
    exact ⟨⟨hls, hlx, h.now, h.tr⟩, trivial, trivial, trivial, h.scan ha _ _, fun _ => trivial⟩
  simp only [opP, if_neg h0, if_neg h1, if_neg h2, if_neg h3] at hls hlx ⊢
  exact ⟨⟨hls, hlx, h.now, h.tr⟩, trivial, trivial, trivial, trivial, fun _ => trivial⟩
end
end Go.Proofs.Yteofdgonpbmdlaa.St
namespace Go.Proofs.Yteofdgonpbmdlaa.St
open Go.RowKit Go.Maps Go.Proofs.YteofdgonpbmdlaaW.PrintWords Go.Proofs.YteofdgonpbmdlaaW.PrintLast Go.Proofs.YteofdgonpbmdlaaW.PrintMore Go.Proofs.Yteofdgonpbmdlaa.C Go.Proofs.Yteofdgonpbmdlaa.Pure
theorem oth_ex {W W1 : World} {base p n g mb : Nat} {B : Nat → Prop} {s : SS} {kv : Value} {D : DataW Value} (h : StoreAt W base B p s kv mb n D) (hb : Below W.heap.size W W1) (h1 : W.heap.size ≤ g) (h2 : g < W1.heap.size) : StoreAt W1 base (fun k => B k ∧ k ≠ g) p s kv mb n D :=
  h.move hb.size (fun k _ hl => hb.block k hl) (fun k hk hl => ⟨hk, by omega⟩) (fun k hk => h.bb k hk.1) (fun k hk => ⟨h.bn k (Nat.le_trans hb.size hk), by omega⟩)
theorem same_told (n e : Int) (b : List Int) (is : Bool) (c : List S62) (hc : c.length ≤ 9223372036854775807) : ∃ k, conductorlaw08_same.f k n e b is c n e b is c = some true := by
  obtain ⟨k, hk⟩ := same_refl c hc
  refine ⟨k, ?_⟩
  unfold conductorlaw08_same.f
  rw [if_pos rfl, if_pos rfl, equal_refl b]
  simp [hk]
theorem told_sc {m : Nat} {s : SS} (g : Good m s) (o : S55) : (opP s o).1.sc.length ≤ 20 * m := by
  by_cases h0 : o.f0 = 0
  · simp only [opP, if_pos h0]; exact Nat.zero_le _
  by_cases h1 : o.f0 = 1
  · simp only [opP, if_neg h0, if_pos h1]; exact Nat.zero_le _
  by_cases h2 : o.f0 = 2
  · simp only [opP, if_neg h0, if_neg h1, if_pos h2]; exact Nat.zero_le _
  by_cases h3 : o.f0 = 3
  · simp only [opP, if_neg h0, if_neg h1, if_neg h2, if_pos h3]; exact scan_len g _ _ _
  · simp only [opP, if_neg h0, if_neg h1, if_neg h2, if_neg h3]; exact Nat.zero_le _
end Go.Proofs.Yteofdgonpbmdlaa.St
namespace Go.Proofs.Yteofdgonpbmdlaa.R
open Go.RowKit Go.Maps Go.Proofs.YteofdgonpbmdlaaW.PrintWords Go.Proofs.Yteofdgonpbmdlaa.C Go.Proofs.Yteofdgonpbmdlaa.St Go.Proofs.Yteofdgonpbmdlaa.Pure
theorem should_op (W : World) (ok : Nat → Prop) (p : Nat) (s : SS) (A : Option Addr) (c : Nat) (h : Aside0 (RAt W ok p (rOf s) A c)) {m : Nat} (g : Aside0 (St.Good m s)) (hm : Aside0 (m ≤ 800)) (hs : Aside0 (Sized s)) (hf : Aside0 (Fits s)) (o : S55) (ho : Aside0 (FewOp o)) (A1 : Option Addr) (c1 : Nat) (hF : Aside0 (Kd.F k102 W (fun k => (ok k ∧ k < W.heap.size) ∧ k ≠ p) A1 o.f1.length o.f1)) (hlc : Aside0 (o.f1.length ≤ c1)) :
    Calls Try.prog 53 #[.pointer (some ⟨p, 0, none⟩), .agg #[.int .i64 o.f0, .slice A1 o.f1.length c1, .int .u64 o.f2, .int .u64 o.f3, .string o.f4, .string o.f5]] W (ShPost W ok p (opP s o).1 (opP s o).2) := by
  by_cases h0 : o.f0 = 0
  · have e : opP s o = (⟨(comP s o.f1 o.f2).1, (comP s o.f1 o.f2).2.1, [], false, []⟩, (comP s o.f1 o.f2).2.2) := if_pos h0
    rw [e, h0]
    exact should_commit W ok p s A c h g hm hs hf A1 c1 o.f1 o.f2 o.f3 o.f4 o.f5 hF hlc ⟨ho.out.len⟩ ⟨ho.out.key⟩ ⟨ho.out.dat⟩
  by_cases h1 : o.f0 = 1
  · have e : opP s o = (⟨IntKind.u64.wrap (wentP s o.f2), 0, [], false, []⟩, colP s o.f2) := (if_neg h0).trans (if_pos h1)
    rw [e, h1]
    exact should_collect W ok p s A c h g hm hs hf A1 c1 o.f1 o.f2 o.f3 o.f4 o.f5
  by_cases h2 : o.f0 = 2
  · have e : opP s o = (⟨lastF (s.ch o.f4), 0, (getF (s.ch o.f4) o.f3).1, (getF (s.ch o.f4) o.f3).2, []⟩, s) := (if_neg h0).trans ((if_neg h1).trans (if_pos h2))
    rw [e, h2]
    exact should_read W ok p s A c h g hm hs hf A1 c1 o.f1 o.f2 o.f3 o.f4 o.f5
  by_cases h3 : o.f0 = 3
  · have e : opP s o = (⟨0, 0, [], false, scanP s o.f4 o.f5 o.f3⟩, s) := (if_neg h0).trans ((if_neg h1).trans ((if_neg h2).trans (if_pos h3)))
    rw [e, h3]
    exact should_scan W ok p s A c h g hm hs hf A1 c1 o.f1 o.f2 o.f3 o.f4 o.f5
  · have e : opP s o = (⟨0, 0, [], false, []⟩, s) := (if_neg h0).trans ((if_neg h1).trans ((if_neg h2).trans (if_neg h3)))
    rw [e]
    exact should_none W ok p s A c h g hm hs hf A1 c1 o.f1 o.f2 o.f3 o.f4 o.f5 o.f0 h0 h1 h2 h3
section
variable {W W' : World} {base p p3 mb : Nat} {kv kv' : Value} {r : RS} {A : Option Addr} {c : Nat}
theorem RAt.freeTurn (h : RAt W (Free p mb kv W) p3 r A c) (hT : Turn base (Own p mb kv) W W') (hK : ∀ q, kv'.ownBlock = some q → kv.ownBlock = some q ∨ W.heap.size ≤ q) (hp : ¬ Own p mb kv p3) : RAt W' (Free p mb kv' W') p3 r A c :=
  ⟨(hT.keep p3 h.lt hp).trans h.cells, h.cap, Kd.F_mono (Kd.F_step h.row (fun q hq hl => hT.keep q hl hq.1.2)) (fun q hq => ⟨⟨Nat.lt_of_lt_of_le hq.1.1 hT.below.size, fun ho => by
    rcases ho with e | e | e
    · exact hq.1.2 (.inl e)
    · exact hq.1.2 (.inr (.inl e))
    · rcases hK q e.symm with e2 | e2
      · exact hq.1.2 (.inr (.inr e2.symm))
      · have := hq.1.1
        omega⟩, hq.2⟩)⟩
theorem RAt.freeBelow (h : RAt W (Free p mb kv W) p3 r A c) (hb : Below W.heap.size W W') : RAt W' (Free p mb kv W') p3 r A c :=
  (h.below hb).mono3 (fun _ hk _ _ => ⟨Nat.lt_of_lt_of_le hk.1 hb.size, hk.2⟩)
theorem RAt.freeNew {B : Nat → Prop} {s : SS} {n : Nat} {D : DataW Value} (hS : StoreAt W base B p s kv mb n D) (h : RAt W' (fun k => (Free p mb kv W k ∧ k ≠ p3) ∨ W.heap.size ≤ k) p3 r A c) (hsz : W.heap.size ≤ W'.heap.size) : RAt W' (Free p mb kv W') p3 r A c :=
  h.mono3 (fun k hk _ hl => ⟨hl, fun ho => hk.elim (fun q => q.1.2 ho) (fun q => by have := (hS.own ho).2.2; omega)⟩)
theorem _root_.Go.Proofs.Yteofdgonpbmdlaa.C.StoreAt.aside {B : Nat → Prop} {s : SS} {n : Nat} {D : DataW Value} (hS : StoreAt W base B p s kv mb n D) (hT : Turn p3 (fun k => k = p3) W W') (hB : ∀ k, B k → k ≠ p3) : StoreAt W' base B p s kv mb n D :=
  hS.frame hT.below.size (fun k hk hl => hT.keep k hl (hB k hk))
end
/-- The empty key has no chain. -/
theorem empty_op {m : Nat} {s : SS} (h : St.Good m s) (he : s.ch ⟨#[]⟩ = []) (o : S55) : (opP s o).2.ch ⟨#[]⟩ = [] := by
  have hcol : ∀ low, (colP s low).ch ⟨#[]⟩ = [] := fun low => by
    rw [h.col_ch]
    show trimF (s.ch ⟨#[]⟩) low = []
    rw [he, trimF_nil]
  unfold opP
  split
  · show (comP s o.f1 o.f2).2.2.ch ⟨#[]⟩ = []
    unfold comP comR
    split
    · exact he
    rename_i h1
    split
    · exact he
    split
    · exact he
    have hw := chk_wok (Classical.not_not.1 h1)
    have hs1 : (comS s o.f1 o.f2).ch ⟨#[]⟩ = [] := by
      rcases comS_cases s o.f1 o.f2 with e | e <;> rw [e]
      · exact he
      · exact hcol o.f2
    split
    · refine (congrFun (pf_colCh (comS s o.f1 o.f2) (comL s o.f1 o.f2)) ⟨#[]⟩).trans ?_
      rw [pf_not (fun hm => ?_)]
      · exact hs1
      · obtain ⟨x, hx, hxe⟩ := List.mem_map.1 hm
        exact hw.ne x ((comesL_sub (comS s o.f1 o.f2).ch o.f1).mem hx) (by rw [hxe]; decide +kernel)
    · exact hs1
  split
  · exact hcol o.f2
  split
  · exact he
  split <;> exact he
theorem empty_run : ∀ (l : List S55) {m : Nat} {s : SS} (_ : St.Good m s) (_ : s.ch ⟨#[]⟩ = []) (_ : ∀ o ∈ l, FewOp o), (runP s l).ch ⟨#[]⟩ = []
  | [], _, _, _, he, _ => he
  | o :: t, _, _, h, he, hf => empty_run t (h.op (hf o (List.mem_cons_self ..))) (empty_op h he o) (fun x hx => hf x (List.mem_cons_of_mem _ hx))
end Go.Proofs.Yteofdgonpbmdlaa.R
namespace Go.Proofs.Yteofdgonpbmdlaa.C
open Go.RowKit Go.Maps Go.Proofs.YteofdgonpbmdlaaW.PrintWords Go.Proofs.YteofdgonpbmdlaaW.PrintLast Go.Proofs.YteofdgonpbmdlaaW.PrintMore
attribute [local go_sem] max2_int min2_int max2_str min2_str str_leq str_gtr str_geq max_two min_two max_three min_three max_four min_four
set_option maxHeartbeats 1000000 in
theorem store_is.nil (W : World) : Calls Try.prog 70 #[.pointer none] W fun e w' => e = .returned (.bool false) ∧ w' = W := by
  go_enter Try.func70, Try.ntmps70
  go_wp2
  go_ret
  exact ⟨rfl, rfl⟩
set_option maxHeartbeats 1000000 in
theorem store_is.zero (W : World) (g : Nat) (h9 : W.cell? ⟨g, 9, none⟩ = some (.map none)) : Calls Try.prog 70 #[.pointer (some ⟨g, 0, none⟩)] W fun e w' => e = .returned (.bool false) ∧ w' = W := by
  have hne := fun (W : World) (r : Option Nat) => run_neq_map_nil (P := Try.prog) W 89 9 22 r Try.underlying89
  go_enter Try.func70, Try.ntmps70
  go_wp2
  go_ret
  exact ⟨rfl, rfl⟩
end Go.Proofs.Yteofdgonpbmdlaa.C
namespace Go.Proofs.Yteofdgonpbmdlaa.St
open Go.RowKit Go.Maps Go.Proofs.YteofdgonpbmdlaaW.PrintWords Go.Proofs.YteofdgonpbmdlaaW.PrintLast Go.Proofs.YteofdgonpbmdlaaW.PrintMore Go.Proofs.Yteofdgonpbmdlaa.C Go.Proofs.Yteofdgonpbmdlaa.Pure
attribute [local go_sem] max2_int min2_int max2_str min2_str str_leq str_gtr str_geq max_two min_two max_three min_three max_four min_four
theorem neq72 (a b c : Int) (w : World) : (binOp .neq 72 (.agg #[.int .i64 a, .int .i64 b, .int .i64 c]) (.agg #[.int .i64 a, .int .i64 b, .int .i64 c])).run Try.prog w = .ok (.bool false) w := by
  have hp : Try.prog.stoodInHeld 72 = false := by kernel_rfl
  go_simp
end Go.Proofs.Yteofdgonpbmdlaa.St
