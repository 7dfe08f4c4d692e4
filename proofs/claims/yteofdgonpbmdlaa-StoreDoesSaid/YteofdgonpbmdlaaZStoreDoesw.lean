/- Texts of this session, merged for the law StoreDoes: TR, TS, PC, C36. No condition. -/
import Derived.Test.YteofdgonpbmdlaaZStoreDoesv
import Derived.Test.YteofdgonpbmdlaaZStoreDoesu
import Derived.Test.YteofdgonpbmdlaaZStoreDoesd
import Derived.Test.YteofdgonpbmdlaaZStoreDoesp
set_option linter.unusedVariables false
set_option linter.unusedSimpArgs false
namespace Go.Proofs.Yteofdgonpbmdlaa.C
open Go.RowKit Go.Maps Go.Proofs.YteofdgonpbmdlaaW.PrintWords Go.Proofs.YteofdgonpbmdlaaW.PrintLast Go.Proofs.YteofdgonpbmdlaaW.PrintMore
attribute [local go_sem] max2_int min2_int max2_str min2_str str_leq str_gtr str_geq max_two min_two max_three min_three max_four min_four
theorem StoreAt.setFar {W : World} {base p : Nat} {B : Nat → Prop} {s : SS} {kv : Value} {mb n : Nat} {D : DataW Value} (h : StoreAt W base B p s kv mb n D) (g j : Nat) (u : Value) (hg : ∀ k, B k → k ≠ g) : StoreAt (W.setCell ⟨g, j, none⟩ u) base B p s kv mb n D :=
  h.frame (by simp [World.setCell]) (fun k hk _ => Below.heap_setCell W ⟨g, j, none⟩ u k (hg k hk))
theorem KeysAt.cOf {W : World} {base : Nat} {ok : Nat → Prop} {A : Option Addr} {c : Nat} {keys : List ByteArray} (h : KeysAt W base ok (.slice A keys.length c) keys) : Kd.string.C W A keys.length keys := by
  obtain ⟨A1, c1, e, _, hC⟩ := h.row
  injection e with e1 _ _
  rw [e1]
  exact hC
theorem wrap_u64_small {x : Int} (h : 0 ≤ x) (h2 : x ≤ 18446744073709551615) : IntKind.u64.wrap x = x := by
  have := IntKind.wrap_u64 x
  omega
theorem midP_zero (s : SS) (pf : ByteArray → List S28) : midP s pf [] = { s with now := s.now + 1 } := by
  have e : colCh (([] : List S102).map (·.f0)) pf s.ch = s.ch := by funext q; simp [colCh, hasK]
  unfold midP
  rw [e]
  rfl
theorem get_102 (L : List S102) (i : Nat) (hi : i < L.length) : L.getD (i : Int).toNat z102 = L[i] := by simp [List.getD, List.getElem?_eq_getElem hi]
theorem ks_map (L : List S102) (i : Nat) (hi : i < L.length) : ks (L.map (·.f0)) (i : Nat) = (L[i]).f0 := by
  simp [ks, rdOf, List.getD, List.getElem?_map, List.getElem?_eq_getElem hi]
theorem midP_ch (s : SS) (pf : ByteArray → List S28) (L : List S102) (hd : (L.map (·.f0)).Nodup) (i : Nat) (hi : i < L.length) : (midP s pf (L.take i)).ch (L[i]).f0 = s.ch (L[i]).f0 := by
  have := colCh_at (L.map (·.f0)) hd pf s.ch i (by simpa using hi)
  rw [ks_map L i hi, ← List.map_take] at this
  exact this
theorem midP_step (s : SS) (pf : ByteArray → List S28) (L : List S102) (i : Nat) (hi : i < L.length) (l : List S28) (hl : l = pf (L[i]).f0) (K : List ByteArray) (hK : insK pf (L.take (i + 1)) s.keys = K) : { midP s pf (L.take i) with keys := K, ch := fun q => if q = (L[i]).f0 then l else (midP s pf (L.take i)).ch q } = midP s pf (L.take (i + 1)) := by
  have := colCh_step (L.map (·.f0)) pf s.ch i (by simpa using hi) l (by rw [ks_map L i hi]; exact hl)
  rw [ks_map L i hi, ← List.map_take, ← List.map_take] at this
  unfold midP
  rw [← this, hK]
theorem insK_step (pf : ByteArray → List S28) (L : List S102) (K : List ByteArray) (i : Nat) (hi : i < L.length) : insK pf (L.take (i + 1)) K = (if (pf (L[i]).f0).length = 1 then insL (insK pf (L.take i) K) (srchF (insK pf (L.take i) K) (L[i]).f0) (L[i]).f0 else insK pf (L.take i) K) := by
  rw [List.take_succ_eq_append_getElem hi, insK_snoc]
theorem midP_next (s : SS) (pf : ByteArray → List S28) (L : List S102) (i : Nat) (hi : i < L.length) (x : S102) (hx : L[i] = x) (K : List ByteArray) (hK : insK pf (L.take (i + 1)) s.keys = K) : { midP s pf (L.take i) with keys := K, ch := fun q => if q = x.f0 then pf x.f0 else (midP s pf (L.take i)).ch q } = midP s pf (L.take (i + 1)) := by
  subst hx
  exact midP_step s pf L i hi _ rfl K hK
/-- A new key has been laid into its row, and the row is told to the store. -/
theorem StoreAt.insKeys {W W1 : World} {base p : Nat} {B : Nat → Prop} {s : SS} {kv v : Value} {mb n : Nat} {D : DataW Value} {keys' : List ByteArray} (h : StoreAt W base B p s kv mb n D) (hs : W.heap.size ≤ W1.heap.size) (hm : ∀ k, k < W.heap.size → some k ≠ kv.ownBlock → W1.heap[k]? = W.heap[k]?) (hv : KeysAt W1 base (fun q => B q ∧ q ≠ p ∧ q ≠ mb) v keys') (hat : ∀ k, v.ownBlock = some k → kv.ownBlock = some k ∨ W.heap.size ≤ k) : StoreAt (W1.setCell ⟨p, 8, none⟩ v) base B p { s with keys := keys' } v mb n D := by
  have hp : some p ≠ kv.ownBlock := fun e => (h.keys.ownLt p e.symm).1.2.1 rfl
  have hb : some mb ≠ kv.ownBlock := fun e => (h.keys.ownLt mb e.symm).1.2.2 rfl
  exact {
    cells := blk_put ((hm p h.p_lt hp).trans h.cells) 8 v (by rfl)
    keys := hv.step (by simp [World.setCell]) (fun k hk _ => Below.heap_setCell W1 ⟨p, 8, none⟩ v k hk.2.1)
    map := map_step h.map ((Below.heap_setCell W1 ⟨p, 8, none⟩ v mb h.pm.symm).trans (hm mb h.m_lt hb))
    bb := h.bb
    bn := fun k hk => h.bn k (Nat.le_trans hs (by simpa [World.setCell] using hk))
    bp := h.bp
    bm := h.bm
    pm := h.pm
    chains := fun key hk => by
      obtain ⟨A, c, h1, h2, h3⟩ := h.chains key hk
      exact ⟨A, c, h1, h2, Kd.F_mono (Kd.F_far (p := ⟨p, 8, none⟩) (Kd.F_step (Kd.F_bound h3) (fun k hk hl => hm k hl hk.1.2.2.2)) (fun k hk => hk.1.2.1) v) (fun k hk => ⟨hk.1.1, hk.1.2.1, hk.1.2.2.1, fun e => (hat k e.symm).elim (fun q => hk.1.2.2.2 q.symm) (fun q => by have := hk.2; omega)⟩)⟩ }
def comOut (s s1 : SS) (pf : ByteArray → List S28) (L : List S102) (N : Int × Int × Int) : Int × Int × SS := if fitsB s1 N = true then (s.now + 1, 0, putS s1 pf L N) else (0, 5, s1)
set_option maxRecDepth 100000 in
set_option maxHeartbeats 8000000 in
theorem commit_main {W : World} {base p : Nat} {B : Nat → Prop} {s : SS} {kv : Value} {mb n : Nat} {D : DataW Value} (h : Aside0 (StoreAt W base B p s kv mb n D)) (okA : Nat → Prop) (hokA : Aside0 (∀ k, okA k → k < W.heap.size ∧ ¬ Own p mb kv k)) (A : Option Addr) (c0 : Nat) (l : List S102) (hF : Aside0 (Kd.F k102 W okA A l.length l)) (hlc : Aside0 (l.length ≤ c0)) (hl : Aside0 (l.length ≤ 1000)) (hk : Aside0 (∀ x, x ∈ l → x.f0.size ≤ maxLen))
    (low : Int) (kc : Nat) (hce : Aside0 (store_Check.f kc l = some 0)) (h0 : ¬ l.length = 0) (hnow : ¬ s.last ≤ s.now) (hn0 : Aside0 (0 ≤ s.now)) (hlast : Aside0 (s.last ≤ 18446744073709551615))
    (tf : ByteArray → List S28) (zf : ByteArray → Int) (pf : ByteArray → List S28)
    (hkl : Aside0 (s.keys.length ≤ 100000)) (hks : Aside0 (∀ key, key ∈ s.keys → key.size ≤ maxLen)) (hnd : Aside0 s.keys.Nodup) (ht : Aside0 (∀ key, key ∈ s.keys → ∃ k, chain_Trim.f k (s.ch key) low = some (tf key))) (hz : Aside0 (∀ key, key ∈ s.keys → ∃ k, chain_Size.f k (tf key) = some (zf key)))
    (hn : Aside0 (n + s.keys.length + l.length < maxLen)) (hch : Aside0 (∀ key, (s.ch key).length ≤ 1000000)) (s1 : SS) (hs1 : Aside0 (s1 = comS1 s l tf zf)) (hch1 : Aside0 (∀ key, (s1.ch key).length ≤ 1000000)) (hkl1 : Aside0 (s1.keys.length ≤ 100000))
    (a1 b1 c1 : Int) (hN1 : Aside0 (sizesOf s1 l = (a1, b1, c1))) (L : List S102) (hL : Aside0 (comesL s1.ch l = L)) (hLnd : Aside0 (L.map (·.f0)).Nodup) (hLk : Aside0 (∀ x, x ∈ L → x.f0.size ≤ maxLen)) (hLl : Aside0 (L.length ≤ l.length))
    (hp : Aside0 (∀ x, x ∈ L → ∃ k, chain_Put.f k (s1.ch x.f0) (s.now + 1) x.f1 x.f2 = some (pf x.f0, 0))) :
    Calls Try.prog 61 #[.pointer (some ⟨p, 0, none⟩), .slice A l.length c0, .int .u64 low] W (ComPost W base B p kv mb n (comOut s s1 pf L (a1, b1, c1)) (s.keys.length + l.length)) := by
  obtain ⟨L0, hL0⟩ : ∃ L0, comesL s.ch l = L0 := ⟨_, rfl⟩
  obtain ⟨N0, hN0⟩ : ∃ N0, sizesOf s l = N0 := ⟨_, rfl⟩
  obtain ⟨a0, b0, c0'⟩ := N0
  have HL0 := Aside0.mk hL0
  have HN0 := Aside0.mk hN0
  clear hL0 hN0
  have hbw := Aside0.mk h.out.base_le
  have hbn := Aside0.mk h.out.bn
  have hbb := Aside0.mk h.out.bb
  have hkv := Aside0.mk (fun k (hk_ : Own p mb kv k) => h.out.own hk_)
  go_enter Try.func61, Try.ntmps61
  go_wp2_with (first
    | (go_at_call 70; refine (store_is.calls h).mono ?_; rintro e w1 ⟨rfl, e1⟩; replace e1 := e1.symm; subst e1)
    | (go_at_call 55; (with_reducible refine (store_Check.calls kc _ _ l 0 _ ?s1 ?s2 hce.out).mono ?_); (case s1 => exact Kd.F_now hF.out); (case s2 => exact hlc.out); rintro e w2 ⟨rfl, hb⟩; have HB := Aside0.mk hb; have d7 : w2.cell? ⟨p, 7, none⟩ = some (.int .u64 s.now) := (blk_cell (h.out.below hb).cells 7).trans rfl; have d6 : w2.cell? ⟨p, 6, none⟩ = some (.int .u64 s.last) := (blk_cell (h.out.below hb).cells 6).trans rfl; clear hb))
  have hnb : decide (s.last ≤ s.now) = false := decide_eq_false (by omega)
  go_quiet (fail)
  have HB3 := Aside0.mk (pw_below_drewN HB.out nq)
  clear HB d7 d6
  generalize w2.drewN nq = w3 at HB3 ⊢
  have HS3 := Aside0.mk (h.out.below HB3.out)
  have HF3 := Aside0.mk (Kd.F_below hF.out HB3.out)
  obtain ⟨r0, hr0⟩ : ∃ r0, fitsB s (a0, b0, c0') = r0 := ⟨_, rfl⟩
  have HR0 := Aside0.mk hr0
  clear hr0
  go_upto_if 49 with (first
    | (go_at_call 82; (with_reducible refine (comes_calls HS3 okA ?s0 A c0 l HF3 hl hk hch L0 a0 b0 c0' HL0 HN0).mono ?_); (case s0 => exact fun k hk_ => Nat.lt_of_lt_of_le (hokA.out k hk_).1 HB3.out.size); rintro e w4 ⟨⟨A1, ca, rfl, hlc1, hF1⟩, hb⟩; have HFL := Aside0.mk hF1; have HB4 := Aside0.mk (below_step HB3.out hb); have HS4 := Aside0.mk (HS3.out.below hb); have hLc := Aside0.mk hlc1; have h34 := Aside0.mk hb.size; clear hF1 hb hlc1)
    | ((with_reducible refine gate_dst (N := 10) rfl ?_); refine box_event ?hg (N := 10) ?hd (cs := #[.int .i64 0, .int .i64 0, .int .i64 0]) (t := 72) ?hr ?_; (case hd => rfl); (case hg => rfl); (case hr => first | (go_simp; done) | (go_simp; rfl)); intro g10 hg w5 hbox hb; have GE10 := Aside0.mk (show w4.heap.size ≤ g10 by rw [hg]; exact Nat.le_refl _); have BK10 := Aside0.mk hbox; have HB5 := Aside0.mk (below_step HB4.out hb); have HS5 := Aside0.mk (show StoreAt w5 base (fun k => B k ∧ k ≠ g10) p s kv mb n D from HS4.out.move hb.size (fun k _ hl_ => hb.block k hl_) (fun k hk_ hl_ => ⟨hk_, by rw [hg]; omega⟩) (fun k hk_ => hbb.out k hk_.1) (fun k hk_ => ⟨hbn.out k (Nat.le_trans HB5.out.size hk_), by have := blk_lt hbox; omega⟩)); have HFL5 := Aside0.mk (Kd.F_below (Kd.F_elderB HFL.out g10 (Nat.le_of_eq hg.symm)) hb); have f0 := blk_frozen hbox 0; have f1 := blk_frozen hbox 1; have f2 := blk_frozen hbox 2; have q0 := (blk_cell hbox 0).trans (show _ = some (Value.int .i64 0) from rfl); have q1 := (blk_cell hbox 1).trans (show _ = some (Value.int .i64 0) from rfl); have q2 := (blk_cell hbox 2).trans (show _ = some (Value.int .i64 0) from rfl); clear hbox hb hg HFL HS4)
    | ((with_reducible refine gate_store (t := 72) (p := 10) rfl ?_); refine store_event (t := 72) (p := 10) (v := ?vo1_) (w1 := ((w5.setCell ⟨g10, 0, none⟩ (.int .i64 a0)).setCell ⟨g10, 1, none⟩ (.int .i64 b0)).setCell ⟨g10, 2, none⟩ (.int .i64 c0')) ?hg ?ho ?hn ?hr ?_; (case ho => rfl); (case hg => rfl); (case hn => rfl); (case hr => first | (go_simp; done) | (go_simp; rfl)); intro w6 hw; have hgB := Aside0.mk (show W.heap.size ≤ g10 from Nat.le_trans HB4.out.size GE10.out); have BK6 := Aside0.mk (show w6.heap[g10]? = some (.cells #[.int .i64 a0, .int .i64 b0, .int .i64 c0'] 72 (0, 0)) by rw [hw]; exact blk_put (blk_put (blk_put BK10.out 0 _ rfl) 1 _ rfl) 2 _ rfl); have HFL6 := Aside0.mk (show Kd.F k102 w6 (fun k_ => (okA k_ ∨ w3.heap.size ≤ k_) ∧ k_ ≠ g10) A1 L0.length L0 by rw [hw]; exact Kd.F_far (p := ⟨g10, 2, none⟩) (Kd.F_far (p := ⟨g10, 1, none⟩) (Kd.F_far (p := ⟨g10, 0, none⟩) HFL5.out (fun _ hk => hk.2) _) (fun _ hk => hk.2) _) (fun _ hk => hk.2) _); have HS6 := Aside0.mk (show StoreAt w6 base (fun k => B k ∧ k ≠ g10) p s kv mb n D by rw [hw]; exact ((HS5.out.setFar g10 0 _ (fun _ hk_ => hk_.2)).setFar g10 1 _ (fun _ hk_ => hk_.2)).setFar g10 2 _ (fun _ hk_ => hk_.2)); have HB6 := Aside0.mk (show Below W.heap.size W w6 by rw [hw]; exact below_set (below_set (below_set HB5.out hgB.out) hgB.out) hgB.out); clear hw f0 f1 f2 q0 q1 q2 HS5 HB5 BK10 HFL5; have q0 := (blk_cell BK6.out 0).trans (show _ = some (Value.int .i64 a0) from rfl); have q1 := (blk_cell BK6.out 1).trans (show _ = some (Value.int .i64 b0) from rfl); have q2 := (blk_cell BK6.out 2).trans (show _ = some (Value.int .i64 c0') from rfl))
    | (go_at_call 83; (with_reducible refine (fits_calls HS6 a0 b0 c0' r0 HR0).mono ?_); rintro e w7 ⟨rfl, hb⟩; have HB7 := Aside0.mk (below_step HB6.out hb); have HS7 := Aside0.mk (HS6.out.below hb); have BK7 := Aside0.mk (blk_below BK6.out hb); have HFL7 := Aside0.mk (Kd.F_below HFL6.out hb); clear hb q0 q1 q2))
  (try simp only [Act.put, List.setIfInBounds_toArray, List.set_cons_zero, List.set_cons_succ])
  have hg10 := Aside0.mk (show ∀ k, Own p mb kv k → k < w3.heap.size from fun k hk_ => Nat.lt_of_lt_of_le (hkv.out k hk_).2.2 HB3.out.size)
  clear HB4 HB6 HS3 HS6 BK6 HFL6 HF3
  go_cut [9] (fun v9 wc => ∃ (A1 : Option Addr) (ca : Nat) (kv1 : Value) (n1 : Nat) (D1 : DataW Value), v9 = .slice A1 L.length ca ∧ Aside0 (StoreAt wc base (fun k => B k ∧ k ≠ g10) p s1 kv1 mb n1 D1) ∧ Aside0 (n1 ≤ n + s.keys.length) ∧ Aside0 (Turn base (Own p mb kv) W wc) ∧ Aside0 (∀ k, kv1.ownBlock = some k → kv.ownBlock = some k ∨ W.heap.size ≤ k) ∧ Aside0 (wc.heap[g10]? = some (.cells #[.int .i64 a1, .int .i64 b1, .int .i64 c1] 72 (0, 0))) ∧ Aside0 (Kd.F k102 wc (fun k => ¬ Own p mb kv1 k ∧ k ≠ g10) A1 L.length L) ∧ Aside0 (¬ Own p mb kv1 g10))
  case first =>
    cases r0 with
    | true =>
      have es : s1 = s := by rw [hs1.out]; exact if_pos (by rw [show sizesOf s l = (a0, b0, c0') from HN0.out]; exact HR0.out)
      subst es
      have e1 : L0 = L := HL0.out.symm.trans hL.out
      subst e1
      have e2 : (a0, b0, c0') = (a1, b1, c1) := HN0.out.symm.trans hN1.out
      injection e2 with e2 e3
      injection e3 with e3 e4
      subst e2 e3 e4
      go_wp2
      go_meet
      case rel => exact ⟨A1, ca, kv, n, D, rfl, HS7, ⟨Nat.le_add_right _ _⟩, ⟨Turn.of_below HB7.out hbw.out _⟩, ⟨fun k hk_ => .inl hk_⟩, BK7, ⟨Kd.F_mono HFL7.out (fun k hk_ => ⟨fun ho => hk_.1.elim (fun q => (hokA.out k q).2 ho) (fun q => by have := hg10.out k ho; omega), hk_.2⟩)⟩, ⟨fun ho => by have := hg10.out g10 ho; have := h34.out; have := GE10.out; omega⟩⟩
    | false =>
      have es : s1 = colS s tf zf := by rw [hs1.out]; exact if_neg (by rw [show sizesOf s l = (a0, b0, c0') from HN0.out, HR0.out]; decide)
      subst es
      have hgo8 := Aside0.mk (show ∀ k, Own p mb kv k → k ≠ g10 from fun k ho e => by have := hg10.out k ho; have := h34.out; have := GE10.out; omega)
      go_wp2_with (first
        | (go_at_call 49; (with_reducible refine (collect_calls HS7 low tf zf hkl hks hnd ht hz ?s0).mono ?_); (case s0 => exact ⟨by have := hn.out; omega⟩); rintro e w8 ⟨⟨r_, rfl⟩, kv8, n8, D8, hS, hn8, hT, hK⟩; have HS8 := Aside0.mk hS; have HN8 := Aside0.mk hn8; have HT8 := Aside0.mk ((Turn.of_below HB7.out hbw.out (Own p mb kv)).then_ hT (fun _ hk_ => .inl hk_)); have HNE := Aside0.mk (show ¬ Own p mb kv8 g10 from fun ho => by rcases ho with e | e | e; exact hgo8.out p (.inl rfl) e.symm; exact hgo8.out mb (.inr (.inl rfl)) e.symm; exact (hK g10 e.symm).elim (fun q => hgo8.out g10 (.inr (.inr q.symm)) rfl) (fun q => by have := blk_lt BK7.out; omega)); have HK8 := Aside0.mk (fun k (hk_ : kv8.ownBlock = some k) => (hK k hk_).imp id (fun q => Nat.le_trans HB7.out.size q)); have hlt10 := Aside0.mk (show g10 < w8.heap.size from Nat.lt_of_lt_of_le (blk_lt BK7.out) hT.below.size); have BK8 := Aside0.mk ((hT.keep g10 (blk_lt BK7.out) (fun ho => by have := hg10.out g10 ho; have := h34.out; have := GE10.out; omega)).trans BK7.out); have HF8 := Aside0.mk (Kd.F_step hF.out (fun k hk_ _ => HT8.out.keep k (hokA.out k hk_).1 (hokA.out k hk_).2)); have hb8 := Aside0.mk (h.out.bb p h.out.bp); clear hS hn8 hT hK HS7 BK7 HFL7 HB7)
        | (go_at_call 82; (with_reducible refine (comes_calls HS8 okA ?s0 A c0 l HF8 hl hk hch1 L a1 b1 c1 hL hN1).mono ?_); (case s0 => exact fun k hk_ => Nat.lt_of_lt_of_le (hokA.out k hk_).1 HT8.out.below.size); rintro e w9 ⟨⟨A2, cb, rfl, hlc1, hF1⟩, hb⟩; have HFL9 := Aside0.mk hF1; have HS9 := Aside0.mk (HS8.out.below hb); have HT9 := Aside0.mk (HT8.out.then_ (Turn.of_below hb HS8.out.base_le (fun _ => False)) (fun _ hk_ => hk_.elim)); have BK9 := Aside0.mk (blk_below BK8.out hb); have q0 := (blk_cell BK9.out 0).trans (show _ = some (Value.int .i64 a0) from rfl); have q1 := (blk_cell BK9.out 1).trans (show _ = some (Value.int .i64 b0) from rfl); have q2 := (blk_cell BK9.out 2).trans (show _ = some (Value.int .i64 c0') from rfl); have f0 := blk_frozen BK9.out 0; have f1 := blk_frozen BK9.out 1; have f2 := blk_frozen BK9.out 2; have hl9 := Aside0.mk hlc1; have h89 := Aside0.mk hb.size; clear hb hF1 hlc1)
        | ((with_reducible refine gate_store (t := 72) (p := 10) rfl ?_); refine store_event (t := 72) (p := 10) (v := ?vo5_) (w1 := ((w9.setCell ⟨g10, 0, none⟩ (.int .i64 a1)).setCell ⟨g10, 1, none⟩ (.int .i64 b1)).setCell ⟨g10, 2, none⟩ (.int .i64 c1)) ?hg ?ho ?hn ?hr ?_; (case ho => rfl); (case hg => rfl); (case hn => rfl); (case hr => first | (go_simp; done) | (go_simp; rfl)); intro w10 hw; have BK10' := Aside0.mk (show w10.heap[g10]? = some (.cells #[.int .i64 a1, .int .i64 b1, .int .i64 c1] 72 (0, 0)) by rw [hw]; exact blk_put (blk_put (blk_put BK9.out 0 _ rfl) 1 _ rfl) 2 _ rfl); have HF10 := Aside0.mk (show Kd.F k102 w10 (fun k_ => (okA k_ ∨ w8.heap.size ≤ k_) ∧ k_ ≠ g10) A2 L.length L by rw [hw]; exact Kd.F_far (p := ⟨g10, 2, none⟩) (Kd.F_far (p := ⟨g10, 1, none⟩) (Kd.F_far (p := ⟨g10, 0, none⟩) (Kd.F_mono HFL9.out (fun k hk_ => ⟨hk_, fun e => hk_.elim (fun q => by have := (hokA.out k q).1; have := hgB.out; omega) (fun q => by have := hlt10.out; omega)⟩)) (fun _ hk => hk.2) _) (fun _ hk => hk.2) _) (fun _ hk => hk.2) _); have HS10 := Aside0.mk (show StoreAt w10 base (fun k => B k ∧ k ≠ g10) p (colS s tf zf) kv8 mb n8 D8 by rw [hw]; exact ((HS9.out.setFar g10 0 _ (fun _ hk_ => hk_.2)).setFar g10 1 _ (fun _ hk_ => hk_.2)).setFar g10 2 _ (fun _ hk_ => hk_.2)); have HT10 := Aside0.mk (show Turn base (Own p mb kv) W w10 by rw [hw]; exact ((HT9.out.then_ (Turn.set (S := fun k => k = g10) ⟨g10, 0, none⟩ _ (Nat.le_trans hbw.out hgB.out) rfl) (fun _ hk_ => .inr (by rw [hk_]; exact hgB.out))).then_ (Turn.set (S := fun k => k = g10) ⟨g10, 1, none⟩ _ (Nat.le_trans hbw.out hgB.out) rfl) (fun _ hk_ => .inr (by rw [hk_]; exact hgB.out))).then_ (Turn.set (S := fun k => k = g10) ⟨g10, 2, none⟩ _ (Nat.le_trans hbw.out hgB.out) rfl) (fun _ hk_ => .inr (by rw [hk_]; exact hgB.out))); clear hw q0 q1 q2 f0 f1 f2))
      go_meet
      case rel =>
        have hlt8 := Aside0.mk (fun k (ho : Own p mb kv8 k) => (HS8.out.own ho).2.2)
        exact ⟨A2, cb, kv8, n8, D8, rfl, HS10, HN8, HT10, HK8, BK10', ⟨Kd.F_mono HF10.out (fun k hk_ => ⟨fun ho => hk_.1.elim (fun q => (hokA.out k q).2 (by rcases ho with e | e | e; exact .inl e; exact .inr (.inl e); exact (HK8.out k e.symm).elim (fun q2 => .inr (.inr q2.symm)) (fun q2 => by have h1_ := (hokA.out k q).1; omega))) (fun q => by have := hlt8.out k ho; omega), hk_.2⟩)⟩, ⟨fun ho => HNE.out ho⟩⟩
  case rest =>
    obtain ⟨A1, ca, kv1, n1, D1, rfl, HS8, HNn, HT8, HK8, BK8, HF8, hgo⟩ := hcut
    have hnw : s.now = s1.now := by rw [hs1.out]; unfold comS1; split <;> rfl
    have hp2 := hp.out
    rw [hnw] at hp2
    have HP := Aside0.mk hp2
    have HNW := Aside0.mk hnw
    have hgp := Aside0.mk (show g10 ≠ p from fun e => hgo.out (.inl e))
    have hgm := Aside0.mk (show g10 ≠ mb from fun e => hgo.out (.inr (.inl e)))
    clear hp2 hp hnw
    have q0 := (blk_cell BK8.out 0).trans (show _ = some (Value.int .i64 a1) from rfl)
    have q1 := (blk_cell BK8.out 1).trans (show _ = some (Value.int .i64 b1) from rfl)
    have q2 := (blk_cell BK8.out 2).trans (show _ = some (Value.int .i64 c1) from rfl)
    obtain ⟨r1, hr1⟩ : ∃ r1, fitsB s1 (a1, b1, c1) = r1 := ⟨_, rfl⟩
    have HR1 := Aside0.mk hr1
    clear hr1
    cases r1 with
    | false =>
      go_wp2_with (go_at_call 83; (with_reducible refine (fits_calls HS8 a1 b1 c1 false HR1).mono ?_); rintro e w9 ⟨rfl, hb⟩; have HS9 := Aside0.mk (HS8.out.below hb); have HT9 := Aside0.mk (HT8.out.then_ (Turn.of_below hb HS8.out.base_le (fun _ => False)) (fun _ hk_ => hk_.elim)); clear hb q0 q1 q2)
      go_ret2
      have e_ : comOut s s1 pf L (a1, b1, c1) = (0, 5, s1) := if_neg (by rw [HR1.out]; decide)
      rw [e_]
      exact ⟨rfl, kv1, n1, D1, HS9.out.rebase (fun k hk_ _ => hk_.1) hbb.out (fun k hk_ => (HS9.out.bn k hk_).1), by have := HNn.out; omega, HT9.out, HK8.out⟩
    | true =>
      have hwu := Aside0.mk (show IntKind.u64.wrap (s1.now + 1) = s1.now + 1 from by
        have h1_ := hn0.out; have h2_ := hlast.out; have h3_ := HNW.out
        exact wrap_u64_small (by omega) (by omega))
      have hwu' := hwu.out
      go_wp2_with (first
        | (go_at_call 83; (with_reducible refine (fits_calls HS8 a1 b1 c1 true HR1).mono ?_); rintro e w9 ⟨rfl, hb⟩; have HS9 := Aside0.mk (HS8.out.below hb); have HT9 := Aside0.mk (HT8.out.then_ (Turn.of_below hb HS8.out.base_le (fun _ => False)) (fun _ hk_ => hk_.elim)); have BK9 := Aside0.mk (blk_below BK8.out hb); have HF9 := Aside0.mk (Kd.F_below HF8.out hb); have d7 : w9.cell? ⟨p, 7, none⟩ = some (.int .u64 s1.now) := (blk_cell HS9.out.cells 7).trans rfl; have f7 := blk_frozen HS9.out.cells 7; clear hb q0 q1 q2)
        | ((with_reducible refine gate_store (t := 23) (p := 69) rfl ?_); refine store_event (t := 23) (p := 69) (v := ?vo2_) (w1 := w9.setCell ⟨p, 7, none⟩ (.int .u64 (s1.now + 1))) ?hg ?ho ?hn ?hr ?_; (case ho => rfl); (case hg => rfl); (case hn => rfl); (case hr => first | (go_simp; done) | (go_simp; rfl)); intro w10 hw; have HS10 := Aside0.mk (show StoreAt w10 base (fun k => B k ∧ k ≠ g10) p (midP s1 pf (L.take 0)) kv1 mb n1 D1 by rw [hw, List.take_zero, midP_zero]; exact HS9.out.put 7 _ { s1 with now := s1.now + 1 } rfl rfl rfl); have BK10' := Aside0.mk (show w10.heap[g10]? = some (.cells #[.int .i64 a1, .int .i64 b1, .int .i64 c1] 72 (0, 0)) by rw [hw]; exact blk_far BK9.out hgp.out _); have HF10 := Aside0.mk (show Kd.F k102 w10 (fun k => ¬ Own p mb kv1 k ∧ k ≠ g10) A1 L.length L by rw [hw]; exact Kd.F_far (p := ⟨p, 7, none⟩) HF9.out (fun k hk_ e => hk_.1 (.inl e)) _); have HT10 := Aside0.mk (show Turn base (Own p mb kv) W w10 by rw [hw]; exact HT9.out.then_ (Turn.set (S := Own p mb kv) ⟨p, 7, none⟩ _ (h.out.bb _ h.out.bp) (.inl rfl)) (fun _ hk_ => .inl hk_)); clear hw d7 f7 HS9 BK9 HF9 HT9))
      clear HS8 HT8 BK8 HF8 hwu'
      go_loopw [72] (fun vi wr => ∃ (i : Nat) (kvr : Value) (nr : Nat) (Dr : DataW Value), vi = .int .i64 i ∧ i ≤ L.length ∧ Aside0 (nr ≤ n1 + i) ∧ Aside0 (StoreAt wr base (fun k => B k ∧ k ≠ g10) p (midP s1 pf (L.take i)) kvr mb nr Dr) ∧ Aside0 (Turn base (Own p mb kv) W wr) ∧ Aside0 (∀ k, kvr.ownBlock = some k → kv.ownBlock = some k ∨ W.heap.size ≤ k) ∧ Aside0 (wr.heap[g10]? = some (.cells #[.int .i64 a1, .int .i64 b1, .int .i64 c1] 72 (0, 0))) ∧ Aside0 (Kd.F k102 wr (fun k => ¬ Own p mb kvr k ∧ k ≠ g10) A1 L.length L) ∧ Aside0 (¬ Own p mb kvr g10)) (fun vi _ => L.length - (intOf vi).toNat)
      case atStart => exact ⟨0, kv1, n1, D1, rfl, Nat.zero_le _, ⟨Nat.le_refl _⟩, HS10, HT10, HK8, BK10', HF10, hgo⟩
      case round =>
        clear HS10 HT10 HK8 BK10' HF10 hgo
        obtain ⟨i, kvr, nr, Dr, rfl, hi1, HNr, HS, HT, HK, BK, HF, HG⟩ := hrel
        by_cases hlt : i < L.length
        · have hi3 : i < 1000 := by have := hl.out; have := hLl.out; omega
          obtain ⟨ad, ce_, rfl, hcl_, hFK, hcc, hok⟩ := Kd.F_get HF.out z102 (i : Int) (by omega) (by omega)
          rw [get_102 L i hlt] at hFK
          obtain ⟨x, hx⟩ : ∃ x, L[i] = x := ⟨_, rfl⟩
          rw [hx] at hFK
          obtain ⟨A2, c2, rfl, hl2, hg2⟩ := k102_openF hFK
          have hx0 : wr.cell? (ad.add (i * 3)) = some (.string x.f0) := hcc 0 _ rfl
          have hx1 : wr.cell? ⟨(ad.add (i * 3)).block, (ad.add (i * 3)).off + 1, none⟩ = some (.bool x.f1) := by rw [← add_field _ _ 1 (by omega)]; exact hcc 1 _ rfl
          have hx2 : wr.cell? ⟨(ad.add (i * 3)).block, (ad.add (i * 3)).off + 2, none⟩ = some (.slice A2 x.f2.length c2) := by rw [← add_field _ _ 2 (by omega)]; exact hcc 2 _ rfl
          have HG2 := Aside0.mk hg2
          have HL2 := Aside0.mk hl2
          have hmem : x ∈ L := hx ▸ List.getElem_mem hlt
          have hkx := Aside0.mk (hLk.out x hmem)
          obtain ⟨kp, hpx⟩ := HP.out x hmem
          have HPX := Aside0.mk hpx
          have hchx : (midP s1 pf (L.take i)).ch x.f0 = s1.ch x.f0 := by rw [← hx]; exact midP_ch s1 pf L hLnd.out i hlt
          obtain ⟨Ac, cc, hat, hcl2, hcF⟩ := HS.out.chains x.f0 hkx.out
          rw [hchx] at hat hcl2 hcF
          have HAT := Aside0.mk hat
          have HCL := Aside0.mk hcl2
          have HCF := Aside0.mk hcF
          obtain ⟨K, hKe⟩ : ∃ K, insK pf (L.take i) s1.keys = K := ⟨_, rfl⟩
          have hKl := Aside0.mk (show K.length ≤ 200000 by have h1_ := insK_le pf (L.take i) s1.keys; rw [hKe, List.length_take] at h1_; have := hkl1.out; omega)
          have hrow := HS.out.keys
          rw [show (midP s1 pf (L.take i)).keys = K from hKe] at hrow
          obtain ⟨Ak, ck, ek, hlk, hCk⟩ := hrow.row
          subst ek
          have HKA := Aside0.mk hrow
          have HKE := Aside0.mk hKe
          have HXE := Aside0.mk hx
          clear hcl_ hFK hcc hok hl2 hg2 hmem hpx hchx hat hcl2 hcF hrow hlk hCk hKe hx
          go_wp2_with (first
            | ((with_reducible refine gate_dst (N := 12) rfl ?_); refine box_event ?hg (N := 12) ?hd (cs := #[.string ⟨#[]⟩, .bool false, .slice none 0 0]) (t := 102) ?hr ?_; (case hd => rfl); (case hg => rfl); (case hr => first | (go_simp; done) | (go_simp; rfl)); intro g12 hg w14 hbox hb; have HB14 := Aside0.mk hb; have GE12 := Aside0.mk (show wr.heap.size ≤ g12 by rw [hg]; exact Nat.le_refl _); have BK14 := Aside0.mk hbox; have z0 := (blk_cell hbox 0).trans (show _ = some (Value.string ⟨#[]⟩) from rfl); have y0 := blk_frozen hbox 0; have z1 := (blk_cell hbox 1).trans (show _ = some (Value.bool false) from rfl); have y1 := blk_frozen hbox 1; have z2 := (blk_cell hbox 2).trans (show _ = some (Value.slice none 0 0) from rfl); have y2 := blk_frozen hbox 2; clear hbox hb hg)
            | ((with_reducible refine gate_store (t := 102) (p := 12) rfl ?_); refine store_event (t := 102) (p := 12) (v := ?vo4_) (w1 := ((w14.setCell ⟨g12, 0, none⟩ (.string x.f0)).setCell ⟨g12, 1, none⟩ (.bool x.f1)).setCell ⟨g12, 2, none⟩ (.slice A2 x.f2.length c2)) ?hg ?ho ?hn ?hr ?_; (case ho => rfl); (case hg => rfl); (case hn => rfl); (case hr => first | (go_simp; done) | (go_simp; rfl)); intro w15 hw; have HBx := Aside0.mk (show Below wr.heap.size wr w15 by rw [hw]; exact below_set (below_set (below_set HB14.out GE12.out) GE12.out) GE12.out); have BK12 := Aside0.mk (show w15.heap[g12]? = some (.cells #[.string x.f0, .bool x.f1, .slice A2 x.f2.length c2] 102 (0, 0)) by rw [hw]; exact blk_put (blk_put (blk_put BK14.out 0 _ rfl) 1 _ rfl) 2 _ rfl); have HS15 := Aside0.mk (HS.out.below HBx.out); have HCF15 := Aside0.mk (Kd.F_below HCF.out HBx.out); have HG15 := Aside0.mk (Kd.F_below HG2.out HBx.out); clear hw z0 z1 z2 y0 y1 y2 hx0 hx1 hx2 HB14 BK14 HCF HG2))
          have h20 : ∀ w' : World, w'.cell? ⟨p, 9, none⟩ = some (.map (some mb)) ∧ w'.cell? ⟨p, 7, none⟩ = some (.int .u64 (s1.now + 1)) ∧ w'.cell? ⟨g12, 0, none⟩ = some (.string x.f0) ∧ w'.cell? ⟨g12, 1, none⟩ = some (.bool x.f1) ∧ w'.cell? ⟨g12, 2, none⟩ = some (.slice A2 x.f2.length c2) ∧ (Instr.lookup 89 (.map (some mb)) (.string x.f0) false).run Try.prog w' = .ok (.slice Ac (s1.ch x.f0).length cc) w' ∧ Below w15.heap.size w15 w' → Below w15.heap.size w15 w' := fun _ h_ => h_.2.2.2.2.2.2
          have H20 := Aside0.mk h20
          have k20 : ∀ w' : World, Below w15.heap.size w15 w' → w'.cell? ⟨p, 9, none⟩ = some (.map (some mb)) ∧ w'.cell? ⟨p, 7, none⟩ = some (.int .u64 (s1.now + 1)) ∧ w'.cell? ⟨g12, 0, none⟩ = some (.string x.f0) ∧ w'.cell? ⟨g12, 1, none⟩ = some (.bool x.f1) ∧ w'.cell? ⟨g12, 2, none⟩ = some (.slice A2 x.f2.length c2) ∧ (Instr.lookup 89 (.map (some mb)) (.string x.f0) false).run Try.prog w' = .ok (.slice Ac (s1.ch x.f0).length cc) w' ∧ Below w15.heap.size w15 w' := fun w' hb_ => ⟨pw_cell_below hb_ ((blk_cell HS15.out.cells 9).trans rfl), pw_cell_below hb_ ((blk_cell HS15.out.cells 7).trans rfl), pw_cell_below hb_ ((blk_cell BK12.out 0).trans rfl), pw_cell_below hb_ ((blk_cell BK12.out 1).trans rfl), pw_cell_below hb_ ((blk_cell BK12.out 2).trans rfl), HS15.out.lookW hb_ x.f0 hkx.out HAT.out, hb_⟩
          have K20 := Aside0.mk k20
          clear h20 k20
          go_region_held3 (fun w' : World => w'.cell? ⟨p, 9, none⟩ = some (.map (some mb)) ∧ w'.cell? ⟨p, 7, none⟩ = some (.int .u64 (s1.now + 1)) ∧ w'.cell? ⟨g12, 0, none⟩ = some (.string x.f0) ∧ w'.cell? ⟨g12, 1, none⟩ = some (.bool x.f1) ∧ w'.cell? ⟨g12, 2, none⟩ = some (.slice A2 x.f2.length c2) ∧ (Instr.lookup 89 (.map (some mb)) (.string x.f0) false).run Try.prog w' = .ok (.slice Ac (s1.ch x.f0).length cc) w' ∧ Below w15.heap.size w15 w') (first | exact K20.out _ (below_drew1 (Below.refl _ _)) | exact K20.out _ (below_step (H20.out _ (by assumption)) hb2)) (first | (go_at_call 28; (with_reducible refine (chain_Put.fresh kp _ _ (s1.ch x.f0) (s1.now + 1) x.f1 (fun k => ¬ Own p mb (.slice Ak K.length ck) k ∧ k ≠ g10) A2 c2 x.f2 (pf x.f0) 0 _ ?s1 ?s2 ?s3 HPX.out).mono ?_); (case s1 => exact Kd.F_now (Kd.F_below HCF15.out (H20.out _ (by assumption)))); (case s2 => exact HCL.out); (case s3 => exact Kd.V_mk HL2.out (Kd.F_below HG15.out (H20.out _ (by assumption)))); rintro e w16 ⟨v, rfl, ho, hb2⟩; obtain ⟨Av, cv, ev⟩ := Kd.N_slice ho; subst ev))
          rename_i hH
          have HB16 := Aside0.mk (H20.out _ hH)
          have HV16 := Aside0.mk (show Kd.F k28 w16 (fun k => wr.heap.size ≤ k) Av (pf x.f0).length (pf x.f0) from Kd.F_mono (Kd.N_F ho) (fun k hk_ => Nat.le_trans HBx.out.size hk_))
          have HVl := Aside0.mk (Kd.N_reads' ho).2.1
          clear hH ho hb2 K20 H20
          have HBr := Aside0.mk (below_step HBx.out HB16.out)
          have HS16 := Aside0.mk (HS15.out.below HB16.out)
          have BK12_ := Aside0.mk (blk_below BK12.out HB16.out)
          have BK16 := Aside0.mk (blk_below BK.out HBr.out)
          have HF16 := Aside0.mk (Kd.F_below HF.out HBr.out)
          have HT16 := Aside0.mk (HT.out.then_ (Turn.of_below HBr.out HS.out.base_le (fun _ => False)) (fun _ hk_ => hk_.elim))
          have hbnr := Aside0.mk HS.out.bn
          have hownr := Aside0.mk (fun k (ho_ : Own p mb (.slice Ak K.length ck) k) => (HS.out.own ho_).2.2)
          have hprw := Aside0.mk (show wr.heap.size ≤ w16.heap.size from HBr.out.size)
          have HV := Aside0.mk (show Kd.F k28 w16 (fun q => (fun k => B k ∧ k ≠ g10) q ∧ q ≠ p ∧ q ≠ mb ∧ some q ≠ (Value.slice Ak K.length ck).ownBlock) Av (pf x.f0).length (pf x.f0) from Kd.F_mono HV16.out (fun k hk_ => ⟨hbnr.out k hk_, fun e => by have := hownr.out k (.inl e); omega, fun e => by have := hownr.out k (.inr (.inl e)); omega, fun e => by have := hownr.out k (.inr (.inr e)); omega⟩))
          have hKA16 := Aside0.mk (HKA.out.step HBr.out.size (fun k _ hl_ => HBr.out.block k hl_))
          clear BK12 HS15 HCF15 HG15 HB16 HS BK HF HT HKA
          have d9 : w16.cell? ⟨p, 9, none⟩ = some (.map (some mb)) := (blk_cell HS16.out.cells 9).trans rfl
          have e12 : w16.cell? ⟨g12, 0, none⟩ = some (.string x.f0) := (blk_cell BK12_.out 0).trans rfl
          by_cases hone : (pf x.f0).length = 1
          · have hone' := Aside0.mk hone
            have hinsK := Aside0.mk (show insK pf (L.take (i + 1)) s1.keys = insL K (srchF K x.f0) x.f0 by rw [insK_step pf L s1.keys i hlt, HXE.out, if_pos hone, HKE.out])
            have hzb : (((pf x.f0).length : Int) == 1) = true := by rw [hone]; rfl
            clear hone
            go_wp2
            clear hzb
            have d8 : w16.cell? ⟨p, 8, none⟩ = some (.slice Ak K.length ck) := (blk_cell HS16.out.cells 8).trans rfl
            have hbd := below_drew1 (Below.refl w16.heap.size w16)
            have HS17 := Aside0.mk (HS16.out.below hbd)
            have HT17 := Aside0.mk (HT16.out.then_ (Turn.of_below hbd HS16.out.base_le (fun _ => False)) (fun _ hk_ => hk_.elim))
            have BK17 := Aside0.mk (blk_below BK16.out hbd)
            have HF17 := Aside0.mk (Kd.F_below HF16.out hbd)
            have HV17 := Aside0.mk (Kd.F_below HV.out hbd)
            have hKA17 := Aside0.mk (hKA16.out.step hbd.size (fun k _ hl_ => hbd.block k hl_))
            have BK12_17 := Aside0.mk (blk_below BK12_.out hbd)
            have hprw17 := Aside0.mk (show wr.heap.size ≤ w16.drew.heap.size from hprw.out)
            clear hbd
            refine start_ (n := 19) (S := fun w' => w'.cell? ⟨p, 8, none⟩ = some (.slice Ak K.length ck) ∧ w'.cell? ⟨g12, 0, none⟩ = some (.string x.f0)) (ds := [18]) #[false, false, false, false, false, false, false, false, false, false, false, false, false, false, false, false, false, false, false] (by kernel_rfl) rfl rfl ⟨d8, e12⟩ (fun hHeld => ?_)
            clear d8 d9 e12 HS16 HT16 BK16 HF16 HV hKA16 BK12_ HV16 hprw HBr
            generalize w16.drew = w17 at HS17 HT17 BK17 HF17 HV17 hKA17 BK12_17 hprw17 hHeld ⊢
            refine pure_ (i := 0) (N := some 102) (v := ?_) (a' := ?_) #[true, false, false, false, false, false, false, false, false, false, false, false, false, false, false, false, false, false, false] rfl rfl (by kernel_rfl) (fun _ _ _ h => h) (Or.inl ⟨by rfl, ?_⟩) ?_ ?_
            rotate_left
            · intro w'
              go_simp
              with_reducible rfl
            rotate_left
            · simp only [Act.put, List.setIfInBounds_toArray, List.set_cons_zero, List.set_cons_succ, i64_w, i32_w]
              rfl
            refine pure_ (i := 1) (N := some 103) (v := ?_) (a' := ?_) #[true, true, false, false, false, false, false, false, false, false, false, false, false, false, false, false, false, false, false] rfl rfl (by kernel_rfl) (fun _ _ _ h => h) (Or.inl ⟨by rfl, ?_⟩) ?_ ?_
            rotate_left
            · intro w'
              go_simp
              with_reducible rfl
            rotate_left
            · simp only [Act.put, List.setIfInBounds_toArray, List.set_cons_zero, List.set_cons_succ, i64_w, i32_w]
              rfl
            refine pure_ (i := 2) (N := some 104) (v := ?_) (a' := ?_) #[true, true, true, false, false, false, false, false, false, false, false, false, false, false, false, false, false, false, false] rfl rfl (by kernel_rfl) (fun _ _ _ h => h) (Or.inl ⟨by rfl, ?_⟩) ?_ ?_
            rotate_left
            · intro w'
              go_simp
              with_reducible rfl
            rotate_left
            · simp only [Act.put, List.setIfInBounds_toArray, List.set_cons_zero, List.set_cons_succ, i64_w, i32_w]
              rfl
            refine pure_ (i := 3) (N := some 105) (v := ?_) (a' := ?_) #[true, true, true, true, false, false, false, false, false, false, false, false, false, false, false, false, false, false, false] rfl rfl (by kernel_rfl) (fun _ _ _ h => h) (Or.inl ⟨by rfl, ?_⟩) ?_ ?_
            rotate_left
            · intro w'
              go_simp
              with_reducible rfl
            rotate_left
            · simp only [Act.put, List.setIfInBounds_toArray, List.set_cons_zero, List.set_cons_succ, i64_w, i32_w]
              rfl
            refine take_ (i := 4) (N := some 106) (v := ?_) (a' := ?_) #[true, true, true, true, true, false, false, false, false, false, false, false, false, false, false, false, false, false, false] rfl rfl (by kernel_rfl) (fun _ _ _ h => h) (Or.inl ⟨by rfl, ?_⟩) hHeld ?_ ?_
            rotate_left
            · rintro w' ⟨s0, s1_⟩
              go_simp
              with_reducible rfl
            rotate_left
            · simp only [Act.put, List.setIfInBounds_toArray, List.set_cons_zero, List.set_cons_succ, i64_w, i32_w]
              rfl
            refine pure_ (i := 5) (N := some 107) (v := ?_) (a' := ?_) #[true, true, true, true, true, true, false, false, false, false, false, false, false, false, false, false, false, false, false] rfl rfl (by kernel_rfl) (fun _ _ _ h => h) (Or.inl ⟨by rfl, ?_⟩) ?_ ?_
            rotate_left
            · intro w'
              go_simp
              with_reducible rfl
            rotate_left
            · simp only [Act.put, List.setIfInBounds_toArray, List.set_cons_zero, List.set_cons_succ, i64_w, i32_w]
              rfl
            refine pure_ (i := 6) (N := some 108) (v := ?_) (a' := ?_) #[true, true, true, true, true, true, true, false, false, false, false, false, false, false, false, false, false, false, false] rfl rfl (by kernel_rfl) (fun _ _ _ h => h) (Or.inl ⟨by rfl, ?_⟩) ?_ ?_
            rotate_left
            · intro w'
              go_simp
              with_reducible rfl
            rotate_left
            · simp only [Act.put, List.setIfInBounds_toArray, List.set_cons_zero, List.set_cons_succ, i64_w, i32_w]
              rfl
            refine pure_ (i := 7) (N := some 109) (v := ?_) (a' := ?_) #[true, true, true, true, true, true, true, true, false, false, false, false, false, false, false, false, false, false, false] rfl rfl (by kernel_rfl) (fun _ _ _ h => h) (Or.inl ⟨by rfl, ?_⟩) ?_ ?_
            rotate_left
            · intro w'
              go_simp
              with_reducible rfl
            rotate_left
            · simp only [Act.put, List.setIfInBounds_toArray, List.set_cons_zero, List.set_cons_succ, i64_w, i32_w]
              rfl
            refine take_ (i := 8) (N := some 110) (v := ?_) (a' := ?_) #[true, true, true, true, true, true, true, true, true, false, false, false, false, false, false, false, false, false, false] rfl rfl (by kernel_rfl) (fun _ _ _ h => h) (Or.inl ⟨by rfl, ?_⟩) hHeld ?_ ?_
            rotate_left
            · rintro w' ⟨s0, s1_⟩
              go_simp
              with_reducible rfl
            rotate_left
            · simp only [Act.put, List.setIfInBounds_toArray, List.set_cons_zero, List.set_cons_succ, i64_w, i32_w]
              rfl
            refine pure_ (i := 9) (N := some 111) (v := ?_) (a' := ?_) #[true, true, true, true, true, true, true, true, true, true, false, false, false, false, false, false, false, false, false] rfl rfl (by kernel_rfl) (fun _ _ _ h => h) (Or.inl ⟨by rfl, ?_⟩) ?_ ?_
            rotate_left
            · intro w'
              go_simp
              with_reducible rfl
            rotate_left
            · simp only [Act.put, List.setIfInBounds_toArray, List.set_cons_zero, List.set_cons_succ, i64_w, i32_w]
              rfl
            refine take_ (i := 10) (N := some 112) (v := ?_) (a' := ?_) #[true, true, true, true, true, true, true, true, true, true, true, false, false, false, false, false, false, false, false] rfl rfl (by kernel_rfl) (fun _ _ _ h => h) (Or.inl ⟨by rfl, ?_⟩) hHeld ?_ ?_
            rotate_left
            · rintro w' ⟨s0, s1_⟩
              go_simp
              with_reducible rfl
            rotate_left
            · simp only [Act.put, List.setIfInBounds_toArray, List.set_cons_zero, List.set_cons_succ, i64_w, i32_w]
              rfl
            refine pure_ (i := 12) (N := some 114) (v := ?_) (a' := ?_) #[true, true, true, true, true, true, true, true, true, true, true, false, true, false, false, false, false, false, false] rfl rfl (by kernel_rfl) (fun _ _ _ h => h) (Or.inl ⟨by rfl, ?_⟩) ?_ ?_
            rotate_left
            · intro w'
              go_simp
              with_reducible rfl
            rotate_left
            · simp only [Act.put, List.setIfInBounds_toArray, List.set_cons_zero, List.set_cons_succ, i64_w, i32_w]
              rfl
            refine take_ (i := 13) (N := some 115) (v := ?_) (a' := ?_) #[true, true, true, true, true, true, true, true, true, true, true, false, true, true, false, false, false, false, false] rfl rfl (by kernel_rfl) (fun _ _ _ h => h) (Or.inl ⟨by rfl, ?_⟩) hHeld ?_ ?_
            rotate_left
            · rintro w' ⟨s0, s1_⟩
              go_simp
              with_reducible rfl
            rotate_left
            · simp only [Act.put, List.setIfInBounds_toArray, List.set_cons_zero, List.set_cons_succ, i64_w, i32_w]
              rfl
            refine join_ (σ := Nat) 4 #[true, true, true, true, true, true, true, true, true, true, true, true, true, true, true, false, false, false, false] (fun vb => [(113, .int .i64 (srchF K x.f0 : Nat)), (116, .slice (some ⟨vb, 0, none⟩) 1 1)]) (fun vb w' => (w'.cell? ⟨p, 8, none⟩ = some (.slice Ak K.length ck) ∧ w'.cell? ⟨g12, 0, none⟩ = some (.string x.f0)) ∧ Below w17.heap.size w17 w' ∧ w'.heap[vb]? = some (.cells #[.string x.f0] 9 (0, 0)) ∧ w17.heap.size ≤ vb) ?_ ?_
            rotate_left
            · intro hCont
              refine two_ (i := 11) (j := 14) (Ni := some 113) (Nj := some 116) #[true, true, true, true, true, true, true, true, true, true, true, true, true, true, false, false, false, false, false] #[true, true, true, true, true, true, true, true, true, true, true, false, true, true, true, false, false, false, false] rfl rfl rfl rfl (by kernel_rfl) (by decide) (by decide) (fun K0 hK0 => ?_) (fun K0 hK0 => ?_)
              · skip
                refine goes_ Try.func71 (by kernel_rfl) rfl #[.slice Ak K.length ck, .string x.f0] (by rfl) rfl rfl (by (try simp only [List.map_toArray, List.map_cons, List.map_nil]); first | done | rfl) ?_
                with_reducible refine (searchStrings_calls Ak ck K x.f0 _ ?side1 (by have := hKl.out; omega)).mono ?_
                (case side1 => exact hKA17.out.cOf)
                rintro e w18 ⟨rfl, hb_⟩
                refine ⟨_, rfl, ?_⟩
                refine hK0.out _ _ ⟨pw_cell_below hb_ hHeld.1, pw_cell_below hb_ hHeld.2⟩ (fun hHeld2 => ?_)
                clear hK0 K0
                refine norm_ (a' := ?_) ?_ ?_
                rotate_left
                · show Act.put _ (some 113) _ = _
                  simp only [Act.put, List.setIfInBounds_toArray, List.set_cons_zero, List.set_cons_succ, i64_w, i32_w]
                  rfl
                refine one_ (i := 14) (N := some 116) #[true, true, true, true, true, true, true, true, true, true, true, true, true, true, true, false, false, false, false] rfl rfl (by kernel_rfl) (by decide) (fun K0 hK0 => ?_)
                refine value_ (w1 := w18.alloc (.cells #[.string x.f0] 9)) (v := .slice (some ⟨w18.heap.size, 0, none⟩) 1 1) (by rfl) rfl (by go_simp) ?_
                have hbA := below_alloc (Below.refl _ w18) (.cells #[.string x.f0] 9 (0, 0))
                refine hK0.out _ _ ⟨pw_cell_below hbA hHeld2.1, pw_cell_below hbA hHeld2.2⟩ (fun hHeld3 => ?_)
                clear hK0 K0
                refine norm_ (a' := ?_) ?_ ?_
                rotate_left
                · show Act.put _ (some 116) _ = _
                  simp only [Act.put, List.setIfInBounds_toArray, List.set_cons_zero, List.set_cons_succ, i64_w, i32_w]
                  rfl
                exact norm_ (by simp only [putAll, Act.put, List.setIfInBounds_toArray, List.set_cons_zero, List.set_cons_succ]) (hCont w18.heap.size _ ⟨hHeld3, below_step hb_ hbA, heap_alloc_new w18 _, hb_.size⟩)
              · skip
                refine value_ (w1 := w17.alloc (.cells #[.string x.f0] 9)) (v := .slice (some ⟨w17.heap.size, 0, none⟩) 1 1) (by rfl) rfl (by go_simp) ?_
                have hbA := below_alloc (Below.refl _ w17) (.cells #[.string x.f0] 9 (0, 0))
                refine hK0.out _ _ ⟨pw_cell_below hbA hHeld.1, pw_cell_below hbA hHeld.2⟩ (fun hHeld2 => ?_)
                clear hK0 K0
                refine norm_ (a' := ?_) ?_ ?_
                rotate_left
                · show Act.put _ (some 116) _ = _
                  simp only [Act.put, List.setIfInBounds_toArray, List.set_cons_zero, List.set_cons_succ, i64_w, i32_w]
                  rfl
                refine one_ (i := 11) (N := some 113) #[true, true, true, true, true, true, true, true, true, true, true, true, true, true, true, false, false, false, false] rfl rfl (by kernel_rfl) (by decide) (fun K0 hK0 => ?_)
                refine goes_ Try.func71 (by kernel_rfl) rfl #[.slice Ak K.length ck, .string x.f0] (by rfl) rfl rfl (by (try simp only [List.map_toArray, List.map_cons, List.map_nil]); first | done | rfl) ?_
                with_reducible refine (searchStrings_calls Ak ck K x.f0 _ ?side1 (by have := hKl.out; omega)).mono ?_
                (case side1 => exact Kd.C_below hKA17.out.cOf hbA)
                rintro e w19 ⟨rfl, hb_⟩
                refine ⟨_, rfl, ?_⟩
                refine hK0.out _ _ ⟨pw_cell_below hb_ hHeld2.1, pw_cell_below hb_ hHeld2.2⟩ (fun hHeld3 => ?_)
                clear hK0 K0
                refine norm_ (a' := ?_) ?_ ?_
                rotate_left
                · show Act.put _ (some 113) _ = _
                  simp only [Act.put, List.setIfInBounds_toArray, List.set_cons_zero, List.set_cons_succ, i64_w, i32_w]
                  rfl
                exact norm_ (by simp only [putAll, Act.put, List.setIfInBounds_toArray, List.set_cons_zero, List.set_cons_succ]) (hCont w17.heap.size _ ⟨hHeld3, below_step hbA hb_, (blk_below (heap_alloc_new w17 (.cells #[.string x.f0] 9 (0, 0))) hb_), Nat.le_refl _⟩)
            rintro vb w18 ⟨hHeld2, hb18, hvb, hvb2⟩
            clear hHeld
            have HB18 := Aside0.mk hb18
            have HVB := Aside0.mk hvb
            have HVB2 := Aside0.mk hvb2
            clear hb18 hvb hvb2
            refine norm_ (a' := ?_) ?_ ?_
            rotate_left
            · simp only [putAll, Act.put, List.setIfInBounds_toArray, List.set_cons_zero, List.set_cons_succ]
              rfl
            refine one_ (i := 15) (N := some 117) #[true, true, true, true, true, true, true, true, true, true, true, true, true, true, true, true, false, false, false] rfl rfl (by kernel_rfl) (by decide) (fun K0 hK0 => ?_)
            refine goes_ Try.func84 (by kernel_rfl) rfl #[.slice Ak K.length ck, .int .i64 (srchF K x.f0 : Nat), .slice (some ⟨vb, 0, none⟩) 1 1] (by rfl) rfl rfl (by (try simp only [List.map_toArray, List.map_cons, List.map_nil]); first | done | rfl) ?_
            with_reducible refine (insert_one w18 base (fun q => (B q ∧ q ≠ g10) ∧ q ≠ p ∧ q ≠ mb) (.slice Ak K.length ck) K ?i1 vb x.f0 HVB.out ?i2 (srchF K x.f0) (srchF_le K x.f0) ?i3 ?i4 ?i5).mono ?_
            (case i1 => exact hKA17.out.step HB18.out.size (fun k _ hl_ => HB18.out.block k hl_))
            (case i2 => exact fun e => by have := (hKA17.out.ownLt vb e.symm).2; have := HVB2.out; omega)
            (case i3 => have := hKl.out; omega)
            (case i4 => exact Nat.le_trans HS17.out.base_le HB18.out.size)
            (case i5 => exact fun k hk_ => ⟨hbnr.out k (Nat.le_trans hprw17.out (Nat.le_trans HB18.out.size hk_)), fun e => by have h1_ := hownr.out k (.inl e); have h2_ := hprw17.out; have h3_ := HB18.out.size; omega, fun e => by have h1_ := hownr.out k (.inr (.inl e)); have h2_ := hprw17.out; have h3_ := HB18.out.size; omega⟩)
            rintro e w19 ⟨v, rfl, ho, hg, hat⟩
            obtain ⟨Av2, cv2, ev2⟩ := Kd.R_slice ho
            subst ev2
            refine ⟨_, rfl, ?_⟩
            have HRK := Aside0.mk ho
            have HGK := Aside0.mk hg
            have HATK := Aside0.mk hat
            clear ho hg hat
            have hpo := Aside0.mk (show some p ≠ (Value.slice Ak K.length ck).ownBlock from fun e => (hKA17.out.ownLt p e.symm).1.2.1 rfl)
            have hgo12 := Aside0.mk (show some g12 ≠ (Value.slice Ak K.length ck).ownBlock from fun e => by have h1_ := hownr.out g12 (.inr (.inr e)); have h2_ := GE12.out; omega)
            refine hK0.out _ _ ⟨(HGK.out.cell hHeld2.1 hpo.out), (HGK.out.cell hHeld2.2 hgo12.out)⟩ (fun hHeld3 => ?_)
            clear hK0 K0
            refine norm_ (a' := ?_) ?_ ?_
            rotate_left
            · show Act.put _ (some 117) _ = _
              simp only [Act.put, List.setIfInBounds_toArray, List.set_cons_zero, List.set_cons_succ, i64_w, i32_w]
              rfl
            refine pure_ (i := 16) (N := some 118) (v := ?_) (a' := ?_) #[true, true, true, true, true, true, true, true, true, true, true, true, true, true, true, true, true, false, false] rfl rfl (by kernel_rfl) (fun _ _ _ h => h) (Or.inl ⟨by rfl, ?_⟩) ?_ ?_
            rotate_left
            · intro w'
              go_simp
              with_reducible rfl
            rotate_left
            · simp only [Act.put, List.setIfInBounds_toArray, List.set_cons_zero, List.set_cons_succ, i64_w, i32_w]
              rfl
            refine pure_ (i := 17) (N := some 119) (v := ?_) (a' := ?_) #[true, true, true, true, true, true, true, true, true, true, true, true, true, true, true, true, true, true, false] rfl rfl (by kernel_rfl) (fun _ _ _ h => h) (Or.inl ⟨by rfl, ?_⟩) ?_ ?_
            rotate_left
            · intro w'
              go_simp
              with_reducible rfl
            rotate_left
            · simp only [Act.put, List.setIfInBounds_toArray, List.set_cons_zero, List.set_cons_succ, i64_w, i32_w]
              rfl
            refine last_ (i := 18) (N := none) #[true, true, true, true, true, true, true, true, true, true, true, true, true, true, true, true, true, true, true] rfl rfl (by kernel_rfl) (by decide) (fun K0 hK0 => ?_)
            have hs8 := hHeld3.1
            have hf8 : w19.frozen? ⟨p, 8, none⟩ = false := blk_frozen ((HGK.out.block p (Nat.lt_of_lt_of_le HS17.out.p_lt HB18.out.size) hpo.out).trans (blk_below HS17.out.cells HB18.out)) 8
            refine skip_ (w1 := ?_) (by rfl) rfl ?_ ?_
            rotate_left
            · go_simp
              rfl
            refine hK0.out _ _ ?_
            clear hK0 K0 hs8 hf8 hHeld2 hHeld3
            refine done_ (by kernel_rfl) ?_
            have hatk := Aside0.mk (show ∀ k, (Value.slice Av2 (insL K (srchF K x.f0) x.f0).length cv2).ownBlock = some k → (Value.slice Ak K.length ck).ownBlock = some k ∨ w18.heap.size ≤ k from fun k hk_ => HATK.out.elim (fun e => .inl (e ▸ hk_)) (fun ⟨b, e, hb_⟩ => .inr (by rw [e] at hk_; injection hk_ with hk_; omega)))
            have HS20 := Aside0.mk (StoreAt.insKeys (HS17.out.below HB18.out) HGK.out.size (fun k hl_ hne_ => HGK.out.block k hl_ hne_) (.inl HRK.out) hatk.out)
            have hg10o := Aside0.mk (show some g10 ≠ (Value.slice Ak K.length ck).ownBlock from fun e => HG.out (.inr (.inr e)))
            have BK20 := Aside0.mk (blk_far (p := ⟨p, 8, none⟩) (blk_grown (blk_below BK17.out HB18.out) HGK.out hg10o.out) hgp.out (.slice Av2 (insL K (srchF K x.f0) x.f0).length cv2))
            have HF20 := Aside0.mk (Kd.F_mono (Kd.F_far (p := ⟨p, 8, none⟩) (Kd.F_grown (Kd.F_bound (Kd.F_below HF17.out HB18.out)) HGK.out (fun k hk_ e => hk_.1.1 (.inr (.inr e)))) (fun k hk_ e => hk_.1.1 (.inl e)) (.slice Av2 (insL K (srchF K x.f0) x.f0).length cv2)) (ok' := fun k => ¬ Own p mb (.slice Av2 (insL K (srchF K x.f0) x.f0).length cv2) k ∧ k ≠ g10) (fun k hk_ => ⟨fun ho_ => by rcases ho_ with e | e | e; exact hk_.1.1 (.inl e); exact hk_.1.1 (.inr (.inl e)); exact (hatk.out k e.symm).elim (fun q => hk_.1.1 (.inr (.inr q.symm))) (fun q => by have := hk_.2; omega), hk_.1.2⟩))
            have HV20 := Aside0.mk (Kd.F_mono (Kd.F_far (p := ⟨p, 8, none⟩) (Kd.F_grown (Kd.F_bound (Kd.F_below HV17.out HB18.out)) HGK.out (fun k hk_ => hk_.1.2.2.2)) (fun k hk_ => hk_.1.2.1) (.slice Av2 (insL K (srchF K x.f0) x.f0).length cv2)) (ok' := fun q => (fun k => B k ∧ k ≠ g10) q ∧ q ≠ p ∧ q ≠ mb ∧ some q ≠ (Value.slice Av2 (insL K (srchF K x.f0) x.f0).length cv2).ownBlock) (fun k hk_ => ⟨hk_.1.1, hk_.1.2.1, hk_.1.2.2.1, fun e => (hatk.out k e.symm).elim (fun q => hk_.1.2.2.2 q.symm) (fun q => by have := hk_.2; omega)⟩))
            have hWw := Aside0.mk (show W.heap.size ≤ w18.heap.size from Nat.le_trans HT17.out.below.size HB18.out.size)
            have HT20 := Aside0.mk (((HT17.out.then_ (Turn.of_below HB18.out HS17.out.base_le (fun _ => False)) (fun _ hk_ => hk_.elim)).then_ (Turn.grown HGK.out (Nat.le_trans HS17.out.base_le HB18.out.size) (S := fun k => some k = (Value.slice Ak K.length ck).ownBlock) (fun k e => ⟨h.out.bb k (hKA17.out.ownLt k e).1.1.1, e.symm⟩)) (fun k hk_ => (HK.out k hk_.symm).imp (fun q => .inr (.inr q.symm)) id)).then_ (Turn.set (S := Own p mb kv) ⟨p, 8, none⟩ (.slice Av2 (insL K (srchF K x.f0) x.f0).length cv2) (h.out.bb _ h.out.bp) (.inl rfl)) (fun _ hk_ => .inl hk_))
            have HK20 := Aside0.mk (show ∀ k, (Value.slice Av2 (insL K (srchF K x.f0) x.f0).length cv2).ownBlock = some k → kv.ownBlock = some k ∨ W.heap.size ≤ k from fun k hk_ => (hatk.out k hk_).elim (fun q => HK.out k q) (fun q => .inr (Nat.le_trans hWw.out q)))
            have HG20 := Aside0.mk (show ¬ Own p mb (.slice Av2 (insL K (srchF K x.f0) x.f0).length cv2) g10 from fun ho_ => by rcases ho_ with e | e | e; exact HG.out (.inl e); exact HG.out (.inr (.inl e)); exact (hatk.out g10 e.symm).elim (fun q => HG.out (.inr (.inr q.symm))) (fun q => by have h1_ := blk_lt BK17.out; have h2_ := HB18.out.size; omega))
            have k12 := Aside0.mk (show (w19.setCell ⟨p, 8, none⟩ (.slice Av2 (insL K (srchF K x.f0) x.f0).length cv2)).heap[g12]? = some (.cells #[.string x.f0, .bool x.f1, .slice A2 x.f2.length c2] 102 (0, 0)) from blk_far (p := ⟨p, 8, none⟩) (blk_grown (blk_below BK12_17.out HB18.out) HGK.out hgo12.out) (fun e => by have h1_ := hownr.out p (.inl rfl); have h2_ := GE12.out; dsimp only at e; omega) _)
            clear HS17 HT17 BK17 HF17 HV17 hKA17 BK12_17 HB18 HVB HVB2 HRK HGK HATK hpo hgo12 hatk hg10o hWw
            generalize w19.setCell ⟨p, 8, none⟩ (.slice Av2 (insL K (srchF K x.f0) x.f0).length cv2) = w20 at HS20 BK20 HF20 HV20 HT20 k12 ⊢
            have d9 : w20.cell? ⟨p, 9, none⟩ = some (.map (some mb)) := (blk_cell HS20.out.cells 9).trans rfl
            have e12 : w20.cell? ⟨g12, 0, none⟩ = some (.string x.f0) := (blk_cell k12.out 0).trans rfl
            go_wp2
            have HS21 := Aside0.mk (HS20.out.below (below_drew1 (Below.refl _ _)))
            have HT21 := Aside0.mk (HT20.out.then_ (Turn.of_below (below_drew1 (Below.refl _ _)) HS20.out.base_le (fun _ => False)) (fun _ hk_ => hk_.elim))
            go_still_tail 7, (by kernel_rfl)
            go_wp2_with ((at_mapUpdate; refine wpList_mapUpdate_own _ rfl _ _ _ 89 rfl 9 22 law9 Try.underlying89 tok mb nr Dr rfl HS21.out.map (by have := hn.out; have := HNr.out; have := HNn.out; have := hLl.out; omega) (.string x.f0) (.slice Av (pf x.f0).length cv) (.string x.f0.data.toList) rfl rfl (Go.WideMaps.keyOf_string_mk Try.underlying9 hkx.out) (.held (.slice Av (pf x.f0).length cv)) [] rfl ?_; intro w18 hown hgrow; have HS18 := Aside0.mk (show StoreAt w18 base (fun k => B k ∧ k ≠ g10) p (midP s1 pf (L.take (i + 1))) (.slice Av2 (insL K (srchF K x.f0) x.f0).length cv2) mb (nr + 1) (Dr.put (.string x.f0.data.toList) (.held (.slice Av (pf x.f0).length cv))) by rw [← midP_next s1 pf L i hlt x HXE.out _ hinsK.out]; exact HS21.out.mapPut x.f0 HVl.out HV20.out hown hgrow); have BK18 := Aside0.mk (blk_grown (w := w20.drew) BK20.out hgrow (fun e => hgm.out (Option.some.inj e))); have HF18 := Aside0.mk (Kd.F_grown (W := w20.drew) HF20.out hgrow (fun k hk_ e => hk_.1 (.inr (.inl (Option.some.inj e))))); have HT18 := Aside0.mk (HT21.out.then_ (W1 := w20.drew) (Turn.grown hgrow HS20.out.base_le (S := Own p mb kv) (fun k e => by injection e with e; subst e; exact ⟨h.out.bb _ h.out.bm, .inr (.inl rfl)⟩)) (fun _ hk_ => .inl hk_)); clear hown hgrow))
            go_roundw
            case measure => simp [intOf]; omega
            case rel => exact ⟨i + 1, (.slice Av2 (insL K (srchF K x.f0) x.f0).length cv2), nr + 1, _, by go_num, by omega, ⟨by have := HNr.out; omega⟩, HS18, HT18, HK20, BK18, HF18, HG20⟩
          · have hinsK := Aside0.mk (show insK pf (L.take (i + 1)) s1.keys = insK pf (L.take i) s1.keys by rw [insK_step pf L s1.keys i hlt, HXE.out, if_neg hone])
            go_wp2
            have HS17 := Aside0.mk (HS16.out.below (below_drew1 (Below.refl _ _)))
            have HT17 := Aside0.mk (HT16.out.then_ (Turn.of_below (below_drew1 (Below.refl _ _)) HS16.out.base_le (fun _ => False)) (fun _ hk_ => hk_.elim))
            go_still_tail 7, (by kernel_rfl)
            go_wp2_with ((at_mapUpdate; refine wpList_mapUpdate_own _ rfl _ _ _ 89 rfl 9 22 law9 Try.underlying89 tok mb nr Dr rfl HS17.out.map (by have := hn.out; have := HNr.out; have := HNn.out; have := hLl.out; omega) (.string x.f0) (.slice Av (pf x.f0).length cv) (.string x.f0.data.toList) rfl rfl (Go.WideMaps.keyOf_string_mk Try.underlying9 hkx.out) (.held (.slice Av (pf x.f0).length cv)) [] rfl ?_; intro w18 hown hgrow; have HS18 := Aside0.mk (show StoreAt w18 base (fun k => B k ∧ k ≠ g10) p (midP s1 pf (L.take (i + 1))) (.slice Ak K.length ck) mb (nr + 1) (Dr.put (.string x.f0.data.toList) (.held (.slice Av (pf x.f0).length cv))) by rw [← midP_next s1 pf L i hlt x HXE.out _ hinsK.out]; exact HS17.out.mapPut x.f0 HVl.out HV.out hown hgrow); have BK18 := Aside0.mk (blk_grown (w := w16.drew) BK16.out hgrow (fun e => hgm.out (Option.some.inj e))); have HF18 := Aside0.mk (Kd.F_grown (W := w16.drew) HF16.out hgrow (fun k hk_ e => hk_.1 (.inr (.inl (Option.some.inj e))))); have HT18 := Aside0.mk (HT17.out.then_ (W1 := w16.drew) (Turn.grown hgrow HS16.out.base_le (S := Own p mb kv) (fun k e => by injection e with e; subst e; exact ⟨h.out.bb _ h.out.bm, .inr (.inl rfl)⟩)) (fun _ hk_ => .inl hk_)); clear hown hgrow))
            go_roundw
            case measure => simp [intOf]; omega
            case rel => exact ⟨i + 1, .slice Ak K.length ck, nr + 1, _, by go_num, by omega, ⟨by have := HNr.out; omega⟩, HS18, HT18, HK, BK18, HF18, HG⟩
        · have hie : i = L.length := by omega
          have hS := HS.out
          rw [hie, List.take_length] at hS
          have HS' := Aside0.mk hS
          clear hS HS HF
          have q0 := (blk_cell BK.out 0).trans (show _ = some (Value.int .i64 a1) from rfl)
          have q1 := (blk_cell BK.out 1).trans (show _ = some (Value.int .i64 b1) from rfl)
          have q2 := (blk_cell BK.out 2).trans (show _ = some (Value.int .i64 c1) from rfl)
          have f10 := blk_frozen HS'.out.cells 10
          have f11 := blk_frozen HS'.out.cells 11
          have f12 := blk_frozen HS'.out.cells 12
          have i10 : wr.cell? ⟨p, 10, none⟩ = some (.int .i64 s1.n0) := (blk_cell HS'.out.cells 10).trans rfl
          have i11 : wr.cell? ⟨p, 11, none⟩ = some (.int .i64 s1.n1) := (blk_cell HS'.out.cells 11).trans rfl
          have i12 : wr.cell? ⟨p, 12, none⟩ = some (.int .i64 s1.n2) := (blk_cell HS'.out.cells 12).trans rfl
          go_wp2_with (((with_reducible refine gate_store (t := 72) (p := 131) rfl ?_); refine store_event (t := 72) (p := 131) (v := ?vo3_) (w1 := ((wr.setCell ⟨p, 10, none⟩ (.int .i64 a1)).setCell ⟨p, 11, none⟩ (.int .i64 b1)).setCell ⟨p, 12, none⟩ (.int .i64 c1)) ?hg ?ho ?hn ?hr ?_; (case ho => rfl); (case hg => rfl); (case hn => rfl); (case hr => first | (go_simp; done) | (go_simp; rfl)); intro w9 hw; have HS9 := Aside0.mk (show StoreAt w9 base (fun k => B k ∧ k ≠ g10) p (putS s1 pf L (a1, b1, c1)) kvr mb nr Dr by rw [hw]; exact ((HS'.out.put 10 (.int .i64 a1) { midP s1 pf L with n0 := a1 } rfl rfl rfl).put 11 (.int .i64 b1) { midP s1 pf L with n0 := a1, n1 := b1 } rfl rfl rfl).put 12 (.int .i64 c1) (putS s1 pf L (a1, b1, c1)) rfl rfl rfl); have HT9 := Aside0.mk (show Turn base (Own p mb kv) W w9 by rw [hw]; exact ((HT.out.then_ (Turn.set (S := Own p mb kv) ⟨p, 10, none⟩ _ (h.out.bb _ h.out.bp) (.inl rfl)) (fun _ hk_ => .inl hk_)).then_ (Turn.set (S := Own p mb kv) ⟨p, 11, none⟩ _ (h.out.bb _ h.out.bp) (.inl rfl)) (fun _ hk_ => .inl hk_)).then_ (Turn.set (S := Own p mb kv) ⟨p, 12, none⟩ _ (h.out.bb _ h.out.bp) (.inl rfl)) (fun _ hk_ => .inl hk_)); have d7 : w9.cell? ⟨p, 7, none⟩ = some (.int .u64 (s1.now + 1)) := (blk_cell HS9.out.cells 7).trans rfl; clear hw q0 q1 q2 f10 f11 f12 i10 i11 i12))
          go_ret2
          have e_ : comOut s s1 pf L (a1, b1, c1) = (s1.now + 1, 0, putS s1 pf L (a1, b1, c1)) := by rw [← HNW.out]; exact if_pos HR1.out
          rw [e_]
          exact ⟨rfl, kvr, nr, Dr, HS9.out.rebase (fun k hk_ _ => hk_.1) hbb.out (fun k hk_ => (HS9.out.bn k hk_).1), by have := HNn.out; have := HNr.out; have := hLl.out; omega, HT9.out, HK.out⟩
end Go.Proofs.Yteofdgonpbmdlaa.C
namespace Go.Proofs.Yteofdgonpbmdlaa.C
open Go.RowKit Go.Maps Go.Proofs.YteofdgonpbmdlaaW.PrintWords Go.Proofs.YteofdgonpbmdlaaW.PrintLast Go.Proofs.YteofdgonpbmdlaaW.PrintMore
/-- What a commit's walk asks of the store and of the writes. -/
structure ComAsk (s : SS) (l : List S102) (low : Int) (ce : Int) (tf : ByteArray → List S28) (zf : ByteArray → Int) (pf : ByteArray → List S28) : Prop where
  len : l.length ≤ 1000
  key : ∀ x, x ∈ l → x.f0.size ≤ maxLen
  check : ∃ kc, store_Check.f kc l = some ce
  now : 0 ≤ s.now
  last : s.last ≤ 18446744073709551615
  keys : s.keys.length ≤ 90000
  keyl : ∀ key, key ∈ s.keys → key.size ≤ maxLen
  nodup : s.keys.Nodup
  trim : ∀ key, key ∈ s.keys → ∃ k, chain_Trim.f k (s.ch key) low = some (tf key)
  size : ∀ key, key ∈ s.keys → ∃ k, chain_Size.f k (tf key) = some (zf key)
  ch : ∀ key, (s.ch key).length ≤ 1000000
  ch1 : ∀ key, ((comS1 s l tf zf).ch key).length ≤ 1000000
  wnd : ce = 0 → (l.map (·.f0)).Nodup
  put : ce = 0 → ∀ x, x ∈ comesL (comS1 s l tf zf).ch l → ∃ k, chain_Put.f k ((comS1 s l tf zf).ch x.f0) (s.now + 1) x.f1 x.f2 = some (pf x.f0, 0)
theorem comesL_sub (ch : ByteArray → List S28) : ∀ l : List S102, (comesL ch l).Sublist l
  | [] => List.Sublist.slnil
  | x :: t => by
    simp only [comesL]
    split
    · exact (comesL_sub ch t).cons _
    · exact (comesL_sub ch t).cons_cons _
theorem comS1_keys (s : SS) (l : List S102) (tf : ByteArray → List S28) (zf : ByteArray → Int) : (comS1 s l tf zf).keys.length ≤ s.keys.length := by
  unfold comS1
  split
  · exact Nat.le_refl _
  · exact List.length_filter_le _ _
theorem ComPost.of_below {W w' : World} {base p : Nat} {B : Nat → Prop} {s : SS} {kv : Value} {mb n : Nat} {D : DataW Value} (h : StoreAt W base B p s kv mb n D) (hb : Below W.heap.size W w') (a b : Int) (m : Nat) : ComPost W base B p kv mb n (a, b, s) m (.returned (.tuple #[.int .u64 a, .int .i64 b])) w' :=
  ⟨rfl, kv, n, D, h.below hb, Nat.le_add_right _ _, Turn.of_below hb h.base_le _, fun _ hk => .inl hk⟩
theorem commit_calls {W : World} {base p : Nat} {B : Nat → Prop} {s : SS} {kv : Value} {mb n : Nat} {D : DataW Value} (h : Aside0 (StoreAt W base B p s kv mb n D)) (okA : Nat → Prop) (hokA : Aside0 (∀ k, okA k → k < W.heap.size ∧ ¬ Own p mb kv k)) (A : Option Addr) (c0 : Nat) (l : List S102) (hF : Aside0 (Kd.F k102 W okA A l.length l)) (hlc : Aside0 (l.length ≤ c0)) (low ce : Int) (tf : ByteArray → List S28) (zf : ByteArray → Int) (pf : ByteArray → List S28) (ha : Aside0 (ComAsk s l low ce tf zf pf)) (hn : Aside0 (n + s.keys.length + l.length < maxLen)) :
    Calls Try.prog 61 #[.pointer (some ⟨p, 0, none⟩), .slice A l.length c0, .int .u64 low] W (ComPost W base B p kv mb n (comR s l ce tf zf pf) (s.keys.length + l.length)) := by
  obtain ⟨a⟩ := ha
  obtain ⟨kc, hce⟩ := a.check
  by_cases h1 : ce = 0
  · subst h1
    by_cases h2 : l.length = 0
    · refine (commit_nil h A c0 l ⟨Kd.F_now hF.out⟩ hlc low kc ⟨hce⟩ h2).mono ?_
      rintro e w' ⟨rfl, hb⟩
      have : comR s l 0 tf zf pf = (s.now, 0, s) := by unfold comR; rw [if_neg (by decide), if_pos h2]
      rw [this]
      exact ComPost.of_below h.out hb _ _ _
    · by_cases h3 : s.last ≤ s.now
      · refine (commit_full h A c0 l ⟨Kd.F_now hF.out⟩ hlc low kc ⟨hce⟩ h2 h3).mono ?_
        rintro e w' ⟨rfl, hb⟩
        have : comR s l 0 tf zf pf = (0, 5, s) := by unfold comR; rw [if_neg (by decide), if_neg h2, if_pos h3]
        rw [this]
        exact ComPost.of_below h.out hb _ _ _
      · have hsub := comesL_sub (comS1 s l tf zf).ch l
        have := commit_main h okA hokA A c0 l hF hlc ⟨a.len⟩ ⟨a.key⟩ low kc ⟨hce⟩ h2 h3 ⟨a.now⟩ ⟨a.last⟩ tf zf pf ⟨by have := a.keys; omega⟩ ⟨a.keyl⟩ ⟨a.nodup⟩ ⟨a.trim⟩ ⟨a.size⟩ hn ⟨a.ch⟩ (comS1 s l tf zf) ⟨rfl⟩ ⟨a.ch1⟩ ⟨by have := comS1_keys s l tf zf; have := a.keys; omega⟩ (sizesOf (comS1 s l tf zf) l).1 (sizesOf (comS1 s l tf zf) l).2.1 (sizesOf (comS1 s l tf zf) l).2.2 ⟨rfl⟩ (comesL (comS1 s l tf zf).ch l) ⟨rfl⟩ ⟨(a.wnd rfl).sublist (hsub.map _)⟩ ⟨fun x hx => a.key x (hsub.mem hx)⟩ ⟨hsub.length_le⟩ ⟨a.put rfl⟩
        have e : comR s l 0 tf zf pf = comOut s (comS1 s l tf zf) pf (comesL (comS1 s l tf zf).ch l) (sizesOf (comS1 s l tf zf) l) := by
          unfold comR comOut
          rw [if_neg (by decide), if_neg h2, if_neg h3]
        rw [e]
        exact this
  · refine (commit_bad h A c0 l ⟨Kd.F_now hF.out⟩ hlc low kc ce ⟨hce⟩ h1).mono ?_
    rintro e w' ⟨rfl, hb⟩
    have : comR s l ce tf zf pf = (0, ce, s) := by unfold comR; rw [if_pos h1]
    rw [this]
    exact ComPost.of_below h.out hb _ _ _
end Go.Proofs.Yteofdgonpbmdlaa.C
namespace Go.Proofs.Yteofdgonpbmdlaa.St
open Go.RowKit Go.Proofs.YteofdgonpbmdlaaW.PrintWords Go.Proofs.Yteofdgonpbmdlaa.C Go.Proofs.Yteofdgonpbmdlaa.Pure
structure Good (m : Nat) (s : SS) : Prop where
  rg : ∀ key, rgt 0 (s.ch key) = true
  ln : ∀ key, (s.ch key).length ≤ m
  dl : ∀ key, ∀ v ∈ s.ch key, v.f2.length ≤ 4096
  tm : ∀ key, ∀ v ∈ s.ch key, v.f0 ≤ s.now
  so : Sorted s.keys
  me : ∀ key, key ∈ s.keys ↔ s.ch key ≠ []
  ks : ∀ key ∈ s.keys, key.size ≤ 256
  kn : s.keys.length ≤ 20 * m
  n0 : 0 ≤ s.now
  n1 : s.now ≤ s.last
  la : s.last ≤ 18446744073709551615
def tfP (s : SS) (low : Int) : ByteArray → List S28 := fun k => trimF (s.ch k) low
def zfP (s : SS) (low : Int) : ByteArray → Int := fun k => ((dsz (trimF (s.ch k) low) : Nat) : Int)
/-- A store collected. -/
def colP (s : SS) (low : Int) : SS := colS s (tfP s low) (zfP s low)
theorem trimF_nil (a : Int) : trimF [] a = [] := by simp [trimF]
theorem Good.ch0 {m : Nat} {s : SS} (h : Good m s) {key : ByteArray} (hk : key ∉ s.keys) : s.ch key = [] := by
  by_cases e : s.ch key = []
  · exact e
  · exact absurd ((h.me key).2 e) hk
theorem Good.col_ch {m : Nat} {s : SS} (h : Good m s) (low : Int) : (colP s low).ch = fun k => trimF (s.ch k) low := by
  funext k
  show colCh s.keys (tfP s low) s.ch k = _
  unfold colCh
  by_cases hk : k ∈ s.keys
  · rw [if_pos (hasK_iff.2 hk)]; rfl
  · rw [if_neg (fun q => hk (hasK_iff.1 q)), h.ch0 hk, trimF_nil]
theorem col_keys (s : SS) (low : Int) : (colP s low).keys = s.keys.filter (fun q => decide ((trimF (s.ch q) low).length ≠ 0)) := rfl
theorem Good.col {m : Nat} {s : SS} (h : Good m s) (low : Int) : Good m (colP s low) where
  rg := fun key => by rw [h.col_ch]; exact rgt_trim (h.rg key) low
  ln := fun key => by rw [h.col_ch]; exact Nat.le_trans (trim_len _ _) (h.ln key)
  dl := fun key v hv => by rw [h.col_ch] at hv; exact h.dl key v ((trim_sub _ _).mem hv)
  tm := fun key v hv => by rw [h.col_ch] at hv; exact h.tm key v ((trim_sub _ _).mem hv)
  so := by rw [col_keys]; exact h.so.sublist List.filter_sublist
  me := fun key => by
    rw [h.col_ch, col_keys, List.mem_filter]
    constructor
    · rintro ⟨_, h2⟩ e
      simp [e] at h2
    · intro h2
      refine ⟨(h.me key).2 (fun e => h2 (by show trimF (s.ch key) low = []; rw [e, trimF_nil])), ?_⟩
      simpa using h2
  ks := fun key hk => h.ks key (List.mem_filter.1 (by rw [col_keys] at hk; exact hk)).1
  kn := Nat.le_trans (by rw [col_keys]; exact List.length_filter_le _ _) h.kn
  n0 := h.n0
  n1 := h.n1
  la := h.la
def verOf (now : Int) (x : S102) : S28 := ⟨now + 1, x.f1, x.f2⟩
/-- The chains behind writes. -/
def pfP (s1 : SS) (L : List S102) : ByteArray → List S28 := fun k => s1.ch k ++ ((L.filter (fun x => decide (x.f0 = k))).map (verOf s1.now))
def comS (s : SS) (l : List S102) (low : Int) : SS := comS1 s l (tfP s low) (zfP s low)
def comL (s : SS) (l : List S102) (low : Int) : List S102 := comesL (comS s l low).ch l
/-- What a commit tells, and the store behind it. -/
def comP (s : SS) (l : List S102) (low : Int) : Int × Int × SS := comR s l (chkL none l) (tfP s low) (zfP s low) (pfP (comS s l low) (comL s l low))
theorem comS_cases (s : SS) (l : List S102) (low : Int) : comS s l low = s ∨ comS s l low = colP s low := by
  unfold comS comS1 colP
  split
  · exact .inl rfl
  · exact .inr rfl
theorem comS_now (s : SS) (l : List S102) (low : Int) : (comS s l low).now = s.now := by rcases comS_cases s l low with e | e <;> rw [e] <;> rfl
theorem comS_last (s : SS) (l : List S102) (low : Int) : (comS s l low).last = s.last := by rcases comS_cases s l low with e | e <;> rw [e] <;> rfl
theorem Good.coS {m : Nat} {s : SS} (h : Good m s) (l : List S102) (low : Int) : Good m (comS s l low) := by
  rcases comS_cases s l low with e | e <;> rw [e]
  · exact h
  · exact h.col low
theorem pf_not {s1 : SS} {L : List S102} {key : ByteArray} (h : key ∉ L.map (·.f0)) : pfP s1 L key = s1.ch key := by
  unfold pfP
  rw [List.filter_eq_nil_iff.2 (fun x hx => by
    simp only [decide_eq_true_eq]
    intro e
    exact h (List.mem_map.2 ⟨x, hx, e⟩))]
  simp
theorem filter_one : ∀ (L : List S102), (L.map (·.f0)).Nodup → ∀ x ∈ L, L.filter (fun y => decide (y.f0 = x.f0)) = [x]
  | [], _, x, hx => by cases hx
  | y :: t, hn, x, hx => by
    rw [List.map_cons, List.nodup_cons] at hn
    rcases List.mem_cons.1 hx with rfl | hx
    · rw [List.filter_cons, if_pos (by simp), List.filter_eq_nil_iff.2 (fun z hz => by
        simp only [decide_eq_true_eq]
        intro e
        exact hn.1 (List.mem_map.2 ⟨z, hz, e⟩))]
    · have : y.f0 ≠ x.f0 := fun e => hn.1 (List.mem_map.2 ⟨x, hx, e.symm⟩)
      rw [List.filter_cons, if_neg (by simpa using this)]
      exact filter_one t hn.2 x hx
theorem pf_at {s1 : SS} {L : List S102} (hn : (L.map (·.f0)).Nodup) {x : S102} (hx : x ∈ L) : pfP s1 L x.f0 = s1.ch x.f0 ++ [verOf s1.now x] := by
  unfold pfP
  rw [filter_one L hn x hx]
  rfl
theorem pf_colCh (s1 : SS) (L : List S102) : colCh (L.map (·.f0)) (pfP s1 L) s1.ch = pfP s1 L := by
  funext k
  unfold colCh
  by_cases hk : k ∈ L.map (·.f0)
  · rw [if_pos (hasK_iff.2 hk)]
  · rw [if_neg (fun q => hk (hasK_iff.1 q)), pf_not hk]
/-- The keys behind writes. -/
theorem insK_all (pf : ByteArray → List S28) : ∀ (L : List S102) (K : List ByteArray), Sorted K → (L.map (·.f0)).Nodup → (∀ x ∈ L, (pf x.f0).length = 1 ↔ x.f0 ∉ K) → Sorted (insK pf L K) ∧ ∀ q, q ∈ insK pf L K ↔ q ∈ K ∨ q ∈ L.map (·.f0)
  | [], K, hs, _, _ => ⟨hs, fun q => by simp [insK]⟩
  | x :: t, K, hs, hn, h1 => by
    rw [List.map_cons, List.nodup_cons] at hn
    simp only [insK]
    have hx := h1 x (List.mem_cons_self ..)
    by_cases hK : x.f0 ∈ K
    · rw [if_neg (fun e => hx.1 e hK)]
      obtain ⟨a, b⟩ := insK_all pf t K hs hn.2 (fun y hy => h1 y (List.mem_cons_of_mem _ hy))
      refine ⟨a, fun q => ?_⟩
      rw [b q, List.map_cons, List.mem_cons]
      constructor
      · exact fun h => h.imp id .inr
      · rintro (h | rfl | h)
        · exact .inl h
        · exact .inl hK
        · exact .inr h
    · rw [if_pos (hx.2 hK)]
      obtain ⟨a, b⟩ := insK_all pf t _ (insL_sorted hs x.f0 hK) hn.2 (fun y hy => by
        rw [h1 y (List.mem_cons_of_mem _ hy), insL_mem]
        have : y.f0 ≠ x.f0 := fun e => hn.1 (List.mem_map.2 ⟨y, hy, e⟩)
        simp [this])
      refine ⟨a, fun q => ?_⟩
      rw [b q, insL_mem, List.map_cons, List.mem_cons]
      constructor
      · rintro ((h | h) | h)
        · exact .inr (.inl h)
        · exact .inl h
        · exact .inr (.inr h)
      · rintro (h | h | h)
        · exact .inl (.inr h)
        · exact .inl (.inl h)
        · exact .inr h
theorem pf_len {m : Nat} {s1 : SS} (h : Good m s1) {L : List S102} (hn : (L.map (·.f0)).Nodup) : ∀ x ∈ L, (pfP s1 L x.f0).length = 1 ↔ x.f0 ∉ s1.keys := by
  intro x hx
  rw [pf_at hn hx, List.length_append, h.me]
  constructor
  · intro e hne
    exact hne (List.eq_nil_of_length_eq_zero (by simp at e; simp [e]))
  · intro hne
    rw [Classical.not_not.1 hne]
    rfl
/-- Writes of which nothing is wrong, committed at the next time. -/
theorem Good.put {m : Nat} {s1 : SS} (h : Good m s1) {L : List S102} (hw : WOk L) (hl : L.length ≤ 20) (hnow : ¬ s1.last ≤ s1.now) (N : Int × Int × Int) : Good (m + 1) (putS s1 (pfP s1 L) L N) := by
  have hn := hw.so.nodup
  obtain ⟨a, b⟩ := insK_all (pfP s1 L) L s1.keys h.so hn (pf_len h hn)
  have hch : (putS s1 (pfP s1 L) L N).ch = pfP s1 L := pf_colCh s1 L
  have hcase : ∀ key, (pfP s1 L key = s1.ch key ∧ key ∉ L.map (·.f0)) ∨ ∃ x ∈ L, x.f0 = key ∧ pfP s1 L key = s1.ch key ++ [verOf s1.now x] := fun key => by
    by_cases hk : key ∈ L.map (·.f0)
    · obtain ⟨x, hx, rfl⟩ := List.mem_map.1 hk
      exact .inr ⟨x, hx, rfl, pf_at hn hx⟩
    · exact .inl ⟨pf_not hk, hk⟩
  have h0 := h.n0
  refine ⟨fun key => ?_, fun key => ?_, fun key v hv => ?_, fun key v hv => ?_, a, fun key => ?_, fun key hk => ?_, ?_, ?_, ?_, h.la⟩
  · rw [hch]
    rcases hcase key with ⟨e, _⟩ | ⟨x, hx, _, e⟩
    · rw [e]; exact h.rg key
    · rw [e]; exact rgt_app (h.rg key) _ (fun y hy => by have := h.tm key y hy; show y.f0 < s1.now + 1; omega) (by show 0 < s1.now + 1; omega) (hw.go x hx)
  · rw [hch]
    have := h.ln key
    rcases hcase key with ⟨e, _⟩ | ⟨x, hx, _, e⟩
    · rw [e]; omega
    · rw [e, List.length_append]; simp; omega
  · rw [hch] at hv
    rcases hcase key with ⟨e, _⟩ | ⟨x, hx, _, e⟩
    · rw [e] at hv; exact h.dl key v hv
    · rw [e] at hv
      rcases List.mem_append.1 hv with hv | hv
      · exact h.dl key v hv
      · rw [List.mem_singleton.1 hv]; exact hw.dl x hx
  · rw [hch] at hv
    show v.f0 ≤ s1.now + 1
    rcases hcase key with ⟨e, _⟩ | ⟨x, hx, _, e⟩
    · rw [e] at hv; have := h.tm key v hv; omega
    · rw [e] at hv
      rcases List.mem_append.1 hv with hv | hv
      · have := h.tm key v hv; omega
      · rw [List.mem_singleton.1 hv]; exact Int.le_refl _
  · show key ∈ insK (pfP s1 L) L s1.keys ↔ _
    rw [hch, b key]
    rcases hcase key with ⟨e, hk⟩ | ⟨x, hx, hk, e⟩
    · rw [e, h.me]
      exact ⟨fun q => q.elim id (fun q => absurd q hk), .inl⟩
    · rw [e]
      exact ⟨fun _ => by simp, fun _ => .inr (List.mem_map.2 ⟨x, hx, hk⟩)⟩
  · rcases (b key).1 hk with hk | hk
    · exact h.ks key hk
    · obtain ⟨x, hx, rfl⟩ := List.mem_map.1 hk
      exact hw.ks x hx
  · have := insK_le (pfP s1 L) L s1.keys
    have := h.kn
    show (insK (pfP s1 L) L s1.keys).length ≤ _
    omega
  · show 0 ≤ s1.now + 1
    omega
  · show s1.now + 1 ≤ s1.last
    omega
theorem WOk.sub {l L : List S102} (h : WOk l) (hs : L.Sublist l) : WOk L where
  so := h.so.sublist (hs.map _)
  ks := fun x hx => h.ks x (hs.mem hx)
  ne := fun x hx => h.ne x (hs.mem hx)
  dl := fun x hx => h.dl x (hs.mem hx)
  go := fun x hx => h.go x (hs.mem hx)
theorem Good.mono {m m' : Nat} {s : SS} (h : Good m s) (hm : m ≤ m') : Good m' s := { h with ln := fun key => Nat.le_trans (h.ln key) hm, kn := Nat.le_trans h.kn (by omega) }
theorem Good.com {m : Nat} {s : SS} (h : Good m s) {l : List S102} (hl : l.length ≤ 20) (low : Int) : Good (m + 1) (comP s l low).2.2 := by
  unfold comP comR
  split
  · exact h.mono (by omega)
  rename_i h1
  split
  · exact h.mono (by omega)
  split
  · exact h.mono (by omega)
  rename_i h3
  have hw := chk_wok (Classical.not_not.1 h1)
  split
  · have hsub := comesL_sub (comS s l low).ch l
    exact (h.coS l low).put (hw.sub hsub) (Nat.le_trans hsub.length_le hl) (by rw [comS_now, comS_last]; exact h3) _
  · exact (h.coS l low).mono (by omega)
theorem Good.get {m : Nat} {s : SS} (h : Good m s) (hm : m ≤ 800) (key : ByteArray) (a : Int) : chain_Get.f (s.ch key) a = some (getF (s.ch key) a) :=
  get5 (h.rg key) (fun v hv => by have := h.dl key v hv; omega) (by have := h.ln key; omega) a
theorem Good.lastEq {m : Nat} {s : SS} (h : Good m s) (hm : m ≤ 800) (key : ByteArray) : chain_Last.f (s.ch key) = some (lastF (s.ch key)) := last5 (by have := h.ln key; omega)
theorem Good.trim {m : Nat} {s : SS} (h : Good m s) (hm : m ≤ 800) (key : ByteArray) (a : Int) : ∃ k, chain_Trim.f k (s.ch key) a = some (tfP s a key) :=
  (trim5 (h.rg key) (fun v hv => by have := h.dl key v hv; omega) (by have := h.ln key; omega) a).rounds
theorem Good.size {m : Nat} {s : SS} (h : Good m s) (hm : m ≤ 800) (key : ByteArray) (a : Int) : ∃ k, chain_Size.f k (tfP s a key) = some (zfP s a key) :=
  (size5 _ (by have := h.ln key; have := trim_len (s.ch key) a; unfold tfP; omega) (fun v hv => by have := h.dl key v ((trim_sub _ _).mem hv); omega)).rounds
theorem size256 {x : ByteArray} (h : x.size ≤ 256) : x.size ≤ maxLen := by simp only [maxLen]; omega
theorem Good.ask {m : Nat} {s : SS} (h : Good m s) (hm : m ≤ 800) {l : List S102} (hl : l.length ≤ 20) (hk : ∀ x ∈ l, x.f0.size ≤ maxLen) (low : Int) : ComAsk s l low (chkL none l) (tfP s low) (zfP s low) (pfP (comS s l low) (comL s l low)) where
  len := by omega
  key := hk
  check := chk_ev l (by omega)
  now := h.n0
  last := h.la
  keys := by have := h.kn; omega
  keyl := fun key hk => size256 (h.ks key hk)
  nodup := h.so.nodup
  trim := fun key _ => h.trim hm key low
  size := fun key _ => h.size hm key low
  ch := fun key => by have := h.ln key; omega
  ch1 := fun key => by have := (h.coS l low).ln key; unfold comS at this; omega
  wnd := fun hc => (chk_wok hc).so.nodup
  put := fun hc x hx => by
    have hw := chk_wok hc
    have hsub : (comL s l low).Sublist l := comesL_sub (comS s l low).ch l
    have hg := h.coS l low
    have hx' : x ∈ comL s l low := hx
    have hn := comS_now s l low
    have h0 := hg.n0
    rw [pf_at (hw.sub hsub).so.nodup hx']
    have hv := put5 (l := (comS s l low).ch x.f0) (by have := hg.ln x.f0; omega) (fun v hv => by have := hg.dl x.f0 v hv; omega) (verOf (comS s l low).now x) (by have := hw.dl x (hsub.mem hx'); show x.f2.length ≤ 5000; omega) (hg.rg x.f0)
      (by
        rw [rgt_iff]
        refine ⟨fun v hv => ?_, by simp⟩
        rw [List.mem_singleton.1 hv]
        exact ⟨by show 0 < (comS s l low).now + 1; omega, hw.go x (hsub.mem hx')⟩)
      (by
        have := lastF_le h0 (hg.tm x.f0)
        show ¬ (comS s l low).now + 1 ≤ _
        omega)
    obtain ⟨k, hk⟩ := hv.rounds
    refine ⟨k, ?_⟩
    rw [← hn]
    exact hk
end Go.Proofs.Yteofdgonpbmdlaa.St
namespace Go.Proofs.Yteofdgonpbmdlaa.C
open Go.RowKit Go.Proofs.YteofdgonpbmdlaaW.PrintWords Go.Proofs.YteofdgonpbmdlaaW.PrintLast Go.Proofs.YteofdgonpbmdlaaW.PrintMore
attribute [local go_sem] max2_int min2_int max2_str min2_str str_leq str_gtr str_geq max_two min_two max_three min_three max_four min_four
set_option linter.unusedVariables false
set_option linter.unusedSimpArgs false
def conductorref08_SamePairs.l0 : Nat → List (S62) → List (S62) → Int → Int → Option (Bool)
 | 0, _, _, _, _ => none
 | k + 1, x0, x1, x12, x13 => if x13 < x12 then (if 0 ≤ x13 then (if x13 < (x0.length : Int) then (if x13 < (x1.length : Int) then (if ((rd_T62 x0 x13).f0).toList = ((rd_T62 x1 x13).f0).toList then (if (strOfNums ((rd_T62 x0 x13).f1)).toList = (strOfNums ((rd_T62 x1 x13).f1)).toList then (conductorref08_SamePairs.l0 k x0 x1 x12 (wrap64 (x13 + 1))) else (some false)) else (some false)) else (none)) else (none)) else (none)) else (some true)
def conductorref08_SamePairs.f (k : Nat) (l0 : List (S62)) (l1 : List (S62)) : Option (Bool) := if (l0.length : Int) = (l1.length : Int) then (conductorref08_SamePairs.l0 k l0 l1 (l0.length : Int) 0) else (some false)
theorem conductorref08_SamePairs.mono_l : ∀ k, (∀ y0 y1 y2 y3, LeO (conductorref08_SamePairs.l0 k y0 y1 y2 y3) (conductorref08_SamePairs.l0 (k + 1) y0 y1 y2 y3))
 | 0 => fun _ _ _ _ r h => by simp [conductorref08_SamePairs.l0] at h
 | k + 1 => by
  have ih0 := conductorref08_SamePairs.mono_l k
  ·intro y0 y1 y2 y3
   unfold conductorref08_SamePairs.l0
   repeat' first
   | (with_reducible exact ih0 _ _ _ _)
   | (with_reducible exact LeO.refl _)
   | (with_reducible exact LeO.none _)
   | (with_reducible refine LeO.ite ?_ ?_)
   | (with_reducible refine LeO.bind ?_ (fun _ => ?_))
   | exact ih0 _ _ _ _
   | exact LeO.none _
   | refine LeO.ite ?_ ?_
   | refine LeO.bind ?_ (fun _ => ?_)
theorem conductorref08_SamePairs.mono : ∀ a0 a1 k, LeO (conductorref08_SamePairs.f k a0 a1) (conductorref08_SamePairs.f (k + 1) a0 a1) := by
 intro a0 a1 k
 have ih0 := conductorref08_SamePairs.mono_l k
 unfold conductorref08_SamePairs.f
 repeat' first
   | (with_reducible exact ih0 _ _ _ _)
   | (with_reducible exact LeO.refl _)
   | (with_reducible exact LeO.none _)
   | (with_reducible refine LeO.ite ?_ ?_)
   | (with_reducible refine LeO.bind ?_ (fun _ => ?_))
   | exact ih0 _ _ _ _
   | exact LeO.none _
   | refine LeO.ite ?_ ?_
   | refine LeO.bind ?_ (fun _ => ?_)
set_option maxHeartbeats 8000000 in
set_option maxRecDepth 100000 in
theorem conductorref08_SamePairs.calls (k : Nat) (A0 : Option Addr) (c0 : Nat) (l0 : List (S62)) (A1 : Option Addr) (c1 : Nat) (l1 : List (S62)) (r : Bool) (w : World) (hr0 : Kd.C k62 w A0 l0.length l0) (hc0 : l0.length ≤ c0) (hr1 : Kd.C k62 w A1 l1.length l1) (hc1 : l1.length ≤ c1) (h : conductorref08_SamePairs.f k l0 l1 = some r) :
  Calls Try.prog 45 #[.slice A0 l0.length c0, .slice A1 l1.length c1] w fun e w' => e = .returned (.bool r) ∧ Drawn0 w w' := by
 have HR0 := Aside0.mk hr0; have HC0 := Aside0.mk hc0; clear hr0 hc0; have HR1 := Aside0.mk hr1; have HC1 := Aside0.mk hc1; clear hr1 hc1
 have H : (if (l0.length : Int) = (l1.length : Int) then (conductorref08_SamePairs.l0 k l0 l1 (l0.length : Int) 0) else (some false)) = some r := h
 clear h
 by_cases c3 : (l0.length : Int) = (l1.length : Int)
 ·rw [if_pos c3] at H
  have c3b0 : ((l0.length : Int) == (l1.length : Int)) = true := beq_iff_eq.mpr c3
  have c3b1 : ((l0.length : Int) != (l1.length : Int)) = false := bne_eq_false_iff_eq.mpr c3
  have c3b2 : (l0.length == l1.length) = true := by first | simpa using c3 | (simp at c3 ⊢; omega)
  clear c3; have H' := Aside0.mk H; clear H
  go_enter Try.func45, Try.ntmps45
  go_wp2
  repeat (go_quiet (fail); try go_wp2)
  go_loopg [13] k (fun kq v13 w' => ∃ (x13_1 : Int), v13 = .int .i64 x13_1 ∧ Aside0 (conductorref08_SamePairs.l0 kq l0 l1 (l0.length : Int) x13_1 = some r) ∧ Aside0 (kq ≤ k) ∧ Drawn0 w w')
  case atStart => exact ⟨(0), (by first | rfl | (simp; done) | (simp [*]; done)), H', ⟨Nat.le_refl _⟩, by repeat (first | exact Drawn0.refl _ | apply Drawn0.step)⟩
  case round =>
   clear H'
   try clear c1
   try clear p2
   try clear c3
   try clear c3b0
   try clear c3b1
   try clear c3b2
   obtain ⟨x13_1, rfl, HA, HK1, ⟨m1, rfl⟩⟩ := hrel
   cases gk with
   | zero => exact absurd HA.out (by simp [conductorref08_SamePairs.l0])
   | succ k1 =>
    have H := HA.out
    clear HA
    simp only [conductorref08_SamePairs.l0] at H
    by_cases c4 : x13_1 < (l0.length : Int)
    ·rw [if_pos c4] at H
     have c4b0 : decide (x13_1 < (l0.length : Int)) = true := decide_eq_true c4
     clear c4
     by_cases c5 : 0 ≤ x13_1
     ·rw [if_pos c5] at H
      have c5b0 : decide (0 ≤ x13_1) = true := decide_eq_true c5
      clear c5
      by_cases c6 : x13_1 < (l0.length : Int)
      ·rw [if_pos c6] at H
       have c6b0 : decide (x13_1 < (l0.length : Int)) = true := decide_eq_true c6
       clear c6
       by_cases c7 : x13_1 < (l1.length : Int)
       ·rw [if_pos c7] at H
        have c7b0 : decide (x13_1 < (l1.length : Int)) = true := decide_eq_true c7
        clear c7
        by_cases c8 : ((rd_T62 l0 x13_1).f0).toList = ((rd_T62 l1 x13_1).f0).toList
        ·rw [if_pos c8] at H
         have c8b0 : (((rd_T62 l0 x13_1).f0).toList == ((rd_T62 l1 x13_1).f0).toList) = true := beq_iff_eq.mpr c8
         have c8b1 : (((rd_T62 l0 x13_1).f0).toList != ((rd_T62 l1 x13_1).f0).toList) = false := bne_eq_false_iff_eq.mpr c8
         clear c8
         by_cases c9 : (strOfNums ((rd_T62 l0 x13_1).f1)).toList = (strOfNums ((rd_T62 l1 x13_1).f1)).toList
         ·rw [if_pos c9] at H
          have c9b0 : ((strOfNums ((rd_T62 l0 x13_1).f1)).toList == (strOfNums ((rd_T62 l1 x13_1).f1)).toList) = true := beq_iff_eq.mpr c9
          have c9b1 : ((strOfNums ((rd_T62 l0 x13_1).f1)).toList != (strOfNums ((rd_T62 l1 x13_1).f1)).toList) = false := bne_eq_false_iff_eq.mpr c9
          clear c9; have H' := Aside0.mk H; clear H
          have p425 : 0 ≤ (x13_1 : Int) := od_
          have q425 : x13_1 < (l0.length : Int) := od_
          obtain ⟨ad425, A425_1, c425_1, e425, hx425_0, hx425_1, hl425_1, hi425_1⟩ := at_T62 HR0.out x13_1 p425 q425; cases e425; have HR425_1 := Aside0.mk hi425_1; have HC425_1 := Aside0.mk hl425_1; clear hi425_1 hl425_1; replace p425 := eq_true p425; replace q425 := eq_true q425
          have p426 : 0 ≤ (x13_1 : Int) := od_
          have q426 : x13_1 < (l1.length : Int) := od_
          obtain ⟨ad426, A426_1, c426_1, e426, hx426_0, hx426_1, hl426_1, hi426_1⟩ := at_T62 HR1.out x13_1 p426 q426; cases e426; have HR426_1 := Aside0.mk hi426_1; have HC426_1 := Aside0.mk hl426_1; clear hi426_1 hl426_1; replace p426 := eq_true p426; replace q426 := eq_true q426
          have p427 : 0 ≤ (x13_1 : Int) := od_
          have q427 : x13_1 < (l0.length : Int) := od_
          obtain ⟨ad427, A427_1, c427_1, e427, hx427_0, hx427_1, hl427_1, hi427_1⟩ := at_T62 HR0.out x13_1 p427 q427
          obtain rfl : ad425 = ad427 := (by injection e427)
          have HR427_1 := Aside0.mk hi427_1; have HC427_1 := Aside0.mk hl427_1; clear hi427_1 hl427_1; replace p427 := eq_true p427; replace q427 := eq_true q427
          have ea_ := Option.some.inj (hx425_1.symm.trans hx427_1)
          injection ea_ with ea_ en_ ec_
          subst ea_; subst ec_; clear en_
          have hcv10 := fun m_ => Kd.C_string (P := Try.prog) (A := A425_1) (c := c425_1) Try.underlying26 Try.underlying5 Try.underlying9 (Kd.C_drewN HR427_1.out m_)
          have p428 : 0 ≤ (x13_1 : Int) := od_
          have q428 : x13_1 < (l1.length : Int) := od_
          obtain ⟨ad428, A428_1, c428_1, e428, hx428_0, hx428_1, hl428_1, hi428_1⟩ := at_T62 HR1.out x13_1 p428 q428
          obtain rfl : ad426 = ad428 := (by injection e428)
          have HR428_1 := Aside0.mk hi428_1; have HC428_1 := Aside0.mk hl428_1; clear hi428_1 hl428_1; replace p428 := eq_true p428; replace q428 := eq_true q428
          have ea_ := Option.some.inj (hx426_1.symm.trans hx428_1)
          injection ea_ with ea_ en_ ec_
          subst ea_; subst ec_; clear en_
          have hcv11 := fun m_ => Kd.C_string (P := Try.prog) (A := A426_1) (c := c426_1) Try.underlying26 Try.underlying5 Try.underlying9 (Kd.C_drewN HR428_1.out m_)
          go_wp2
          repeat (go_quiet (fail); try go_wp2)
          go_roundg k1
          case measure => have := HK1.out; omega
          case rel => exact ⟨(wrap64 (x13_1 + 1)), (by first | rfl | (simp; done) | (simp [*]; done)), H', ⟨by have := HK1.out; omega⟩, by repeat (first | exact Drawn0.refl _ | apply Drawn0.step)⟩
         ·rw [if_neg c9] at H
          have c9b0 : ((strOfNums ((rd_T62 l0 x13_1).f1)).toList == (strOfNums ((rd_T62 l1 x13_1).f1)).toList) = false := beq_eq_false_iff_ne.mpr c9
          have c9b1 : ((strOfNums ((rd_T62 l0 x13_1).f1)).toList != (strOfNums ((rd_T62 l1 x13_1).f1)).toList) = true := bne_iff_ne.mpr c9
          obtain rfl := Option.some.inj H
          have p425 : 0 ≤ (x13_1 : Int) := od_
          have q425 : x13_1 < (l0.length : Int) := od_
          obtain ⟨ad425, A425_1, c425_1, e425, hx425_0, hx425_1, hl425_1, hi425_1⟩ := at_T62 HR0.out x13_1 p425 q425; cases e425; have HR425_1 := Aside0.mk hi425_1; have HC425_1 := Aside0.mk hl425_1; clear hi425_1 hl425_1; replace p425 := eq_true p425; replace q425 := eq_true q425
          have p426 : 0 ≤ (x13_1 : Int) := od_
          have q426 : x13_1 < (l1.length : Int) := od_
          obtain ⟨ad426, A426_1, c426_1, e426, hx426_0, hx426_1, hl426_1, hi426_1⟩ := at_T62 HR1.out x13_1 p426 q426; cases e426; have HR426_1 := Aside0.mk hi426_1; have HC426_1 := Aside0.mk hl426_1; clear hi426_1 hl426_1; replace p426 := eq_true p426; replace q426 := eq_true q426
          have p427 : 0 ≤ (x13_1 : Int) := od_
          have q427 : x13_1 < (l0.length : Int) := od_
          obtain ⟨ad427, A427_1, c427_1, e427, hx427_0, hx427_1, hl427_1, hi427_1⟩ := at_T62 HR0.out x13_1 p427 q427
          obtain rfl : ad425 = ad427 := (by injection e427)
          have HR427_1 := Aside0.mk hi427_1; have HC427_1 := Aside0.mk hl427_1; clear hi427_1 hl427_1; replace p427 := eq_true p427; replace q427 := eq_true q427
          have ea_ := Option.some.inj (hx425_1.symm.trans hx427_1)
          injection ea_ with ea_ en_ ec_
          subst ea_; subst ec_; clear en_
          have hcv12 := fun m_ => Kd.C_string (P := Try.prog) (A := A425_1) (c := c425_1) Try.underlying26 Try.underlying5 Try.underlying9 (Kd.C_drewN HR427_1.out m_)
          have p428 : 0 ≤ (x13_1 : Int) := od_
          have q428 : x13_1 < (l1.length : Int) := od_
          obtain ⟨ad428, A428_1, c428_1, e428, hx428_0, hx428_1, hl428_1, hi428_1⟩ := at_T62 HR1.out x13_1 p428 q428
          obtain rfl : ad426 = ad428 := (by injection e428)
          have HR428_1 := Aside0.mk hi428_1; have HC428_1 := Aside0.mk hl428_1; clear hi428_1 hl428_1; replace p428 := eq_true p428; replace q428 := eq_true q428
          have ea_ := Option.some.inj (hx426_1.symm.trans hx428_1)
          injection ea_ with ea_ en_ ec_
          subst ea_; subst ec_; clear en_
          have hcv13 := fun m_ => Kd.C_string (P := Try.prog) (A := A426_1) (c := c426_1) Try.underlying26 Try.underlying5 Try.underlying9 (Kd.C_drewN HR428_1.out m_)
          go_wp2
          repeat (go_quiet (fail); try go_wp2)
          go_ret
          exact ⟨by first | rfl | (simp; done) | (simp [*]; done), by repeat (first | exact Drawn0.refl _ | apply Drawn0.step)⟩
        ·rw [if_neg c8] at H
         have c8b0 : (((rd_T62 l0 x13_1).f0).toList == ((rd_T62 l1 x13_1).f0).toList) = false := beq_eq_false_iff_ne.mpr c8
         have c8b1 : (((rd_T62 l0 x13_1).f0).toList != ((rd_T62 l1 x13_1).f0).toList) = true := bne_iff_ne.mpr c8
         obtain rfl := Option.some.inj H
         have p425 : 0 ≤ (x13_1 : Int) := od_
         have q425 : x13_1 < (l0.length : Int) := od_
         obtain ⟨ad425, A425_1, c425_1, e425, hx425_0, hx425_1, hl425_1, hi425_1⟩ := at_T62 HR0.out x13_1 p425 q425; cases e425; have HR425_1 := Aside0.mk hi425_1; have HC425_1 := Aside0.mk hl425_1; clear hi425_1 hl425_1; replace p425 := eq_true p425; replace q425 := eq_true q425
         have p426 : 0 ≤ (x13_1 : Int) := od_
         have q426 : x13_1 < (l1.length : Int) := od_
         obtain ⟨ad426, A426_1, c426_1, e426, hx426_0, hx426_1, hl426_1, hi426_1⟩ := at_T62 HR1.out x13_1 p426 q426; cases e426; have HR426_1 := Aside0.mk hi426_1; have HC426_1 := Aside0.mk hl426_1; clear hi426_1 hl426_1; replace p426 := eq_true p426; replace q426 := eq_true q426
         go_wp2
         repeat (go_quiet (fail); try go_wp2)
         go_ret
         exact ⟨by first | rfl | (simp; done) | (simp [*]; done), by repeat (first | exact Drawn0.refl _ | apply Drawn0.step)⟩
       ·rw [if_neg c7] at H
        exact absurd H (by simp)
      ·rw [if_neg c6] at H
       exact absurd H (by simp)
     ·rw [if_neg c5] at H
      exact absurd H (by simp)
    ·rw [if_neg c4] at H
     have c4b0 : decide (x13_1 < (l0.length : Int)) = false := decide_eq_false c4
     clear c4; obtain rfl := Option.some.inj H
     go_wp2
     repeat (go_quiet (fail); try go_wp2)
     go_ret
     exact ⟨by first | rfl | (simp; done) | (simp [*]; done), by repeat (first | exact Drawn0.refl _ | apply Drawn0.step)⟩
 ·rw [if_neg c3] at H
  have c3b0 : ((l0.length : Int) == (l1.length : Int)) = false := beq_eq_false_iff_ne.mpr c3
  have c3b1 : ((l0.length : Int) != (l1.length : Int)) = true := bne_iff_ne.mpr c3
  have c3b2 : (l0.length == l1.length) = false := by first | simpa using c3 | (simp at c3 ⊢; omega)
  obtain rfl := Option.some.inj H
  go_enter Try.func45, Try.ntmps45
  go_wp2
  repeat (go_quiet (fail); try go_wp2)
  go_ret
  exact ⟨by first | rfl | (simp; done) | (simp [*]; done), by repeat (first | exact Drawn0.refl _ | apply Drawn0.step)⟩
end Go.Proofs.Yteofdgonpbmdlaa.C
