/- Texts of this session, merged for the law StoreDoes: TH, TK, TL, TF, TM, TG, TJ. No condition. -/
import Derived.Test.YteofdgonpbmdlaaZStoreDoess
import Derived.Maps.OwnSet
import Derived.Lib.SlBytesConst
import Derived.Deep.RegionHeld3
import Derived.Test.YteofdgonpbmdlaaZStoreDoesp
import Derived.Test.YteofdgonpbmdlaaZStoreDoesr
import Derived.Shelf.Spec.SlicesInsertGrow
set_option linter.unusedVariables false
set_option linter.unusedSimpArgs false
namespace Go.Proofs.Yteofdgonpbmdlaa.C
open Go.RowKit Go.Maps Go.Proofs.YteofdgonpbmdlaaW.PrintWords Go.Proofs.YteofdgonpbmdlaaW.PrintLast Go.Proofs.YteofdgonpbmdlaaW.PrintMore
attribute [local go_sem] max2_int min2_int max2_str min2_str str_leq str_gtr str_geq max_two min_two max_three min_three max_four min_four
theorem info102 : (Try.prog.info? 102).map (fun i => (i.zero, i.size, i.bytes)) = some (some (.agg #[(.string ⟨#[]⟩), (.bool false), (.slice none 0 0)]), 3, 48) := by kernel_rfl
theorem StoreAt.lookW {W W' : World} {base p : Nat} {B : Nat → Prop} {s : SS} {kv : Value} {mb n : Nat} {D : DataW Value} (h : StoreAt W base B p s kv mb n D) (hb : Below W.heap.size W W') (key : ByteArray) (hk : key.size ≤ maxLen) {v : Value}
    (h1 : D.atKey (.string key.data.toList) (.held noCh) = .held v) : (Instr.lookup 89 (.map (some mb)) (.string key) false).run Try.prog W' = .ok v W' := by
  obtain ⟨u, ps, hrun, hv⟩ := (h.below hb).map.lookup (e := 22) law9 Try.underlying89 (zero22 W') (zd := .held noCh) (zp := []) rfl (key := .string key) (Go.WideMaps.keyOf_string_mk Try.underlying9 hk)
  rw [h1] at hv
  simp only [tok, Option.some.injEq, Prod.mk.injEq, DataW.held.injEq, and_true] at hv
  rw [hrun, hv.1]
/-- A key's entry in the map, in whatever later world. -/
theorem StoreAt.look2 {W : World} {base p : Nat} {B : Nat → Prop} {s : SS} {kv : Value} {mb n : Nat} {D : DataW Value} (h : StoreAt W base B p s kv mb n D) (key : ByteArray) (hk : key.size ≤ maxLen) :
    ∃ A c, (∀ m, (Instr.lookup 89 (.map (some mb)) (.string key) false).run Try.prog (W.drewN m) = .ok (.slice A (s.ch key).length c) (W.drewN m)) ∧ (s.ch key).length ≤ c ∧ Kd.F k28 W (fun q => B q ∧ q ≠ p ∧ q ≠ mb ∧ some q ≠ kv.ownBlock) A (s.ch key).length (s.ch key) := by
  obtain ⟨A, c, h1, h2, h3⟩ := h.chains key hk
  refine ⟨A, c, fun m => ?_, h2, h3⟩
  exact h.lookW (pw_below_drewN (Below.refl _ _) m) key hk h1
/-- Has a key nothing to go? -/
def goneC (c : List S28) : Bool := decide (c.length = 0) || (rd_T28 c ((c.length : Int) - 1)).f1
def comesL (ch : ByteArray → List S28) : List S102 → List S102
  | [] => []
  | x :: t => if (x.f1 && goneC (ch x.f0)) = true then comesL ch t else x :: comesL ch t
def comesN (ch : ByteArray → List S28) : List S102 → Int → Int → Int → Int × Int × Int
  | [], a, b, c => (a, b, c)
  | x :: t, a, b, c => if (x.f1 && goneC (ch x.f0)) = true then comesN ch t a b c else if (ch x.f0).length = 0 then comesN ch t (wrap64 (a + 1)) (wrap64 (b + 1)) (wrap64 (wrap64 (c + (x.f2.length : Int)) + (x.f0.size : Int))) else comesN ch t a (wrap64 (b + 1)) (wrap64 (c + (x.f2.length : Int)))
theorem drop_102 (l : List S102) (i : Nat) (h : i < l.length) : l.drop i = l.getD i z102 :: l.drop (i + 1) := by
  rw [List.drop_eq_getElem_cons h]
  congr 1
  simp [List.getD, List.getElem?_eq_getElem h]
set_option maxHeartbeats 8000000 in
theorem store_comes.calls {W : World} {base p : Nat} {B : Nat → Prop} {s : SS} {kv : Value} {mb n : Nat} {D : DataW Value} (h : Aside0 (StoreAt W base B p s kv mb n D)) (okA : Nat → Prop) (hokA : ∀ k, okA k → k < W.heap.size) (A : Option Addr) (c0 : Nat) (l : List S102) (hF : Aside0 (Kd.F k102 W okA A l.length l)) (hl : Aside0 (l.length ≤ 1000)) (hk : Aside0 (∀ x, x ∈ l → x.f0.size ≤ maxLen)) (hch : Aside0 (∀ key, (s.ch key).length ≤ 1000000)) :
    Calls Try.prog 82 #[.pointer (some ⟨p, 0, none⟩), .slice A l.length c0] W fun e w' => ∃ v0_ : Value, e = .returned (.tuple #[v0_, .agg #[.int .i64 (comesN s.ch l s.n0 s.n1 s.n2).1, .int .i64 (comesN s.ch l s.n0 s.n1 s.n2).2.1, .int .i64 (comesN s.ch l s.n0 s.n1 s.n2).2.2]]) ∧ Kd.N k102 102 w' W.heap.size (fun k_ => okA k_ ∨ W.heap.size ≤ k_) v0_ (comesL s.ch l) ∧ Below W.heap.size W w' := by
  go_enter Try.func82, Try.ntmps82
  go_wp2_with (first
    | ((with_reducible refine gate_dst (N := 5) rfl ?_); refine box_event ?hg (N := 5) ?hd (cs := #[.int .i64 0, .int .i64 0, .int .i64 0]) (t := 72) ?hr ?_; (case hd => rfl); (case hg => rfl); (case hr => first | (go_simp; done) | (go_simp; rfl)); intro g5 hg w1 hbox hb; have HB1 := Aside0.mk hb; have GE5 := Aside0.mk (show W.heap.size ≤ g5 by rw [hg]; exact Nat.le_refl _); have BK5 := Aside0.mk hbox; obtain ⟨h10, h11, h12⟩ := store_cells (h.out.below hb); clear hbox hb hg)
    | ((with_reducible refine gate_dst (N := 7) rfl ?_); refine box_event ?hg (N := 7) ?hd (cs := #[.int .i64 0, .int .i64 0, .int .i64 0]) (t := 72) ?hr ?_; (case hd => rfl); (case hg => rfl); (case hr => first | (go_simp; done) | (go_simp; rfl)); intro g7 hg w2 hbox hb; have GE7 := Aside0.mk (show W.heap.size ≤ g7 by rw [hg]; exact HB1.out.size); have N57 := Aside0.mk (show g5 ≠ g7 by have := blk_lt BK5.out; omega); have BK5_ := Aside0.mk (blk_below BK5.out hb); have HB2 := Aside0.mk (below_step HB1.out hb); have BK7 := Aside0.mk hbox; have f70 := blk_frozen hbox 0; have f71 := blk_frozen hbox 1; have f72 := blk_frozen hbox 2; have c70 := (blk_cell hbox 0).trans (show _ = some (Value.int .i64 0) from rfl); have c71 := (blk_cell hbox 1).trans (show _ = some (Value.int .i64 0) from rfl); have c72 := (blk_cell hbox 2).trans (show _ = some (Value.int .i64 0) from rfl); clear hbox hb hg HB1 BK5 h10 h11 h12; have BK5 := BK5_; clear BK5_)
    | ((with_reducible refine gate_store (t := 72) (p := 7) rfl ?_); refine store_event (t := 72) (p := 7) (v := ?vo1_) (w1 := ((w2.setCell ⟨g7, 0, none⟩ (.int .i64 s.n0)).setCell ⟨g7, 1, none⟩ (.int .i64 s.n1)).setCell ⟨g7, 2, none⟩ (.int .i64 s.n2)) ?hg ?ho ?hn ?hr ?_; (case ho => rfl); (case hg => rfl); (case hn => rfl); (case hr => first | (go_simp; done) | (go_simp; rfl)); intro w3 hw; have BK5_ := Aside0.mk (show w3.heap[g5]? = some (.cells #[.int .i64 0, .int .i64 0, .int .i64 0] 72 (0, 0)) by rw [hw]; exact blk_far (blk_far (blk_far BK5.out N57.out _) N57.out _) N57.out _); have BK7_ := Aside0.mk (show w3.heap[g7]? = some (.cells #[.int .i64 s.n0, .int .i64 s.n1, .int .i64 s.n2] 72 (0, 0)) by rw [hw]; exact blk_put (blk_put (blk_put BK7.out 0 _ rfl) 1 _ rfl) 2 _ rfl); have HB := Aside0.mk (show Below W.heap.size W w3 by rw [hw]; exact below_set (below_set (below_set HB2.out GE7.out) GE7.out) GE7.out); clear hw HB2 BK5 BK7 f70 f71 f72 c70 c71 c72; have BK5 := BK5_; have BK7 := BK7_; clear BK5_ BK7_))
  go_loopw [6, 17] (fun vo vi wr => ∃ (i : Nat) (xs : List S102) (a b c : Int), vi = .int .i64 i ∧ i ≤ l.length ∧ xs.length ≤ i ∧ Aside0 (xs ++ comesL s.ch (l.drop i) = comesL s.ch l) ∧ Aside0 (comesN s.ch (l.drop i) a b c = comesN s.ch l s.n0 s.n1 s.n2) ∧ Aside0 (Kd.N k102 102 wr W.heap.size (fun k_ => (okA k_ ∨ W.heap.size ≤ k_) ∧ k_ ≠ g5 ∧ k_ ≠ g7) vo xs) ∧ Aside0 (wr.heap[g5]? = some (.cells #[.int .i64 0, .int .i64 0, .int .i64 0] 72 (0, 0))) ∧ Aside0 (wr.heap[g7]? = some (.cells #[.int .i64 a, .int .i64 b, .int .i64 c] 72 (0, 0))) ∧ Aside0 (Below W.heap.size W wr)) (fun _ vi _ => l.length - (intOf vi).toNat)
  case atStart => exact ⟨0, [], s.n0, s.n1, s.n2, rfl, Nat.zero_le _, Nat.le_refl _, ⟨rfl⟩, ⟨rfl⟩, ⟨Kd.N_nil _ _ _ _ _⟩, BK5, BK7, HB⟩
  case round =>
    clear HB BK5 BK7
    obtain ⟨i, xs, a, b, c, rfl, hi1, hi2, HU, HV, HO, BK5, BK7, HB⟩ := hrel
    by_cases hlt : i < l.length
    · obtain ⟨ad, ce, rfl, hcl, hFK, hcc, hok⟩ := Kd.F_get hF.out z102 (i : Int) (by omega) (by omega)
      obtain ⟨x, hx⟩ : ∃ x, l.getD (i : Int).toNat z102 = x := ⟨_, rfl⟩
      rw [hx] at hFK
      obtain ⟨A2, c2, rfl, hl2, hg2⟩ := k102_openF hFK
      have hx0 : wr.cell? (ad.add (i * 3)) = some (.string x.f0) := pw_cell_below HB.out (hcc 0 _ rfl)
      have hx1 : wr.cell? ⟨(ad.add (i * 3)).block, (ad.add (i * 3)).off + 1, none⟩ = some (.bool x.f1) := by rw [← add_field _ _ 1 (by omega)]; exact pw_cell_below HB.out (hcc 1 _ rfl)
      have hx2 : wr.cell? ⟨(ad.add (i * 3)).block, (ad.add (i * 3)).off + 2, none⟩ = some (.slice A2 x.f2.length c2) := by rw [← add_field _ _ 2 (by omega)]; exact pw_cell_below HB.out (hcc 2 _ rfl)
      have HU' := HU.out
      have HV' := HV.out
      have hdr : l.drop i = x :: l.drop (i + 1) := by rw [drop_102 l i hlt, ← hx]; rfl
      rw [hdr] at HU' HV'
      have HU := Aside0.mk HU'
      have HV := Aside0.mk HV'
      have HG2 := Aside0.mk hg2
      have HL2 := Aside0.mk hl2
      have hmem : x ∈ l := List.mem_of_mem_drop (by rw [hdr]; exact List.mem_cons_self .. : x ∈ l.drop i)
      have hkx := Aside0.mk (hk.out x hmem)
      clear hcc hFK hcl hok HU' HV' hg2 hl2 hx hdr hmem
      go_wp2_with (first
        | ((with_reducible refine gate_dst (N := 9) rfl ?_); refine box_event ?hg (N := 9) ?hd (cs := #[.string ⟨#[]⟩, .bool false, .slice none 0 0]) (t := 102) ?hr ?_; (case hd => rfl); (case hg => rfl); (case hr => first | (go_simp; done) | (go_simp; rfl)); intro g9 hg w4 hbox hb; have GE9 := Aside0.mk (show W.heap.size ≤ g9 by rw [hg]; exact HB.out.size); have N59 := Aside0.mk (show g5 ≠ g9 by have := blk_lt BK5.out; omega); have N79 := Aside0.mk (show g7 ≠ g9 by have := blk_lt BK7.out; omega); have HO4 := Aside0.mk (Kd.N_below (Kd.N_elderB HO.out g9 (Nat.le_of_eq hg.symm)) hb); have BK54 := Aside0.mk (blk_below BK5.out hb); have BK74 := Aside0.mk (blk_below BK7.out hb); have HB4 := Aside0.mk (below_step HB.out hb); have BK94 := Aside0.mk hbox; have f90 := blk_frozen hbox 0; have f91 := blk_frozen hbox 1; have f92 := blk_frozen hbox 2; have c90 := (blk_cell hbox 0).trans (show _ = some (Value.string ⟨#[]⟩) from rfl); have c91 := (blk_cell hbox 1).trans (show _ = some (Value.bool false) from rfl); have c92 := (blk_cell hbox 2).trans (show _ = some (Value.slice none 0 0) from rfl); clear hbox hb hg HO BK5 BK7 HB)
        | ((with_reducible refine gate_store (t := 102) (p := 9) rfl ?_); refine store_event (t := 102) (p := 9) (v := ?vo2_) (w1 := ((w4.setCell ⟨g9, 0, none⟩ (.string x.f0)).setCell ⟨g9, 1, none⟩ (.bool x.f1)).setCell ⟨g9, 2, none⟩ (.slice A2 x.f2.length c2)) ?hg ?ho ?hn ?hr ?_; (case ho => rfl); (case hg => rfl); (case hn => rfl); (case hr => first | (go_simp; done) | (go_simp; rfl)); intro w5 hw; have HO := Aside0.mk (show Kd.N k102 102 w5 W.heap.size (fun k_ => ((okA k_ ∨ W.heap.size ≤ k_) ∧ k_ ≠ g5 ∧ k_ ≠ g7) ∧ k_ ≠ g9) u6 xs by rw [hw]; exact Kd.N_far (p := ⟨g9, 2, none⟩) (Kd.N_far (p := ⟨g9, 1, none⟩) (Kd.N_far (p := ⟨g9, 0, none⟩) HO4.out (fun _ hk => hk.2) _) (fun _ hk => hk.2) _) (fun _ hk => hk.2) _); have BK5 := Aside0.mk (show w5.heap[g5]? = some (.cells #[.int .i64 0, .int .i64 0, .int .i64 0] 72 (0, 0)) by rw [hw]; exact blk_far (blk_far (blk_far BK54.out N59.out _) N59.out _) N59.out _); have BK7 := Aside0.mk (show w5.heap[g7]? = some (.cells #[.int .i64 a, .int .i64 b, .int .i64 c] 72 (0, 0)) by rw [hw]; exact blk_far (blk_far (blk_far BK74.out N79.out _) N79.out _) N79.out _); have BK9 := Aside0.mk (show w5.heap[g9]? = some (.cells #[.string x.f0, .bool x.f1, .slice A2 x.f2.length c2] 102 (0, 0)) by rw [hw]; exact blk_put (blk_put (blk_put BK94.out 0 _ rfl) 1 _ rfl) 2 _ rfl); have HB := Aside0.mk (show Below W.heap.size W w5 by rw [hw]; exact below_set (below_set (below_set HB4.out GE9.out) GE9.out) GE9.out); clear f90 f91 f92 c90 c91 c92 BK54 BK74 BK94 HO4 HB4 hw; have d90 := (blk_cell BK9.out 0).trans (show _ = some (Value.string x.f0) from rfl); have d91 := (blk_cell BK9.out 1).trans (show _ = some (Value.bool x.f1) from rfl); have d92 := (blk_cell BK9.out 2).trans (show _ = some (Value.slice A2 x.f2.length c2) from rfl); have hS := h.out.below HB.out; have h9 : w5.cell? ⟨p, 9, none⟩ = some (.map (some mb)) := (blk_cell hS.cells 9).trans rfl; obtain ⟨Ac, cc, hrun, hcl, hcF⟩ := hS.look2 x.f0 hkx.out; have HCF := Aside0.mk hcF; have HCL := Aside0.mk hcl; clear hS hcF hcl))
      go_quiet (fail)
      have HO6 := Aside0.mk (Kd.N_drewN HO.out nq)
      have BK56 := Aside0.mk (show (w5.drewN nq).heap[g5]? = some (.cells #[.int .i64 0, .int .i64 0, .int .i64 0] 72 (0, 0)) from BK5.out)
      have BK76 := Aside0.mk (show (w5.drewN nq).heap[g7]? = some (.cells #[.int .i64 a, .int .i64 b, .int .i64 c] 72 (0, 0)) from BK7.out)
      have BK96 := Aside0.mk (show (w5.drewN nq).heap[g9]? = some (.cells #[.string x.f0, .bool x.f1, .slice A2 x.f2.length c2] 102 (0, 0)) from BK9.out)
      have HB6 := Aside0.mk (pw_below_drewN HB.out nq)
      have HC6 := Aside0.mk (Kd.F_drewN HCF.out nq)
      clear HO BK5 BK7 BK9 HB HCF d90 d91 d92 h9 hrun
      generalize w5.drewN nq = w6 at HO6 BK56 BK76 BK96 HB6 HC6 ⊢
      clear hx0 hx1 hx2
      have d90 := (blk_cell BK96.out 0).trans (show _ = some (Value.string x.f0) from rfl)
      have d91 := (blk_cell BK96.out 1).trans (show _ = some (Value.bool x.f1) from rfl)
      have d92 := (blk_cell BK96.out 2).trans (show _ = some (Value.slice A2 x.f2.length c2) from rfl)
      have e90 := blk_frozen BK96.out 0
      have e91 := blk_frozen BK96.out 1
      have e92 := blk_frozen BK96.out 2
      have d70 := (blk_cell BK76.out 0).trans (show _ = some (Value.int .i64 a) from rfl)
      have d71 := (blk_cell BK76.out 1).trans (show _ = some (Value.int .i64 b) from rfl)
      have d72 := (blk_cell BK76.out 2).trans (show _ = some (Value.int .i64 c) from rfl)
      have e70 := blk_frozen BK76.out 0
      have e71 := blk_frozen BK76.out 1
      have e72 := blk_frozen BK76.out 2
      have hi3 : i < 1000 := by have := hl.out; omega
      have hlb : (s.ch x.f0).length ≤ 1000000 := hch.out x.f0
      by_cases hlen : (s.ch x.f0).length = 0
      · cases hf : x.f1 with
        | true =>
          have hsk : (x.f1 && goneC (s.ch x.f0)) = true := by simp [hf, goneC, hlen]
          go_wp2
          go_roundw
          case measure => simp [intOf]; omega
          case rel => exact ⟨i + 1, xs, a, b, c, by go_num, by omega, by omega, ⟨by have h_ := HU.out; simp only [comesL] at h_; rw [if_pos hsk] at h_; exact h_⟩, ⟨by have h_ := HV.out; simp only [comesN] at h_; rw [if_pos hsk] at h_; exact h_⟩, ⟨Kd.N_mono HO6.out (fun _ hk => hk.1)⟩, BK56, BK76, HB6⟩
        | false =>
          have hsk : ¬ (x.f1 && goneC (s.ch x.f0)) = true := by simp [hf]
          go_wp2_with (first
            | ((with_reducible refine gate_builtin (b := .append) (xs := #[.tmp 44, .tmp 46]) rfl ?_); at_builtin; refine Kd.N_append k102 (w0 := W) W.heap.size rfl (.tmp 44) (.tmp 46) 53 102 (.agg #[(.string ⟨#[]⟩), (.bool false), (.slice none 0 0)]) 48 rfl Try.underlying53 info102 rfl (by decide) (by omega) u6 xs x [.string x.f0, .bool false, .slice A2 x.f2.length c2] (fun k_ => ((okA k_ ∨ W.heap.size ≤ k_) ∧ k_ ≠ g5 ∧ k_ ≠ g7) ∧ k_ ≠ g9) (fun k_ => okA k_ ∧ some k_ ≠ (u6 : Value).ownBlock) rfl rfl ?aP ?aK ?aF ?aO ?aB ?aS ?aL ?_; (case aP => have q_ := k102_mkF w6 (fun k_ => okA k_ ∧ some k_ ≠ (u6 : Value).ownBlock) x HL2.out (Kd.F_mono (Kd.F_below HG2.out HB6.out) (fun k_ hk => ⟨hk, fun e => by have := Kd.N_base HO6.out k_ e.symm; have := hokA k_ hk; omega⟩)); rw [hf] at q_; exact q_); (case aK => exact fun k_ hk => ⟨⟨⟨.inl hk.1, by have := hokA k_ hk.1; have := GE5.out; omega, by have := hokA k_ hk.1; have := GE7.out; omega⟩, by have := hokA k_ hk.1; have := GE9.out; omega⟩, hk.2⟩); (case aB => exact HB6.out); (case aF => exact (fun k_ hk => ⟨⟨.inr (Nat.le_trans HB6.out.size hk), by have := blk_lt BK56.out; omega, by have := blk_lt BK76.out; omega⟩, by have := blk_lt BK96.out; omega⟩)); (case aO => exact HO6.out); (case aS => exact HB6.out.size); (case aL => omega); intro v7 w7 ho7 hb7 hg_ hat_; have BK5_ := Aside0.mk (blk_grown BK56.out hg_ (Kd.N_away HO6.out (fun _ hk => hk.1.2.1))); have BK7_ := Aside0.mk (blk_grown BK76.out hg_ (Kd.N_away HO6.out (fun _ hk => hk.1.2.2))); have BK9_ := Aside0.mk (blk_grown BK96.out hg_ (Kd.N_away HO6.out (fun _ hk => hk.2))); clear hg_ hat_ HO6 BK56 BK76 BK96 HB6 d90 d91 d92 e90 e91 e92 d70 d71 d72 e70 e71 e72; have HO6 := Aside0.mk ho7; have HB6 := Aside0.mk hb7; have BK56 := BK5_; have BK76 := BK7_; have BK96 := BK9_; clear ho7 hb7 BK5_ BK7_ BK9_; have d90 := (blk_cell BK96.out 0).trans (show _ = some (Value.string x.f0) from rfl); have d91 := (blk_cell BK96.out 1).trans (show _ = some (Value.bool x.f1) from rfl); have d92 := (blk_cell BK96.out 2).trans (show _ = some (Value.slice A2 x.f2.length c2) from rfl); have e90 := blk_frozen BK96.out 0; have e91 := blk_frozen BK96.out 1; have e92 := blk_frozen BK96.out 2; have d70 := (blk_cell BK76.out 0).trans (show _ = some (Value.int .i64 (a)) from rfl); have d71 := (blk_cell BK76.out 1).trans (show _ = some (Value.int .i64 (b)) from rfl); have d72 := (blk_cell BK76.out 2).trans (show _ = some (Value.int .i64 (c)) from rfl); have e70 := blk_frozen BK76.out 0; have e71 := blk_frozen BK76.out 1; have e72 := blk_frozen BK76.out 2)
            | ((with_reducible refine gate_store (t := 3) (p := 51) rfl ?_); refine store_event (t := 3) (p := 51) (v := ?vo3_) (w1 := w7.setCell ⟨g7, 1, none⟩ (.int .i64 (wrap64 (b + 1)))) ?hg ?ho ?hn ?hr ?_; (case ho => rfl); (case hg => rfl); (case hn => rfl); (case hr => first | (go_simp; done) | (go_simp; rfl)); intro w8 hw; have HO_ := Aside0.mk (show Kd.N k102 102 w8 W.heap.size (fun k_ => ((okA k_ ∨ W.heap.size ≤ k_) ∧ k_ ≠ g5 ∧ k_ ≠ g7) ∧ k_ ≠ g9) v7 (xs ++ [x]) by rw [hw]; exact Kd.N_far (p := ⟨g7, 1, none⟩) HO6.out (fun _ hk => hk.1.2.2) _); have BK5_ := Aside0.mk (show w8.heap[g5]? = some (.cells #[.int .i64 0, .int .i64 0, .int .i64 0] 72 (0, 0)) by rw [hw]; exact blk_far BK56.out N57.out _); have BK7_ := Aside0.mk (show w8.heap[g7]? = some (.cells #[.int .i64 (a), .int .i64 (wrap64 (b + 1)), .int .i64 (c)] 72 (0, 0)) by rw [hw]; exact blk_put BK76.out 1 _ rfl); have BK9_ := Aside0.mk (show w8.heap[g9]? = some (.cells #[.string x.f0, .bool x.f1, .slice A2 x.f2.length c2] 102 (0, 0)) by rw [hw]; exact blk_far BK96.out N79.out.symm _); have HB_ := Aside0.mk (show Below W.heap.size W w8 by rw [hw]; exact below_set HB6.out GE7.out); clear hw HO6 BK56 BK76 BK96 HB6 d90 d91 d92 e90 e91 e92 d70 d71 d72 e70 e71 e72; have HO6 := HO_; have BK56 := BK5_; have BK76 := BK7_; have BK96 := BK9_; have HB6 := HB_; clear HO_ BK5_ BK7_ BK9_ HB_; have d90 := (blk_cell BK96.out 0).trans (show _ = some (Value.string x.f0) from rfl); have d91 := (blk_cell BK96.out 1).trans (show _ = some (Value.bool x.f1) from rfl); have d92 := (blk_cell BK96.out 2).trans (show _ = some (Value.slice A2 x.f2.length c2) from rfl); have e90 := blk_frozen BK96.out 0; have e91 := blk_frozen BK96.out 1; have e92 := blk_frozen BK96.out 2; have d70 := (blk_cell BK76.out 0).trans (show _ = some (Value.int .i64 (a)) from rfl); have d71 := (blk_cell BK76.out 1).trans (show _ = some (Value.int .i64 (wrap64 (b + 1))) from rfl); have d72 := (blk_cell BK76.out 2).trans (show _ = some (Value.int .i64 (c)) from rfl); have e70 := blk_frozen BK76.out 0; have e71 := blk_frozen BK76.out 1; have e72 := blk_frozen BK76.out 2)
            | ((with_reducible refine gate_store (t := 3) (p := 58) rfl ?_); refine store_event (t := 3) (p := 58) (v := ?vo4_) (w1 := w8.setCell ⟨g7, 2, none⟩ (.int .i64 (wrap64 (c + (x.f2.length : Int))))) ?hg ?ho ?hn ?hr ?_; (case ho => rfl); (case hg => rfl); (case hn => rfl); (case hr => first | (go_simp; done) | (go_simp; rfl)); intro w9 hw; have HO_ := Aside0.mk (show Kd.N k102 102 w9 W.heap.size (fun k_ => ((okA k_ ∨ W.heap.size ≤ k_) ∧ k_ ≠ g5 ∧ k_ ≠ g7) ∧ k_ ≠ g9) v7 (xs ++ [x]) by rw [hw]; exact Kd.N_far (p := ⟨g7, 2, none⟩) HO6.out (fun _ hk => hk.1.2.2) _); have BK5_ := Aside0.mk (show w9.heap[g5]? = some (.cells #[.int .i64 0, .int .i64 0, .int .i64 0] 72 (0, 0)) by rw [hw]; exact blk_far BK56.out N57.out _); have BK7_ := Aside0.mk (show w9.heap[g7]? = some (.cells #[.int .i64 (a), .int .i64 (wrap64 (b + 1)), .int .i64 (wrap64 (c + (x.f2.length : Int)))] 72 (0, 0)) by rw [hw]; exact blk_put BK76.out 2 _ rfl); have BK9_ := Aside0.mk (show w9.heap[g9]? = some (.cells #[.string x.f0, .bool x.f1, .slice A2 x.f2.length c2] 102 (0, 0)) by rw [hw]; exact blk_far BK96.out N79.out.symm _); have HB_ := Aside0.mk (show Below W.heap.size W w9 by rw [hw]; exact below_set HB6.out GE7.out); clear hw HO6 BK56 BK76 BK96 HB6 d90 d91 d92 e90 e91 e92 d70 d71 d72 e70 e71 e72; have HO6 := HO_; have BK56 := BK5_; have BK76 := BK7_; have BK96 := BK9_; have HB6 := HB_; clear HO_ BK5_ BK7_ BK9_ HB_; have d90 := (blk_cell BK96.out 0).trans (show _ = some (Value.string x.f0) from rfl); have d91 := (blk_cell BK96.out 1).trans (show _ = some (Value.bool x.f1) from rfl); have d92 := (blk_cell BK96.out 2).trans (show _ = some (Value.slice A2 x.f2.length c2) from rfl); have e90 := blk_frozen BK96.out 0; have e91 := blk_frozen BK96.out 1; have e92 := blk_frozen BK96.out 2; have d70 := (blk_cell BK76.out 0).trans (show _ = some (Value.int .i64 (a)) from rfl); have d71 := (blk_cell BK76.out 1).trans (show _ = some (Value.int .i64 (wrap64 (b + 1))) from rfl); have d72 := (blk_cell BK76.out 2).trans (show _ = some (Value.int .i64 (wrap64 (c + (x.f2.length : Int)))) from rfl); have e70 := blk_frozen BK76.out 0; have e71 := blk_frozen BK76.out 1; have e72 := blk_frozen BK76.out 2)
            | ((with_reducible refine gate_store (t := 3) (p := 65) rfl ?_); refine store_event (t := 3) (p := 65) (v := ?vo5_) (w1 := w9.setCell ⟨g7, 0, none⟩ (.int .i64 (wrap64 (a + 1)))) ?hg ?ho ?hn ?hr ?_; (case ho => rfl); (case hg => rfl); (case hn => rfl); (case hr => first | (go_simp; done) | (go_simp; rfl)); intro w10 hw; have HO_ := Aside0.mk (show Kd.N k102 102 w10 W.heap.size (fun k_ => ((okA k_ ∨ W.heap.size ≤ k_) ∧ k_ ≠ g5 ∧ k_ ≠ g7) ∧ k_ ≠ g9) v7 (xs ++ [x]) by rw [hw]; exact Kd.N_far (p := ⟨g7, 0, none⟩) HO6.out (fun _ hk => hk.1.2.2) _); have BK5_ := Aside0.mk (show w10.heap[g5]? = some (.cells #[.int .i64 0, .int .i64 0, .int .i64 0] 72 (0, 0)) by rw [hw]; exact blk_far BK56.out N57.out _); have BK7_ := Aside0.mk (show w10.heap[g7]? = some (.cells #[.int .i64 (wrap64 (a + 1)), .int .i64 (wrap64 (b + 1)), .int .i64 (wrap64 (c + (x.f2.length : Int)))] 72 (0, 0)) by rw [hw]; exact blk_put BK76.out 0 _ rfl); have BK9_ := Aside0.mk (show w10.heap[g9]? = some (.cells #[.string x.f0, .bool x.f1, .slice A2 x.f2.length c2] 102 (0, 0)) by rw [hw]; exact blk_far BK96.out N79.out.symm _); have HB_ := Aside0.mk (show Below W.heap.size W w10 by rw [hw]; exact below_set HB6.out GE7.out); clear hw HO6 BK56 BK76 BK96 HB6 d90 d91 d92 e90 e91 e92 d70 d71 d72 e70 e71 e72; have HO6 := HO_; have BK56 := BK5_; have BK76 := BK7_; have BK96 := BK9_; have HB6 := HB_; clear HO_ BK5_ BK7_ BK9_ HB_; have d90 := (blk_cell BK96.out 0).trans (show _ = some (Value.string x.f0) from rfl); have d91 := (blk_cell BK96.out 1).trans (show _ = some (Value.bool x.f1) from rfl); have d92 := (blk_cell BK96.out 2).trans (show _ = some (Value.slice A2 x.f2.length c2) from rfl); have e90 := blk_frozen BK96.out 0; have e91 := blk_frozen BK96.out 1; have e92 := blk_frozen BK96.out 2; have d70 := (blk_cell BK76.out 0).trans (show _ = some (Value.int .i64 (wrap64 (a + 1))) from rfl); have d71 := (blk_cell BK76.out 1).trans (show _ = some (Value.int .i64 (wrap64 (b + 1))) from rfl); have d72 := (blk_cell BK76.out 2).trans (show _ = some (Value.int .i64 (wrap64 (c + (x.f2.length : Int)))) from rfl); have e70 := blk_frozen BK76.out 0; have e71 := blk_frozen BK76.out 1; have e72 := blk_frozen BK76.out 2)
            | ((with_reducible refine gate_store (t := 3) (p := 72) rfl ?_); refine store_event (t := 3) (p := 72) (v := ?vo6_) (w1 := w10.setCell ⟨g7, 2, none⟩ (.int .i64 (wrap64 (wrap64 (c + (x.f2.length : Int)) + (x.f0.size : Int))))) ?hg ?ho ?hn ?hr ?_; (case ho => rfl); (case hg => rfl); (case hn => rfl); (case hr => first | (go_simp; done) | (go_simp; rfl)); intro w11 hw; have HO_ := Aside0.mk (show Kd.N k102 102 w11 W.heap.size (fun k_ => ((okA k_ ∨ W.heap.size ≤ k_) ∧ k_ ≠ g5 ∧ k_ ≠ g7) ∧ k_ ≠ g9) v7 (xs ++ [x]) by rw [hw]; exact Kd.N_far (p := ⟨g7, 2, none⟩) HO6.out (fun _ hk => hk.1.2.2) _); have BK5_ := Aside0.mk (show w11.heap[g5]? = some (.cells #[.int .i64 0, .int .i64 0, .int .i64 0] 72 (0, 0)) by rw [hw]; exact blk_far BK56.out N57.out _); have BK7_ := Aside0.mk (show w11.heap[g7]? = some (.cells #[.int .i64 (wrap64 (a + 1)), .int .i64 (wrap64 (b + 1)), .int .i64 (wrap64 (wrap64 (c + (x.f2.length : Int)) + (x.f0.size : Int)))] 72 (0, 0)) by rw [hw]; exact blk_put BK76.out 2 _ rfl); have BK9_ := Aside0.mk (show w11.heap[g9]? = some (.cells #[.string x.f0, .bool x.f1, .slice A2 x.f2.length c2] 102 (0, 0)) by rw [hw]; exact blk_far BK96.out N79.out.symm _); have HB_ := Aside0.mk (show Below W.heap.size W w11 by rw [hw]; exact below_set HB6.out GE7.out); clear hw HO6 BK56 BK76 BK96 HB6 d90 d91 d92 e90 e91 e92 d70 d71 d72 e70 e71 e72; have HO6 := HO_; have BK56 := BK5_; have BK76 := BK7_; have BK96 := BK9_; have HB6 := HB_; clear HO_ BK5_ BK7_ BK9_ HB_; have d90 := (blk_cell BK96.out 0).trans (show _ = some (Value.string x.f0) from rfl); have d91 := (blk_cell BK96.out 1).trans (show _ = some (Value.bool x.f1) from rfl); have d92 := (blk_cell BK96.out 2).trans (show _ = some (Value.slice A2 x.f2.length c2) from rfl); have e90 := blk_frozen BK96.out 0; have e91 := blk_frozen BK96.out 1; have e92 := blk_frozen BK96.out 2; have d70 := (blk_cell BK76.out 0).trans (show _ = some (Value.int .i64 (wrap64 (a + 1))) from rfl); have d71 := (blk_cell BK76.out 1).trans (show _ = some (Value.int .i64 (wrap64 (b + 1))) from rfl); have d72 := (blk_cell BK76.out 2).trans (show _ = some (Value.int .i64 (wrap64 (wrap64 (c + (x.f2.length : Int)) + (x.f0.size : Int)))) from rfl); have e70 := blk_frozen BK76.out 0; have e71 := blk_frozen BK76.out 1; have e72 := blk_frozen BK76.out 2))
          go_roundw
          case measure => simp [intOf]; omega
          case rel => exact ⟨i + 1, xs ++ [x], wrap64 (a + 1), wrap64 (b + 1), wrap64 (wrap64 (c + (x.f2.length : Int)) + (x.f0.size : Int)), by go_num, by omega, by simp; omega, ⟨by have h_ := HU.out; simp only [comesL] at h_; rw [if_neg hsk] at h_; simpa using h_⟩, ⟨by have h_ := HV.out; simp only [comesN] at h_; rw [if_neg hsk] at h_; rw [if_pos hlen] at h_; exact h_⟩, ⟨Kd.N_mono HO6.out (fun _ hk => hk.1)⟩, BK56, BK76, HB6⟩
      · cases hf : x.f1 with
        | false =>
          have hsk : ¬ (x.f1 && goneC (s.ch x.f0)) = true := by simp [hf]
          go_wp2_with (first
            | ((with_reducible refine gate_builtin (b := .append) (xs := #[.tmp 44, .tmp 46]) rfl ?_); at_builtin; refine Kd.N_append k102 (w0 := W) W.heap.size rfl (.tmp 44) (.tmp 46) 53 102 (.agg #[(.string ⟨#[]⟩), (.bool false), (.slice none 0 0)]) 48 rfl Try.underlying53 info102 rfl (by decide) (by omega) u6 xs x [.string x.f0, .bool false, .slice A2 x.f2.length c2] (fun k_ => ((okA k_ ∨ W.heap.size ≤ k_) ∧ k_ ≠ g5 ∧ k_ ≠ g7) ∧ k_ ≠ g9) (fun k_ => okA k_ ∧ some k_ ≠ (u6 : Value).ownBlock) rfl rfl ?aP ?aK ?aF ?aO ?aB ?aS ?aL ?_; (case aP => have q_ := k102_mkF w6 (fun k_ => okA k_ ∧ some k_ ≠ (u6 : Value).ownBlock) x HL2.out (Kd.F_mono (Kd.F_below HG2.out HB6.out) (fun k_ hk => ⟨hk, fun e => by have := Kd.N_base HO6.out k_ e.symm; have := hokA k_ hk; omega⟩)); rw [hf] at q_; exact q_); (case aK => exact fun k_ hk => ⟨⟨⟨.inl hk.1, by have := hokA k_ hk.1; have := GE5.out; omega, by have := hokA k_ hk.1; have := GE7.out; omega⟩, by have := hokA k_ hk.1; have := GE9.out; omega⟩, hk.2⟩); (case aB => exact HB6.out); (case aF => exact (fun k_ hk => ⟨⟨.inr (Nat.le_trans HB6.out.size hk), by have := blk_lt BK56.out; omega, by have := blk_lt BK76.out; omega⟩, by have := blk_lt BK96.out; omega⟩)); (case aO => exact HO6.out); (case aS => exact HB6.out.size); (case aL => omega); intro v7 w7 ho7 hb7 hg_ hat_; have BK5_ := Aside0.mk (blk_grown BK56.out hg_ (Kd.N_away HO6.out (fun _ hk => hk.1.2.1))); have BK7_ := Aside0.mk (blk_grown BK76.out hg_ (Kd.N_away HO6.out (fun _ hk => hk.1.2.2))); have BK9_ := Aside0.mk (blk_grown BK96.out hg_ (Kd.N_away HO6.out (fun _ hk => hk.2))); clear hg_ hat_ HO6 BK56 BK76 BK96 HB6 d90 d91 d92 e90 e91 e92 d70 d71 d72 e70 e71 e72; have HO6 := Aside0.mk ho7; have HB6 := Aside0.mk hb7; have BK56 := BK5_; have BK76 := BK7_; have BK96 := BK9_; clear ho7 hb7 BK5_ BK7_ BK9_; have d90 := (blk_cell BK96.out 0).trans (show _ = some (Value.string x.f0) from rfl); have d91 := (blk_cell BK96.out 1).trans (show _ = some (Value.bool x.f1) from rfl); have d92 := (blk_cell BK96.out 2).trans (show _ = some (Value.slice A2 x.f2.length c2) from rfl); have e90 := blk_frozen BK96.out 0; have e91 := blk_frozen BK96.out 1; have e92 := blk_frozen BK96.out 2; have d70 := (blk_cell BK76.out 0).trans (show _ = some (Value.int .i64 (a)) from rfl); have d71 := (blk_cell BK76.out 1).trans (show _ = some (Value.int .i64 (b)) from rfl); have d72 := (blk_cell BK76.out 2).trans (show _ = some (Value.int .i64 (c)) from rfl); have e70 := blk_frozen BK76.out 0; have e71 := blk_frozen BK76.out 1; have e72 := blk_frozen BK76.out 2)
            | ((with_reducible refine gate_store (t := 3) (p := 51) rfl ?_); refine store_event (t := 3) (p := 51) (v := ?vo7_) (w1 := w7.setCell ⟨g7, 1, none⟩ (.int .i64 (wrap64 (b + 1)))) ?hg ?ho ?hn ?hr ?_; (case ho => rfl); (case hg => rfl); (case hn => rfl); (case hr => first | (go_simp; done) | (go_simp; rfl)); intro w8 hw; have HO_ := Aside0.mk (show Kd.N k102 102 w8 W.heap.size (fun k_ => ((okA k_ ∨ W.heap.size ≤ k_) ∧ k_ ≠ g5 ∧ k_ ≠ g7) ∧ k_ ≠ g9) v7 (xs ++ [x]) by rw [hw]; exact Kd.N_far (p := ⟨g7, 1, none⟩) HO6.out (fun _ hk => hk.1.2.2) _); have BK5_ := Aside0.mk (show w8.heap[g5]? = some (.cells #[.int .i64 0, .int .i64 0, .int .i64 0] 72 (0, 0)) by rw [hw]; exact blk_far BK56.out N57.out _); have BK7_ := Aside0.mk (show w8.heap[g7]? = some (.cells #[.int .i64 (a), .int .i64 (wrap64 (b + 1)), .int .i64 (c)] 72 (0, 0)) by rw [hw]; exact blk_put BK76.out 1 _ rfl); have BK9_ := Aside0.mk (show w8.heap[g9]? = some (.cells #[.string x.f0, .bool x.f1, .slice A2 x.f2.length c2] 102 (0, 0)) by rw [hw]; exact blk_far BK96.out N79.out.symm _); have HB_ := Aside0.mk (show Below W.heap.size W w8 by rw [hw]; exact below_set HB6.out GE7.out); clear hw HO6 BK56 BK76 BK96 HB6 d90 d91 d92 e90 e91 e92 d70 d71 d72 e70 e71 e72; have HO6 := HO_; have BK56 := BK5_; have BK76 := BK7_; have BK96 := BK9_; have HB6 := HB_; clear HO_ BK5_ BK7_ BK9_ HB_; have d90 := (blk_cell BK96.out 0).trans (show _ = some (Value.string x.f0) from rfl); have d91 := (blk_cell BK96.out 1).trans (show _ = some (Value.bool x.f1) from rfl); have d92 := (blk_cell BK96.out 2).trans (show _ = some (Value.slice A2 x.f2.length c2) from rfl); have e90 := blk_frozen BK96.out 0; have e91 := blk_frozen BK96.out 1; have e92 := blk_frozen BK96.out 2; have d70 := (blk_cell BK76.out 0).trans (show _ = some (Value.int .i64 (a)) from rfl); have d71 := (blk_cell BK76.out 1).trans (show _ = some (Value.int .i64 (wrap64 (b + 1))) from rfl); have d72 := (blk_cell BK76.out 2).trans (show _ = some (Value.int .i64 (c)) from rfl); have e70 := blk_frozen BK76.out 0; have e71 := blk_frozen BK76.out 1; have e72 := blk_frozen BK76.out 2)
            | ((with_reducible refine gate_store (t := 3) (p := 58) rfl ?_); refine store_event (t := 3) (p := 58) (v := ?vo8_) (w1 := w8.setCell ⟨g7, 2, none⟩ (.int .i64 (wrap64 (c + (x.f2.length : Int))))) ?hg ?ho ?hn ?hr ?_; (case ho => rfl); (case hg => rfl); (case hn => rfl); (case hr => first | (go_simp; done) | (go_simp; rfl)); intro w9 hw; have HO_ := Aside0.mk (show Kd.N k102 102 w9 W.heap.size (fun k_ => ((okA k_ ∨ W.heap.size ≤ k_) ∧ k_ ≠ g5 ∧ k_ ≠ g7) ∧ k_ ≠ g9) v7 (xs ++ [x]) by rw [hw]; exact Kd.N_far (p := ⟨g7, 2, none⟩) HO6.out (fun _ hk => hk.1.2.2) _); have BK5_ := Aside0.mk (show w9.heap[g5]? = some (.cells #[.int .i64 0, .int .i64 0, .int .i64 0] 72 (0, 0)) by rw [hw]; exact blk_far BK56.out N57.out _); have BK7_ := Aside0.mk (show w9.heap[g7]? = some (.cells #[.int .i64 (a), .int .i64 (wrap64 (b + 1)), .int .i64 (wrap64 (c + (x.f2.length : Int)))] 72 (0, 0)) by rw [hw]; exact blk_put BK76.out 2 _ rfl); have BK9_ := Aside0.mk (show w9.heap[g9]? = some (.cells #[.string x.f0, .bool x.f1, .slice A2 x.f2.length c2] 102 (0, 0)) by rw [hw]; exact blk_far BK96.out N79.out.symm _); have HB_ := Aside0.mk (show Below W.heap.size W w9 by rw [hw]; exact below_set HB6.out GE7.out); clear hw HO6 BK56 BK76 BK96 HB6 d90 d91 d92 e90 e91 e92 d70 d71 d72 e70 e71 e72; have HO6 := HO_; have BK56 := BK5_; have BK76 := BK7_; have BK96 := BK9_; have HB6 := HB_; clear HO_ BK5_ BK7_ BK9_ HB_; have d90 := (blk_cell BK96.out 0).trans (show _ = some (Value.string x.f0) from rfl); have d91 := (blk_cell BK96.out 1).trans (show _ = some (Value.bool x.f1) from rfl); have d92 := (blk_cell BK96.out 2).trans (show _ = some (Value.slice A2 x.f2.length c2) from rfl); have e90 := blk_frozen BK96.out 0; have e91 := blk_frozen BK96.out 1; have e92 := blk_frozen BK96.out 2; have d70 := (blk_cell BK76.out 0).trans (show _ = some (Value.int .i64 (a)) from rfl); have d71 := (blk_cell BK76.out 1).trans (show _ = some (Value.int .i64 (wrap64 (b + 1))) from rfl); have d72 := (blk_cell BK76.out 2).trans (show _ = some (Value.int .i64 (wrap64 (c + (x.f2.length : Int)))) from rfl); have e70 := blk_frozen BK76.out 0; have e71 := blk_frozen BK76.out 1; have e72 := blk_frozen BK76.out 2))
          go_roundw
          case measure => simp [intOf]; omega
          case rel => exact ⟨i + 1, xs ++ [x], a, wrap64 (b + 1), wrap64 (c + (x.f2.length : Int)), by go_num, by omega, by simp; omega, ⟨by have h_ := HU.out; simp only [comesL] at h_; rw [if_neg hsk] at h_; simpa using h_⟩, ⟨by have h_ := HV.out; simp only [comesN] at h_; rw [if_neg hsk] at h_; rw [if_neg hlen] at h_; exact h_⟩, ⟨Kd.N_mono HO6.out (fun _ hk => hk.1)⟩, BK56, BK76, HB6⟩
        | true =>
          obtain ⟨adc, Ac2, cc2, rfl, _, hlast, _, _, _⟩ := at_T28 (Kd.F_now HC6.out) ((s.ch x.f0).length - 1 : Int) (by omega) (by omega)
          have e_ : ((s.ch x.f0).length - 1 : Int).toNat = (s.ch x.f0).length - 1 := by omega
          rw [e_] at hlast
          have hlz : (((s.ch x.f0).length : Int) == 0) = false := by simpa using hlen
          clear e_
          cases hgn : (rd_T28 (s.ch x.f0) ((s.ch x.f0).length - 1 : Int)).f1 with
          | true =>
            have hsk : (x.f1 && goneC (s.ch x.f0)) = true := by simp [hf, goneC, hgn]
            rw [hgn] at hlast
            go_wp2
            go_roundw
            case measure => simp [intOf]; omega
            case rel => exact ⟨i + 1, xs, a, b, c, by go_num, by omega, by omega, ⟨by have h_ := HU.out; simp only [comesL] at h_; rw [if_pos hsk] at h_; exact h_⟩, ⟨by have h_ := HV.out; simp only [comesN] at h_; rw [if_pos hsk] at h_; exact h_⟩, ⟨Kd.N_mono HO6.out (fun _ hk => hk.1)⟩, BK56, BK76, HB6⟩
          | false =>
            have hsk : ¬ (x.f1 && goneC (s.ch x.f0)) = true := by simp [hf, goneC, hgn, hlen]
            rw [hgn] at hlast
            go_wp2_with (first
              | ((with_reducible refine gate_builtin (b := .append) (xs := #[.tmp 44, .tmp 46]) rfl ?_); at_builtin; refine Kd.N_append k102 (w0 := W) W.heap.size rfl (.tmp 44) (.tmp 46) 53 102 (.agg #[(.string ⟨#[]⟩), (.bool false), (.slice none 0 0)]) 48 rfl Try.underlying53 info102 rfl (by decide) (by omega) u6 xs x [.string x.f0, .bool true, .slice A2 x.f2.length c2] (fun k_ => ((okA k_ ∨ W.heap.size ≤ k_) ∧ k_ ≠ g5 ∧ k_ ≠ g7) ∧ k_ ≠ g9) (fun k_ => okA k_ ∧ some k_ ≠ (u6 : Value).ownBlock) rfl rfl ?aP ?aK ?aF ?aO ?aB ?aS ?aL ?_; (case aP => have q_ := k102_mkF w6 (fun k_ => okA k_ ∧ some k_ ≠ (u6 : Value).ownBlock) x HL2.out (Kd.F_mono (Kd.F_below HG2.out HB6.out) (fun k_ hk => ⟨hk, fun e => by have := Kd.N_base HO6.out k_ e.symm; have := hokA k_ hk; omega⟩)); rw [hf] at q_; exact q_); (case aK => exact fun k_ hk => ⟨⟨⟨.inl hk.1, by have := hokA k_ hk.1; have := GE5.out; omega, by have := hokA k_ hk.1; have := GE7.out; omega⟩, by have := hokA k_ hk.1; have := GE9.out; omega⟩, hk.2⟩); (case aB => exact HB6.out); (case aF => exact (fun k_ hk => ⟨⟨.inr (Nat.le_trans HB6.out.size hk), by have := blk_lt BK56.out; omega, by have := blk_lt BK76.out; omega⟩, by have := blk_lt BK96.out; omega⟩)); (case aO => exact HO6.out); (case aS => exact HB6.out.size); (case aL => omega); intro v7 w7 ho7 hb7 hg_ hat_; have BK5_ := Aside0.mk (blk_grown BK56.out hg_ (Kd.N_away HO6.out (fun _ hk => hk.1.2.1))); have BK7_ := Aside0.mk (blk_grown BK76.out hg_ (Kd.N_away HO6.out (fun _ hk => hk.1.2.2))); have BK9_ := Aside0.mk (blk_grown BK96.out hg_ (Kd.N_away HO6.out (fun _ hk => hk.2))); clear hg_ hat_ HO6 BK56 BK76 BK96 HB6 d90 d91 d92 e90 e91 e92 d70 d71 d72 e70 e71 e72; have HO6 := Aside0.mk ho7; have HB6 := Aside0.mk hb7; have BK56 := BK5_; have BK76 := BK7_; have BK96 := BK9_; clear ho7 hb7 BK5_ BK7_ BK9_; have d90 := (blk_cell BK96.out 0).trans (show _ = some (Value.string x.f0) from rfl); have d91 := (blk_cell BK96.out 1).trans (show _ = some (Value.bool x.f1) from rfl); have d92 := (blk_cell BK96.out 2).trans (show _ = some (Value.slice A2 x.f2.length c2) from rfl); have e90 := blk_frozen BK96.out 0; have e91 := blk_frozen BK96.out 1; have e92 := blk_frozen BK96.out 2; have d70 := (blk_cell BK76.out 0).trans (show _ = some (Value.int .i64 (a)) from rfl); have d71 := (blk_cell BK76.out 1).trans (show _ = some (Value.int .i64 (b)) from rfl); have d72 := (blk_cell BK76.out 2).trans (show _ = some (Value.int .i64 (c)) from rfl); have e70 := blk_frozen BK76.out 0; have e71 := blk_frozen BK76.out 1; have e72 := blk_frozen BK76.out 2)
              | ((with_reducible refine gate_store (t := 3) (p := 51) rfl ?_); refine store_event (t := 3) (p := 51) (v := ?vo9_) (w1 := w7.setCell ⟨g7, 1, none⟩ (.int .i64 (wrap64 (b + 1)))) ?hg ?ho ?hn ?hr ?_; (case ho => rfl); (case hg => rfl); (case hn => rfl); (case hr => first | (go_simp; done) | (go_simp; rfl)); intro w8 hw; have HO_ := Aside0.mk (show Kd.N k102 102 w8 W.heap.size (fun k_ => ((okA k_ ∨ W.heap.size ≤ k_) ∧ k_ ≠ g5 ∧ k_ ≠ g7) ∧ k_ ≠ g9) v7 (xs ++ [x]) by rw [hw]; exact Kd.N_far (p := ⟨g7, 1, none⟩) HO6.out (fun _ hk => hk.1.2.2) _); have BK5_ := Aside0.mk (show w8.heap[g5]? = some (.cells #[.int .i64 0, .int .i64 0, .int .i64 0] 72 (0, 0)) by rw [hw]; exact blk_far BK56.out N57.out _); have BK7_ := Aside0.mk (show w8.heap[g7]? = some (.cells #[.int .i64 (a), .int .i64 (wrap64 (b + 1)), .int .i64 (c)] 72 (0, 0)) by rw [hw]; exact blk_put BK76.out 1 _ rfl); have BK9_ := Aside0.mk (show w8.heap[g9]? = some (.cells #[.string x.f0, .bool x.f1, .slice A2 x.f2.length c2] 102 (0, 0)) by rw [hw]; exact blk_far BK96.out N79.out.symm _); have HB_ := Aside0.mk (show Below W.heap.size W w8 by rw [hw]; exact below_set HB6.out GE7.out); clear hw HO6 BK56 BK76 BK96 HB6 d90 d91 d92 e90 e91 e92 d70 d71 d72 e70 e71 e72; have HO6 := HO_; have BK56 := BK5_; have BK76 := BK7_; have BK96 := BK9_; have HB6 := HB_; clear HO_ BK5_ BK7_ BK9_ HB_; have d90 := (blk_cell BK96.out 0).trans (show _ = some (Value.string x.f0) from rfl); have d91 := (blk_cell BK96.out 1).trans (show _ = some (Value.bool x.f1) from rfl); have d92 := (blk_cell BK96.out 2).trans (show _ = some (Value.slice A2 x.f2.length c2) from rfl); have e90 := blk_frozen BK96.out 0; have e91 := blk_frozen BK96.out 1; have e92 := blk_frozen BK96.out 2; have d70 := (blk_cell BK76.out 0).trans (show _ = some (Value.int .i64 (a)) from rfl); have d71 := (blk_cell BK76.out 1).trans (show _ = some (Value.int .i64 (wrap64 (b + 1))) from rfl); have d72 := (blk_cell BK76.out 2).trans (show _ = some (Value.int .i64 (c)) from rfl); have e70 := blk_frozen BK76.out 0; have e71 := blk_frozen BK76.out 1; have e72 := blk_frozen BK76.out 2)
              | ((with_reducible refine gate_store (t := 3) (p := 58) rfl ?_); refine store_event (t := 3) (p := 58) (v := ?vo10_) (w1 := w8.setCell ⟨g7, 2, none⟩ (.int .i64 (wrap64 (c + (x.f2.length : Int))))) ?hg ?ho ?hn ?hr ?_; (case ho => rfl); (case hg => rfl); (case hn => rfl); (case hr => first | (go_simp; done) | (go_simp; rfl)); intro w9 hw; have HO_ := Aside0.mk (show Kd.N k102 102 w9 W.heap.size (fun k_ => ((okA k_ ∨ W.heap.size ≤ k_) ∧ k_ ≠ g5 ∧ k_ ≠ g7) ∧ k_ ≠ g9) v7 (xs ++ [x]) by rw [hw]; exact Kd.N_far (p := ⟨g7, 2, none⟩) HO6.out (fun _ hk => hk.1.2.2) _); have BK5_ := Aside0.mk (show w9.heap[g5]? = some (.cells #[.int .i64 0, .int .i64 0, .int .i64 0] 72 (0, 0)) by rw [hw]; exact blk_far BK56.out N57.out _); have BK7_ := Aside0.mk (show w9.heap[g7]? = some (.cells #[.int .i64 (a), .int .i64 (wrap64 (b + 1)), .int .i64 (wrap64 (c + (x.f2.length : Int)))] 72 (0, 0)) by rw [hw]; exact blk_put BK76.out 2 _ rfl); have BK9_ := Aside0.mk (show w9.heap[g9]? = some (.cells #[.string x.f0, .bool x.f1, .slice A2 x.f2.length c2] 102 (0, 0)) by rw [hw]; exact blk_far BK96.out N79.out.symm _); have HB_ := Aside0.mk (show Below W.heap.size W w9 by rw [hw]; exact below_set HB6.out GE7.out); clear hw HO6 BK56 BK76 BK96 HB6 d90 d91 d92 e90 e91 e92 d70 d71 d72 e70 e71 e72; have HO6 := HO_; have BK56 := BK5_; have BK76 := BK7_; have BK96 := BK9_; have HB6 := HB_; clear HO_ BK5_ BK7_ BK9_ HB_; have d90 := (blk_cell BK96.out 0).trans (show _ = some (Value.string x.f0) from rfl); have d91 := (blk_cell BK96.out 1).trans (show _ = some (Value.bool x.f1) from rfl); have d92 := (blk_cell BK96.out 2).trans (show _ = some (Value.slice A2 x.f2.length c2) from rfl); have e90 := blk_frozen BK96.out 0; have e91 := blk_frozen BK96.out 1; have e92 := blk_frozen BK96.out 2; have d70 := (blk_cell BK76.out 0).trans (show _ = some (Value.int .i64 (a)) from rfl); have d71 := (blk_cell BK76.out 1).trans (show _ = some (Value.int .i64 (wrap64 (b + 1))) from rfl); have d72 := (blk_cell BK76.out 2).trans (show _ = some (Value.int .i64 (wrap64 (c + (x.f2.length : Int)))) from rfl); have e70 := blk_frozen BK76.out 0; have e71 := blk_frozen BK76.out 1; have e72 := blk_frozen BK76.out 2))
            go_roundw
            case measure => simp [intOf]; omega
            case rel => exact ⟨i + 1, xs ++ [x], a, wrap64 (b + 1), wrap64 (c + (x.f2.length : Int)), by go_num, by omega, by simp; omega, ⟨by have h_ := HU.out; simp only [comesL] at h_; rw [if_neg hsk] at h_; simpa using h_⟩, ⟨by have h_ := HV.out; simp only [comesN] at h_; rw [if_neg hsk] at h_; rw [if_neg hlen] at h_; exact h_⟩, ⟨Kd.N_mono HO6.out (fun _ hk => hk.1)⟩, BK56, BK76, HB6⟩
    · have hd : l.drop i = [] := List.drop_eq_nil_of_le (by omega)
      have h1_ := HU.out
      have h2_ := HV.out
      rw [hd] at h1_ h2_
      simp only [comesL, comesN, List.append_nil] at h1_ h2_
      have H1 := Aside0.mk h1_
      have H2 := Aside0.mk h2_
      clear hd h1_ h2_ HU HV
      have k50 := (blk_cell BK5.out 0).trans (show _ = some (Value.int .i64 0) from rfl)
      have k51 := (blk_cell BK5.out 1).trans (show _ = some (Value.int .i64 0) from rfl)
      have k52 := (blk_cell BK5.out 2).trans (show _ = some (Value.int .i64 0) from rfl)
      have k70 := (blk_cell BK7.out 0).trans (show _ = some (Value.int .i64 a) from rfl)
      have k71 := (blk_cell BK7.out 1).trans (show _ = some (Value.int .i64 b) from rfl)
      have k72 := (blk_cell BK7.out 2).trans (show _ = some (Value.int .i64 c) from rfl)
      have m50 := blk_frozen BK5.out 0
      have m51 := blk_frozen BK5.out 1
      have m52 := blk_frozen BK5.out 2
      go_wp2
      go_region
      have HO8 := Aside0.mk (Kd.N_drew (Kd.N_far (p := ⟨g5, 2, none⟩) (Kd.N_far (p := ⟨g5, 1, none⟩) (Kd.N_far (p := ⟨g5, 0, none⟩) HO.out (fun _ hk => hk.2.1) (.int .i64 a)) (fun _ hk => hk.2.1) (.int .i64 b)) (fun _ hk => hk.2.1) (.int .i64 c)))
      have BK8 := Aside0.mk (show (((wr.setCell ⟨g5, 0, none⟩ (.int .i64 a)).setCell ⟨g5, 1, none⟩ (.int .i64 b)).setCell ⟨g5, 2, none⟩ (.int .i64 c)).drew.heap[g5]? = some (.cells #[.int .i64 a, .int .i64 b, .int .i64 c] 72 (0, 0)) from blk_put (blk_put (blk_put BK5.out 0 _ rfl) 1 _ rfl) 2 _ rfl)
      have HB8 := Aside0.mk (below_drew1 (below_set (below_set (below_set (j := 0) (v := .int .i64 a) HB.out GE5.out) (j := 1) (v := .int .i64 b) GE5.out) (j := 2) (v := .int .i64 c) GE5.out))
      generalize (((wr.setCell ⟨g5, 0, none⟩ (.int .i64 a)).setCell ⟨g5, 1, none⟩ (.int .i64 b)).setCell ⟨g5, 2, none⟩ (.int .i64 c)).drew = w8 at HO8 BK8 HB8 ⊢
      clear k50 k51 k52 k70 k71 k72 m50 m51 m52
      have k80 := (blk_cell BK8.out 0).trans (show _ = some (Value.int .i64 a) from rfl)
      have k81 := (blk_cell BK8.out 1).trans (show _ = some (Value.int .i64 b) from rfl)
      have k82 := (blk_cell BK8.out 2).trans (show _ = some (Value.int .i64 c) from rfl)
      go_wp2
      rw [← H1.out, ← H2.out]
      exact bodyPost_ret (v := .tuple #[u6, .agg #[.int .i64 a, .int .i64 b, .int .i64 c]]) (by simp [results, Try.results82, go_sem, k80, k81, k82]) rfl ⟨_, rfl, Kd.N_mono HO8.out (fun _ hk => hk.1), HB8.out⟩
end Go.Proofs.Yteofdgonpbmdlaa.C
namespace Go.Proofs.Yteofdgonpbmdlaa.C
open Go.RowKit Go.Maps Go.Proofs.YteofdgonpbmdlaaW.PrintWords Go.Proofs.YteofdgonpbmdlaaW.PrintLast Go.Proofs.YteofdgonpbmdlaaW.PrintMore
/-- The blocks that a store's calls may write. -/
def Own (p mb : Nat) (kv : Value) (k : Nat) : Prop := k = p ∨ k = mb ∨ some k = kv.ownBlock
structure Turn (base : Nat) (S : Nat → Prop) (W W' : World) : Prop where
  below : Below base W W'
  keep : ∀ i, i < W.heap.size → ¬ S i → W'.heap[i]? = W.heap[i]?
theorem Turn.refl (base : Nat) (S : Nat → Prop) (W : World) : Turn base S W W := ⟨Below.refl _ _, fun _ _ _ => rfl⟩
theorem Turn.of_below {base : Nat} {W W' : World} (h : Below W.heap.size W W') (hb : base ≤ W.heap.size) (S : Nat → Prop) : Turn base S W W' := ⟨h.mono hb, fun i hi _ => h.block i hi⟩
theorem Turn.then_ {base : Nat} {S S' : Nat → Prop} {W W1 W2 : World} (h : Turn base S W W1) (k : Turn base S' W1 W2) (hs : ∀ k, S' k → S k ∨ W.heap.size ≤ k) : Turn base S W W2 :=
  ⟨h.below.trans k.below, fun i hi hn => (k.keep i (Nat.lt_of_lt_of_le hi h.below.size) (fun hk => (hs i hk).elim hn (fun _ => by omega))).trans (h.keep i hi hn)⟩
theorem Turn.mono {base : Nat} {S S' : Nat → Prop} {W W1 : World} (h : Turn base S W W1) (hs : ∀ k, S k → S' k) : Turn base S' W W1 := ⟨h.below, fun i hi hn => h.keep i hi (fun hk => hn (hs i hk))⟩
theorem Turn.set {base : Nat} {S : Nat → Prop} {W : World} (a : Addr) (u : Value) (hb : base ≤ a.block) (hs : S a.block) : Turn base S W (W.setCell a u) :=
  ⟨(Below.refl _ _).setCell hb u, fun i _ hn => Below.heap_setCell W a u i (fun e => hn (e ▸ hs))⟩
theorem Turn.grown {base : Nat} {S : Nat → Prop} {W W1 : World} {row : Option Nat} (h : W.grownBy W1 row) (hb : base ≤ W.heap.size) (hr : ∀ k, row = some k → base ≤ k ∧ S k) : Turn base S W W1 :=
  ⟨(Below.refl _ _).grown h hb (fun k hk => (hr k hk).1), fun i hi hn => h.block i hi (fun e => hn (hr i e.symm).2)⟩
section
variable {W W1 : World} {base p : Nat} {B B' : Nat → Prop} {s : SS} {kv : Value} {mb n : Nat} {D : DataW Value}
theorem KeysAt.mono {ok ok' : Nat → Prop} {keys : List ByteArray} (h : KeysAt W base ok kv keys) (hok : ∀ k, ok k → ok' k) : KeysAt W base ok' kv keys := h.imp (fun k => Kd.R_mono k hok) (fun ⟨e, a, h1, h2, h3⟩ => ⟨e, a, h1, hok _ h2, h3⟩)
theorem KeysAt.bound {ok : Nat → Prop} {keys : List ByteArray} (h : KeysAt W base ok kv keys) : KeysAt W base (fun k => ok k ∧ k < W.heap.size) kv keys := h.imp (fun k => Kd.R_mono (Kd.R_bound k) (fun _ hk => ⟨hk.1, hk.2.2.1⟩)) (fun ⟨e, a, h1, h2, h3⟩ => ⟨e, a, h1, ⟨h2, h3⟩, h3⟩)
theorem KeysAt.step {ok : Nat → Prop} {keys : List ByteArray} (h : KeysAt W base ok kv keys) (hs : W.heap.size ≤ W1.heap.size) (hm : ∀ k, ok k → k < W.heap.size → W1.heap[k]? = W.heap[k]?) : KeysAt W1 base ok kv keys := h.imp (fun k => Kd.R_step k hm) (fun ⟨e, a, h1, h2, h3⟩ => ⟨e, a, h1, h2, Nat.lt_of_lt_of_le h3 hs⟩)
theorem KeysAt.ownLt {ok : Nat → Prop} {keys : List ByteArray} (h : KeysAt W base ok kv keys) (k : Nat) (hk : kv.ownBlock = some k) : ok k ∧ k < W.heap.size := by
  rcases h with h | ⟨_, a, rfl, h2, h3⟩
  · exact ⟨h.1 k hk, own_lt h.2.choose_spec.1 k hk⟩
  · have e : a.block = k := by simpa [Value.ownBlock] using hk
    exact e ▸ ⟨h2, h3⟩
theorem StoreAt.p_lt (h : StoreAt W base B p s kv mb n D) : p < W.heap.size := blk_lt h.cells
theorem StoreAt.m_lt (h : StoreAt W base B p s kv mb n D) : mb < W.heap.size := h.map.lt
theorem StoreAt.own (h : StoreAt W base B p s kv mb n D) {k : Nat} (hk : Own p mb kv k) : base ≤ k ∧ B k ∧ k < W.heap.size := by
  rcases hk with rfl | rfl | e
  · exact ⟨h.bb _ h.bp, h.bp, h.p_lt⟩
  · exact ⟨h.bb _ h.bm, h.bm, h.m_lt⟩
  · have := h.keys.ownLt k e.symm
    exact ⟨h.bb _ this.1.1, this.1.1, this.2⟩
theorem StoreAt.base_le (h : StoreAt W base B p s kv mb n D) : base ≤ W.heap.size := Nat.le_trans (h.bb _ h.bp) (Nat.le_of_lt h.p_lt)
/-- The map's block alone. -/
theorem map_step (h : W.ownsMap Try.prog 9 tok mb n D) (hm : W1.heap[mb]? = W.heap[mb]?) : W1.ownsMap Try.prog 9 tok mb n D := by
  obtain ⟨es, clock, h1, h2⟩ := h
  exact ⟨es, clock, hm.trans h1, h2⟩
/-- Other blocks have turned. -/
theorem StoreAt.frame (h : StoreAt W base B p s kv mb n D) (hs : W.heap.size ≤ W1.heap.size) (hm : ∀ k, B k → k < W.heap.size → W1.heap[k]? = W.heap[k]?) : StoreAt W1 base B p s kv mb n D where
  cells := (hm p h.bp h.p_lt).trans h.cells
  keys := h.keys.step hs (fun k hk hl => hm k hk.1 hl)
  map := map_step h.map (hm mb h.bm h.m_lt)
  bb := h.bb
  bn := fun k hk => h.bn k (Nat.le_trans hs hk)
  bp := h.bp
  bm := h.bm
  pm := h.pm
  chains := fun key hk => by
    obtain ⟨A, c, h1, h2, h3⟩ := h.chains key hk
    exact ⟨A, c, h1, h2, Kd.F_step h3 (fun k hk hl => hm k hk.1 hl)⟩
/-- The blocks that it may lie in, told otherwise. -/
theorem StoreAt.rebase (h : StoreAt W base B p s kv mb n D) (hB : ∀ k, B k → k < W.heap.size → B' k) (bb : ∀ k, B' k → base ≤ k) (bn : ∀ k, W.heap.size ≤ k → B' k) : StoreAt W base B' p s kv mb n D where
  cells := h.cells
  keys := h.keys.bound.mono (fun k hk => ⟨hB k hk.1.1 hk.2, hk.1.2⟩)
  map := h.map
  bb := bb
  bn := bn
  bp := hB p h.bp h.p_lt
  bm := hB mb h.bm h.m_lt
  pm := h.pm
  chains := fun key hk => by
    obtain ⟨A, c, h1, h2, h3⟩ := h.chains key hk
    exact ⟨A, c, h1, h2, Kd.F_mono (Kd.F_bound h3) (fun k hk => ⟨hB k hk.1.1 hk.2, hk.1.2⟩)⟩
/-- Both. -/
theorem StoreAt.move (h : StoreAt W base B p s kv mb n D) (hs : W.heap.size ≤ W1.heap.size) (hm : ∀ k, B k → k < W.heap.size → W1.heap[k]? = W.heap[k]?) (hB : ∀ k, B k → k < W.heap.size → B' k) (bb : ∀ k, B' k → base ≤ k) (bn : ∀ k, W1.heap.size ≤ k → B' k) : StoreAt W1 base B' p s kv mb n D where
  cells := (hm p h.bp h.p_lt).trans h.cells
  keys := (h.keys.bound.step hs (fun k hk hl => hm k hk.1.1 hl)).mono (fun k hk => ⟨hB k hk.1.1 hk.2, hk.1.2⟩)
  map := map_step h.map (hm mb h.bm h.m_lt)
  bb := bb
  bn := bn
  bp := hB p h.bp h.p_lt
  bm := hB mb h.bm h.m_lt
  pm := h.pm
  chains := fun key hk => by
    obtain ⟨A, c, h1, h2, h3⟩ := h.chains key hk
    exact ⟨A, c, h1, h2, Kd.F_mono (Kd.F_step (Kd.F_bound h3) (fun k hk hl => hm k hk.1.1 hl)) (fun k hk => ⟨hB k hk.1.1 hk.2, hk.1.2⟩)⟩
/-- A cell of its block. -/
theorem StoreAt.put (h : StoreAt W base B p s kv mb n D) (j : Nat) (u : Value) (s' : SS) (e : (cellsOf s kv mb).setIfInBounds j u = cellsOf s' kv mb) (hk : s'.keys = s.keys) (hc : s'.ch = s.ch) : StoreAt (W.setCell ⟨p, j, none⟩ u) base B p s' kv mb n D where
  cells := blk_put h.cells j u e
  keys := by rw [hk]; exact h.keys.step (by simp [World.setCell]) (fun k hk _ => Below.heap_setCell W ⟨p, j, none⟩ u k hk.2.1)
  map := map_step h.map (Below.heap_setCell W ⟨p, j, none⟩ u mb h.pm.symm)
  bb := h.bb
  bn := fun k hk => h.bn k (by simpa [World.setCell] using hk)
  bp := h.bp
  bm := h.bm
  pm := h.pm
  chains := fun key hk => by
    rw [hc]
    obtain ⟨A, c, h1, h2, h3⟩ := h.chains key hk
    exact ⟨A, c, h1, h2, Kd.F_far h3 (fun k hk => hk.2.1) u⟩
/-- Its keys are another row. -/
theorem StoreAt.putKeys {v : Value} {keys' : List ByteArray} (h : StoreAt W base B' p s kv mb n D) (hB : ∀ k, B' k → B k) (hne : ∀ k, B' k → some k ≠ kv.ownBlock → some k ≠ v.ownBlock) (hv : KeysAt W base (fun q => B q ∧ q ≠ p ∧ q ≠ mb) v keys') (bn : ∀ k, W.heap.size ≤ k → B k) (bb : ∀ k, B k → base ≤ k) : StoreAt (W.setCell ⟨p, 8, none⟩ v) base B p { s with keys := keys' } v mb n D where
  cells := blk_put h.cells 8 v (by rfl)
  keys := hv.step (by simp [World.setCell]) (fun k hk _ => Below.heap_setCell W ⟨p, 8, none⟩ v k hk.2.1)
  map := map_step h.map (Below.heap_setCell W ⟨p, 8, none⟩ v mb h.pm.symm)
  bb := bb
  bn := fun k hk => bn k (by simpa [World.setCell] using hk)
  bp := hB p h.bp
  bm := hB mb h.bm
  pm := h.pm
  chains := fun key hk => by
    obtain ⟨A, c, h1, h2, h3⟩ := h.chains key hk
    exact ⟨A, c, h1, h2, Kd.F_mono (Kd.F_far (p := ⟨p, 8, none⟩) h3 (fun k hk => hk.2.1) v) (fun k hk => ⟨hB k hk.1, hk.2.1, hk.2.2.1, hne k hk.1 hk.2.2.2⟩)⟩
theorem lit_ne {k k' : ByteArray} (h : k' ≠ k) : (Lit.string k'.data.toList) ≠ Lit.string k.data.toList := fun e => h (by
  injection e with e
  cases k; cases k'
  congr 1
  exact Array.toList_inj.1 e)
/-- A key's chain is another. -/
theorem StoreAt.mapPut (h : StoreAt W base B p s kv mb n D) (key : ByteArray) {A : Option Addr} {c : Nat} {l : List S28} (hl : l.length ≤ c) (hF : Kd.F k28 W (fun q => B q ∧ q ≠ p ∧ q ≠ mb ∧ some q ≠ kv.ownBlock) A l.length l)
    (hm : W1.ownsMap Try.prog 9 tok mb (n + 1) (D.put (.string key.data.toList) (.held (.slice A l.length c)))) (hg : W.grownBy W1 (some mb)) : StoreAt W1 base B p { s with ch := fun q => if q = key then l else s.ch q } kv mb (n + 1) (D.put (.string key.data.toList) (.held (.slice A l.length c))) where
  cells := (hg.block p h.p_lt (fun e => h.pm (Option.some.inj e))).trans h.cells
  keys := h.keys.step hg.size (fun k hk hl => hg.block k hl (fun e => hk.2.2 (Option.some.inj e)))
  map := hm
  bb := h.bb
  bn := fun k hk => h.bn k (Nat.le_trans hg.size hk)
  bp := h.bp
  bm := h.bm
  pm := h.pm
  chains := fun q hq => by
    have hst : ∀ {A c l}, Kd.F k28 W (fun q => B q ∧ q ≠ p ∧ q ≠ mb ∧ some q ≠ kv.ownBlock) A c l → Kd.F k28 W1 (fun q => B q ∧ q ≠ p ∧ q ≠ mb ∧ some q ≠ kv.ownBlock) A c l := fun h3 => Kd.F_step h3 (fun k hk hl => hg.block k hl (fun e => hk.2.2.1 (Option.some.inj e)))
    by_cases e : q = key
    · subst e
      refine ⟨A, c, ?_, ?_, ?_⟩
      · dsimp only; rw [if_pos rfl]; exact atKey_put_same h.map.isMap (by trivial) _ _
      · dsimp only; rw [if_pos rfl]; exact hl
      · dsimp only; rw [if_pos rfl]; exact hst hF
    · obtain ⟨A', c', h1, h2, h3⟩ := h.chains q hq
      refine ⟨A', c', ?_, ?_, ?_⟩
      · dsimp only; rw [if_neg e, atKey_put_other (lit_ne e)]; exact h1
      · dsimp only; rw [if_neg e]; exact h2
      · dsimp only; rw [if_neg e]; exact hst h3
/-- A key is struck. -/
theorem StoreAt.mapDel (h : StoreAt W base B p s kv mb n D) (key : ByteArray)
    (hm : W1.ownsMap Try.prog 9 tok mb n (D.del (.string key.data.toList))) (hg : W.grownBy W1 (some mb)) : StoreAt W1 base B p { s with ch := fun q => if q = key then [] else s.ch q } kv mb n (D.del (.string key.data.toList)) where
  cells := (hg.block p h.p_lt (fun e => h.pm (Option.some.inj e))).trans h.cells
  keys := h.keys.step hg.size (fun k hk hl => hg.block k hl (fun e => hk.2.2 (Option.some.inj e)))
  map := hm
  bb := h.bb
  bn := fun k hk => h.bn k (Nat.le_trans hg.size hk)
  bp := h.bp
  bm := h.bm
  pm := h.pm
  chains := fun q hq => by
    have hst : ∀ {A c l}, Kd.F k28 W (fun q => B q ∧ q ≠ p ∧ q ≠ mb ∧ some q ≠ kv.ownBlock) A c l → Kd.F k28 W1 (fun q => B q ∧ q ≠ p ∧ q ≠ mb ∧ some q ≠ kv.ownBlock) A c l := fun h3 => Kd.F_step h3 (fun k hk hl => hg.block k hl (fun e => hk.2.2.1 (Option.some.inj e)))
    by_cases e : q = key
    · subst e
      refine ⟨none, 0, ?_, ?_, ?_⟩
      · dsimp only; rw [if_pos rfl]; exact atKey_del_same _
      · dsimp only; rw [if_pos rfl]; exact Nat.le_refl _
      · dsimp only; rw [if_pos rfl]; exact Kd.F_nil _ _ _
    · obtain ⟨A', c', h1, h2, h3⟩ := h.chains q hq
      refine ⟨A', c', ?_, ?_, ?_⟩
      · dsimp only; rw [if_neg e, atKey_del_other (lit_ne e)]; exact h1
      · dsimp only; rw [if_neg e]; exact h2
      · dsimp only; rw [if_neg e]; exact hst h3
end
theorem append_stub (w : World) (ty : TypeId) (a0 ad : Addr) (c : Nat) : (Builtin.append_ #[75, 75] ty #[.slice (some a0) 0 0, .slice (some ad) 1 c]).run Try.prog w = (Builtin.append_ #[75, 75] ty #[.slice none 0 0, .slice (some ad) 1 c]).run Try.prog w := by
  obtain ⟨i, hi, hz⟩ := Option.map_eq_some_iff.1 info9
  simp only [Prod.mk.injEq] at hz
  simp [Builtin.append_, run_underlying Try.underlying75, sizeOf, typeInfo, hi, Builtin.lenOf, Builtin.firstCells, hz, loadCells, loadCellsFrom, Builtin.nextslicecap]
theorem cut_stub (W : World) (A : Option Addr) (n c : Nat) : (Instr.slice 75 (.slice A n c) none (some (.int .i64 0)) (some (.int .i64 0))).run Try.prog W = .ok (.slice A 0 0) W := by
  obtain ⟨i, hi, hz⟩ := Option.map_eq_some_iff.1 info9
  simp only [Prod.mk.injEq] at hz
  simp [Instr.slice, Instr.sliceBounds, Instr.sliceBound, run_underlying Try.underlying75, sizeOf, typeInfo, hi, hz, Result.andThen, asInt]
  cases A <;> rfl
def LeftAt (N0 : Nat) (kv v : Value) (xs : List ByteArray) (W : World) : Prop := Kd.R Kd.string 9 W N0 (fun k => N0 ≤ k) v xs ∨ (xs = [] ∧ ∃ A, v = .slice A 0 0 ∧ v.ownBlock = kv.ownBlock)
theorem LeftAt.slice {N0 : Nat} {kv v : Value} {xs : List ByteArray} {W : World} (h : LeftAt N0 kv v xs W) : ∃ A c, v = .slice A xs.length c := by
  rcases h with h | ⟨rfl, A, rfl, _⟩
  · exact Kd.R_slice h
  · exact ⟨A, 0, rfl⟩
theorem LeftAt.step {N0 : Nat} {kv v : Value} {xs : List ByteArray} {W W1 : World} (h : LeftAt N0 kv v xs W) (hm : ∀ k, N0 ≤ k → k < W.heap.size → W1.heap[k]? = W.heap[k]?) : LeftAt N0 kv v xs W1 := h.imp (fun k => Kd.R_step k hm) id
theorem LeftAt.lt {N0 : Nat} {kv v : Value} {xs : List ByteArray} {W : World} (h : LeftAt N0 kv v xs W) (hkv : ∀ k, kv.ownBlock = some k → k < N0) (hN : N0 ≤ W.heap.size) (k : Nat) (hk : v.ownBlock = some k) : k < W.heap.size := by
  rcases h with h | ⟨rfl, A, rfl, e⟩
  · exact own_lt h.2.choose_spec.1 k hk
  · have := hkv k (e ▸ hk); omega
section
variable {ops : Array Oper} {o : Oper} {rest : List Oper} {a : Act} {Q : Exit → Act → World → Prop} {N0 : Nat} {W : World}
theorem left_append (kv : Value) (hkv : ∀ k, kv.ownBlock = some k → k < N0) (hgd : o.guard = none) (s x : Operand) (ho : o.op = .call { callee := .builtin .append, args := #[s, x], argTypes := #[75, 75] })
    (v : Value) (xs : List ByteArray) (key : ByteArray) (hs : a.eval s = v) (hx : a.eval x = .slice (some ⟨W.heap.size, 0, none⟩) 1 1) (HL : LeftAt N0 kv v xs W) (hN : N0 ≤ W.heap.size) (hl : xs.length ≤ 1000000)
    (h : ∀ v1 w1, LeftAt N0 kv v1 (xs ++ [key]) w1 → Below N0 W w1 → (∀ k, k < W.heap.size → (some k ≠ v.ownBlock ∨ k < N0) → w1.heap[k]? = W.heap[k]?) → (∀ k, v1.ownBlock = some k → (v.ownBlock = some k ∧ N0 ≤ k) ∨ W.heap.size ≤ k) → wpList Try.prog ops Q rest (a.put o.dst v1) w1) :
    wpList Try.prog ops Q (o :: rest) a (W.alloc (.cells [Value.string key].toArray 9)) := by
  rcases HL with HR | ⟨rfl, A, rfl, e⟩
  · have hbase : ∀ k, v.ownBlock = some k → N0 ≤ k := HR.1
    refine Kd.R_append Kd.string (w0 := W) N0 hgd s x 75 9 (.string ⟨#[]⟩) 16 ho Try.underlying75 info9 rfl (by decide) (by omega) v xs key [.string key] (fun k => N0 ≤ k) (fun _ => False) hs hx rfl (fun _ h => h.elim) (fun k hk => Nat.le_trans hN hk) HR (Below.refl N0 W) hN (by omega) ?_
    intro v1 w1 h1 hb hg hat
    refine h v1 w1 (.inl h1) hb (fun k hk hne => hg.block k hk (fun e => hne.elim (fun q => q e) (fun hlt => by have := hbase k e.symm; omega))) (fun k hk => ?_)
    rcases hat with e | ⟨b, e, hb⟩
    · exact .inl ⟨e ▸ hk, hbase k (e ▸ hk)⟩
    · rw [e] at hk; injection hk with hk; subst hk; exact .inr hb
  · cases A with
    | none =>
      refine Kd.R_append Kd.string (w0 := W) N0 hgd s x 75 9 (.string ⟨#[]⟩) 16 ho Try.underlying75 info9 rfl (by decide) (by omega) (.slice none 0 0) [] key [.string key] (fun k => N0 ≤ k) (fun _ => False) hs hx rfl (fun _ h => h.elim) (fun k hk => Nat.le_trans hN hk) (Kd.R_nil _ _ _ _ _) (Below.refl N0 W) hN (by decide) ?_
      intro v1 w1 h1 hb hg hat
      refine h v1 w1 (.inl h1) hb (fun k hk _ => hg.block k hk (by simp [Value.ownBlock])) (fun k hk => ?_)
      rcases hat with e | ⟨b, e, hb⟩
      · rw [e] at hk; simp [Value.ownBlock] at hk
      · rw [e] at hk; injection hk with hk; subst hk; exact .inr hb
    | some a0 =>
      obtain ⟨i, hi, hz⟩ := Option.map_eq_some_iff.1 info9
      simp only [Prod.mk.injEq] at hz
      refine wpList_plain hgd fun K hK => ?_
      obtain ⟨v1, w1, hrun, hown, hg, _, hat⟩ := run_append_own_at (P := Try.prog) (W.alloc (.cells [Value.string key].toArray 9)) N0 75 o.type 9 i (.string ⟨#[]⟩) 1 16 Try.underlying75 hi hz.1 hz.2.1 hz.2.2 rfl (by omega) (.slice none 0 0) 0 [] (own_nil _ _ _ _) ⟨W.heap.size, 0, none⟩ 1 1 [.string key] rfl
        (by simpa using World.news_of_block (cs := [Value.string key].toArray) (t := 9) (fr := (0, 0)) (heap_alloc_new W (.cells [Value.string key].toArray 9))) (fun u hu => by rw [List.mem_singleton.1 hu]; rfl) (by decide) (by decide) (by simp; omega)
      unfold Oper.wp
      simp [execOp, ho, resolve, invoke, builtin, hs, hx, append_stub, hrun, Result.andThen]
      have hown' : Kd.R Kd.string 9 w1 N0 (fun k => N0 ≤ k) v1 [key] := Kd.R_of_own (enc := Value.string) (xs := [key]) hown (own_base hown)
      refine hK _ _ (h v1 w1 (.inl hown') (((Below.refl N0 W).alloc hN _).grown hg (by simp; omega) (by simp [Value.ownBlock])) (fun k hk _ => (hg.block k (by simp; omega) (by simp [Value.ownBlock])).trans (Below.heap_alloc W _ k hk)) (fun k hk => ?_))
      rcases hat with e | e
      · rw [e] at hk; simp [Value.ownBlock] at hk
      · rw [e] at hk; injection hk with hk; subst hk; exact .inr (by simp)
end
/-- Where a store lies while another row of keys is made: away from that row, but for its own keys. -/
def Bm (B : Nat → Prop) (kv v : Value) (k : Nat) : Prop := B k ∧ (some k ≠ v.ownBlock ∨ some k = kv.ownBlock)
section
variable {W W1 : World} {base p N0 : Nat} {B : Nat → Prop} {s : SS} {kv v v1 : Value} {mb n : Nat} {D : DataW Value}
theorem StoreAt.left (h : StoreAt W base (Bm B kv v) p s kv mb n D) (hkv : ∀ k, kv.ownBlock = some k → k < N0) (hs : W.heap.size ≤ W1.heap.size) (hm : ∀ k, k < W.heap.size → (some k ≠ v.ownBlock ∨ k < N0) → W1.heap[k]? = W.heap[k]?)
    (hat : ∀ k, v1.ownBlock = some k → (v.ownBlock = some k ∧ N0 ≤ k) ∨ W.heap.size ≤ k) (hlt : ∀ k, v1.ownBlock = some k → k < W1.heap.size) (bn : ∀ k, W.heap.size ≤ k → B k) (bb : ∀ k, B k → base ≤ k) : StoreAt W1 base (Bm B kv v1) p s kv mb n D := by
  refine StoreAt.move h hs (fun k hk hl => hm k hl (hk.2.imp id (fun e => hkv k e.symm))) (fun k hk hl => ⟨hk.1, ?_⟩) (fun k hk => bb k hk.1) (fun k hk => ⟨bn k (Nat.le_trans hs hk), .inl (fun e => by have := hlt k e.symm; omega)⟩)
  by_cases e : some k = kv.ownBlock
  · exact .inr e
  · refine .inl (fun e1 => ?_)
    rcases hat k e1.symm with ⟨e2, _⟩ | h2
    · exact hk.2.elim (fun q => q e2.symm) e
    · omega
theorem StoreAt.toLeft (h : StoreAt W base B p s kv mb n D) (hv : v.ownBlock = kv.ownBlock) : StoreAt W base (Bm B kv v) p s kv mb n D :=
  h.rebase (fun k hk _ => ⟨hk, by rw [hv]; exact (Decidable.em _).symm⟩) (fun k hk => h.bb k hk.1) (fun k hk => ⟨h.bn k hk, by rw [hv]; exact (Decidable.em _).symm⟩)
theorem LeftAt.keys {xs : List ByteArray} (h : LeftAt W.heap.size kv v xs W1) (hkv : ∀ k, kv.ownBlock = some k → k < W.heap.size) (hN : W.heap.size ≤ W1.heap.size) (hS : StoreAt W base B p s kv mb n D) : KeysAt W1 base (fun q => B q ∧ q ≠ p ∧ q ≠ mb) v xs := by
  rcases h with h | ⟨rfl, A, rfl, e⟩
  · exact .inl (Kd.R_lower (Kd.R_mono h (fun k hk => ⟨hS.bn k hk, fun e => by have := hS.p_lt; omega, fun e => by have := hS.m_lt; omega⟩)) hS.base_le)
  · cases A with
    | none => exact .inl (Kd.R_nil _ _ _ _ _)
    | some a =>
      have := hS.keys.ownLt a.block (e ▸ rfl)
      exact .inr ⟨rfl, a, rfl, this.1, Nat.lt_of_lt_of_le this.2 hN⟩
end
end Go.Proofs.Yteofdgonpbmdlaa.C
namespace Go.Proofs.Yteofdgonpbmdlaa.C
open Go.RowKit Go.Maps Go.Proofs.YteofdgonpbmdlaaW.PrintWords Go.Proofs.YteofdgonpbmdlaaW.PrintLast Go.Proofs.YteofdgonpbmdlaaW.PrintMore
attribute [local go_sem] max2_int min2_int max2_str min2_str str_leq str_gtr str_geq max_two min_two max_three min_three max_four min_four
theorem info62 : (Try.prog.info? 62).map (fun i => (i.zero, i.size, i.bytes)) = some (some (.agg #[(.string ⟨#[]⟩), (.slice none 0 0)]), 2, 40) := by kernel_rfl
/-- Does a scan end ahead of this key? -/
def ends (hi k : ByteArray) : Bool := (hi.toList != []) && !(Op.bytesLess k.toList hi.toList)
def scanL (gf : ByteArray → List Int × Bool) (hi : ByteArray) : List ByteArray → List S62
  | [] => []
  | k :: t => if ends hi k = true then [] else if (gf k).2 = true then ⟨k, (gf k).1⟩ :: scanL gf hi t else scanL gf hi t
theorem srch_le (l : List ByteArray) (x : ByteArray) : ∀ k i j, i ≤ j → srch l x k i j ≤ j
  | 0, i, j, h => h
  | k + 1, i, j, h => by
    simp only [srch]
    by_cases hlt : i < j
    · rw [if_pos hlt]
      by_cases hb : Op.bytesLess (ks l ((i + j) / 2 : Nat)).toList x.toList = true
      · rw [if_pos hb]; exact srch_le l x k _ _ (by omega)
      · rw [if_neg hb]; exact Nat.le_trans (srch_le l x k _ _ (by omega)) (by omega)
    · rw [if_neg hlt]; exact h
theorem srchF_le (l : List ByteArray) (x : ByteArray) : srchF l x ≤ l.length := srch_le l x _ _ _ (Nat.zero_le _)
theorem drop_ks (l : List ByteArray) (i : Nat) (h : i < l.length) : l.drop i = ks l (i : Nat) :: l.drop (i + 1) := by
  rw [List.drop_eq_getElem_cons h]
  congr 1
  simp [ks, rdOf, List.getD, List.getElem?_eq_getElem h]
set_option maxHeartbeats 4000000 in
theorem store_Scan.calls {W : World} {base p : Nat} {B : Nat → Prop} {s : SS} {kv : Value} {mb n : Nat} {D : DataW Value} (h : Aside0 (StoreAt W base B p s kv mb n D)) (hl : Aside0 (s.keys.length ≤ 1000000)) (hk : Aside0 (∀ key, key ∈ s.keys → key.size ≤ maxLen))
    (lo hi : ByteArray) (at_ : Int) (gf : ByteArray → List Int × Bool) (hg : Aside0 (∀ key, key ∈ s.keys → chain_Get.f (s.ch key) at_ = some (gf key))) :
    Calls Try.prog 42 #[.pointer (some ⟨p, 0, none⟩), .string lo, .string hi, .int .u64 at_] W fun e w' => ∃ v0_ : Value, e = .returned (v0_) ∧ Kd.N k62 62 w' W.heap.size (fun k_ => W.heap.size ≤ k_) v0_ (scanL gf hi (s.keys.drop (srchF s.keys lo))) ∧ Below W.heap.size W w' := by
  have h8 : W.cell? ⟨p, 8, none⟩ = some kv := (blk_cell h.out.cells 8).trans rfl
  obtain ⟨A, c, ekv, hl_, hc_⟩ := h.out.keys.row
  rw [ekv] at h8
  have HC := Aside0.mk hc_
  have HL := Aside0.mk hl_
  clear hl_ hc_
  obtain ⟨i9, hi9, hz9⟩ := Option.map_eq_some_iff.1 info9
  simp only [Prod.mk.injEq] at hz9
  have hcut := cut_from 75 9 .i64 Try.underlying75 hi9 1 hz9.2.1 A s.keys.length c (srchF s.keys lo : Nat) (by omega) (by have := srchF_le s.keys lo; omega)
  have HD := Aside0.mk (Kd.C_drop HC.out (srchF_le s.keys lo) HL.out)
  have hle := Aside0.mk (srchF_le s.keys lo)
  simp only [Int.toNat_natCast, Kd.sz] at hcut HD
  obtain ⟨m, hm⟩ : ∃ m, srchF s.keys lo = m := ⟨_, rfl⟩
  rw [hm] at hcut HD hle ⊢
  obtain ⟨rest, hrest⟩ : ∃ rest, s.keys.drop m = rest := ⟨_, rfl⟩
  have hrl : s.keys.length - m = rest.length := by rw [← hrest, List.length_drop]
  rw [hrest] at HD ⊢
  obtain ⟨A', hA'⟩ : ∃ A', (if c = m then A else A.map (·.add (m * 1))) = A' := ⟨_, rfl⟩
  have HD' : Aside0 (Kd.string.C W A' rest.length rest) := by rw [← hA']; exact HD
  rw [hA', hrl] at hcut
  clear HD
  have hsub : Aside0 (∀ key, key ∈ rest → key ∈ s.keys) := ⟨fun key hk => List.mem_of_mem_drop (by rw [hrest]; exact hk)⟩
  have hr1 : Aside0 (rest.length ≤ 1000000) := ⟨by have := hl.out; omega⟩
  go_enter Try.func42, Try.ntmps42
  go_wp2_with (go_at_call 70; refine (store_is.calls h).mono ?_; rintro e w1 ⟨rfl, e1⟩; replace e1 := e1.symm; subst e1)
  go_region_held3 (fun w' => w'.cell? ⟨p, 8, none⟩ = some (.slice A s.keys.length c) ∧ Below W.heap.size W w') (first | exact ⟨h8, below_drew1 (Below.refl _ _)⟩ | exact ⟨pw_cell_below hb2 (And.left (b := Below W.heap.size W _) (by assumption)), below_step (And.right (a := World.cell? _ ⟨p, 8, none⟩ = some (.slice A s.keys.length c)) (by assumption)) hb2⟩) (first | (go_at_call 71; refine (searchStrings_calls A c s.keys lo _ (Kd.C_below HC.out (And.right (a := World.cell? _ ⟨p, 8, none⟩ = some (.slice A s.keys.length c)) (by assumption))) (by have := hl.out; omega)).mono ?_; rintro e w2 ⟨rfl, hb2⟩))
  rename_i hH
  have HB := Aside0.mk hH.2
  clear hH hb2
  clear hcut hA' hrl h8 hi9 hz9 hm hrest ekv
  go_wp2
  go_loopw [9, 29] (fun vo vi wr => ∃ (i : Nat) (xs : List S62), vi = .int .i64 i ∧ i ≤ rest.length ∧ xs.length ≤ i ∧ Aside0 (xs ++ scanL gf hi (rest.drop i) = scanL gf hi rest) ∧ Aside0 (Kd.N k62 62 wr W.heap.size (fun k_ => W.heap.size ≤ k_) vo xs) ∧ Aside0 (Below W.heap.size W wr)) (fun _ vi _ => rest.length - (intOf vi).toNat)
  case atStart => exact ⟨0, [], rfl, Nat.zero_le _, Nat.le_refl _, ⟨rfl⟩, ⟨Kd.N_nil _ _ _ _ _⟩, ⟨HB.out⟩⟩
  case round =>
    clear HB
    obtain ⟨i, xs, rfl, hi1, hi2, HU, HO, HB⟩ := hrel
    by_cases hlt : i < rest.length
    · obtain ⟨ad, e, hx⟩ := Kd.at_string HD'.out (i : Int) (by omega) (by omega)
      subst e
      have hx' := pw_cell_below HB.out hx
      clear hx
      obtain ⟨key, hkey⟩ : ∃ key, ks rest (i : Nat) = key := ⟨_, rfl⟩
      have hU := HU.out
      rw [drop_ks rest i hlt, hkey] at hU
      have hmem : key ∈ rest := by
        have : key ∈ rest.drop i := by rw [drop_ks rest i hlt, hkey]; exact List.mem_cons_self ..
        exact List.mem_of_mem_drop this
      have hgk := Aside0.mk (hg.out key (hsub.out key hmem))
      have hkk := Aside0.mk (hk.out key (hsub.out key hmem))
      have hx2 : wr.cell? (ad.add i) = some (.string key) := by rw [← hkey]; exact hx'
      simp only [scanL] at hU
      have HU' := Aside0.mk hU
      clear hmem hx' hU hkey
      have hS := Aside0.mk (h.out.below HB.out)
      obtain ⟨b, isb, hgf⟩ : ∃ b isb, gf key = (b, isb) := ⟨_, _, rfl⟩
      have hgk2 : Aside0 (chain_Get.f (s.ch key) at_ = some (b, isb)) := ⟨by rw [← hgf]; exact hgk.out⟩
      clear hgk
      have hi3 : i < 1000000 := by have := hr1.out; omega
      cases hz : hi.toList.isEmpty with
      | true =>
        have he : ends hi key = false := by simp [ends, List.isEmpty_iff.1 hz]
        cases isb with
        | true =>
          go_wp2_with (first | (go_at_call 43; refine (store_Read.calls hS key hkk at_ b true hgk2).mono ?_; rintro e w2 ⟨v, rfl, ho, hbl⟩; obtain ⟨Ao, co, eo⟩ := Kd.R_slice ho; subst eo; have HOb := Aside0.mk (Kd.R_lower (Kd.R_mono (Kd.R_newM (M := fun k_ => W.heap.size ≤ k_) ho HB.out.size (fun _ h_ => h_)) (ok' := fun k_ => W.heap.size ≤ k_) (fun _ h_ => h_.1)) HB.out.size); have HO2 := Aside0.mk (Kd.N_below HO.out hbl); have HB2 := Aside0.mk (below_step HB.out hbl); clear ho hbl HO HB) | ((with_reducible refine gate_builtin (b := .append) (xs := #[.tmp 48, .tmp 52]) rfl ?_); at_builtin; refine Kd.N_append k62 (w0 := W) W.heap.size rfl (.tmp 48) (.tmp 52) 56 62 (.agg #[(.string ⟨#[]⟩), (.slice none 0 0)]) 40 rfl Try.underlying56 info62 rfl (by decide) (by omega) u9 xs (⟨key, b⟩ : S62) [.string key, .slice Ao b.length co] (fun k_ => W.heap.size ≤ k_) (fun k_ => (W.heap.size ≤ k_) ∧ some k_ ≠ (u9 : Value).ownBlock) rfl rfl ?aP (fun _ hk => hk) ?aF ?aO ?aB ?aS ?aL ?_; (case aP => exact k62_mkF w2 _ (⟨key, b⟩ : S62) (Kd.R_reads' HOb.out).2.1 (Kd.R_F (Kd.R_apart' HOb.out (Kd.N_typed HO2.out) (by decide)))); (case aB => exact HB2.out); (case aF => exact (fun k_ hk => Nat.le_trans HB2.out.size hk)); (case aO => exact HO2.out); (case aS => exact HB2.out.size); (case aL => have := hr1.out; omega); intro v3 w3 ho3 hb3 hg_ hat_; clear hg_ hat_; have HO3 := Aside0.mk ho3; have HB3 := Aside0.mk hb3; clear ho3 hb3))
          go_roundw
          case measure => simp [intOf]; omega
          case rel => exact ⟨i + 1, xs ++ [⟨key, b⟩], by go_num, by omega, by simp; omega, ⟨by have h_ := HU'.out; rw [he, hgf] at h_; simpa using h_⟩, ⟨HO3.out⟩, ⟨HB3.out⟩⟩
        | false =>
          go_wp2_with (first | (go_at_call 43; refine (store_Read.calls hS key hkk at_ b false hgk2).mono ?_; rintro e w2 ⟨v, rfl, ho, hbl⟩; obtain ⟨Ao, co, eo⟩ := Kd.R_slice ho; subst eo; have HOb := Aside0.mk (Kd.R_lower (Kd.R_mono (Kd.R_newM (M := fun k_ => W.heap.size ≤ k_) ho HB.out.size (fun _ h_ => h_)) (ok' := fun k_ => W.heap.size ≤ k_) (fun _ h_ => h_.1)) HB.out.size); have HO2 := Aside0.mk (Kd.N_below HO.out hbl); have HB2 := Aside0.mk (below_step HB.out hbl); clear ho hbl HO HB))
          go_roundw
          case measure => simp [intOf]; omega
          case rel => exact ⟨i + 1, xs, by go_num, by omega, by omega, ⟨by have h_ := HU'.out; rw [he, hgf] at h_; simpa using h_⟩, ⟨HO2.out⟩, ⟨HB2.out⟩⟩
      | false =>
        cases hb : Op.bytesLess key.toList hi.toList with
        | true =>
          have he : ends hi key = false := by simp [ends, hb]
          cases isb with
          | true =>
            go_wp2_with (first | (go_at_call 43; refine (store_Read.calls hS key hkk at_ b true hgk2).mono ?_; rintro e w2 ⟨v, rfl, ho, hbl⟩; obtain ⟨Ao, co, eo⟩ := Kd.R_slice ho; subst eo; have HOb := Aside0.mk (Kd.R_lower (Kd.R_mono (Kd.R_newM (M := fun k_ => W.heap.size ≤ k_) ho HB.out.size (fun _ h_ => h_)) (ok' := fun k_ => W.heap.size ≤ k_) (fun _ h_ => h_.1)) HB.out.size); have HO2 := Aside0.mk (Kd.N_below HO.out hbl); have HB2 := Aside0.mk (below_step HB.out hbl); clear ho hbl HO HB) | ((with_reducible refine gate_builtin (b := .append) (xs := #[.tmp 48, .tmp 52]) rfl ?_); at_builtin; refine Kd.N_append k62 (w0 := W) W.heap.size rfl (.tmp 48) (.tmp 52) 56 62 (.agg #[(.string ⟨#[]⟩), (.slice none 0 0)]) 40 rfl Try.underlying56 info62 rfl (by decide) (by omega) u9 xs (⟨key, b⟩ : S62) [.string key, .slice Ao b.length co] (fun k_ => W.heap.size ≤ k_) (fun k_ => (W.heap.size ≤ k_) ∧ some k_ ≠ (u9 : Value).ownBlock) rfl rfl ?aP (fun _ hk => hk) ?aF ?aO ?aB ?aS ?aL ?_; (case aP => exact k62_mkF w2 _ (⟨key, b⟩ : S62) (Kd.R_reads' HOb.out).2.1 (Kd.R_F (Kd.R_apart' HOb.out (Kd.N_typed HO2.out) (by decide)))); (case aB => exact HB2.out); (case aF => exact (fun k_ hk => Nat.le_trans HB2.out.size hk)); (case aO => exact HO2.out); (case aS => exact HB2.out.size); (case aL => have := hr1.out; omega); intro v3 w3 ho3 hb3 hg_ hat_; clear hg_ hat_; have HO3 := Aside0.mk ho3; have HB3 := Aside0.mk hb3; clear ho3 hb3))
            go_roundw
            case measure => simp [intOf]; omega
            case rel => exact ⟨i + 1, xs ++ [⟨key, b⟩], by go_num, by omega, by simp; omega, ⟨by have h_ := HU'.out; rw [he, hgf] at h_; simpa using h_⟩, ⟨HO3.out⟩, ⟨HB3.out⟩⟩
          | false =>
            go_wp2_with (first | (go_at_call 43; refine (store_Read.calls hS key hkk at_ b false hgk2).mono ?_; rintro e w2 ⟨v, rfl, ho, hbl⟩; obtain ⟨Ao, co, eo⟩ := Kd.R_slice ho; subst eo; have HOb := Aside0.mk (Kd.R_lower (Kd.R_mono (Kd.R_newM (M := fun k_ => W.heap.size ≤ k_) ho HB.out.size (fun _ h_ => h_)) (ok' := fun k_ => W.heap.size ≤ k_) (fun _ h_ => h_.1)) HB.out.size); have HO2 := Aside0.mk (Kd.N_below HO.out hbl); have HB2 := Aside0.mk (below_step HB.out hbl); clear ho hbl HO HB))
            go_roundw
            case measure => simp [intOf]; omega
            case rel => exact ⟨i + 1, xs, by go_num, by omega, by omega, ⟨by have h_ := HU'.out; rw [he, hgf] at h_; simpa using h_⟩, ⟨HO2.out⟩, ⟨HB2.out⟩⟩
        | false =>
          have he : ends hi key = true := by
            simp only [ends, hb]
            cases hq : hi.toList with
            | nil => rw [hq] at hz; simp at hz
            | cons x t => rfl
          go_wp2
          go_ret
          have h_ := HU'.out
          rw [he, if_pos rfl, List.append_nil] at h_
          rw [← h_]
          exact ⟨_, rfl, HO.out, HB.out⟩
    · have hd : rest.drop i = [] := List.drop_eq_nil_of_le (by omega)
      have h_ := HU.out
      rw [hd] at h_
      have h2 : xs = scanL gf hi rest := by rw [← h_]; simp [scanL]
      clear hd h_ HU
      have H2 := Aside0.mk h2
      clear h2
      go_wp2
      go_ret
      rw [← H2.out]
      exact ⟨_, rfl, HO.out, HB.out⟩
def mid (s : SS) (ch : ByteArray → List S28) (a b c : Int) : SS := { s with ch := ch, n0 := a, n1 := b, n2 := c }
def hasK (keys : List ByteArray) (q : ByteArray) : Bool := keys.any (fun k => decide (k = q))
theorem hasK_iff {keys : List ByteArray} {q : ByteArray} : hasK keys q = true ↔ q ∈ keys := by simp [hasK, List.any_eq_true]
def colCh (keys : List ByteArray) (tf ch : ByteArray → List S28) : ByteArray → List S28 := fun q => if hasK keys q = true then tf q else ch q
def colK (tf : ByteArray → List S28) (keys : List ByteArray) : List ByteArray := keys.filter (fun q => decide ((tf q).length ≠ 0))
def colN (tf : ByteArray → List S28) (zf : ByteArray → Int) : List ByteArray → Int → Int → Int → Int × Int × Int
  | [], a, b, c => (a, b, c)
  | k :: t, a, b, c => if (tf k).length = 0 then colN tf zf t a b c else colN tf zf t (wrap64 (a + 1)) (wrap64 (b + ((tf k).length : Int))) (wrap64 (c + wrap64 ((k.size : Int) + zf k)))
def colS (s : SS) (tf : ByteArray → List S28) (zf : ByteArray → Int) : SS :=
  { mid s (colCh s.keys tf s.ch) (colN tf zf s.keys 0 0 0).1 (colN tf zf s.keys 0 0 0).2.1 (colN tf zf s.keys 0 0 0).2.2 with keys := colK tf s.keys }
theorem colCh_step (keys : List ByteArray) (tf ch : ByteArray → List S28) (i : Nat) (hi : i < keys.length) (l : List S28) (hl : l = tf (ks keys (i : Nat))) :
    (fun q => if q = ks keys (i : Nat) then l else colCh (keys.take i) tf ch q) = colCh (keys.take (i + 1)) tf ch := by
  have e : ks keys (i : Nat) = keys[i] := by simp [ks, rdOf, List.getD, List.getElem?_eq_getElem hi]
  have hm : ∀ q, hasK (keys.take (i + 1)) q = true ↔ hasK (keys.take i) q = true ∨ q = keys[i] := fun q => by
    rw [hasK_iff, hasK_iff, List.take_succ_eq_append_getElem hi, List.mem_append, List.mem_singleton]
  funext q
  simp only [colCh]
  rw [e] at hl ⊢
  by_cases h1 : q = keys[i]
  · rw [if_pos h1, if_pos ((hm q).2 (.inr h1)), hl, h1]
  · rw [if_neg h1]
    by_cases h2 : hasK (keys.take i) q = true
    · rw [if_pos h2, if_pos ((hm q).2 (.inl h2))]
    · rw [if_neg h2, if_neg (fun h3 => ((hm q).1 h3).elim h2 h1)]
theorem colCh_at (keys : List ByteArray) (hd : keys.Nodup) (tf ch : ByteArray → List S28) (i : Nat) (hi : i < keys.length) : colCh (keys.take i) tf ch (ks keys (i : Nat)) = ch (ks keys (i : Nat)) := by
  have e : ks keys (i : Nat) = keys[i] := by simp [ks, rdOf, List.getD, List.getElem?_eq_getElem hi]
  rw [e]
  refine if_neg (fun h => ?_)
  rw [hasK_iff] at h
  obtain ⟨j, hj, e2⟩ := List.getElem_of_mem h
  rw [List.getElem_take] at e2
  rw [List.length_take] at hj
  have := (List.getElem_inj hd).1 e2
  omega
theorem colCh_zero (keys : List ByteArray) (tf ch : ByteArray → List S28) : colCh (keys.take 0) tf ch = ch := by funext q; simp [colCh, hasK]
def ColPost (W : World) (base : Nat) (B : Nat → Prop) (p : Nat) (s : SS) (kv : Value) (mb n : Nat) (tf : ByteArray → List S28) (zf : ByteArray → Int) (e : Ending) (w' : World) : Prop :=
  e = .returned (.int .i64 (wrap64 (s.n1 - (colN tf zf s.keys 0 0 0).2.1))) ∧ ∃ kv' n' D', StoreAt w' base B p (colS s tf zf) kv' mb n' D' ∧ n' ≤ n + s.keys.length ∧ Turn base (fun k => k = p ∨ k = mb) W w' ∧ (∀ k, kv'.ownBlock = some k → kv.ownBlock = some k ∨ W.heap.size ≤ k)
set_option maxRecDepth 100000 in
set_option maxHeartbeats 8000000 in
theorem store_Collect.calls {W : World} {base p : Nat} {B : Nat → Prop} {s : SS} {kv : Value} {mb n : Nat} {D : DataW Value} (h : Aside0 (StoreAt W base B p s kv mb n D)) (low : Int) (tf : ByteArray → List S28) (zf : ByteArray → Int)
    (hl : Aside0 (s.keys.length ≤ 100000)) (hk : Aside0 (∀ key, key ∈ s.keys → key.size ≤ maxLen)) (hnd : Aside0 s.keys.Nodup) (ht : Aside0 (∀ key, key ∈ s.keys → ∃ k, chain_Trim.f k (s.ch key) low = some (tf key))) (hz : Aside0 (∀ key, key ∈ s.keys → ∃ k, chain_Size.f k (tf key) = some (zf key)))
    (hn : Aside0 (n + s.keys.length < maxLen)) :
    Calls Try.prog 49 #[.pointer (some ⟨p, 0, none⟩), .int .u64 low] W (ColPost W base B p s kv mb n tf zf) := by
  obtain ⟨A, c, ekv, hlc, hC⟩ := h.out.keys.row
  subst ekv
  have h8 : W.cell? ⟨p, 8, none⟩ = some (.slice A s.keys.length c) := (blk_cell h.out.cells 8).trans rfl
  have h11 : W.cell? ⟨p, 11, none⟩ = some (.int .i64 s.n1) := (blk_cell h.out.cells 11).trans rfl
  have f10 := blk_frozen h.out.cells 10
  have f11 := blk_frozen h.out.cells 11
  have f12 := blk_frozen h.out.cells 12
  have i10 : W.cell? ⟨p, 10, none⟩ = some (.int .i64 s.n0) := (blk_cell h.out.cells 10).trans rfl
  have i12 : W.cell? ⟨p, 12, none⟩ = some (.int .i64 s.n2) := (blk_cell h.out.cells 12).trans rfl
  have hcut := fun W => cut_stub W A s.keys.length c
  have hkv := Aside0.mk (show ∀ k, (Value.slice A s.keys.length c).ownBlock = some k → k < W.heap.size from fun k hk => (h.out.keys.ownLt k hk).2)
  have hbn := Aside0.mk h.out.bn
  have hbb := Aside0.mk h.out.bb
  have hbw := Aside0.mk h.out.base_le
  have hpw := Aside0.mk h.out.p_lt
  have hmw := Aside0.mk h.out.m_lt
  clear hlc hC
  go_enter Try.func49, Try.ntmps49
  go_wp2_with (first
    | (go_at_call 70; refine (store_is.calls h).mono ?_; rintro e w1 ⟨rfl, e1⟩; replace e1 := e1.symm; subst e1)
    | ((with_reducible refine gate_store (t := 72) (p := 26) rfl ?_); refine store_event (t := 72) (p := 26) (v := ?vo1_) (w1 := ((W.setCell ⟨p, 10, none⟩ (.int .i64 0)).setCell ⟨p, 11, none⟩ (.int .i64 0)).setCell ⟨p, 12, none⟩ (.int .i64 0)) ?hg ?ho ?hn ?hr ?_; (case ho => rfl); (case hg => rfl); (case hn => rfl); (case hr => first | (go_simp; done) | (go_simp; rfl)); intro w2 hw; have HS := Aside0.mk (show StoreAt w2 base (Bm B (.slice A s.keys.length c) (.slice A 0 0)) p (mid s s.ch 0 0 0) (.slice A s.keys.length c) mb n D by rw [hw]; exact (((h.out.put 10 (.int .i64 0) (mid s s.ch 0 s.n1 s.n2) rfl rfl rfl).put 11 (.int .i64 0) (mid s s.ch 0 0 s.n2) rfl rfl rfl).put 12 (.int .i64 0) (mid s s.ch 0 0 0) rfl rfl rfl).toLeft (by cases A <;> rfl)); have HT := Aside0.mk (show Turn base (fun k => k = p ∨ k = mb) W w2 by rw [hw]; exact ((Turn.set ⟨p, 10, none⟩ _ (h.out.bb _ h.out.bp) (.inl rfl)).then_ (Turn.set (S := fun k => k = p ∨ k = mb) ⟨p, 11, none⟩ _ (h.out.bb _ h.out.bp) (.inl rfl)) (fun _ hk => .inl hk)).then_ (Turn.set (S := fun k => k = p ∨ k = mb) ⟨p, 12, none⟩ _ (h.out.bb _ h.out.bp) (.inl rfl)) (fun _ hk => .inl hk)); have j8 : w2.cell? ⟨p, 8, none⟩ = some (.slice A s.keys.length c) := (blk_cell HS.out.cells 8).trans rfl; clear hw h8 h11 f10 f11 f12 i10 i12))
  go_loopw [6, 32] (fun vl vi wr => ∃ (i : Nat) (xs : List ByteArray) (a b c' : Int) (n' : Nat) (D' : DataW Value), vi = .int .i64 i ∧ i ≤ s.keys.length ∧ xs.length ≤ i ∧ Aside0 (n' ≤ n + i) ∧ Aside0 (xs ++ colK tf (s.keys.drop i) = colK tf s.keys) ∧ Aside0 (colN tf zf (s.keys.drop i) a b c' = colN tf zf s.keys 0 0 0) ∧ Aside0 (LeftAt W.heap.size (.slice A s.keys.length c) vl xs wr) ∧ Aside0 (StoreAt wr base (Bm B (.slice A s.keys.length c) vl) p (mid s (colCh (s.keys.take i) tf s.ch) a b c') (.slice A s.keys.length c) mb n' D') ∧ Aside0 (Turn base (fun k => k = p ∨ k = mb) W wr)) (fun _ vi _ => s.keys.length - (intOf vi).toNat)
  case atStart => exact ⟨0, [], 0, 0, 0, n, D, rfl, Nat.zero_le _, Nat.le_refl _, ⟨Nat.le_refl _⟩, ⟨rfl⟩, ⟨rfl⟩, ⟨.inr ⟨rfl, A, rfl, by cases A <;> rfl⟩⟩, ⟨by rw [colCh_zero]; exact HS.out⟩, HT⟩
  case round =>
    clear HS HT j8
    obtain ⟨i, xs, a, b, c', n', D', rfl, hi1, hi2, hn1, HU, HV, HL, HS, HT⟩ := hrel
    have hNr := Aside0.mk HT.out.below.size
    by_cases hlt : i < s.keys.length
    · have hrow := HS.out.keys.row
      obtain ⟨A_, c_, e_, hle_, hC⟩ := hrow
      injection e_ with e1_ e2_ e3_
      clear e2_ hle_ hcut
      subst e1_ e3_
      obtain ⟨ad, e, hx⟩ := Kd.at_string hC (i : Int) (by omega) (by dsimp only [mid]; omega)
      subst e
      simp only [Int.toNat_natCast] at hx
      obtain ⟨key, hkey⟩ : ∃ key, ks s.keys (i : Nat) = key := ⟨_, rfl⟩
      have hx' : wr.cell? (ad.add i) = some (.string key) := by rw [← hkey]; exact hx
      have hmem : key ∈ s.keys := by
        have : key ∈ s.keys.drop i := by rw [drop_ks s.keys i hlt, hkey]; exact List.mem_cons_self ..
        exact List.mem_of_mem_drop this
      have hkk := Aside0.mk (hk.out key hmem)
      obtain ⟨k1, ht1⟩ := ht.out key hmem
      obtain ⟨k2, hz1⟩ := hz.out key hmem
      have HT1 := Aside0.mk ht1
      have HZ1 := Aside0.mk hz1
      have hlk := HS.out.look key hkk.out
      rw [show (mid s (colCh (s.keys.take i) tf s.ch) a b c').ch key = s.ch key by rw [← hkey]; exact colCh_at s.keys hnd.out tf s.ch i hlt] at hlk
      obtain ⟨Ac, cc, hrun, hcl, hcF⟩ := hlk
      have HCF := Aside0.mk hcF
      have HCL := Aside0.mk hcl
      have h9 : wr.cell? ⟨p, 9, none⟩ = some (.map (some mb)) := (blk_cell HS.out.cells 9).trans rfl
      have hU := HU.out
      have hV := HV.out
      rw [drop_ks s.keys i hlt, hkey] at hU hV
      have HU' := Aside0.mk hU
      have HV' := Aside0.mk hV
      have hstep := Aside0.mk (colCh_step s.keys tf s.ch i hlt (tf key) (by rw [hkey]))
      rw [hkey] at hstep
      have hi3 : i < 100000 := by have := hl.out; omega
      clear hC hx hmem ht1 hz1 hcF hcl hU hV HU HV hkey
      by_cases hzero : (tf key).length = 0
      · have HZ0 := Aside0.mk hzero
        have hzb : (((tf key).length : Int) == 0) = true := by rw [hzero]; rfl
        clear hzero
        go_wp2_with (first
          | (go_at_call 31; (with_reducible refine (chain_Trim.calls k1 _ _ (s.ch key) low (tf key) _ ?s1 ?s2 HT1.out).mono ?_); (case s1 => exact Kd.F_now HCF.out); (case s2 => exact HCL.out); rintro e w2 ⟨v, rfl, ho, hb⟩; obtain ⟨At, ct, ev⟩ := Kd.N_slice ho; subst ev; have HR := Aside0.mk (Kd.N_F ho); have HRl := Aside0.mk (Kd.N_reads' ho).2.1; have HB2 := Aside0.mk hb; have HS2 := Aside0.mk (HS.out.below hb); have HL2 := Aside0.mk (HL.out.step (fun k _ hlt_ => hb.block k hlt_)); have HT2 := Aside0.mk (HT.out.then_ (Turn.of_below hb (Nat.le_trans hbw.out hNr.out) (fun _ => False)) (fun _ hk_ => hk_.elim)); have k9 : w2.cell? ⟨p, 9, none⟩ = some (.map (some mb)) := pw_cell_below hb h9; clear ho hb h9 hrun hx')
          | (at_delete; refine wpList_delete_own _ rfl _ _ 89 9 rfl 22 law9 Try.underlying89 tok mb n' D' rfl HS2.out.map (.string key) (.string key.data.toList) rfl (Go.WideMaps.keyOf_string_mk Try.underlying9 hkk.out) ?_; intro w3 hown hturn; have HS3 := Aside0.mk (HS2.out.mapDel key hown hturn.grown); have HL3 := Aside0.mk (HL2.out.step (fun k hk_ hlt_ => hturn.grown.block k hlt_ (fun e => by injection e with e; have := hmw.out; omega))); have HT3 := Aside0.mk (HT2.out.then_ (Turn.grown hturn.grown (Nat.le_trans hbw.out (Nat.le_trans hNr.out HB2.out.size)) (S := fun k => k = p ∨ k = mb) (fun k e => by injection e with e; subst e; exact ⟨hbb.out _ h.out.bm, .inr rfl⟩)) (fun _ hk_ => .inl hk_)); clear hown hturn))
        go_roundw
        case measure => simp [intOf]; omega
        case rel =>
          refine ⟨i + 1, xs, a, b, c', n', D'.del (.string key.data.toList), by go_num, by omega, by omega, ⟨by have := hn1.out; omega⟩, ⟨by have h_ := HU'.out; simp only [colK, List.filter_cons] at h_; rw [if_neg (by simpa using HZ0.out)] at h_; exact h_⟩, ⟨by have h_ := HV'.out; simp only [colN] at h_; rw [if_pos HZ0.out] at h_; exact h_⟩, HL3, ⟨?_⟩, HT3⟩
          rw [← hstep.out]
          have e_ : tf key = [] := List.eq_nil_of_length_eq_zero HZ0.out
          rw [e_]
          exact HS3.out
      · go_wp2_with (first
          | (go_at_call 31; (with_reducible refine (chain_Trim.calls k1 _ _ (s.ch key) low (tf key) _ ?s1 ?s2 HT1.out).mono ?_); (case s1 => exact Kd.F_now HCF.out); (case s2 => exact HCL.out); rintro e w2 ⟨v, rfl, ho, hb⟩; obtain ⟨At, ct, ev⟩ := Kd.N_slice ho; subst ev; have HR := Aside0.mk (Kd.N_F ho); have HRl := Aside0.mk (Kd.N_reads' ho).2.1; have HB2 := Aside0.mk hb; have HS2 := Aside0.mk (HS.out.below hb); have HL2 := Aside0.mk (HL.out.step (fun k _ hlt_ => hb.block k hlt_)); have HT2 := Aside0.mk (HT.out.then_ (Turn.of_below hb (Nat.le_trans hbw.out hNr.out) (fun _ => False)) (fun _ hk_ => hk_.elim)); have k9 : w2.cell? ⟨p, 9, none⟩ = some (.map (some mb)) := pw_cell_below hb h9; clear ho hb h9 hrun hx')
          | ((with_reducible refine gate_builtin (b := .append) (xs := #[.tmp 52, .tmp 54]) rfl ?_); at_builtin; refine left_append (N0 := W.heap.size) (.slice (some ad) s.keys.length c) hkv.out rfl (.tmp 52) (.tmp 54) rfl u6 xs key rfl rfl ?aL (Nat.le_trans hNr.out HB2.out.size) (by omega) ?_; (case aL => exact HL2.out); intro v3 w3 hl3 hb3 hm3 hat3; have HL3 := Aside0.mk hl3; have hN2 := Aside0.mk (Nat.le_trans hNr.out HB2.out.size); have HS3 := Aside0.mk (HS2.out.left hkv.out hb3.size hm3 hat3 (hl3.lt hkv.out (Nat.le_trans hN2.out hb3.size)) (fun k hk_ => hbn.out k (Nat.le_trans hN2.out hk_)) hbb.out); have hvlt := Aside0.mk (HL.out.lt hkv.out hNr.out); have HT3 := Aside0.mk (HT2.out.then_ (S' := fun k => W.heap.size ≤ k) ⟨hb3.mono hbw.out, fun k hlt_ hn_ => hm3 k hlt_ (.inr (by omega))⟩ (fun _ hk_ => .inr hk_)); have HR3 := Aside0.mk (Kd.F_mono (Kd.F_step (Kd.F_bound HR.out) (fun k hk_ hlt_ => hm3 k hlt_ (.inl (fun e => by have := hvlt.out k e.symm; omega)))) (ok' := fun q => Bm B (.slice (some ad) s.keys.length c) v3 q ∧ q ≠ p ∧ q ≠ mb ∧ some q ≠ (Value.slice (some ad) s.keys.length c).ownBlock) (fun k hk_ => ⟨⟨hbn.out k (Nat.le_trans hNr.out hk_.1), .inl (fun e => (hat3 k e.symm).elim (fun q => by have := hvlt.out k q.1; omega) (fun q => by omega))⟩, fun e => by have := hpw.out; have := hNr.out; omega, fun e => by have := hmw.out; have := hNr.out; omega, fun e => by have := hkv.out k e.symm; have := hNr.out; omega⟩)); have k93 : w3.cell? ⟨p, 9, none⟩ = some (.map (some mb)) := (blk_cell HS3.out.cells 9).trans rfl; have hb33 := Aside0.mk hb3.size; clear hl3 hb3 hm3 hat3 k9)
          | (at_mapUpdate; refine wpList_mapUpdate_own _ rfl _ _ _ 89 rfl 9 22 law9 Try.underlying89 tok mb n' D' rfl HS3.out.map (by have := hn.out; have := hn1.out; omega) (.string key) (.slice At (tf key).length ct) (.string key.data.toList) rfl rfl (Go.WideMaps.keyOf_string_mk Try.underlying9 hkk.out) (.held (.slice At (tf key).length ct)) [] rfl ?_; intro w4 hown hgrow; have HS4 := Aside0.mk (show StoreAt w4 base (Bm B (.slice (some ad) s.keys.length c) v3) p (mid s (colCh (s.keys.take (i + 1)) tf s.ch) a b c') (.slice (some ad) s.keys.length c) mb (n' + 1) _ by rw [← hstep.out]; exact HS3.out.mapPut key HRl.out HR3.out hown hgrow); have HR4 := Aside0.mk (Kd.F_grown HR3.out hgrow (fun k hk_ e => hk_.2.2.1 (Option.some.inj e))); have HL4 := Aside0.mk (HL3.out.step (fun k hk_ hlt_ => hgrow.block k hlt_ (fun e => by injection e with e; have := hmw.out; omega))); have HT4 := Aside0.mk (HT3.out.then_ (Turn.grown hgrow (Nat.le_trans (Nat.le_trans hbw.out hN2.out) hb33.out) (S := fun k => k = p ∨ k = mb) (fun k e => by injection e with e; subst e; exact ⟨hbb.out _ h.out.bm, .inr rfl⟩)) (fun _ hk_ => .inl hk_)); have d10 : w4.cell? ⟨p, 10, none⟩ = some (.int .i64 a) := (blk_cell HS4.out.cells 10).trans rfl; have g10 := blk_frozen HS4.out.cells 10; clear hown hgrow k93 HS3 HR3 HL3 HT3)
          | ((with_reducible refine gate_store (t := 3) (p := 70) rfl ?_); refine store_event (t := 3) (p := 70) (v := ?vo10_) (w1 := w4.setCell ⟨p, 10, none⟩ (.int .i64 (wrap64 (a + 1)))) ?hg ?ho ?hn ?hr ?_; (case ho => rfl); (case hg => rfl); (case hn => rfl); (case hr => first | (go_simp; done) | (go_simp; rfl)); intro w5 hw; have HS5 := Aside0.mk (show StoreAt w5 base (Bm B (.slice (some ad) s.keys.length c) v3) p (mid s (colCh (s.keys.take (i + 1)) tf s.ch) (wrap64 (a + 1)) b c') (.slice (some ad) s.keys.length c) mb (n' + 1) _ by rw [hw]; exact HS4.out.put 10 _ (mid s (colCh (s.keys.take (i + 1)) tf s.ch) (wrap64 (a + 1)) b c') rfl rfl rfl); have HR5 := Aside0.mk (show Kd.F k28 w5 _ At (tf key).length (tf key) by rw [hw]; exact Kd.F_far (p := ⟨p, 10, none⟩) HR4.out (fun k hk_ => hk_.2.1) _); have HL5 := Aside0.mk (show LeftAt W.heap.size (.slice (some ad) s.keys.length c) v3 (xs ++ [key]) w5 by rw [hw]; exact HL4.out.step (fun k hk_ _ => Below.heap_setCell w4 ⟨p, 10, none⟩ _ k (fun e => by have := hpw.out; dsimp only at e; omega))); have HT5 := Aside0.mk (show Turn base (fun k => k = p ∨ k = mb) W w5 by rw [hw]; exact HT4.out.then_ (Turn.set (S := fun k => k = p ∨ k = mb) ⟨p, 10, none⟩ _ (hbb.out _ h.out.bp) (.inl rfl)) (fun _ hk_ => .inl hk_)); have d11 : w5.cell? ⟨p, 11, none⟩ = some (.int .i64 b) := (blk_cell HS5.out.cells 11).trans rfl; have g11 := blk_frozen HS5.out.cells 11; clear d10 g10 HS4 HR4 HL4 HT4; clear hw)
          | ((with_reducible refine gate_store (t := 3) (p := 81) rfl ?_); refine store_event (t := 3) (p := 81) (v := ?vo11_) (w1 := w5.setCell ⟨p, 11, none⟩ (.int .i64 (wrap64 (b + ((tf key).length : Int))))) ?hg ?ho ?hn ?hr ?_; (case ho => rfl); (case hg => rfl); (case hn => rfl); (case hr => first | (go_simp; done) | (go_simp; rfl)); intro w6 hw; have HS6 := Aside0.mk (show StoreAt w6 base (Bm B (.slice (some ad) s.keys.length c) v3) p (mid s (colCh (s.keys.take (i + 1)) tf s.ch) (wrap64 (a + 1)) (wrap64 (b + ((tf key).length : Int))) c') (.slice (some ad) s.keys.length c) mb (n' + 1) _ by rw [hw]; exact HS5.out.put 11 _ (mid s (colCh (s.keys.take (i + 1)) tf s.ch) (wrap64 (a + 1)) (wrap64 (b + ((tf key).length : Int))) c') rfl rfl rfl); have HR6 := Aside0.mk (show Kd.F k28 w6 _ At (tf key).length (tf key) by rw [hw]; exact Kd.F_far (p := ⟨p, 11, none⟩) HR5.out (fun k hk_ => hk_.2.1) _); have HL6 := Aside0.mk (show LeftAt W.heap.size (.slice (some ad) s.keys.length c) v3 (xs ++ [key]) w6 by rw [hw]; exact HL5.out.step (fun k hk_ _ => Below.heap_setCell w5 ⟨p, 11, none⟩ _ k (fun e => by have := hpw.out; dsimp only at e; omega))); have HT6 := Aside0.mk (show Turn base (fun k => k = p ∨ k = mb) W w6 by rw [hw]; exact HT5.out.then_ (Turn.set (S := fun k => k = p ∨ k = mb) ⟨p, 11, none⟩ _ (hbb.out _ h.out.bp) (.inl rfl)) (fun _ hk_ => .inl hk_)); have d12 : w6.cell? ⟨p, 12, none⟩ = some (.int .i64 c') := (blk_cell HS6.out.cells 12).trans rfl; have g12 := blk_frozen HS6.out.cells 12; clear d11 g11 HS5 HR5 HL5 HT5; clear hw))
        have hks : key.size ≤ 9223372036854775807 := hkk.out
        go_region_with (go_at_call 34; (with_reducible refine (chain_Size.calls k2 _ _ (tf key) (zf key) _ ?s1 ?s2 HZ1.out).mono ?_); (case s1 => exact Kd.F_now (Kd.F_drew HR6.out)); (case s2 => exact HRl.out); rintro e w7 ⟨rfl, hb7⟩; have HB7 := Aside0.mk (below_step (below_drew1 (Below.refl _ _)) hb7); clear hb7; have e12 := pw_cell_below HB7.out d12; have k12 := (blk_frozen (HS6.out.below HB7.out).cells 12))
        all_goals
          go_wp2
          have HS8 := Aside0.mk ((HS6.out.below HB7.out).put 12 (.int .i64 (wrap64 (c' + wrap64 ((key.size : Int) + zf key)))) (mid s (colCh (s.keys.take (i + 1)) tf s.ch) (wrap64 (a + 1)) (wrap64 (b + ((tf key).length : Int))) (wrap64 (c' + wrap64 ((key.size : Int) + zf key)))) rfl rfl rfl)
          go_roundw
          case measure => simp [intOf]; omega
          case rel =>
            refine ⟨i + 1, xs ++ [key], _, _, _, n' + 1, _, by go_num, by omega, by simp; omega, ⟨by have := hn1.out; omega⟩, ⟨by have h_ := HU'.out; simp only [colK, List.filter_cons] at h_; rw [if_pos (by simpa using hzero)] at h_; simpa [colK] using h_⟩, ⟨by have h_ := HV'.out; simp only [colN] at h_; rw [if_neg hzero] at h_; exact h_⟩, ⟨(HL6.out.step (fun k _ hlt_ => HB7.out.block k hlt_)).step (fun k hk_ _ => Below.heap_setCell _ ⟨p, 12, none⟩ _ k (fun e => by have := hpw.out; dsimp only at e; omega))⟩, HS8, ⟨(HT6.out.then_ (Turn.of_below HB7.out (Nat.le_trans hbw.out HT6.out.below.size) (fun _ => False)) (fun _ hk_ => hk_.elim)).then_ (Turn.set (S := fun k => k = p ∨ k = mb) ⟨p, 12, none⟩ _ (hbb.out _ h.out.bp) (.inl rfl)) (fun _ hk_ => .inl hk_)⟩⟩
    · have hd : s.keys.drop i = [] := List.drop_eq_nil_of_le (by omega)
      have h1_ := HU.out
      have h2_ := HV.out
      rw [hd] at h1_ h2_
      simp only [colK, colN, List.filter_nil, List.append_nil] at h1_ h2_
      have hie : i = s.keys.length := by omega
      have hS := HS.out
      rw [hie, List.take_length] at hS
      have HS' := Aside0.mk hS
      have H1 := Aside0.mk h1_
      have H2 := Aside0.mk h2_
      clear hd h1_ h2_ HU HV hS HS
      have k8 : wr.cell? ⟨p, 8, none⟩ = some (.slice A s.keys.length c) := (blk_cell HS'.out.cells 8).trans rfl
      have f8 := blk_frozen HS'.out.cells 8
      obtain ⟨Al, cl, eul⟩ := HL.out.slice
      subst eul
      have HX := Aside0.mk HS'.out.bn
      go_wp2_with ((with_reducible refine gate_store (t := 75) (p := 100) rfl ?_); refine store_event (t := 75) (p := 100) (v := ?vo9_) (w1 := wr.setCell ⟨p, 8, none⟩ (.slice Al xs.length cl)) ?hg ?ho ?hn ?hr ?_; (case ho => rfl); (case hg => rfl); (case hn => rfl); (case hr => first | (go_simp; done) | (go_simp; rfl)); intro w9 hw; have HS9 := Aside0.mk (show StoreAt w9 base B p { mid s (colCh s.keys tf s.ch) a b c' with keys := xs } (.slice Al xs.length cl) mb n' D' by rw [hw]; exact HS'.out.putKeys (fun k hk_ => hk_.1) (fun k hk_ hne_ => hk_.2.elim id (fun e => absurd e hne_)) (LeftAt.keys HL.out hkv.out hNr.out h.out) (fun k hk_ => (HX.out k hk_).1) hbb.out); have HT9 := Aside0.mk (show Turn base (fun k => k = p ∨ k = mb) W w9 by rw [hw]; exact HT.out.then_ (Turn.set (S := fun k => k = p ∨ k = mb) ⟨p, 8, none⟩ _ (hbb.out _ h.out.bp) (.inl rfl)) (fun _ hk_ => .inl hk_)); have k11 : w9.cell? ⟨p, 11, none⟩ = some (.int .i64 b) := (blk_cell HS9.out.cells 11).trans rfl; clear hw k8 f8)
      go_ret
      have e1 := H1.out
      have e2 := H2.out
      refine ⟨by rw [← e2]; rfl, (.slice Al xs.length cl), n', D', ?_, by have := hn1.out; omega, HT9.out, fun k hk_ => ?_⟩
      · have e3 : colS s tf zf = { mid s (colCh s.keys tf s.ch) a b c' with keys := xs } := by unfold colS colK; rw [← e2, ← e1]
        rw [e3]; exact HS9.out
      · rcases HL.out with hR | ⟨_, A2, e4, e5⟩
        · exact .inr (hR.1 k hk_)
        · exact .inl (by rw [← e5]; exact hk_)
theorem store_lims {W : World} {base p : Nat} {B : Nat → Prop} {s : SS} {kv : Value} {mb n : Nat} {D : DataW Value} (h : StoreAt W base B p s kv mb n D) :
    W.cell? ⟨p, 0, none⟩ = some (.int .i64 s.l0) ∧ W.cell? ⟨p, 1, none⟩ = some (.int .i64 s.l1) ∧ W.cell? ⟨p, 2, none⟩ = some (.int .i64 s.l2) :=
  ⟨(blk_cell h.cells 0).trans rfl, (blk_cell h.cells 1).trans rfl, (blk_cell h.cells 2).trans rfl⟩
set_option maxHeartbeats 4000000 in
theorem store_fits.calls {W : World} {base p : Nat} {B : Nat → Prop} {s : SS} {kv : Value} {mb n : Nat} {D : DataW Value} (h : Aside0 (StoreAt W base B p s kv mb n D)) (x0 x1 x2 : Int) :
    Calls Try.prog 83 #[.pointer (some ⟨p, 0, none⟩), .agg #[.int .i64 x0, .int .i64 x1, .int .i64 x2]] W fun e w' => e = .returned (.bool (decide (x0 ≤ s.l0) && decide (x1 ≤ s.l1) && decide (x2 ≤ s.l2))) ∧ Below W.heap.size W w' := by
  go_enter Try.func83, Try.ntmps83
  go_wp2_with (first
    | ((with_reducible refine gate_dst (N := 3) rfl ?_); refine box_event ?hg (N := 3) ?hd (cs := #[.int .i64 x0, .int .i64 x1, .int .i64 x2]) (t := 72) ?hr ?_; (case hd => rfl); (case hg => rfl); (case hr => first | (go_simp; done) | (go_simp; rfl)); intro g hg w1 hbox hb; obtain ⟨h0, h1, h2⟩ := store_lims (h.out.below hb); have HB := Aside0.mk hb; have c0 := (blk_cell hbox 0).trans (show _ = some (Value.int .i64 x0) from rfl); have c1 := (blk_cell hbox 1).trans (show _ = some (Value.int .i64 x1) from rfl); have c2 := (blk_cell hbox 2).trans (show _ = some (Value.int .i64 x2) from rfl); clear hbox hb hg))
  cases d0 : decide (x0 ≤ s.l0) <;> cases d1 : decide (x1 ≤ s.l1) <;> cases d2 : decide (x2 ≤ s.l2)
  all_goals
    go_quiet (fail)
    go_wp2
    go_ret
    exact ⟨by rw [d0, d1, d2]; rfl, pw_below_drewN HB.out _⟩
end Go.Proofs.Yteofdgonpbmdlaa.C
namespace Go.Proofs.Yteofdgonpbmdlaa.C
open Go.Shelf
def lays2_22_ren : Go.Shelf.Ren := ⟨fun | 22 => 84 | 29 => 92 | 30 => 93 | 36 => 94 | 17 => 95 | n => n, fun | 24 => 75 | 9 => 9 | 3 => 3 | 4 => 4 | 0 => 0 | n => n, fun | n => n⟩
theorem lays2_22 : Go.Proofs.Lays2.n22 Try.prog lays2_22_ren := {
  mixed := by kernel_rfl
  f17 := Try.func95.trans (congrArg some (by kernel_rfl))
  f22 := Try.func84.trans (congrArg some (by kernel_rfl))
  f29 := Try.func92.trans (congrArg some (by kernel_rfl))
  f30 := Try.func93.trans (congrArg some (by kernel_rfl))
  f36 := Try.func94.trans (congrArg some (by kernel_rfl))
  t0 := Try.underlying0
  a0 := Try.isAgg0
  z0 := Try.sizeOf0
  v0 := Try.zeroValue0
  t3 := Try.underlying3
  a3 := Try.isAgg3
  z3 := Try.sizeOf3
  v3 := Try.zeroValue3
  t4 := Try.underlying4
  a4 := Try.isAgg4
  z4 := Try.sizeOf4
  v4 := Try.zeroValue4
  t9 := Try.underlying9
  a9 := Try.isAgg9
  z9 := Try.sizeOf9
  v9 := Try.zeroValue9
  t24 := Try.underlying75
  a24 := Try.isAgg75
  z24 := Try.sizeOf75
  v24 := Try.zeroValue75
  i9 := by kernel_rfl }
end Go.Proofs.Yteofdgonpbmdlaa.C
