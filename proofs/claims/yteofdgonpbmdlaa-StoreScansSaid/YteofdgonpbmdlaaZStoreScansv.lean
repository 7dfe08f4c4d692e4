/- Texts of this session, merged for the law StoreScans: C30, TU, TV, PE, UB, UE, UF. No condition. -/
import Derived.Test.YteofdgonpbmdlaaZStoreScanso
import Derived.Test.YteofdgonpbmdlaaZStoreScansu
import Derived.Laws.IdiomStrings
import Derived.Test.YteofdgonpbmdlaaZStoreScanst
import Derived.Test.YteofdgonpbmdlaaZStoreScansp
set_option linter.unusedVariables false
set_option linter.unusedSimpArgs false
namespace Go.Proofs.Yteofdgonpbmdlaa.C
open Go.RowKit Go.Proofs.YteofdgonpbmdlaaW.PrintWords Go.Proofs.YteofdgonpbmdlaaW.PrintLast Go.Proofs.YteofdgonpbmdlaaW.PrintMore
attribute [local go_sem] max2_int min2_int max2_str min2_str str_leq str_gtr str_geq max_two min_two max_three min_three max_four min_four   -- for this text's walks alone
set_option linter.unusedVariables false
set_option linter.unusedSimpArgs false
def conductorlaw08_Big.f  : Option (Int × Int × Int × Int × Int × Int × Int) := some (1000, 10000, 1048576, 1000, 1000, 16, 1099511627776)
set_option maxHeartbeats 8000000 in
set_option maxRecDepth 100000 in
theorem conductorlaw08_Big.calls  (r1 : Int) (r2 : Int) (r3 : Int) (r4 : Int) (r5 : Int) (r6 : Int) (r7 : Int) (w : World) (h : conductorlaw08_Big.f  = some (r1, r2, r3, r4, r5, r6, r7)) :
  Calls Try.prog 40 #[] w fun e w' => e = .returned (.agg #[.int .i64 r1, .int .i64 r2, .int .i64 r3, .int .i64 r4, .int .i64 r5, .int .i64 r6, .int .u64 r7]) ∧ Below w.heap.size w w' := by
 have hu51 := Try.underlying51
 have HB := Aside0.mk (Below.refl w.heap.size w)
 have H : (some (1000, 10000, 1048576, 1000, 1000, 16, 1099511627776)) = some (r1, r2, r3, r4, r5, r6, r7) := h
 clear h
 simp only [Option.some.injEq, Prod.mk.injEq] at H
 obtain ⟨rfl, rfl, rfl, rfl, rfl, rfl, rfl⟩ := H
 go_enter Try.func40, Try.ntmps40
 go_wp2_with (first | ((with_reducible refine gate_dst (N := 0) rfl ?_); refine box_event ?hg (N := 0) ?hd (cs := #[.int .i64 0, .int .i64 0, .int .i64 0, .int .i64 0, .int .i64 0, .int .i64 0, .int .u64 0]) (t := 51) ?hr ?_; (case hd => rfl); (case hg => rfl); (case hr => first | (go_simp; done) | (go_simp; rfl)); intro gb390 hg w1 hbox hb; have n0_ := Aside0.mk (below_step (by repeat (first | (with_reducible first | exact HB.out | apply below_alloc | apply pw_below_drewN | apply below_drew1) | exact HB.out)) hb); have n1_ := Aside0.mk (hbox); have n2_ := Aside0.mk ((by rw [hg]; exact (below_size (by repeat (first | (with_reducible first | exact HB.out | apply below_alloc | apply pw_below_drewN | apply below_drew1) | exact HB.out))) : w.heap.size ≤ gb390)); have n3_ := Aside0.mk ((by rw [hg]; exact (below_size (by repeat (first | (with_reducible first | exact HB.out | apply below_alloc | apply pw_below_drewN | apply below_drew1) | exact HB.out))) : w.heap.size ≤ gb390)); clear HB; have HB := n0_; have BK390 := n1_; have GW390 := n2_; have GE390 := n3_; clear n0_ n1_ n2_ n3_; clear hb hbox hg; have hcz2_0 : w1.cell? ⟨gb390, 0, none⟩ = some (.int .i64 0) := (blk_cell BK390.out 0).trans rfl; have hcz2_1 : w1.cell? ⟨gb390, 1, none⟩ = some (.int .i64 0) := (blk_cell BK390.out 1).trans rfl; have hcz2_2 : w1.cell? ⟨gb390, 2, none⟩ = some (.int .i64 0) := (blk_cell BK390.out 2).trans rfl; have hcz2_3 : w1.cell? ⟨gb390, 3, none⟩ = some (.int .i64 0) := (blk_cell BK390.out 3).trans rfl; have hcz2_4 : w1.cell? ⟨gb390, 4, none⟩ = some (.int .i64 0) := (blk_cell BK390.out 4).trans rfl; have hcz2_5 : w1.cell? ⟨gb390, 5, none⟩ = some (.int .i64 0) := (blk_cell BK390.out 5).trans rfl; have hcz2_6 : w1.cell? ⟨gb390, 6, none⟩ = some (.int .u64 0) := (blk_cell BK390.out 6).trans rfl; have hfz2_0 := blk_frozen BK390.out 0; have hfz2_1 := blk_frozen BK390.out 1; have hfz2_2 := blk_frozen BK390.out 2; have hfz2_3 := blk_frozen BK390.out 3; have hfz2_4 := blk_frozen BK390.out 4; have hfz2_5 := blk_frozen BK390.out 5; have hfz2_6 := blk_frozen BK390.out 6))
 refine bodyPost_ret (results_cell_row rfl _ _ gb390 51 #[.int .i64 1000, .int .i64 10000, .int .i64 1048576, .int .i64 1000, .int .i64 1000, .int .i64 16, .int .u64 1099511627776] (0, 0) _ rfl (by (with_reducible repeat (first | refine blk_drewN ?_ _ | refine blk_drew ?_ | refine blk_alloc ?_ _)); refine blk_put (cs := #[.int .i64 1000, .int .i64 10000, .int .i64 1048576, .int .i64 1000, .int .i64 1000, .int .i64 16, .int .u64 0]) ?_ 6 _ rfl; (with_reducible repeat (first | refine blk_drewN ?_ _ | refine blk_drew ?_ | refine blk_alloc ?_ _)); refine blk_put (cs := #[.int .i64 1000, .int .i64 10000, .int .i64 1048576, .int .i64 1000, .int .i64 1000, .int .i64 0, .int .u64 0]) ?_ 5 _ rfl; (with_reducible repeat (first | refine blk_drewN ?_ _ | refine blk_drew ?_ | refine blk_alloc ?_ _)); refine blk_put (cs := #[.int .i64 1000, .int .i64 10000, .int .i64 1048576, .int .i64 1000, .int .i64 0, .int .i64 0, .int .u64 0]) ?_ 4 _ rfl; (with_reducible repeat (first | refine blk_drewN ?_ _ | refine blk_drew ?_ | refine blk_alloc ?_ _)); refine blk_put (cs := #[.int .i64 1000, .int .i64 10000, .int .i64 1048576, .int .i64 0, .int .i64 0, .int .i64 0, .int .u64 0]) ?_ 3 _ rfl; (with_reducible repeat (first | refine blk_drewN ?_ _ | refine blk_drew ?_ | refine blk_alloc ?_ _)); refine blk_put (cs := #[.int .i64 1000, .int .i64 10000, .int .i64 0, .int .i64 0, .int .i64 0, .int .i64 0, .int .u64 0]) ?_ 2 _ rfl; (with_reducible repeat (first | refine blk_drewN ?_ _ | refine blk_drew ?_ | refine blk_alloc ?_ _)); refine blk_put (cs := #[.int .i64 1000, .int .i64 0, .int .i64 0, .int .i64 0, .int .i64 0, .int .i64 0, .int .u64 0]) ?_ 1 _ rfl; (with_reducible repeat (first | refine blk_drewN ?_ _ | refine blk_drew ?_ | refine blk_alloc ?_ _)); refine blk_put (cs := #[.int .i64 0, .int .i64 0, .int .i64 0, .int .i64 0, .int .i64 0, .int .i64 0, .int .u64 0]) ?_ 0 _ rfl; (with_reducible repeat (first | refine blk_drewN ?_ _ | refine blk_drew ?_ | refine blk_alloc ?_ _)); exact BK390.out) Try.underlying51 rfl (by kernel_rfl)) rfl ?_
 exact ⟨by first | rfl | (simp [errW_none, errW_some] <;> rfl) | (simp [*, errW_none, errW_some] <;> rfl), by repeat (first | (with_reducible first | exact HB.out | apply below_alloc | apply pw_below_drewN | apply below_drew1 | refine below_set ?_ GE390.out) | exact HB.out)⟩
-- NOT PRINTED: function 70 (store_Store_is)
-- NOT PRINTED: function 72 (store_Store_chain)
-- NOT PRINTED: function 43 (store_Store_Read)
-- NOT PRINTED: function 49 (store_Store_Collect)
-- NOT PRINTED: function 74 (slices_Clone_string_string)
-- NOT PRINTED: function 50 (store_Store_Keys)
-- NOT PRINTED: function 52 (store_New)
end Go.Proofs.Yteofdgonpbmdlaa.C
namespace Go.Proofs.Yteofdgonpbmdlaa.St
open Go.RowKit Go.Maps Go.Proofs.YteofdgonpbmdlaaW.PrintWords Go.Proofs.YteofdgonpbmdlaaW.PrintLast Go.Proofs.YteofdgonpbmdlaaW.PrintMore Go.Proofs.Yteofdgonpbmdlaa.C Go.Proofs.Yteofdgonpbmdlaa.Pure
attribute [local go_sem] max2_int min2_int max2_str min2_str str_leq str_gtr str_geq max_two min_two max_three min_three max_four min_four
theorem good_new (l0 l1 l2 l3 l4 l5 last : Int) (h1 : 0 ≤ last) (h2 : last ≤ 18446744073709551615) : Good 0 (noStore l0 l1 l2 l3 l4 l5 last) where
  rg := fun _ => rfl
  ln := fun _ => Nat.le_refl _
  dl := fun _ v hv => by cases hv
  tm := fun _ v hv => by cases hv
  so := List.Pairwise.nil
  me := fun key => by simp [noStore]
  ks := fun key hk => by cases hk
  kn := Nat.le_refl _
  n0 := Int.le_refl _
  n1 := h1
  la := h2
section
variable {W : World} {base p : Nat} {B : Nat → Prop} {s : SS} {kv : Value} {mb n : Nat} {D : DataW Value}
theorem commit_P (h : Aside0 (StoreAt W base B p s kv mb n D)) {m : Nat} (g : Aside0 (Good m s)) (hm : Aside0 (m ≤ 800)) (l : List S102) (hl : Aside0 (l.length ≤ 20)) (hk : Aside0 (∀ x ∈ l, x.f0.size ≤ maxLen)) (low : Int) (okA : Nat → Prop) (hokA : Aside0 (∀ k, okA k → k < W.heap.size ∧ ¬ Own p mb kv k)) (A : Option Addr) (c0 : Nat) (hF : Aside0 (Kd.F k102 W okA A l.length l)) (hlc : Aside0 (l.length ≤ c0)) (hn : Aside0 (n + 20000 < maxLen)) :
    Calls Try.prog 61 #[.pointer (some ⟨p, 0, none⟩), .slice A l.length c0, .int .u64 low] W (ComPost W base B p kv mb n (comP s l low) 20000) := by
  refine (commit_calls h okA hokA A c0 l hF hlc low _ _ _ _ ⟨g.out.ask hm.out hl.out hk.out low⟩ ⟨by have := g.out.kn; have := hm.out; have := hl.out; have := hn.out; omega⟩).mono ?_
  rintro e w' ⟨h1, kv', n', D', h2, h3, h4⟩
  exact ⟨h1, kv', n', D', h2, by have := g.out.kn; have := hm.out; have := hl.out; omega, h4⟩
theorem collect_P (h : Aside0 (StoreAt W base B p s kv mb n D)) {m : Nat} (g : Aside0 (Good m s)) (hm : Aside0 (m ≤ 800)) (low : Int) (hn : Aside0 (n + 20000 < maxLen)) :
    Calls Try.prog 49 #[.pointer (some ⟨p, 0, none⟩), .int .u64 low] W fun e w' => e = .returned (.int .i64 (wentP s low)) ∧ ∃ kv' n' D', StoreAt w' base B p (colP s low) kv' mb n' D' ∧ n' ≤ n + 20000 ∧ Turn base (Own p mb kv) W w' ∧ (∀ k, kv'.ownBlock = some k → kv.ownBlock = some k ∨ W.heap.size ≤ k) := by
  have hkn := g.out.kn
  have hm' := hm.out
  have hn' := hn.out
  refine (store_Collect.calls h low (tfP s low) (zfP s low) ⟨by omega⟩ ⟨fun key hk => size256 (g.out.ks key hk)⟩ ⟨g.out.so.nodup⟩ ⟨fun key _ => g.out.trim hm.out key low⟩ ⟨fun key _ => g.out.size hm.out key low⟩ ⟨by omega⟩).mono ?_
  rintro e w' ⟨rfl, kv', n', D', h1, h2, h3, h4⟩
  exact ⟨rfl, kv', n', D', h1, by omega, h3.mono (fun k hk => hk.elim .inl (fun e => .inr (.inl e))), h4⟩
theorem read_P (h : Aside0 (StoreAt W base B p s kv mb n D)) {m : Nat} (g : Aside0 (Good m s)) (hm : Aside0 (m ≤ 800)) (key : ByteArray) (hk : Aside0 (key.size ≤ maxLen)) (a : Int) :
    Calls Try.prog 43 #[.pointer (some ⟨p, 0, none⟩), .string key, .int .u64 a] W fun e w' => (∃ A c, e = .returned (.tuple #[.slice A (getF (s.ch key) a).1.length c, .bool (getF (s.ch key) a).2]) ∧ (getF (s.ch key) a).1.length ≤ c ∧ Kd.F (Kd.int .u8) w' (fun k => W.heap.size ≤ k) A (getF (s.ch key) a).1.length (getF (s.ch key) a).1) ∧ Below W.heap.size W w' := by
  refine (store_Read.calls h key hk a _ _ ⟨g.out.get hm.out key a⟩).mono ?_
  rintro e w' ⟨v, rfl, ho, hb⟩
  obtain ⟨A, c, rfl⟩ := Kd.R_slice ho
  exact ⟨⟨A, c, rfl, (Kd.R_reads' ho).2.1, Kd.R_F (Kd.R_mono (Kd.R_bound ho) (fun k hk_ => hk_.2.1))⟩, hb⟩
theorem scan_P (h : Aside0 (StoreAt W base B p s kv mb n D)) {m : Nat} (g : Aside0 (Good m s)) (hm : Aside0 (m ≤ 800)) (lo hi : ByteArray) (a : Int) :
    Calls Try.prog 42 #[.pointer (some ⟨p, 0, none⟩), .string lo, .string hi, .int .u64 a] W fun e w' => (∃ A c, e = .returned (.slice A (scanP s lo hi a).length c) ∧ (scanP s lo hi a).length ≤ c ∧ Kd.F k62 w' (fun k => W.heap.size ≤ k) A (scanP s lo hi a).length (scanP s lo hi a)) ∧ Below W.heap.size W w' := by
  have hkn := g.out.kn
  have hm' := hm.out
  refine (store_Scan.calls h ⟨by omega⟩ ⟨fun key hk => size256 (g.out.ks key hk)⟩ lo hi a (fun k => getF (s.ch k) a) ⟨fun key _ => g.out.get hm.out key a⟩).mono ?_
  rintro e w' ⟨v, rfl, ho, hb⟩
  obtain ⟨A, c, rfl⟩ := Kd.N_slice ho
  exact ⟨⟨A, c, rfl, (Kd.N_reads' ho).2.1, Kd.N_F ho⟩, hb⟩
end
def sBig : SS := noStore 1000 10000 1048576 1000 1000 16 1099511627776
def kA : ByteArray := ⟨#[97]⟩
def wA : List S102 := [⟨kA, false, [120]⟩]
def wB : List S102 := [⟨kA, true, []⟩]
def sA : SS := (comP sBig wA 0).2.2
def sB : SS := (comP sA wB 0).2.2
theorem big_good : Good 0 sBig := good_new _ _ _ _ _ _ _ (by decide) (by decide)
theorem exA : (comP sBig wA 0).1 = 1 ∧ (comP sBig wA 0).2.1 = 0 := by decide +kernel
theorem exB : (comP sA wB 0).1 = 2 ∧ (comP sA wB 0).2.1 = 0 := by decide +kernel
theorem exR1 : getF (sB.ch kA) 1 = ([120], true) := by decide +kernel
theorem exR2 : getF (sB.ch kA) 2 = ([], false) := by decide +kernel
theorem exC : wentP sB 2 = 2 := by decide +kernel
theorem exK : (colP sB 2).keys = [] := by decide +kernel
theorem sA_good : Good 1 sA := big_good.com (by decide) 0
theorem sB_good : Good 2 sB := sA_good.com (by decide) 0
theorem big_f : conductorlaw08_Big.f = some (1000, 10000, 1048576, 1000, 1000, 16, 1099511627776) := by kernel_rfl
theorem conv_x (w : World) : ∃ g cap w1, (convert 9 26 (.string ⟨#[120]⟩)).run Try.prog w = .ok (.slice (some ⟨g, 0, none⟩) 1 cap) w1 ∧ 1 ≤ cap ∧ w.heap.size ≤ g ∧ Below w.heap.size w w1 ∧ Kd.F (Kd.int .u8) w1 (fun k => k = g) (some ⟨g, 0, none⟩) 1 [120] := by
  have hr := run_bytes_of_string (P := Try.prog) w 9 26 5 ⟨#[120]⟩ Try.underlying9 Try.underlying26 Try.underlying5
  refine ⟨_, _, _, hr, grownCap_ge w 1 0 5, Nat.le_refl _, ((Below.refl _ w).drew).alloc (Nat.le_refl _) _, fun W' hW => ⟨rfl, by decide, fun _ => ⟨_, rfl, fun j q hj => ?_⟩⟩⟩
  have hb := hW w.heap.size rfl (by simp)
  have hn := heap_alloc_new w.drew (.cells (bytesRow ⟨#[120]⟩ (grownCap w 1 0 5)) 5 ((bytesRow ⟨#[120]⟩ (grownCap w 1 0 5)).size, (bytesRow ⟨#[120]⟩ (grownCap w 1 0 5)).size + 1))
  cases j with
  | succ j => simp at hj
  | zero =>
    simp only [List.getElem?_cons_zero, Option.some.injEq] at hj
    subst hj
    refine ⟨[.int .u8 120], rfl, rfl, fun i u hi => ?_⟩
    cases i with
    | succ i => simp at hi
    | zero =>
      simp only [List.getElem?_cons_zero, Option.some.injEq] at hi
      subst hi
      have := cell_of_row W' w.heap.size 0 _ _ _ (hb.trans hn)
      simp only [Nat.zero_mul, Nat.add_zero]
      rw [show (Addr.add ⟨w.heap.size, 0, none⟩ 0) = ⟨w.heap.size, 0, none⟩ from by simp [Addr.add]]
      rw [this]
      simp only [bytesRow]
      rw [Array.getElem?_append_left (by simp)]
      simp
set_option maxRecDepth 100000 in
set_option maxHeartbeats 4000000 in
theorem put_ax (w : World) : Calls Try.prog 68 #[.string ⟨#[97]⟩, .string ⟨#[120]⟩] w fun e w' => (∃ A c, e = .returned (.slice A wA.length c) ∧ wA.length ≤ c ∧ Kd.F k102 w' (fun k => w.heap.size ≤ k) A wA.length wA) ∧ Below w.heap.size w w' := by
  obtain ⟨g, cap, w1, hrun, hc, hg, hb, hF⟩ := conv_x w
  have HB := Aside0.mk hb
  have HF := Aside0.mk hF
  have HG := Aside0.mk hg
  have HC := Aside0.mk hc
  clear hb hF hg hc
  go_enter Try.func68, Try.ntmps68
  go_wp2_with ((with_reducible refine gate_dst (N := 9) rfl ?_); refine Kd.N_lit k102 (w0 := w) w.heap.size 102 ?hg (N' := 9) ?hd (xs := wA) (inner := [.string ⟨#[97]⟩, .bool false, .slice (some ⟨g, 0, none⟩) 1 cap]) (ok := fun k => w.heap.size ≤ k) (okp := fun k => w.heap.size ≤ k) ?hr ?hp (fun _ hk => hk) HB.out.size HB.out HB.out.size (by decide) ?_; (case hd => rfl); (case hg => rfl); (case hr => first | (go_simp; done) | (go_simp; rfl)); (case hp => exact (Reps.c3 (show Kd.FK k102 _ _ (⟨kA, false, [120]⟩ : S102) [.string ⟨#[97]⟩, .bool false, .slice (some ⟨g, 0, none⟩) 1 cap] from k102_mkF _ _ (⟨kA, false, [120]⟩ : S102) HC.out (Kd.F_mono HF.out (fun k hk => by rw [hk]; exact HG.out))) (Reps.none _ _))); intro v2 w2 ho hb2 hg2 hat2; obtain ⟨A, c, ev⟩ := Kd.N_slice ho; subst ev; have HO := Aside0.mk (Kd.N_F ho); have HL := Aside0.mk (Kd.N_reads' ho).2.1; have HB2 := Aside0.mk hb2; clear ho hb2 hg2 hat2)
  go_ret
  exact ⟨⟨A, c, rfl, HL.out, HO.out⟩, HB2.out⟩
theorem _root_.Go.Proofs.Yteofdgonpbmdlaa.C.StoreAt.lowerB {W : World} {base base' p : Nat} {s : SS} {kv : Value} {mb n : Nat} {D : DataW Value} (h : StoreAt W base (fun k => base ≤ k) p s kv mb n D) (hb : base' ≤ base) (_ : base' ≤ base') : StoreAt W base' (fun k => base' ≤ k) p s kv mb n D where
  cells := h.cells
  keys := h.keys.imp (fun q => Kd.R_lower (Kd.R_mono q (fun k hk => ⟨Nat.le_trans hb hk.1, hk.2⟩)) hb) (fun ⟨e, a, h1, h2, h3⟩ => ⟨e, a, h1, ⟨Nat.le_trans hb h2.1, h2.2⟩, h3⟩)
  map := h.map
  bb := fun _ hk => hk
  bn := fun k hk => Nat.le_trans hb (h.bn k hk)
  bp := Nat.le_trans hb h.bp
  bm := Nat.le_trans hb h.bm
  pm := h.pm
  chains := fun key hk => by
    obtain ⟨A, c, h1, h2, h3⟩ := h.chains key hk
    exact ⟨A, c, h1, h2, Kd.F_mono h3 (fun k hk => ⟨Nat.le_trans hb hk.1, hk.2⟩)⟩
theorem new_big (w : World) : Calls Try.prog 52 #[.agg #[.int .i64 1000, .int .i64 10000, .int .i64 1048576, .int .i64 1000, .int .i64 1000, .int .i64 16, .int .u64 1099511627776]] w fun e w' => (∃ p mb : Nat, e = .returned (.tuple #[.pointer (some ⟨p, 0, none⟩), .int .i64 0]) ∧ StoreAt w' w.heap.size (fun k => w.heap.size ≤ k) p sBig noCh mb 0 (.map [])) ∧ Below w.heap.size w w' :=
  store_New.good 1000 10000 1048576 1000 1000 16 1099511627776 w ⟨by decide, by decide⟩ ⟨by decide, by decide⟩ ⟨by decide, by decide⟩ (by decide)
theorem commit_ax {W : World} {base p : Nat} {B : Nat → Prop} {kv : Value} {mb n : Nat} {D : DataW Value} (h : Aside0 (StoreAt W base B p sBig kv mb n D)) (okA : Nat → Prop) (hokA : Aside0 (∀ k, okA k → k < W.heap.size ∧ ¬ Own p mb kv k)) (A : Option Addr) (c0 : Nat) (hF : Aside0 (Kd.F k102 W okA A wA.length wA)) (hlc : Aside0 (wA.length ≤ c0)) (hn : Aside0 (n ≤ 100)) :
    Calls Try.prog 61 #[.pointer (some ⟨p, 0, none⟩), .slice A wA.length c0, .int .u64 0] W fun e w' => e = .returned (.tuple #[.int .u64 1, .int .i64 0]) ∧ ∃ kv' n' D', StoreAt w' base B p sA kv' mb n' D' ∧ n' ≤ n + 20000 ∧ Turn base (Own p mb kv) W w' ∧ (∀ k, kv'.ownBlock = some k → kv.ownBlock = some k ∨ W.heap.size ≤ k) := by
  refine (commit_P h ⟨big_good⟩ ⟨by decide⟩ wA ⟨by decide⟩ ⟨fun x hx => by rw [List.mem_singleton.1 hx]; decide⟩ 0 okA hokA A c0 hF hlc ⟨by have := hn.out; simp only [maxLen]; omega⟩).mono ?_
  rintro e w' ⟨rfl, rest⟩
  exact ⟨by rw [exA.1, exA.2], rest⟩
theorem commit_bx {W : World} {base p : Nat} {B : Nat → Prop} {kv : Value} {mb n : Nat} {D : DataW Value} (h : Aside0 (StoreAt W base B p sA kv mb n D)) (okA : Nat → Prop) (hokA : Aside0 (∀ k, okA k → k < W.heap.size ∧ ¬ Own p mb kv k)) (A : Option Addr) (c0 : Nat) (hF : Aside0 (Kd.F k102 W okA A wB.length wB)) (hlc : Aside0 (wB.length ≤ c0)) (hn : Aside0 (n ≤ 100000)) :
    Calls Try.prog 61 #[.pointer (some ⟨p, 0, none⟩), .slice A wB.length c0, .int .u64 0] W fun e w' => e = .returned (.tuple #[.int .u64 2, .int .i64 0]) ∧ ∃ kv' n' D', StoreAt w' base B p sB kv' mb n' D' ∧ n' ≤ n + 20000 ∧ Turn base (Own p mb kv) W w' ∧ (∀ k, kv'.ownBlock = some k → kv.ownBlock = some k ∨ W.heap.size ≤ k) := by
  refine (commit_P h ⟨sA_good⟩ ⟨by decide⟩ wB ⟨by decide⟩ ⟨fun x hx => by rw [List.mem_singleton.1 hx]; decide⟩ 0 okA hokA A c0 hF hlc ⟨by have := hn.out; simp only [maxLen]; omega⟩).mono ?_
  rintro e w' ⟨rfl, rest⟩
  exact ⟨by rw [exB.1, exB.2], rest⟩
theorem read_1 {W : World} {base p : Nat} {B : Nat → Prop} {kv : Value} {mb n : Nat} {D : DataW Value} (h : Aside0 (StoreAt W base B p sB kv mb n D)) :
    Calls Try.prog 43 #[.pointer (some ⟨p, 0, none⟩), .string ⟨#[97]⟩, .int .u64 1] W fun e w' => (∃ A c, e = .returned (.tuple #[.slice A 1 c, .bool true]) ∧ 1 ≤ c ∧ Kd.F (Kd.int .u8) w' (fun k => W.heap.size ≤ k) A 1 [120]) ∧ Below W.heap.size W w' := by
  refine (read_P h ⟨sB_good⟩ ⟨by decide⟩ kA ⟨by decide⟩ 1).mono ?_
  rintro e w' ⟨⟨A, c, rfl, h1, h2⟩, hb⟩
  rw [exR1] at h1 h2 ⊢
  exact ⟨⟨A, c, rfl, h1, h2⟩, hb⟩
theorem read_2 {W : World} {base p : Nat} {B : Nat → Prop} {kv : Value} {mb n : Nat} {D : DataW Value} (h : Aside0 (StoreAt W base B p sB kv mb n D)) :
    Calls Try.prog 43 #[.pointer (some ⟨p, 0, none⟩), .string ⟨#[97]⟩, .int .u64 2] W fun e w' => (∃ A c, e = .returned (.tuple #[.slice A 0 c, .bool false])) ∧ Below W.heap.size W w' := by
  refine (read_P h ⟨sB_good⟩ ⟨by decide⟩ kA ⟨by decide⟩ 2).mono ?_
  rintro e w' ⟨⟨A, c, rfl, h1, h2⟩, hb⟩
  rw [exR2]
  exact ⟨⟨A, c, rfl⟩, hb⟩
theorem collect_x {W : World} {base p : Nat} {B : Nat → Prop} {kv : Value} {mb n : Nat} {D : DataW Value} (h : Aside0 (StoreAt W base B p sB kv mb n D)) (hn : Aside0 (n ≤ 1000000)) :
    Calls Try.prog 49 #[.pointer (some ⟨p, 0, none⟩), .int .u64 2] W fun e w' => e = .returned (.int .i64 2) ∧ ∃ kv' n' D', StoreAt w' base B p (colP sB 2) kv' mb n' D' ∧ n' ≤ n + 20000 ∧ Turn base (Own p mb kv) W w' := by
  refine (collect_P h ⟨sB_good⟩ ⟨by decide⟩ 2 ⟨by have := hn.out; simp only [maxLen]; omega⟩).mono ?_
  rintro e w' ⟨rfl, kv', n', D', h1, h2, h3, _⟩
  exact ⟨by rw [exC], kv', n', D', h1, h2, h3⟩
theorem keys_x {W : World} {base p : Nat} {B : Nat → Prop} {kv : Value} {mb n : Nat} {D : DataW Value} (h : Aside0 (StoreAt W base B p (colP sB 2) kv mb n D)) :
    Calls Try.prog 50 #[.pointer (some ⟨p, 0, none⟩)] W fun e w' => (∃ A c, e = .returned (.slice A 0 c)) ∧ Below W.heap.size W w' := by
  refine (store_Keys.calls h ⟨by rw [exK]; decide⟩).mono ?_
  rintro e w' ⟨v, rfl, ho, hb⟩
  obtain ⟨A, c, rfl⟩ := Kd.R_slice ho
  rw [exK]
  exact ⟨⟨A, c, rfl⟩, hb⟩
set_option maxRecDepth 100000 in
set_option maxHeartbeats 8000000 in
theorem live_calls (W : World) : Calls Try.prog 37 #[] W fun e w' => e = .returned (.bool true) ∧ Below W.heap.size W w' := by
  have hsn : strOfNums [120] = (⟨#[120]⟩ : ByteArray) := by decide +kernel
  go_enter Try.func37, Try.ntmps37
  go_wp2_with (first
    | (go_at_call 40; (with_reducible refine (conductorlaw08_Big.calls _ _ _ _ _ _ _ _ big_f).mono ?_); rintro e w1 ⟨rfl, hb⟩; have HB1 := Aside0.mk hb; clear hb)
    | (go_at_call 52; (with_reducible refine (new_big _).mono ?_); rintro e w2 ⟨⟨p, mb, rfl, hS⟩, hb⟩; have HS2 := Aside0.mk (show StoreAt w2 w1.heap.size _ p sBig noCh mb 0 (.map []) from hS); have HB2 := Aside0.mk (below_step HB1.out hb); have h12 := Aside0.mk HB1.out.size; clear hS hb)
    | (go_at_call 68; (refine (put_ax _).mono ?_); rintro e w3 ⟨⟨A1, c1, rfl, hl1, hF1⟩, hb⟩; have HF3 := Aside0.mk hF1; have HL3 := Aside0.mk hl1; have HB3 := Aside0.mk (below_step HB2.out hb); have HS3 := Aside0.mk (HS2.out.below hb); clear hF1 hl1 hb)
    | (go_at_call 61; (with_reducible refine (commit_ax HS3 (fun k => w2.heap.size ≤ k ∧ k < w3.heap.size) ?s0 A1 c1 ?s1 HL3 ⟨by decide⟩).mono ?_); (case s0 => exact ⟨fun k hk_ => ⟨hk_.2, fun ho => by have := (HS2.out.own ho).2.2; omega⟩⟩); (case s1 => exact ⟨Kd.F_bound HF3.out⟩); rintro e w4 ⟨rfl, kv4, n4, D4, hS, hn, hT, hK⟩; have HS4 := Aside0.mk hS; have hn4 := Aside0.mk hn; have HB4 := Aside0.mk ((Below.mono HB3.out (Nat.le_refl _)).trans (hT.below.mono h12.out)); clear hS hn hT hK HS3 HF3)
    | ((with_reducible refine gate_dst (N := 31) rfl ?_); refine Kd.N_lit k102 (w0 := w4) w4.heap.size 102 ?hg (N' := 31) ?hd (xs := wB) (inner := [.string ⟨#[97]⟩, .bool true, .slice none 0 0]) (ok := fun k => w4.heap.size ≤ k) (okp := fun k => w4.heap.size ≤ k) ?hr ?hp (fun _ hk => hk) (Nat.le_refl _) (Below.refl _ _) (Nat.le_refl _) (by decide) ?_; (case hd => rfl); (case hg => rfl); (case hr => first | (go_simp; done) | (go_simp; rfl)); (case hp => exact (Reps.c3 (show Kd.FK k102 _ _ (⟨kA, true, []⟩ : S102) [.string ⟨#[97]⟩, .bool true, .slice none 0 0] from k102_mkF _ _ (⟨kA, true, []⟩ : S102) (Nat.le_refl _) (Kd.F_nil _ _ _)) (Reps.none _ _))); intro v5 w5 ho hb2 hg2 hat2; obtain ⟨A5, c5, ev⟩ := Kd.N_slice ho; subst ev; have HF5 := Aside0.mk (Kd.N_F ho); have HL5 := Aside0.mk (Kd.N_reads' ho).2.1; have HS5 := Aside0.mk (HS4.out.below hb2); have HB5 := Aside0.mk (below_step HB4.out hb2); clear ho hb2 hg2 hat2)
    | (go_at_call 61; (with_reducible refine (commit_bx HS5 (fun k => w4.heap.size ≤ k ∧ k < w5.heap.size) ?s0 A5 c5 ?s1 HL5 ?s2).mono ?_); (case s0 => exact ⟨fun k hk_ => ⟨hk_.2, fun ho => by have := (HS4.out.own ho).2.2; omega⟩⟩); (case s1 => exact ⟨Kd.F_bound HF5.out⟩); (case s2 => exact ⟨by have := hn4.out; omega⟩); rintro e w6 ⟨rfl, kv6, n6, D6, hS, hn, hT, hK⟩; have HS6 := Aside0.mk hS; have hn6 := Aside0.mk hn; have HB6 := Aside0.mk (HB5.out.trans (hT.below.mono h12.out)); clear hS hn hT hK HS5 HF5 HS4)
    | (go_at_call 43; (with_reducible refine (read_1 HS6).mono ?_); rintro e w7 ⟨⟨A7, c7, rfl, hl7, hF7⟩, hb⟩; have HS7 := Aside0.mk (HS6.out.below hb); have HF7 := Aside0.mk hF7; have HB7 := Aside0.mk (below_step HB6.out hb); clear hb hF7 hl7)
    | (go_at_call 43; (with_reducible refine (read_2 HS7).mono ?_); rintro e w8 ⟨⟨A8, c8, rfl⟩, hb⟩; have HS8 := Aside0.mk (HS7.out.below hb); have hcv := Kd.C_string (P := Try.prog) (A := A7) (n := 1) (c := c7) Try.underlying26 Try.underlying5 Try.underlying9 (Kd.F_now (Kd.F_below HF7.out hb)); have HB8 := Aside0.mk (below_step HB7.out hb); clear hb)
    | (go_at_call 49; (with_reducible refine (collect_x HS8 ?s0).mono ?_); (case s0 => exact ⟨by have := hn4.out; have := hn6.out; omega⟩); rintro e w9 ⟨rfl, kv9, n9, D9, hS, hn, hT⟩; have HS9 := Aside0.mk hS; have HB9 := Aside0.mk (HB8.out.trans (hT.below.mono h12.out)); clear hS hn hT)
    | (go_at_call 50; (with_reducible refine (keys_x HS9).mono ?_); rintro e w10 ⟨⟨A10, c10, rfl⟩, hb⟩; have HB10 := Aside0.mk (below_step HB9.out hb); clear hb))
  go_ret
  exact ⟨rfl, HB10.out⟩
set_option maxRecDepth 100000 in
set_option maxHeartbeats 4000000 in
theorem made_good (l0 l1 l2 l3 l4 l5 last : Int) (w : World) (h0 : Room l0) (h1 : Room l1) (h2 : Room l2) (hl : last ≠ 0) :
    Calls Try.prog 39 #[.agg #[.int .i64 l0, .int .i64 l1, .int .i64 l2, .int .i64 l3, .int .i64 l4, .int .i64 l5, .int .u64 last]] w fun e w' => (∃ p mb : Nat, e = .returned (.pointer (some ⟨p, 0, none⟩)) ∧ StoreAt w' w.heap.size (fun k => w.heap.size ≤ k) p (noStore l0 l1 l2 l3 l4 l5 last) noCh mb 0 (.map [])) ∧ Below w.heap.size w w' := by
  have hN := Aside0.mk (fun w' => store_New.good l0 l1 l2 l3 l4 l5 last w' h0 h1 h2 hl)
  clear h0 h1 h2 hl
  go_enter Try.func39, Try.ntmps39
  go_wp2_with (first
    | ((with_reducible refine gate_dst (N := 1) rfl ?_); refine box_event ?hg (N := 1) ?hd (cs := #[.int .i64 l0, .int .i64 l1, .int .i64 l2, .int .i64 l3, .int .i64 l4, .int .i64 l5, .int .u64 last]) (t := 51) ?hr ?_; (case hd => rfl); (case hg => rfl); (case hr => first | (go_simp; done) | (go_simp; rfl)); intro g1 hg w1 hbox hb; have HB1 := Aside0.mk hb; have j0 := (blk_cell hbox 0).trans (show _ = some (Value.int .i64 l0) from rfl); have j1 := (blk_cell hbox 1).trans (show _ = some (Value.int .i64 l1) from rfl); have j2 := (blk_cell hbox 2).trans (show _ = some (Value.int .i64 l2) from rfl); have j3 := (blk_cell hbox 3).trans (show _ = some (Value.int .i64 l3) from rfl); have j4 := (blk_cell hbox 4).trans (show _ = some (Value.int .i64 l4) from rfl); have j5 := (blk_cell hbox 5).trans (show _ = some (Value.int .i64 l5) from rfl); have j6 := (blk_cell hbox 6).trans (show _ = some (Value.int .u64 last) from rfl); clear hbox hb hg)
    | (go_at_call 52; (with_reducible refine (hN.out _).mono ?_); rintro e w2 ⟨⟨p, mb, rfl, hS⟩, hb⟩; have HS2 := Aside0.mk (hS.lowerB HB1.out.size (Nat.le_refl _)); have HB2 := Aside0.mk (below_step HB1.out hb); clear hS hb j0 j1 j2 j3 j4 j5 j6))
  go_ret
  exact ⟨⟨p, mb, rfl, HS2.out⟩, HB2.out⟩
theorem made_big (w : World) : Calls Try.prog 39 #[.agg #[.int .i64 1000, .int .i64 10000, .int .i64 1048576, .int .i64 1000, .int .i64 1000, .int .i64 16, .int .u64 1099511627776]] w fun e w' => (∃ p mb : Nat, e = .returned (.pointer (some ⟨p, 0, none⟩)) ∧ StoreAt w' w.heap.size (fun k => w.heap.size ≤ k) p sBig noCh mb 0 (.map [])) ∧ Below w.heap.size w w' :=
  made_good 1000 10000 1048576 1000 1000 16 1099511627776 w ⟨by decide, by decide⟩ ⟨by decide, by decide⟩ ⟨by decide, by decide⟩ (by decide)
end Go.Proofs.Yteofdgonpbmdlaa.St
namespace Go.Proofs.Yteofdgonpbmdlaa.St
open Go.RowKit Go.Proofs.YteofdgonpbmdlaaW.PrintWords Go.Proofs.Yteofdgonpbmdlaa.C Go.Proofs.Yteofdgonpbmdlaa.Pure
theorem getF_nil (a : Int) : getF [] a = ([], false) := by
  unfold getF
  rw [getV_neg (by simp; omega)]
def runP : SS → List S55 → SS
  | s, [] => s
  | s, o :: t => runP (opP s o).2 t
theorem runP_snoc (o : S55) : ∀ (l : List S55) (s : SS), runP s (l ++ [o]) = (opP (runP s l) o).2
  | [], _ => rfl
  | x :: t, s => runP_snoc o t _
theorem runP_step (s : SS) (l : List S55) (i : Nat) (hi : i < l.length) : runP s (l.take (i + 1)) = (opP (runP s (l.take i)) l[i]).2 := by
  rw [List.take_succ_eq_append_getElem hi, runP_snoc]
theorem Good.run : ∀ (l : List S55) {m : Nat} {s : SS}, Good m s → (∀ o ∈ l, FewOp o) → Good (m + l.length) (runP s l)
  | [], _, _, h, _ => h
  | o :: t, m, s, h, hf => by
    have := Good.run t (h.op (hf o (List.mem_cons_self ..))) (fun x hx => hf x (List.mem_cons_of_mem _ hx))
    exact this.mono (by simp; omega)
theorem Good.runTake {m : Nat} {s : SS} (h : Good m s) (l : List S55) (hf : ∀ o ∈ l, FewOp o) (i : Nat) : Good (m + i) (runP s (l.take i)) :=
  (Good.run _ h (fun o ho => hf o (List.mem_of_mem_take ho))).mono (by rw [List.length_take]; omega)
/-- Does a key lie in a stretch that ends at hi? -/
def under (hi k : ByteArray) : Bool := decide (hi.toList = []) || decide (k.toList < hi.toList)
theorem ends_under (hi k : ByteArray) : ends hi k = !under hi k := by
  unfold ends under
  rw [bl]
  by_cases h1 : hi.toList = [] <;> by_cases h2 : k.toList < hi.toList <;> simp [h1, h2]
theorem scanL_eq (gf : ByteArray → List Int × Bool) (hi : ByteArray) : ∀ ks : List ByteArray, Sorted ks → scanL gf hi ks = (ks.filter (fun k => under hi k && (gf k).2)).map (fun k => ⟨k, (gf k).1⟩)
  | [], _ => rfl
  | k :: t, hs => by
    have hs' := List.pairwise_cons.1 hs
    simp only [scanL, ends_under]
    rw [List.filter_cons]
    by_cases hu : under hi k = true
    · rw [if_neg (by simp [hu]), scanL_eq gf hi t hs'.2]
      by_cases hg : (gf k).2 = true
      · rw [if_pos hg, if_pos (by simp [hu, hg])]; rfl
      · rw [if_neg hg, if_neg (by simp [hu, hg])]
    · have hu' : under hi k = false := by simpa using hu
      rw [if_pos (by simp [hu']), if_neg (by simp [hu'])]
      have : ∀ y ∈ t, under hi y = false := fun y hy => by
        have hky := hs'.1 y hy
        unfold under at hu' ⊢
        simp only [Bool.or_eq_false_iff, decide_eq_false_iff_not] at hu' ⊢
        exact ⟨hu'.1, fun h => hu'.2 (ltt hky h)⟩
      rw [List.filter_eq_nil_iff.2 (fun y hy => by simp [this y hy])]
      rfl
theorem drop_filter {ks : List ByteArray} (hs : Sorted ks) (lo : ByteArray) : ks.drop (srchF ks lo) = ks.filter (fun k => !decide (k.toList < lo.toList)) := by
  conv => rhs; rw [← List.take_append_drop (srchF ks lo) ks]
  rw [List.filter_append, List.filter_eq_nil_iff.2 (fun k hk => by simpa using take_srch hs lo k hk), List.nil_append]
  exact (List.filter_eq_self.2 (fun k hk => by simpa using drop_srch hs lo k hk)).symm
/-- The keys that a scan has. -/
def scanK (s : SS) (lo hi : ByteArray) (a : Int) : List ByteArray := s.keys.filter (fun k => (!decide (k.toList < lo.toList)) && (under hi k && (getF (s.ch k) a).2))
theorem scanP_eq {s : SS} (hs : Sorted s.keys) (lo hi : ByteArray) (a : Int) : scanP s lo hi a = (scanK s lo hi a).map (fun k => ⟨k, (getF (s.ch k) a).1⟩) := by
  unfold scanP scanK
  have hd := drop_filter hs lo
  have hs2 : Sorted (s.keys.drop (srchF s.keys lo)) := hs.sublist (List.drop_sublist _ _)
  rw [scanL_eq _ hi _ hs2, hd, List.filter_filter]
  congr 1
  refine List.filter_congr (fun k _ => ?_)
  rw [Bool.and_comm]
theorem scanK_mem {m : Nat} {s : SS} (h : Good m s) (lo hi : ByteArray) (a : Int) (k : ByteArray) : k ∈ scanK s lo hi a ↔ ¬ k.toList < lo.toList ∧ under hi k = true ∧ (getF (s.ch k) a).2 = true := by
  unfold scanK
  rw [List.mem_filter]
  simp only [Bool.and_eq_true, Bool.not_eq_true', decide_eq_false_iff_not]
  constructor
  · rintro ⟨_, h1, h2, h3⟩; exact ⟨h1, h2, h3⟩
  · rintro ⟨h1, h2, h3⟩
    refine ⟨?_, h1, h2, h3⟩
    rw [h.me]
    intro e
    rw [e, getF_nil] at h3
    cases h3
theorem scanK_sorted {m : Nat} {s : SS} (h : Good m s) (lo hi : ByteArray) (a : Int) : Sorted (scanK s lo hi a) := h.so.sublist List.filter_sublist
theorem scan_len {m : Nat} {s : SS} (h : Good m s) (lo hi : ByteArray) (a : Int) : (scanP s lo hi a).length ≤ 20 * m := by
  rw [scanP_eq h.so, List.length_map]
  exact Nat.le_trans (List.length_filter_le _ _) h.kn
theorem rd62 (l : List S62) (i : Nat) (h : i < l.length) : rd_T62 l (i : Int) = l[i] := by
  simp [rd_T62, List.getD_eq_getElem?_getD, h]
theorem equal_refl (l : List Int) : conductorref01_Equal.f l l = some true := eq_refl l
end Go.Proofs.Yteofdgonpbmdlaa.St
namespace Go.Proofs.Yteofdgonpbmdlaa.St
open Go.RowKit Go.Maps Go.Proofs.YteofdgonpbmdlaaW.PrintWords Go.Proofs.YteofdgonpbmdlaaW.PrintLast Go.Proofs.YteofdgonpbmdlaaW.PrintMore Go.Proofs.Yteofdgonpbmdlaa.C Go.Proofs.Yteofdgonpbmdlaa.Pure
/-- A block that no call of the store writes. -/
def Free (p mb : Nat) (kv : Value) (W : World) (k : Nat) : Prop := k < W.heap.size ∧ ¬ Own p mb kv k
section
variable {α : Type} {d : Kd α} {W W' : World} {base p : Nat} {B : Nat → Prop} {s s' : SS} {kv kv' : Value} {mb n n' : Nat} {D D' : DataW Value} {A : Option Addr} {k : Nat} {xs : List α}
theorem F_free (h : Kd.F d W' (fun q => W.heap.size ≤ q) A k xs) (hS : StoreAt W base B p s kv mb n D) : Kd.F d W' (Free p mb kv W') A k xs :=
  Kd.F_mono (Kd.F_bound h) (fun q hq => ⟨hq.2, fun ho => by have := (hS.own ho).2.2; have := hq.1; omega⟩)
theorem read_as (h : Aside0 (StoreAt W base B p s kv mb n D)) {m : Nat} (g : Aside0 (Good m s)) (hm : Aside0 (m ≤ 800)) (key : ByteArray) (hk : Aside0 (key.size ≤ maxLen)) (a : Int) (r1 : List Int) (r2 : Bool) (hr : Aside0 (getF (s.ch key) a = (r1, r2))) :
    Calls Try.prog 43 #[.pointer (some ⟨p, 0, none⟩), .string key, .int .u64 a] W fun e w' => (∃ A c, e = .returned (.tuple #[.slice A r1.length c, .bool r2]) ∧ r1.length ≤ c ∧ Kd.F (Kd.int .u8) w' (Free p mb kv w') A r1.length r1) ∧ Below W.heap.size W w' := by
  refine (read_P h g hm key hk a).mono ?_
  rintro e w' ⟨⟨A, c, rfl, h1, h2⟩, hb⟩
  rw [hr.out] at h1 h2 ⊢
  exact ⟨⟨A, c, rfl, h1, F_free h2 h.out⟩, hb⟩
theorem scan_as (h : Aside0 (StoreAt W base B p s kv mb n D)) {m : Nat} (g : Aside0 (Good m s)) (hm : Aside0 (m ≤ 800)) (lo hi : ByteArray) (a : Int) (L : List S62) (hr : Aside0 (scanP s lo hi a = L)) :
    Calls Try.prog 42 #[.pointer (some ⟨p, 0, none⟩), .string lo, .string hi, .int .u64 a] W fun e w' => (∃ A c, e = .returned (.slice A L.length c) ∧ L.length ≤ c ∧ Kd.F k62 w' (Free p mb kv w') A L.length L) ∧ Below W.heap.size W w' := by
  refine (scan_P h g hm lo hi a).mono ?_
  rintro e w' ⟨⟨A, c, rfl, h1, h2⟩, hb⟩
  rw [hr.out] at h1 h2 ⊢
  exact ⟨⟨A, c, rfl, h1, F_free h2 h.out⟩, hb⟩
end
theorem under_bl (hi k : ByteArray) : under hi k = (hi.toList.isEmpty || Op.bytesLess k.toList hi.toList) := by
  unfold under
  rw [bl]
  congr 1
  cases hi.toList <;> rfl
theorem scan_elem {m : Nat} {s : SS} (h : Good m s) (lo hi : ByteArray) (a : Int) {L : List S62} (hL : scanP s lo hi a = L) {x : S62} (hx : x ∈ L) :
    Op.bytesLess x.f0.toList lo.toList = false ∧ (hi.toList.isEmpty || Op.bytesLess x.f0.toList hi.toList) = true ∧ getF (s.ch x.f0) a = (x.f1, true) ∧ x.f0.size ≤ 256 := by
  rw [scanP_eq h.so] at hL
  rw [← hL] at hx
  obtain ⟨k, hk, rfl⟩ := List.mem_map.1 hx
  have h2 := (scanK_mem h lo hi a k).1 hk
  refine ⟨by rw [bl]; exact decide_eq_false h2.1, by rw [← under_bl]; exact h2.2.1, ?_, h.ks k (List.mem_filter.1 hk).1⟩
  exact Prod.ext rfl h2.2.2
theorem scan_order {m : Nat} {s : SS} (h : Good m s) (lo hi : ByteArray) (a : Int) {L : List S62} (hL : scanP s lo hi a = L) (i : Nat) (hi1 : i + 1 < L.length) : Op.bytesLess (L[i]).f0.toList (L[i + 1]).f0.toList = true := by
  rw [scanP_eq h.so] at hL
  subst hL
  rw [bl]
  simp only [List.getElem_map]
  exact decide_eq_true ((scanK_sorted h lo hi a).get (Nat.lt_succ_self i) (by simpa using hi1))
theorem scan_any {m : Nat} {s : SS} (h : Good m s) (lo hi key : ByteArray) (a : Int) {L : List S62} (hL : scanP s lo hi a = L) :
    L.any (fun x => decide (x.f0 = key)) = ((getF (s.ch key) a).2 && (!(Op.bytesLess key.toList lo.toList) && (hi.toList.isEmpty || Op.bytesLess key.toList hi.toList))) := by
  rw [scanP_eq h.so] at hL
  subst hL
  rw [Bool.eq_iff_iff, List.any_eq_true]
  simp only [Bool.and_eq_true, Bool.not_eq_true', decide_eq_true_eq, ← under_bl]
  have hm := scanK_mem h lo hi a key
  constructor
  · rintro ⟨x, hx, rfl⟩
    obtain ⟨k, hk, rfl⟩ := List.mem_map.1 hx
    have := (scanK_mem h lo hi a k).1 hk
    exact ⟨this.2.2, by rw [bl]; exact decide_eq_false this.1, this.2.1⟩
  · rintro ⟨h1, h2, h3⟩
    rw [bl] at h2
    exact ⟨_, List.mem_map.2 ⟨key, hm.2 ⟨of_decide_eq_false h2, h3, h1⟩, rfl⟩, rfl⟩
theorem any_step (L : List S62) {i : Nat} (hlt : i < L.length) (key : ByteArray) {x : S62} (hx : L[i] = x) {th : Bool} (h : (L.take i).any (fun x => decide (x.f0 = key)) = th) :
    (L.take (i + 1)).any (fun x => decide (x.f0 = key)) = (th || (x.f0.toList == key.toList)) := by
  rw [List.take_succ_eq_append_getElem hlt, List.any_append, h, hx, List.any_cons, List.any_nil, Bool.or_false]
  congr 1
  rw [Bool.eq_iff_iff, decide_eq_true_eq, beq_iff_eq]
  exact ⟨fun e => by rw [e], key_inj⟩
end Go.Proofs.Yteofdgonpbmdlaa.St
namespace Go.Proofs.Yteofdgonpbmdlaa.St
open Go.RowKit Go.Maps Go.Proofs.YteofdgonpbmdlaaW.PrintWords Go.Proofs.YteofdgonpbmdlaaW.PrintLast Go.Proofs.YteofdgonpbmdlaaW.PrintMore Go.Proofs.Yteofdgonpbmdlaa.C Go.Proofs.Yteofdgonpbmdlaa.Pure
attribute [local go_sem] max2_int min2_int max2_str min2_str str_leq str_gtr str_geq max_two min_two max_three min_three max_four min_four
set_option maxRecDepth 100000 in
set_option maxHeartbeats 16000000 in
theorem scans_few (A0 : Option Addr) (c0 : Nat) (l0 : List S55) (lo hi key : ByteArray) (at_ : Int) (w : World) (hC0 : Kd.C k55 w A0 l0.length l0) (hl0 : l0.length ≤ c0) (hm0 : ∀ o ∈ l0, o.f1.length ≤ 9223372036854775807) (b0 : Bool) (hb0 : fewB l0 = b0) (hno : ¬ (b0 = true ∧ lo.size ≤ 300 ∧ hi.size ≤ 300 ∧ key.size ≤ 300)) :
    Calls Try.prog 10 #[.slice A0 l0.length c0, .string lo, .string hi, .string key, .int .u64 at_] w fun e w' => e = .returned (.bool true) ∧ Below w.heap.size w w' := by
  obtain ⟨k0, h0⟩ := few_ev l0 hC0.2.1 hm0
  rw [hb0] at h0
  have H0 := Aside0.mk h0
  have HC0 := Aside0.mk hC0
  have HL0 := Aside0.mk hl0
  have HB0 := Aside0.mk (Below.refl w.heap.size w)
  clear h0 hC0 hl0 hb0 hm0
  cases b0 with
  | false =>
    clear hno
    go_enter Try.func10, Try.ntmps10
    go_wp2_with (first
      | (go_at_call 37; (refine (live_calls _).mono ?_); rintro e w2 ⟨rfl, hb⟩; have HB1 := Aside0.mk (below_step (by first | exact HB1.out | exact HB0.out) hb); clear hb)
      | (go_at_call 38; (with_reducible refine (conductorlaw08_few.calls k0 _ _ l0 false _ ?s1 HL0.out H0.out).mono ?_); (case s1 => exact Kd.C_below HC0.out HB1.out); rintro e w2 ⟨rfl, hb⟩; have HB1 := Aside0.mk (below_step HB1.out hb); clear hb))
    go_ret
    exact ⟨rfl, HB1.out⟩
  | true =>
    by_cases h1 : lo.size ≤ 300
    · by_cases h2 : hi.size ≤ 300
      · have h3 : ¬ key.size ≤ 300 := fun h3 => hno ⟨rfl, h1, h2, h3⟩
        clear hno
        go_enter Try.func10, Try.ntmps10
        go_wp2_with (first
          | (go_at_call 37; (refine (live_calls _).mono ?_); rintro e w2 ⟨rfl, hb⟩; have HB1 := Aside0.mk (below_step (by first | exact HB1.out | exact HB0.out) hb); clear hb)
          | (go_at_call 38; (with_reducible refine (conductorlaw08_few.calls k0 _ _ l0 true _ ?s1 HL0.out H0.out).mono ?_); (case s1 => exact Kd.C_below HC0.out HB1.out); rintro e w2 ⟨rfl, hb⟩; have HB1 := Aside0.mk (below_step HB1.out hb); clear hb))
        go_ret
        exact ⟨rfl, HB1.out⟩
      · clear hno
        go_enter Try.func10, Try.ntmps10
        go_wp2_with (first
          | (go_at_call 37; (refine (live_calls _).mono ?_); rintro e w2 ⟨rfl, hb⟩; have HB1 := Aside0.mk (below_step (by first | exact HB1.out | exact HB0.out) hb); clear hb)
          | (go_at_call 38; (with_reducible refine (conductorlaw08_few.calls k0 _ _ l0 true _ ?s1 HL0.out H0.out).mono ?_); (case s1 => exact Kd.C_below HC0.out HB1.out); rintro e w2 ⟨rfl, hb⟩; have HB1 := Aside0.mk (below_step HB1.out hb); clear hb))
        go_ret
        exact ⟨rfl, HB1.out⟩
    · clear hno
      go_enter Try.func10, Try.ntmps10
      go_wp2_with (first
        | (go_at_call 37; (refine (live_calls _).mono ?_); rintro e w2 ⟨rfl, hb⟩; have HB1 := Aside0.mk (below_step (by first | exact HB1.out | exact HB0.out) hb); clear hb)
        | (go_at_call 38; (with_reducible refine (conductorlaw08_few.calls k0 _ _ l0 true _ ?s1 HL0.out H0.out).mono ?_); (case s1 => exact Kd.C_below HC0.out HB1.out); rintro e w2 ⟨rfl, hb⟩; have HB1 := Aside0.mk (below_step HB1.out hb); clear hb))
      go_ret
      exact ⟨rfl, HB1.out⟩
set_option maxRecDepth 100000 in
set_option maxHeartbeats 16000000 in
theorem scans_main (A0 : Option Addr) (c0 : Nat) (l0 : List S55) (lo hi key : ByteArray) (at_ : Int) (w : World) (hC0 : Kd.C k55 w A0 l0.length l0) (hl0 : l0.length ≤ c0) (hm0 : ∀ o ∈ l0, o.f1.length ≤ 9223372036854775807) (hb0 : fewB l0 = true) (hz1 : lo.size ≤ 300) (hz2 : hi.size ≤ 300) (hz3 : key.size ≤ 300) :
    Calls Try.prog 10 #[.slice A0 l0.length c0, .string lo, .string hi, .string key, .int .u64 at_] w fun e w' => e = .returned (.bool true) ∧ Below w.heap.size w w' := by
  obtain ⟨k0, h0⟩ := few_ev l0 hC0.2.1 hm0
  rw [hb0] at h0
  have H0 := Aside0.mk h0
  have HC0 := Aside0.mk hC0
  have HL0 := Aside0.mk hl0
  have HB0 := Aside0.mk (Below.refl w.heap.size w)
  have HCF0 := Aside0.mk (Kd.C_F k55_heap hC0)
  have F0 := Aside0.mk (fewB_spec hb0)
  have HK := Aside0.mk (show key.size ≤ maxLen by simp only [maxLen]; omega)
  clear h0 hC0 hl0 hb0 hm0
  go_enter Try.func10, Try.ntmps10
  go_wp2_with (first
    | (go_at_call 37; (refine (live_calls _).mono ?_); rintro e w2 ⟨rfl, hb⟩; have HB1 := Aside0.mk (below_step (by first | exact HB1.out | exact HB0.out) hb); clear hb)
    | (go_at_call 38; (with_reducible refine (conductorlaw08_few.calls k0 _ _ l0 true _ ?s1 HL0.out H0.out).mono ?_); (case s1 => exact Kd.C_below HC0.out HB1.out); rintro e w2 ⟨rfl, hb⟩; have HB1 := Aside0.mk (below_step HB1.out hb); clear hb)
    | (go_at_call 40; (with_reducible refine (conductorlaw08_Big.calls _ _ _ _ _ _ _ _ big_f).mono ?_); rintro e w2 ⟨rfl, hb⟩; have HB1 := Aside0.mk (below_step HB1.out hb); clear hb)
    | (go_at_call 39; (with_reducible refine (made_big _).mono ?_); rintro e w3 ⟨⟨p, mb, rfl, hS⟩, hb⟩; obtain ⟨base, hba⟩ : ∃ b, b = w2.heap.size := ⟨_, rfl⟩; rw [← hba] at hS; have HS3 := Aside0.mk hS; have hbase := Aside0.mk (show w.heap.size ≤ base by rw [hba]; exact HB1.out.size); have HB3 := Aside0.mk (below_step HB1.out hb); clear hS hb hba))
  clear hz1 hz2 hz3
  go_loopw [51] (fun vi wr => ∃ (i : Nat) (kvr : Value) (nr : Nat) (Dr : DataW Value), vi = .int .i64 i ∧ i ≤ l0.length ∧ Aside0 (nr ≤ 20000 * i) ∧ Aside0 (StoreAt wr base (fun k => base ≤ k) p (runP sBig (l0.take i)) kvr mb nr Dr) ∧ Aside0 (Below w.heap.size w wr)) (fun vi _ => l0.length - (intOf vi).toNat)
  case atStart => exact ⟨0, noCh, 0, .map [], rfl, Nat.zero_le _, ⟨Nat.le_refl _⟩, HS3, HB3⟩
  case round =>
    clear HS3
    obtain ⟨i, kvr, nr, Dr, rfl, hi1, HNr, HS, HB⟩ := hrel
    by_cases hlt : i < l0.length
    · have hi4 : i < 40 := by have := F0.out.1; omega
      have HF := Aside0.mk (Kd.F_below HCF0.out HB.out)
      obtain ⟨ad, ce_, rfl, hcl_, hFK, hcc, hok⟩ := Kd.F_get HF.out z55 (i : Int) (by omega) (by omega)
      rw [show l0.getD (i : Int).toNat z55 = l0[i] by simp [List.getD, List.getElem?_eq_getElem hlt]] at hFK
      obtain ⟨x, hx⟩ : ∃ x, l0[i] = x := ⟨_, rfl⟩
      rw [hx] at hFK
      obtain ⟨A2, c2, rfl, hl2, hg2⟩ := k55_openF hFK
      have e0 : wr.cell? (ad.add (i * 6)) = some (.int .i64 x.f0) := hcc 0 _ rfl
      have e1 : wr.cell? ⟨(ad.add (i * 6)).block, (ad.add (i * 6)).off + 1, none⟩ = some (.slice A2 x.f1.length c2) := by rw [← add_field _ _ 1 (by omega)]; exact hcc 1 _ rfl
      have e2 : wr.cell? ⟨(ad.add (i * 6)).block, (ad.add (i * 6)).off + 2, none⟩ = some (.int .u64 x.f2) := by rw [← add_field _ _ 2 (by omega)]; exact hcc 2 _ rfl
      have e3 : wr.cell? ⟨(ad.add (i * 6)).block, (ad.add (i * 6)).off + 3, none⟩ = some (.int .u64 x.f3) := by rw [← add_field _ _ 3 (by omega)]; exact hcc 3 _ rfl
      have e4 : wr.cell? ⟨(ad.add (i * 6)).block, (ad.add (i * 6)).off + 4, none⟩ = some (.string x.f4) := by rw [← add_field _ _ 4 (by omega)]; exact hcc 4 _ rfl
      have e5 : wr.cell? ⟨(ad.add (i * 6)).block, (ad.add (i * 6)).off + 5, none⟩ = some (.string x.f5) := by rw [← add_field _ _ 5 (by omega)]; exact hcc 5 _ rfl
      have HG2 := Aside0.mk hg2
      have HL2 := Aside0.mk hl2
      have hmem : x ∈ l0 := hx ▸ List.getElem_mem hlt
      have HX := Aside0.mk hx
      clear hcl_ hFK hcc hok hl2 hg2 hx
      have HO := Aside0.mk (F0.out.2 x hmem)
      have HG := Aside0.mk (big_good.runTake l0 F0.out.2 i)
      have hs' : (opP (runP sBig (l0.take i)) x).2 = runP sBig (l0.take (i + 1)) := by rw [runP_step _ _ _ hlt, HX.out]
      have HS' := Aside0.mk hs'
      clear hs'
      go_wp2_with (first
        | ((with_reducible refine gate_dst (N := 13) rfl ?_); refine box_event ?hg (N := 13) ?hd (cs := #[.int .i64 0, .slice none 0 0, .int .u64 0, .int .u64 0, .string ⟨#[]⟩, .string ⟨#[]⟩]) (t := 55) ?hr ?_; (case hd => rfl); (case hg => rfl); (case hr => first | (go_simp; done) | (go_simp; rfl)); intro g7 hg wa hbox hb; have HBa := Aside0.mk hb; have GE7 := Aside0.mk (show wr.heap.size ≤ g7 by rw [hg]; exact Nat.le_refl _); have BKa := Aside0.mk hbox; have z0 := (blk_cell hbox 0).trans (show _ = some (Value.int .i64 0) from rfl); have y0 := blk_frozen hbox 0; have z1 := (blk_cell hbox 1).trans (show _ = some (Value.slice none 0 0) from rfl); have y1 := blk_frozen hbox 1; have z2 := (blk_cell hbox 2).trans (show _ = some (Value.int .u64 0) from rfl); have y2 := blk_frozen hbox 2; have z3 := (blk_cell hbox 3).trans (show _ = some (Value.int .u64 0) from rfl); have y3 := blk_frozen hbox 3; have z4 := (blk_cell hbox 4).trans (show _ = some (Value.string ⟨#[]⟩) from rfl); have y4 := blk_frozen hbox 4; have z5 := (blk_cell hbox 5).trans (show _ = some (Value.string ⟨#[]⟩) from rfl); have y5 := blk_frozen hbox 5; clear hbox hb hg)
        | ((with_reducible refine gate_store (t := 55) (p := 13) rfl ?_); refine store_event (t := 55) (p := 13) (v := ?vo2_) (w1 := (((((wa.setCell ⟨g7, 0, none⟩ (.int .i64 x.f0)).setCell ⟨g7, 1, none⟩ (.slice A2 x.f1.length c2)).setCell ⟨g7, 2, none⟩ (.int .u64 x.f2)).setCell ⟨g7, 3, none⟩ (.int .u64 x.f3)).setCell ⟨g7, 4, none⟩ (.string x.f4)).setCell ⟨g7, 5, none⟩ (.string x.f5)) ?hg ?ho ?hn ?hr ?_; (case ho => rfl); (case hg => rfl); (case hn => rfl); (case hr => first | (go_simp; done) | (go_simp; rfl)); intro wb hw; have HBx := Aside0.mk (show Below wr.heap.size wr wb by rw [hw]; exact (below_set (below_set (below_set (below_set (below_set (below_set HBa.out GE7.out) GE7.out) GE7.out) GE7.out) GE7.out) GE7.out)); have BKx := Aside0.mk (show wb.heap[g7]? = some (.cells #[.int .i64 x.f0, .slice A2 x.f1.length c2, .int .u64 x.f2, .int .u64 x.f3, .string x.f4, .string x.f5] 55 (0, 0)) by rw [hw]; exact (blk_put (blk_put (blk_put (blk_put (blk_put (blk_put BKa.out 0 _ rfl) 1 _ rfl) 2 _ rfl) 3 _ rfl) 4 _ rfl) 5 _ rfl)); have q0 := (blk_cell BKx.out 0).trans (show _ = some (Value.int .i64 x.f0) from rfl); have q1 := (blk_cell BKx.out 1).trans (show _ = some (Value.slice A2 x.f1.length c2) from rfl); have q2 := (blk_cell BKx.out 2).trans (show _ = some (Value.int .u64 x.f2) from rfl); have q3 := (blk_cell BKx.out 3).trans (show _ = some (Value.int .u64 x.f3) from rfl); have q4 := (blk_cell BKx.out 4).trans (show _ = some (Value.string x.f4) from rfl); have q5 := (blk_cell BKx.out 5).trans (show _ = some (Value.string x.f5) from rfl); have fz2 := blk_frozen BKx.out 2; have fz3 := blk_frozen BKx.out 3; clear hw z0 z1 z2 z3 z4 z5 y0 y1 y2 y3 y4 y5 HBa BKa e0 e1 e2 e3 e4 e5)
        | (go_at_call 41; (with_reducible refine (does_op (Aside0.mk (HS.out.below HBx.out)) HG ?s0 x HO (fun k => k < w.heap.size) ?s1 A2 c2 ?s2 HL2 ?s3).mono ?_); (case s0 => exact ⟨by omega⟩); (case s1 => exact ⟨fun k hk_ => Nat.lt_of_lt_of_le hk_ hbase.out⟩); (case s2 => exact ⟨Kd.F_below HG2.out HBx.out⟩); (case s3 => exact ⟨by have := HNr.out; simp only [maxLen]; omega⟩); rintro e w5 ⟨⟨Ab, cb, As, cs, rfl, hlb, hls, hFb, hFs⟩, kv', n', D', hS, hn, hT, hK⟩; rw [HS'.out] at hS; have HS5 := Aside0.mk hS; have HN5 := Aside0.mk hn; have HB5 := Aside0.mk (show Below w.heap.size w w5 from (below_step HB.out HBx.out).trans (hT.below.mono hbase.out)); clear hS hn hT hK hlb hls hFb hFs q0 q1 q2 q3 q4 q5))
      go_round
      case rel => exact ⟨i + 1, kv', n', D', by go_num, hlt, ⟨by have := HN5.out; have := HNr.out; omega⟩, HS5, HB5⟩
      case measure => simp [intOf]; omega
    · have hie : i = l0.length := by omega
      subst hie
      rw [List.take_length] at HS
      obtain ⟨s1, hs1⟩ : ∃ s1, runP sBig l0 = s1 := ⟨_, rfl⟩
      have HG1 := Aside0.mk (show Good 40 s1 from hs1 ▸ (Good.run l0 big_good F0.out.2).mono (by have := F0.out.1; omega))
      rw [hs1] at HS
      obtain ⟨L, hL⟩ : ∃ L, scanP s1 lo hi at_ = L := ⟨_, rfl⟩
      have HL := Aside0.mk hL
      have HLl := Aside0.mk (show L.length ≤ 800 from hL ▸ scan_len HG1.out _ _ _)
      clear hs1 hL
      go_wp2_with (first
        | (go_at_call 42; (with_reducible refine (scan_as HS HG1 ⟨by decide⟩ lo hi at_ L HL).mono ?_); rintro e w8 ⟨⟨A8, c8, rfl, hl8, hF8⟩, hb⟩; have HS8 := Aside0.mk (HS.out.below hb); have HC8 := Aside0.mk (Kd.F_now hF8); have HL8 := Aside0.mk hl8; have HB8 := Aside0.mk (below_step HB.out hb); clear hb hF8 hl8))
      clear HS HB HNr
      go_loopw [14, 15, 65] (fun v14 v15 vi wr => ∃ (i : Nat) (la : ByteArray) (th : Bool), vi = .int .i64 i ∧ i ≤ L.length ∧ v14 = .string la ∧ Aside0 (0 < i → ∀ h : i < L.length, Op.bytesLess la.toList (L[i]).f0.toList = true) ∧ v15 = .bool th ∧ Aside0 ((L.take i).any (fun x => decide (x.f0 = key)) = th) ∧ Aside0 (Below w8.heap.size w8 wr)) (fun _ _ vi _ => L.length - (intOf vi).toNat)
      case atStart => exact ⟨0, _, _, rfl, Nat.zero_le _, rfl, ⟨fun h => absurd h (by omega)⟩, rfl, ⟨rfl⟩, ⟨Below.refl _ _⟩⟩
      case round =>
        obtain ⟨i, la, th, rfl, hi1, rfl, HLA, rfl, HTH, HB⟩ := hrel
        by_cases hlt : i < L.length
        · have hi4 : i < 800 := by have := HLl.out; omega
          obtain ⟨ad, A2, c2, rfl, e0, e1, hl2, hg2⟩ := at_T62 (Kd.C_below HC8.out HB.out) (i : Int) (by omega) (by omega)
          rw [rd62 L i hlt] at e0 e1 hl2 hg2
          simp only [Int.toNat_natCast] at e0 e1
          obtain ⟨x, hx⟩ : ∃ x, L[i] = x := ⟨_, rfl⟩
          rw [hx] at e0 e1 hl2 hg2
          have HX := Aside0.mk hx
          have HG2 := Aside0.mk hg2
          have HL2 := Aside0.mk hl2
          replace HLA : Aside0 (0 < i → Op.bytesLess la.toList x.f0.toList = true) := ⟨fun h_ => hx ▸ HLA.out h_ hlt⟩
          obtain ⟨he1, he2, hrx, hkx⟩ := scan_elem HG1.out lo hi at_ HL.out (hx ▸ List.getElem_mem hlt : x ∈ L)
          have HRx := Aside0.mk hrx
          have HKx := Aside0.mk (size256 hkx)
          clear hx hg2 hl2 hrx hkx
          by_cases hi0 : i = 0
          · have hip : ¬ ((0:Int) < (i:Int)) := by omega
            clear hi0
            cases hz : hi.toList.isEmpty with
            | true =>
              cases th with
              | true =>


                go_wp2_with (first
                  | ((with_reducible refine gate_dst (N := 17) rfl ?_); refine box_event ?hg (N := 17) ?hd (cs := #[.string ⟨#[]⟩, .slice none 0 0]) (t := 62) ?hr ?_; (case hd => rfl); (case hg => rfl); (case hr => first | (go_simp; done) | (go_simp; rfl)); intro g7 hg wa hbox hb; have HBa := Aside0.mk hb; have GE7 := Aside0.mk (show wr.heap.size ≤ g7 by rw [hg]; exact Nat.le_refl _); have BKa := Aside0.mk hbox; have z0 := (blk_cell hbox 0).trans (show _ = some (Value.string ⟨#[]⟩) from rfl); have y0 := blk_frozen hbox 0; have z1 := (blk_cell hbox 1).trans (show _ = some (Value.slice none 0 0) from rfl); have y1 := blk_frozen hbox 1; clear hbox hb hg)
                  | ((with_reducible refine gate_store (t := 62) (p := 17) rfl ?_); refine store_event (t := 62) (p := 17) (v := ?vo1_) (w1 := (wa.setCell ⟨g7, 0, none⟩ (.string x.f0)).setCell ⟨g7, 1, none⟩ (.slice A2 x.f1.length c2)) ?hg ?ho ?hn ?hr ?_; (case ho => rfl); (case hg => rfl); (case hn => rfl); (case hr => first | (go_simp; done) | (go_simp; rfl)); intro wb hw; have HBx := Aside0.mk (show Below wr.heap.size wr wb by rw [hw]; exact (below_set (below_set HBa.out GE7.out) GE7.out)); have BKx := Aside0.mk (show wb.heap[g7]? = some (.cells #[.string x.f0, .slice A2 x.f1.length c2] 62 (0, 0)) by rw [hw]; exact (blk_put (blk_put BKa.out 0 _ rfl) 1 _ rfl)); have q0 := (blk_cell BKx.out 0).trans (show _ = some (Value.string x.f0) from rfl); have q1 := (blk_cell BKx.out 1).trans (show _ = some (Value.slice A2 x.f1.length c2) from rfl); have HSr := Aside0.mk (HS8.out.below (HB.out.trans (HBx.out.mono HB.out.size))); clear hw z0 z1 y0 y1 HBa BKa e0 e1)
                  | (go_at_call 43; (with_reducible refine (read_as HSr HG1 ⟨by decide⟩ x.f0 HKx at_ x.f1 true HRx).mono ?_); rintro e wd ⟨⟨A9, c9, rfl, hl9, hF9⟩, hb⟩; have HF9 := Aside0.mk hF9; have HL9 := Aside0.mk hl9; have BKy := Aside0.mk (blk_below BKx.out hb); have HBd := Aside0.mk (below_step HBx.out hb); clear q0 q1; have q0 := (blk_cell BKy.out 0).trans (show _ = some (Value.string x.f0) from rfl); have q1 := (blk_cell BKy.out 1).trans (show _ = some (Value.slice A2 x.f1.length c2) from rfl); clear hb hF9 hl9)
                  | (go_at_call 25; (with_reducible refine (conductorref01_Equal.calls _ _ x.f1 _ _ x.f1 true _ ?s0 HL9.out ?s1 HL2.out (equal_refl x.f1)).mono ?_); (case s0 => exact Kd.F_now HF9.out); (case s1 => exact Kd.C_below HG2.out HBd.out); rintro e we ⟨rfl, hb⟩; have HBe := Aside0.mk (below_step HBd.out hb.below); have BKz := Aside0.mk (blk_below BKy.out hb.below); clear q0 q1; have q0 := (blk_cell BKz.out 0).trans (show _ = some (Value.string x.f0) from rfl); have q1 := (blk_cell BKz.out 1).trans (show _ = some (Value.slice A2 x.f1.length c2) from rfl); clear hb))
                go_round
                case rel => exact ⟨i + 1, x.f0, _, by go_num, hlt, rfl, ⟨fun _ h1_ => by have := scan_order HG1.out lo hi at_ HL.out i h1_; rw [HX.out] at this; exact this⟩, rfl, ⟨any_step L hlt key HX.out HTH.out⟩, ⟨HB.out.trans (HBe.out.mono HB.out.size)⟩⟩
                case measure => simp [intOf]; omega
              | false =>


                go_wp2_with (first
                  | ((with_reducible refine gate_dst (N := 17) rfl ?_); refine box_event ?hg (N := 17) ?hd (cs := #[.string ⟨#[]⟩, .slice none 0 0]) (t := 62) ?hr ?_; (case hd => rfl); (case hg => rfl); (case hr => first | (go_simp; done) | (go_simp; rfl)); intro g7 hg wa hbox hb; have HBa := Aside0.mk hb; have GE7 := Aside0.mk (show wr.heap.size ≤ g7 by rw [hg]; exact Nat.le_refl _); have BKa := Aside0.mk hbox; have z0 := (blk_cell hbox 0).trans (show _ = some (Value.string ⟨#[]⟩) from rfl); have y0 := blk_frozen hbox 0; have z1 := (blk_cell hbox 1).trans (show _ = some (Value.slice none 0 0) from rfl); have y1 := blk_frozen hbox 1; clear hbox hb hg)
                  | ((with_reducible refine gate_store (t := 62) (p := 17) rfl ?_); refine store_event (t := 62) (p := 17) (v := ?vo1_) (w1 := (wa.setCell ⟨g7, 0, none⟩ (.string x.f0)).setCell ⟨g7, 1, none⟩ (.slice A2 x.f1.length c2)) ?hg ?ho ?hn ?hr ?_; (case ho => rfl); (case hg => rfl); (case hn => rfl); (case hr => first | (go_simp; done) | (go_simp; rfl)); intro wb hw; have HBx := Aside0.mk (show Below wr.heap.size wr wb by rw [hw]; exact (below_set (below_set HBa.out GE7.out) GE7.out)); have BKx := Aside0.mk (show wb.heap[g7]? = some (.cells #[.string x.f0, .slice A2 x.f1.length c2] 62 (0, 0)) by rw [hw]; exact (blk_put (blk_put BKa.out 0 _ rfl) 1 _ rfl)); have q0 := (blk_cell BKx.out 0).trans (show _ = some (Value.string x.f0) from rfl); have q1 := (blk_cell BKx.out 1).trans (show _ = some (Value.slice A2 x.f1.length c2) from rfl); have HSr := Aside0.mk (HS8.out.below (HB.out.trans (HBx.out.mono HB.out.size))); clear hw z0 z1 y0 y1 HBa BKa e0 e1)
                  | (go_at_call 43; (with_reducible refine (read_as HSr HG1 ⟨by decide⟩ x.f0 HKx at_ x.f1 true HRx).mono ?_); rintro e wd ⟨⟨A9, c9, rfl, hl9, hF9⟩, hb⟩; have HF9 := Aside0.mk hF9; have HL9 := Aside0.mk hl9; have BKy := Aside0.mk (blk_below BKx.out hb); have HBd := Aside0.mk (below_step HBx.out hb); clear q0 q1; have q0 := (blk_cell BKy.out 0).trans (show _ = some (Value.string x.f0) from rfl); have q1 := (blk_cell BKy.out 1).trans (show _ = some (Value.slice A2 x.f1.length c2) from rfl); clear hb hF9 hl9)
                  | (go_at_call 25; (with_reducible refine (conductorref01_Equal.calls _ _ x.f1 _ _ x.f1 true _ ?s0 HL9.out ?s1 HL2.out (equal_refl x.f1)).mono ?_); (case s0 => exact Kd.F_now HF9.out); (case s1 => exact Kd.C_below HG2.out HBd.out); rintro e we ⟨rfl, hb⟩; have HBe := Aside0.mk (below_step HBd.out hb.below); have BKz := Aside0.mk (blk_below BKy.out hb.below); clear q0 q1; have q0 := (blk_cell BKz.out 0).trans (show _ = some (Value.string x.f0) from rfl); have q1 := (blk_cell BKz.out 1).trans (show _ = some (Value.slice A2 x.f1.length c2) from rfl); clear hb))
                go_round
                case rel => exact ⟨i + 1, x.f0, _, by go_num, hlt, rfl, ⟨fun _ h1_ => by have := scan_order HG1.out lo hi at_ HL.out i h1_; rw [HX.out] at this; exact this⟩, rfl, ⟨any_step L hlt key HX.out HTH.out⟩, ⟨HB.out.trans (HBe.out.mono HB.out.size)⟩⟩
                case measure => simp [intOf]; omega
            | false =>
              cases th with
              | true =>

                have hu : Op.bytesLess x.f0.toList hi.toList = true := by simpa [hz] using he2
                go_wp2_with (first
                  | ((with_reducible refine gate_dst (N := 17) rfl ?_); refine box_event ?hg (N := 17) ?hd (cs := #[.string ⟨#[]⟩, .slice none 0 0]) (t := 62) ?hr ?_; (case hd => rfl); (case hg => rfl); (case hr => first | (go_simp; done) | (go_simp; rfl)); intro g7 hg wa hbox hb; have HBa := Aside0.mk hb; have GE7 := Aside0.mk (show wr.heap.size ≤ g7 by rw [hg]; exact Nat.le_refl _); have BKa := Aside0.mk hbox; have z0 := (blk_cell hbox 0).trans (show _ = some (Value.string ⟨#[]⟩) from rfl); have y0 := blk_frozen hbox 0; have z1 := (blk_cell hbox 1).trans (show _ = some (Value.slice none 0 0) from rfl); have y1 := blk_frozen hbox 1; clear hbox hb hg)
                  | ((with_reducible refine gate_store (t := 62) (p := 17) rfl ?_); refine store_event (t := 62) (p := 17) (v := ?vo1_) (w1 := (wa.setCell ⟨g7, 0, none⟩ (.string x.f0)).setCell ⟨g7, 1, none⟩ (.slice A2 x.f1.length c2)) ?hg ?ho ?hn ?hr ?_; (case ho => rfl); (case hg => rfl); (case hn => rfl); (case hr => first | (go_simp; done) | (go_simp; rfl)); intro wb hw; have HBx := Aside0.mk (show Below wr.heap.size wr wb by rw [hw]; exact (below_set (below_set HBa.out GE7.out) GE7.out)); have BKx := Aside0.mk (show wb.heap[g7]? = some (.cells #[.string x.f0, .slice A2 x.f1.length c2] 62 (0, 0)) by rw [hw]; exact (blk_put (blk_put BKa.out 0 _ rfl) 1 _ rfl)); have q0 := (blk_cell BKx.out 0).trans (show _ = some (Value.string x.f0) from rfl); have q1 := (blk_cell BKx.out 1).trans (show _ = some (Value.slice A2 x.f1.length c2) from rfl); have HSr := Aside0.mk (HS8.out.below (HB.out.trans (HBx.out.mono HB.out.size))); clear hw z0 z1 y0 y1 HBa BKa e0 e1)
                  | (go_at_call 43; (with_reducible refine (read_as HSr HG1 ⟨by decide⟩ x.f0 HKx at_ x.f1 true HRx).mono ?_); rintro e wd ⟨⟨A9, c9, rfl, hl9, hF9⟩, hb⟩; have HF9 := Aside0.mk hF9; have HL9 := Aside0.mk hl9; have BKy := Aside0.mk (blk_below BKx.out hb); have HBd := Aside0.mk (below_step HBx.out hb); clear q0 q1; have q0 := (blk_cell BKy.out 0).trans (show _ = some (Value.string x.f0) from rfl); have q1 := (blk_cell BKy.out 1).trans (show _ = some (Value.slice A2 x.f1.length c2) from rfl); clear hb hF9 hl9)
                  | (go_at_call 25; (with_reducible refine (conductorref01_Equal.calls _ _ x.f1 _ _ x.f1 true _ ?s0 HL9.out ?s1 HL2.out (equal_refl x.f1)).mono ?_); (case s0 => exact Kd.F_now HF9.out); (case s1 => exact Kd.C_below HG2.out HBd.out); rintro e we ⟨rfl, hb⟩; have HBe := Aside0.mk (below_step HBd.out hb.below); have BKz := Aside0.mk (blk_below BKy.out hb.below); clear q0 q1; have q0 := (blk_cell BKz.out 0).trans (show _ = some (Value.string x.f0) from rfl); have q1 := (blk_cell BKz.out 1).trans (show _ = some (Value.slice A2 x.f1.length c2) from rfl); clear hb))
                go_round
                case rel => exact ⟨i + 1, x.f0, _, by go_num, hlt, rfl, ⟨fun _ h1_ => by have := scan_order HG1.out lo hi at_ HL.out i h1_; rw [HX.out] at this; exact this⟩, rfl, ⟨any_step L hlt key HX.out HTH.out⟩, ⟨HB.out.trans (HBe.out.mono HB.out.size)⟩⟩
                case measure => simp [intOf]; omega
              | false =>

                have hu : Op.bytesLess x.f0.toList hi.toList = true := by simpa [hz] using he2
                go_wp2_with (first
                  | ((with_reducible refine gate_dst (N := 17) rfl ?_); refine box_event ?hg (N := 17) ?hd (cs := #[.string ⟨#[]⟩, .slice none 0 0]) (t := 62) ?hr ?_; (case hd => rfl); (case hg => rfl); (case hr => first | (go_simp; done) | (go_simp; rfl)); intro g7 hg wa hbox hb; have HBa := Aside0.mk hb; have GE7 := Aside0.mk (show wr.heap.size ≤ g7 by rw [hg]; exact Nat.le_refl _); have BKa := Aside0.mk hbox; have z0 := (blk_cell hbox 0).trans (show _ = some (Value.string ⟨#[]⟩) from rfl); have y0 := blk_frozen hbox 0; have z1 := (blk_cell hbox 1).trans (show _ = some (Value.slice none 0 0) from rfl); have y1 := blk_frozen hbox 1; clear hbox hb hg)
                  | ((with_reducible refine gate_store (t := 62) (p := 17) rfl ?_); refine store_event (t := 62) (p := 17) (v := ?vo1_) (w1 := (wa.setCell ⟨g7, 0, none⟩ (.string x.f0)).setCell ⟨g7, 1, none⟩ (.slice A2 x.f1.length c2)) ?hg ?ho ?hn ?hr ?_; (case ho => rfl); (case hg => rfl); (case hn => rfl); (case hr => first | (go_simp; done) | (go_simp; rfl)); intro wb hw; have HBx := Aside0.mk (show Below wr.heap.size wr wb by rw [hw]; exact (below_set (below_set HBa.out GE7.out) GE7.out)); have BKx := Aside0.mk (show wb.heap[g7]? = some (.cells #[.string x.f0, .slice A2 x.f1.length c2] 62 (0, 0)) by rw [hw]; exact (blk_put (blk_put BKa.out 0 _ rfl) 1 _ rfl)); have q0 := (blk_cell BKx.out 0).trans (show _ = some (Value.string x.f0) from rfl); have q1 := (blk_cell BKx.out 1).trans (show _ = some (Value.slice A2 x.f1.length c2) from rfl); have HSr := Aside0.mk (HS8.out.below (HB.out.trans (HBx.out.mono HB.out.size))); clear hw z0 z1 y0 y1 HBa BKa e0 e1)
                  | (go_at_call 43; (with_reducible refine (read_as HSr HG1 ⟨by decide⟩ x.f0 HKx at_ x.f1 true HRx).mono ?_); rintro e wd ⟨⟨A9, c9, rfl, hl9, hF9⟩, hb⟩; have HF9 := Aside0.mk hF9; have HL9 := Aside0.mk hl9; have BKy := Aside0.mk (blk_below BKx.out hb); have HBd := Aside0.mk (below_step HBx.out hb); clear q0 q1; have q0 := (blk_cell BKy.out 0).trans (show _ = some (Value.string x.f0) from rfl); have q1 := (blk_cell BKy.out 1).trans (show _ = some (Value.slice A2 x.f1.length c2) from rfl); clear hb hF9 hl9)
                  | (go_at_call 25; (with_reducible refine (conductorref01_Equal.calls _ _ x.f1 _ _ x.f1 true _ ?s0 HL9.out ?s1 HL2.out (equal_refl x.f1)).mono ?_); (case s0 => exact Kd.F_now HF9.out); (case s1 => exact Kd.C_below HG2.out HBd.out); rintro e we ⟨rfl, hb⟩; have HBe := Aside0.mk (below_step HBd.out hb.below); have BKz := Aside0.mk (blk_below BKy.out hb.below); clear q0 q1; have q0 := (blk_cell BKz.out 0).trans (show _ = some (Value.string x.f0) from rfl); have q1 := (blk_cell BKz.out 1).trans (show _ = some (Value.slice A2 x.f1.length c2) from rfl); clear hb))
                go_round
                case rel => exact ⟨i + 1, x.f0, _, by go_num, hlt, rfl, ⟨fun _ h1_ => by have := scan_order HG1.out lo hi at_ HL.out i h1_; rw [HX.out] at this; exact this⟩, rfl, ⟨any_step L hlt key HX.out HTH.out⟩, ⟨HB.out.trans (HBe.out.mono HB.out.size)⟩⟩
                case measure => simp [intOf]; omega
          · have hip : (0:Int) < (i:Int) := by omega
            clear hi0
            cases hz : hi.toList.isEmpty with
            | true =>
              cases th with
              | true =>
                have hla : Op.bytesLess la.toList x.f0.toList = true := HLA.out (by omega)

                go_wp2_with (first
                  | ((with_reducible refine gate_dst (N := 17) rfl ?_); refine box_event ?hg (N := 17) ?hd (cs := #[.string ⟨#[]⟩, .slice none 0 0]) (t := 62) ?hr ?_; (case hd => rfl); (case hg => rfl); (case hr => first | (go_simp; done) | (go_simp; rfl)); intro g7 hg wa hbox hb; have HBa := Aside0.mk hb; have GE7 := Aside0.mk (show wr.heap.size ≤ g7 by rw [hg]; exact Nat.le_refl _); have BKa := Aside0.mk hbox; have z0 := (blk_cell hbox 0).trans (show _ = some (Value.string ⟨#[]⟩) from rfl); have y0 := blk_frozen hbox 0; have z1 := (blk_cell hbox 1).trans (show _ = some (Value.slice none 0 0) from rfl); have y1 := blk_frozen hbox 1; clear hbox hb hg)
                  | ((with_reducible refine gate_store (t := 62) (p := 17) rfl ?_); refine store_event (t := 62) (p := 17) (v := ?vo1_) (w1 := (wa.setCell ⟨g7, 0, none⟩ (.string x.f0)).setCell ⟨g7, 1, none⟩ (.slice A2 x.f1.length c2)) ?hg ?ho ?hn ?hr ?_; (case ho => rfl); (case hg => rfl); (case hn => rfl); (case hr => first | (go_simp; done) | (go_simp; rfl)); intro wb hw; have HBx := Aside0.mk (show Below wr.heap.size wr wb by rw [hw]; exact (below_set (below_set HBa.out GE7.out) GE7.out)); have BKx := Aside0.mk (show wb.heap[g7]? = some (.cells #[.string x.f0, .slice A2 x.f1.length c2] 62 (0, 0)) by rw [hw]; exact (blk_put (blk_put BKa.out 0 _ rfl) 1 _ rfl)); have q0 := (blk_cell BKx.out 0).trans (show _ = some (Value.string x.f0) from rfl); have q1 := (blk_cell BKx.out 1).trans (show _ = some (Value.slice A2 x.f1.length c2) from rfl); have HSr := Aside0.mk (HS8.out.below (HB.out.trans (HBx.out.mono HB.out.size))); clear hw z0 z1 y0 y1 HBa BKa e0 e1)
                  | (go_at_call 43; (with_reducible refine (read_as HSr HG1 ⟨by decide⟩ x.f0 HKx at_ x.f1 true HRx).mono ?_); rintro e wd ⟨⟨A9, c9, rfl, hl9, hF9⟩, hb⟩; have HF9 := Aside0.mk hF9; have HL9 := Aside0.mk hl9; have BKy := Aside0.mk (blk_below BKx.out hb); have HBd := Aside0.mk (below_step HBx.out hb); clear q0 q1; have q0 := (blk_cell BKy.out 0).trans (show _ = some (Value.string x.f0) from rfl); have q1 := (blk_cell BKy.out 1).trans (show _ = some (Value.slice A2 x.f1.length c2) from rfl); clear hb hF9 hl9)
                  | (go_at_call 25; (with_reducible refine (conductorref01_Equal.calls _ _ x.f1 _ _ x.f1 true _ ?s0 HL9.out ?s1 HL2.out (equal_refl x.f1)).mono ?_); (case s0 => exact Kd.F_now HF9.out); (case s1 => exact Kd.C_below HG2.out HBd.out); rintro e we ⟨rfl, hb⟩; have HBe := Aside0.mk (below_step HBd.out hb.below); have BKz := Aside0.mk (blk_below BKy.out hb.below); clear q0 q1; have q0 := (blk_cell BKz.out 0).trans (show _ = some (Value.string x.f0) from rfl); have q1 := (blk_cell BKz.out 1).trans (show _ = some (Value.slice A2 x.f1.length c2) from rfl); clear hb))
                go_round
                case rel => exact ⟨i + 1, x.f0, _, by go_num, hlt, rfl, ⟨fun _ h1_ => by have := scan_order HG1.out lo hi at_ HL.out i h1_; rw [HX.out] at this; exact this⟩, rfl, ⟨any_step L hlt key HX.out HTH.out⟩, ⟨HB.out.trans (HBe.out.mono HB.out.size)⟩⟩
                case measure => simp [intOf]; omega
              | false =>
                have hla : Op.bytesLess la.toList x.f0.toList = true := HLA.out (by omega)

                go_wp2_with (first
                  | ((with_reducible refine gate_dst (N := 17) rfl ?_); refine box_event ?hg (N := 17) ?hd (cs := #[.string ⟨#[]⟩, .slice none 0 0]) (t := 62) ?hr ?_; (case hd => rfl); (case hg => rfl); (case hr => first | (go_simp; done) | (go_simp; rfl)); intro g7 hg wa hbox hb; have HBa := Aside0.mk hb; have GE7 := Aside0.mk (show wr.heap.size ≤ g7 by rw [hg]; exact Nat.le_refl _); have BKa := Aside0.mk hbox; have z0 := (blk_cell hbox 0).trans (show _ = some (Value.string ⟨#[]⟩) from rfl); have y0 := blk_frozen hbox 0; have z1 := (blk_cell hbox 1).trans (show _ = some (Value.slice none 0 0) from rfl); have y1 := blk_frozen hbox 1; clear hbox hb hg)
                  | ((with_reducible refine gate_store (t := 62) (p := 17) rfl ?_); refine store_event (t := 62) (p := 17) (v := ?vo1_) (w1 := (wa.setCell ⟨g7, 0, none⟩ (.string x.f0)).setCell ⟨g7, 1, none⟩ (.slice A2 x.f1.length c2)) ?hg ?ho ?hn ?hr ?_; (case ho => rfl); (case hg => rfl); (case hn => rfl); (case hr => first | (go_simp; done) | (go_simp; rfl)); intro wb hw; have HBx := Aside0.mk (show Below wr.heap.size wr wb by rw [hw]; exact (below_set (below_set HBa.out GE7.out) GE7.out)); have BKx := Aside0.mk (show wb.heap[g7]? = some (.cells #[.string x.f0, .slice A2 x.f1.length c2] 62 (0, 0)) by rw [hw]; exact (blk_put (blk_put BKa.out 0 _ rfl) 1 _ rfl)); have q0 := (blk_cell BKx.out 0).trans (show _ = some (Value.string x.f0) from rfl); have q1 := (blk_cell BKx.out 1).trans (show _ = some (Value.slice A2 x.f1.length c2) from rfl); have HSr := Aside0.mk (HS8.out.below (HB.out.trans (HBx.out.mono HB.out.size))); clear hw z0 z1 y0 y1 HBa BKa e0 e1)
                  | (go_at_call 43; (with_reducible refine (read_as HSr HG1 ⟨by decide⟩ x.f0 HKx at_ x.f1 true HRx).mono ?_); rintro e wd ⟨⟨A9, c9, rfl, hl9, hF9⟩, hb⟩; have HF9 := Aside0.mk hF9; have HL9 := Aside0.mk hl9; have BKy := Aside0.mk (blk_below BKx.out hb); have HBd := Aside0.mk (below_step HBx.out hb); clear q0 q1; have q0 := (blk_cell BKy.out 0).trans (show _ = some (Value.string x.f0) from rfl); have q1 := (blk_cell BKy.out 1).trans (show _ = some (Value.slice A2 x.f1.length c2) from rfl); clear hb hF9 hl9)
                  | (go_at_call 25; (with_reducible refine (conductorref01_Equal.calls _ _ x.f1 _ _ x.f1 true _ ?s0 HL9.out ?s1 HL2.out (equal_refl x.f1)).mono ?_); (case s0 => exact Kd.F_now HF9.out); (case s1 => exact Kd.C_below HG2.out HBd.out); rintro e we ⟨rfl, hb⟩; have HBe := Aside0.mk (below_step HBd.out hb.below); have BKz := Aside0.mk (blk_below BKy.out hb.below); clear q0 q1; have q0 := (blk_cell BKz.out 0).trans (show _ = some (Value.string x.f0) from rfl); have q1 := (blk_cell BKz.out 1).trans (show _ = some (Value.slice A2 x.f1.length c2) from rfl); clear hb))
                go_round
                case rel => exact ⟨i + 1, x.f0, _, by go_num, hlt, rfl, ⟨fun _ h1_ => by have := scan_order HG1.out lo hi at_ HL.out i h1_; rw [HX.out] at this; exact this⟩, rfl, ⟨any_step L hlt key HX.out HTH.out⟩, ⟨HB.out.trans (HBe.out.mono HB.out.size)⟩⟩
                case measure => simp [intOf]; omega
            | false =>
              cases th with
              | true =>
                have hla : Op.bytesLess la.toList x.f0.toList = true := HLA.out (by omega)
                have hu : Op.bytesLess x.f0.toList hi.toList = true := by simpa [hz] using he2
                go_wp2_with (first
                  | ((with_reducible refine gate_dst (N := 17) rfl ?_); refine box_event ?hg (N := 17) ?hd (cs := #[.string ⟨#[]⟩, .slice none 0 0]) (t := 62) ?hr ?_; (case hd => rfl); (case hg => rfl); (case hr => first | (go_simp; done) | (go_simp; rfl)); intro g7 hg wa hbox hb; have HBa := Aside0.mk hb; have GE7 := Aside0.mk (show wr.heap.size ≤ g7 by rw [hg]; exact Nat.le_refl _); have BKa := Aside0.mk hbox; have z0 := (blk_cell hbox 0).trans (show _ = some (Value.string ⟨#[]⟩) from rfl); have y0 := blk_frozen hbox 0; have z1 := (blk_cell hbox 1).trans (show _ = some (Value.slice none 0 0) from rfl); have y1 := blk_frozen hbox 1; clear hbox hb hg)
                  | ((with_reducible refine gate_store (t := 62) (p := 17) rfl ?_); refine store_event (t := 62) (p := 17) (v := ?vo1_) (w1 := (wa.setCell ⟨g7, 0, none⟩ (.string x.f0)).setCell ⟨g7, 1, none⟩ (.slice A2 x.f1.length c2)) ?hg ?ho ?hn ?hr ?_; (case ho => rfl); (case hg => rfl); (case hn => rfl); (case hr => first | (go_simp; done) | (go_simp; rfl)); intro wb hw; have HBx := Aside0.mk (show Below wr.heap.size wr wb by rw [hw]; exact (below_set (below_set HBa.out GE7.out) GE7.out)); have BKx := Aside0.mk (show wb.heap[g7]? = some (.cells #[.string x.f0, .slice A2 x.f1.length c2] 62 (0, 0)) by rw [hw]; exact (blk_put (blk_put BKa.out 0 _ rfl) 1 _ rfl)); have q0 := (blk_cell BKx.out 0).trans (show _ = some (Value.string x.f0) from rfl); have q1 := (blk_cell BKx.out 1).trans (show _ = some (Value.slice A2 x.f1.length c2) from rfl); have HSr := Aside0.mk (HS8.out.below (HB.out.trans (HBx.out.mono HB.out.size))); clear hw z0 z1 y0 y1 HBa BKa e0 e1)
                  | (go_at_call 43; (with_reducible refine (read_as HSr HG1 ⟨by decide⟩ x.f0 HKx at_ x.f1 true HRx).mono ?_); rintro e wd ⟨⟨A9, c9, rfl, hl9, hF9⟩, hb⟩; have HF9 := Aside0.mk hF9; have HL9 := Aside0.mk hl9; have BKy := Aside0.mk (blk_below BKx.out hb); have HBd := Aside0.mk (below_step HBx.out hb); clear q0 q1; have q0 := (blk_cell BKy.out 0).trans (show _ = some (Value.string x.f0) from rfl); have q1 := (blk_cell BKy.out 1).trans (show _ = some (Value.slice A2 x.f1.length c2) from rfl); clear hb hF9 hl9)
                  | (go_at_call 25; (with_reducible refine (conductorref01_Equal.calls _ _ x.f1 _ _ x.f1 true _ ?s0 HL9.out ?s1 HL2.out (equal_refl x.f1)).mono ?_); (case s0 => exact Kd.F_now HF9.out); (case s1 => exact Kd.C_below HG2.out HBd.out); rintro e we ⟨rfl, hb⟩; have HBe := Aside0.mk (below_step HBd.out hb.below); have BKz := Aside0.mk (blk_below BKy.out hb.below); clear q0 q1; have q0 := (blk_cell BKz.out 0).trans (show _ = some (Value.string x.f0) from rfl); have q1 := (blk_cell BKz.out 1).trans (show _ = some (Value.slice A2 x.f1.length c2) from rfl); clear hb))
                go_round
                case rel => exact ⟨i + 1, x.f0, _, by go_num, hlt, rfl, ⟨fun _ h1_ => by have := scan_order HG1.out lo hi at_ HL.out i h1_; rw [HX.out] at this; exact this⟩, rfl, ⟨any_step L hlt key HX.out HTH.out⟩, ⟨HB.out.trans (HBe.out.mono HB.out.size)⟩⟩
                case measure => simp [intOf]; omega
              | false =>
                have hla : Op.bytesLess la.toList x.f0.toList = true := HLA.out (by omega)
                have hu : Op.bytesLess x.f0.toList hi.toList = true := by simpa [hz] using he2
                go_wp2_with (first
                  | ((with_reducible refine gate_dst (N := 17) rfl ?_); refine box_event ?hg (N := 17) ?hd (cs := #[.string ⟨#[]⟩, .slice none 0 0]) (t := 62) ?hr ?_; (case hd => rfl); (case hg => rfl); (case hr => first | (go_simp; done) | (go_simp; rfl)); intro g7 hg wa hbox hb; have HBa := Aside0.mk hb; have GE7 := Aside0.mk (show wr.heap.size ≤ g7 by rw [hg]; exact Nat.le_refl _); have BKa := Aside0.mk hbox; have z0 := (blk_cell hbox 0).trans (show _ = some (Value.string ⟨#[]⟩) from rfl); have y0 := blk_frozen hbox 0; have z1 := (blk_cell hbox 1).trans (show _ = some (Value.slice none 0 0) from rfl); have y1 := blk_frozen hbox 1; clear hbox hb hg)
                  | ((with_reducible refine gate_store (t := 62) (p := 17) rfl ?_); refine store_event (t := 62) (p := 17) (v := ?vo1_) (w1 := (wa.setCell ⟨g7, 0, none⟩ (.string x.f0)).setCell ⟨g7, 1, none⟩ (.slice A2 x.f1.length c2)) ?hg ?ho ?hn ?hr ?_; (case ho => rfl); (case hg => rfl); (case hn => rfl); (case hr => first | (go_simp; done) | (go_simp; rfl)); intro wb hw; have HBx := Aside0.mk (show Below wr.heap.size wr wb by rw [hw]; exact (below_set (below_set HBa.out GE7.out) GE7.out)); have BKx := Aside0.mk (show wb.heap[g7]? = some (.cells #[.string x.f0, .slice A2 x.f1.length c2] 62 (0, 0)) by rw [hw]; exact (blk_put (blk_put BKa.out 0 _ rfl) 1 _ rfl)); have q0 := (blk_cell BKx.out 0).trans (show _ = some (Value.string x.f0) from rfl); have q1 := (blk_cell BKx.out 1).trans (show _ = some (Value.slice A2 x.f1.length c2) from rfl); have HSr := Aside0.mk (HS8.out.below (HB.out.trans (HBx.out.mono HB.out.size))); clear hw z0 z1 y0 y1 HBa BKa e0 e1)
                  | (go_at_call 43; (with_reducible refine (read_as HSr HG1 ⟨by decide⟩ x.f0 HKx at_ x.f1 true HRx).mono ?_); rintro e wd ⟨⟨A9, c9, rfl, hl9, hF9⟩, hb⟩; have HF9 := Aside0.mk hF9; have HL9 := Aside0.mk hl9; have BKy := Aside0.mk (blk_below BKx.out hb); have HBd := Aside0.mk (below_step HBx.out hb); clear q0 q1; have q0 := (blk_cell BKy.out 0).trans (show _ = some (Value.string x.f0) from rfl); have q1 := (blk_cell BKy.out 1).trans (show _ = some (Value.slice A2 x.f1.length c2) from rfl); clear hb hF9 hl9)
                  | (go_at_call 25; (with_reducible refine (conductorref01_Equal.calls _ _ x.f1 _ _ x.f1 true _ ?s0 HL9.out ?s1 HL2.out (equal_refl x.f1)).mono ?_); (case s0 => exact Kd.F_now HF9.out); (case s1 => exact Kd.C_below HG2.out HBd.out); rintro e we ⟨rfl, hb⟩; have HBe := Aside0.mk (below_step HBd.out hb.below); have BKz := Aside0.mk (blk_below BKy.out hb.below); clear q0 q1; have q0 := (blk_cell BKz.out 0).trans (show _ = some (Value.string x.f0) from rfl); have q1 := (blk_cell BKz.out 1).trans (show _ = some (Value.slice A2 x.f1.length c2) from rfl); clear hb))
                go_round
                case rel => exact ⟨i + 1, x.f0, _, by go_num, hlt, rfl, ⟨fun _ h1_ => by have := scan_order HG1.out lo hi at_ HL.out i h1_; rw [HX.out] at this; exact this⟩, rfl, ⟨any_step L hlt key HX.out HTH.out⟩, ⟨HB.out.trans (HBe.out.mono HB.out.size)⟩⟩
                case measure => simp [intOf]; omega
        · have hie : i = L.length := by omega
          subst hie
          have hS9 := HS8.out.below HB.out
          have HS9 := Aside0.mk hS9
          clear hS9
          have hth := HTH.out
          rw [List.take_length, scan_any HG1.out lo hi key at_ HL.out] at hth
          obtain ⟨⟨r1, r2⟩, hr⟩ : ∃ r, getF (s1.ch key) at_ = r := ⟨_, rfl⟩
          rw [hr] at hth
          have HR := Aside0.mk hr
          clear hr
          cases r2 <;> cases hq1 : Op.bytesLess key.toList lo.toList <;> cases hq2 : hi.toList.isEmpty <;> cases hq3 : Op.bytesLess key.toList hi.toList <;> (simp only [hq1, hq2, hq3, Bool.not_true, Bool.not_false, Bool.and_true, Bool.and_false, Bool.true_and, Bool.false_and, Bool.or_true, Bool.or_false, Bool.true_or, Bool.false_or] at hth; subst hth; go_wp2_with (go_at_call 43; (with_reducible refine (read_as HS9 HG1 ⟨by decide⟩ key HK at_ r1 _ HR).mono ?_); rintro e w9 ⟨⟨A9, c9, rfl, hl9, hF9⟩, hb⟩; have HB9 := Aside0.mk (below_step (HB8.out.trans (HB.out.mono HB8.out.size)) hb); clear hb hF9 hl9); go_ret; exact ⟨rfl, HB9.out⟩)
theorem scans_all (A0 : Option Addr) (c0 : Nat) (l0 : List S55) (lo hi key : ByteArray) (at_ : Int) (w : World) (hC0 : Kd.C k55 w A0 l0.length l0) (hl0 : l0.length ≤ c0) (hm0 : ∀ o ∈ l0, o.f1.length ≤ 9223372036854775807) :
    Calls Try.prog 10 #[.slice A0 l0.length c0, .string lo, .string hi, .string key, .int .u64 at_] w fun e w' => e = .returned (.bool true) ∧ Below w.heap.size w w' := by
  by_cases h : fewB l0 = true ∧ lo.size ≤ 300 ∧ hi.size ≤ 300 ∧ key.size ≤ 300
  · exact scans_main A0 c0 l0 lo hi key at_ w hC0 hl0 hm0 h.1 h.2.1 h.2.2.1 h.2.2.2
  · exact scans_few A0 c0 l0 lo hi key at_ w hC0 hl0 hm0 _ rfl h
end Go.Proofs.Yteofdgonpbmdlaa.St
