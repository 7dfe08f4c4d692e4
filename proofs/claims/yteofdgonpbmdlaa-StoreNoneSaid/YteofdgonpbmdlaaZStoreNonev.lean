/- Texts of this session, merged for the law StoreNone: C30, TU, TV, PE, UB, PG, PH, UJ, PI, PJ, UO, TI, UR, UT, US, UM. No condition. -/
import Derived.Test.YteofdgonpbmdlaaZStoreNoneo
import Derived.Test.YteofdgonpbmdlaaZStoreNoneu
import Derived.Laws.IdiomStrings
import Derived.Test.YteofdgonpbmdlaaZStoreNonet
import Derived.Test.YteofdgonpbmdlaaZStoreNonep
import Derived.Test.YteofdgonpbmdlaaZStoreNoneq
set_option linter.unusedVariables false
set_option linter.unusedSimpArgs false
namespace Go.Proofs.Yteofdgonpbmdlaa.C
open Go.RowKit Go.Proofs.YteofdgonpbmdlaaW.PrintWords Go.Proofs.YteofdgonpbmdlaaW.PrintLast Go.Proofs.YteofdgonpbmdlaaW.PrintMore
attribute [local go_sem] max2_int min2_int max2_str min2_str str_leq str_gtr str_geq max_two min_two max_three min_three max_four min_four   -- for this text's walks alone
set_option linter.unusedVariables false
set_option linter.unusedSimpArgs false
def conductorlaw08_Big.f  : Option (Int × Int × Int × Int × Int × Int × Int) := some (1000, 10000, 1048576, 1000, 1000, 16, 1099511627776)
set_option maxHeartbeats 8000000 in
set_option maxRecDepth 100000 in
theorem conductorlaw08_Big.calls  (r1 : Int) (r2 : Int) (r3 : Int) (r4 : Int) (r5 : Int) (r6 : Int) (r7 : Int) (w : World) (h : conductorlaw08_Big.f  = some (r1, r2, r3, r4, r5, r6, r7)) :
  Calls Try.prog 40 #[] w fun e w' => e = .returned (.agg #[.int .i64 r1, .int .i64 r2, .int .i64 r3, .int .i64 r4, .int .i64 r5, .int .i64 r6, .int .u64 r7]) ∧ Below w.heap.size w w' := by
 have hu51 := Try.underlying51
 have HB := Aside0.mk (Below.refl w.heap.size w)
 have H : (some (1000, 10000, 1048576, 1000, 1000, 16, 1099511627776)) = some (r1, r2, r3, r4, r5, r6, r7) := h
 clear h
 simp only [Option.some.injEq, Prod.mk.injEq] at H
 obtain ⟨rfl, rfl, rfl, rfl, rfl, rfl, rfl⟩ := H
 go_enter Try.func40, Try.ntmps40
 go_wp2_with (first | ((with_reducible refine gate_dst (N := 0) rfl ?_); refine box_event ?hg (N := 0) ?hd (cs := #[.int .i64 0, .int .i64 0, .int .i64 0, .int .i64 0, .int .i64 0, .int .i64 0, .int .u64 0]) (t := 51) ?hr ?_; (case hd => rfl); (case hg => rfl); (case hr => first | (go_simp; done) | (go_simp; rfl)); intro gb390 hg w1 hbox hb; have n0_ := Aside0.mk (below_step (by repeat (first | (with_reducible first | exact HB.out | apply below_alloc | apply pw_below_drewN | apply below_drew1) | exact HB.out)) hb); have n1_ := Aside0.mk (hbox); have n2_ := Aside0.mk ((by rw [hg]; exact (below_size (by repeat (first | (with_reducible first | exact HB.out | apply below_alloc | apply pw_below_drewN | apply below_drew1) | exact HB.out))) : w.heap.size ≤ gb390)); have n3_ := Aside0.mk ((by rw [hg]; exact (below_size (by repeat (first | (with_reducible first | exact HB.out | apply below_alloc | apply pw_below_drewN | apply below_drew1) | exact HB.out))) : w.heap.size ≤ gb390)); clear HB; have HB := n0_; have BK390 := n1_; have GW390 := n2_; have GE390 := n3_; clear n0_ n1_ n2_ n3_; clear hb hbox hg; have hcz2_0 : w1.cell? ⟨gb390, 0, none⟩ = some (.int .i64 0) := (blk_cell BK390.out 0).trans rfl; have hcz2_1 : w1.cell? ⟨gb390, 1, none⟩ = some (.int .i64 0) := (blk_cell BK390.out 1).trans rfl; have hcz2_2 : w1.cell? ⟨gb390, 2, none⟩ = some (.int .i64 0) := (blk_cell BK390.out 2).trans rfl; have hcz2_3 : w1.cell? ⟨gb390, 3, none⟩ = some (.int .i64 0) := (blk_cell BK390.out 3).trans rfl; have hcz2_4 : w1.cell? ⟨gb390, 4, none⟩ = some (.int .i64 0) := (blk_cell BK390.out 4).trans rfl; have hcz2_5 : w1.cell? ⟨gb390, 5, none⟩ = some (.int .i64 0) := (blk_cell BK390.out 5).trans rfl; have hcz2_6 : w1.cell? ⟨gb390, 6, none⟩ = some (.int .u64 0) := (blk_cell BK390.out 6).trans rfl; have hfz2_0 := blk_frozen BK390.out 0; have hfz2_1 := blk_frozen BK390.out 1; have hfz2_2 := blk_frozen BK390.out 2; have hfz2_3 := blk_frozen BK390.out 3; have hfz2_4 := blk_frozen BK390.out 4; have hfz2_5 := blk_frozen BK390.out 5; have hfz2_6 := blk_frozen BK390.out 6))
 refine bodyPost_ret (results_cell_row rfl _ _ gb390 51 #[.int .i64 1000, .int .i64 10000, .int .i64 1048576, .int .i64 1000, .int .i64 1000, .int .i64 16, .int .u64 1099511627776] (0, 0) _ rfl (by (with_reducible repeat (first | refine blk_drewN ?_ _ | refine blk_drew ?_ | refine blk_alloc ?_ _)); refine blk_put (cs := #[.int .i64 1000, .int .i64 10000, .int .i64 1048576, .int .i64 1000, .int .i64 1000, .int .i64 16, .int .u64 0]) ?_ 6 _ rfl; (with_reducible repeat (first | refine blk_drewN ?_ _ | refine blk_drew ?_ | refine blk_alloc ?_ _)); refine blk_put (cs := #[.int .i64 1000, .int .i64 10000, .int .i64 1048576, .int .i64 1000, .int .i64 1000, .int .i64 0, .int .u64 0]) ?_ 5 _ rfl; (with_reducible repeat (first | refine blk_drewN ?_ _ | refine blk_drew ?_ | refine blk_alloc ?_ _)); refine blk_put (cs := #[.int .i64 1000, .int .i64 10000, .int .i64 1048576, .int .i64 1000, .int .i64 0, .int .i64 0, .int .u64 0]) ?_ 4 _ rfl; (with_reducible repeat (first | refine blk_drewN ?_ _ | refine blk_drew ?_ | refine blk_alloc ?_ _)); refine blk_put (cs := #[.int .i64 1000, .int .i64 10000, .int .i64 1048576, .int .i64 0, .int .i64 0, .int .i64 0, .int .u64 0]) ?_ 3 _ rfl; (with_reducible repeat (first | refine blk_drewN ?_ _ | refine blk_drew ?_ | refine blk_alloc ?_ _)); refine blk_put (cs := #[.int .i64 1000, .int .i64 10000, .int .i64 0, .int .i64 0, .int .i64 0, .int .i64 0, .int .u64 0]) ?_ 2 _ rfl; (with_reducible repeat (first | refine blk_drewN ?_ _ | refine blk_drew ?_ | refine blk_alloc ?_ _)); refine blk_put (cs := #[.int .i64 1000, .int .i64 0, .int .i64 0, .int .i64 0, .int .i64 0, .int .i64 0, .int .u64 0]) ?_ 1 _ rfl; (with_reducible repeat (first | refine blk_drewN ?_ _ | refine blk_drew ?_ | refine blk_alloc ?_ _)); refine blk_put (cs := #[.int .i64 0, .int .i64 0, .int .i64 0, .int .i64 0, .int .i64 0, .int .i64 0, .int .u64 0]) ?_ 0 _ rfl; (with_reducible repeat (first | refine blk_drewN ?_ _ | refine blk_drew ?_ | refine blk_alloc ?_ _)); exact BK390.out) Try.underlying51 rfl (by kernel_rfl)) rfl ?_
 exact ⟨by first | rfl | (simp [errW_none, errW_some] <;> rfl) | (simp [*, errW_none, errW_some] <;> rfl), by repeat (first | (with_reducible first | exact HB.out | apply below_alloc | apply pw_below_drewN | apply below_drew1 | refine below_set ?_ GE390.out) | exact HB.out)⟩
-- NOT PRINTED: function 70 (store_Store_is)
-- NOT PRINTED: function 72 (store_Store_chain)
-- NOT PRINTED: function 43 (store_Store_Read)
-- NOT PRINTED: function 49 (store_Store_Collect)
-- NOT PRINTED: function 74 (slices_Clone_string_string)
-- NOT PRINTED: function 50 (store_Store_Keys)
-- NOT PRINTED: function 52 (store_New)
end Go.Proofs.Yteofdgonpbmdlaa.C
namespace Go.Proofs.Yteofdgonpbmdlaa.St
open Go.RowKit Go.Maps Go.Proofs.YteofdgonpbmdlaaW.PrintWords Go.Proofs.YteofdgonpbmdlaaW.PrintLast Go.Proofs.YteofdgonpbmdlaaW.PrintMore Go.Proofs.Yteofdgonpbmdlaa.C Go.Proofs.Yteofdgonpbmdlaa.Pure
attribute [local go_sem] max2_int min2_int max2_str min2_str str_leq str_gtr str_geq max_two min_two max_three min_three max_four min_four
theorem good_new (l0 l1 l2 l3 l4 l5 last : Int) (h1 : 0 ≤ last) (h2 : last ≤ 18446744073709551615) : Good 0 (noStore l0 l1 l2 l3 l4 l5 last) where
  rg := fun _ => rfl
  ln := fun _ => Nat.le_refl _
  dl := fun _ v hv => by cases hv
  tm := fun _ v hv => by cases hv
  so := List.Pairwise.nil
  me := fun key => by simp [noStore]
  ks := fun key hk => by cases hk
  kn := Nat.le_refl _
  n0 := Int.le_refl _
  n1 := h1
  la := h2
section
variable {W : World} {base p : Nat} {B : Nat → Prop} {s : SS} {kv : Value} {mb n : Nat} {D : DataW Value}
theorem commit_P (h : Aside0 (StoreAt W base B p s kv mb n D)) {m : Nat} (g : Aside0 (Good m s)) (hm : Aside0 (m ≤ 800)) (l : List S102) (hl : Aside0 (l.length ≤ 20)) (hk : Aside0 (∀ x ∈ l, x.f0.size ≤ maxLen)) (low : Int) (okA : Nat → Prop) (hokA : Aside0 (∀ k, okA k → k < W.heap.size ∧ ¬ Own p mb kv k)) (A : Option Addr) (c0 : Nat) (hF : Aside0 (Kd.F k102 W okA A l.length l)) (hlc : Aside0 (l.length ≤ c0)) (hn : Aside0 (n + 20000 < maxLen)) :
    Calls Try.prog 61 #[.pointer (some ⟨p, 0, none⟩), .slice A l.length c0, .int .u64 low] W (ComPost W base B p kv mb n (comP s l low) 20000) := by
  refine (commit_calls h okA hokA A c0 l hF hlc low _ _ _ _ ⟨g.out.ask hm.out hl.out hk.out low⟩ ⟨by have := g.out.kn; have := hm.out; have := hl.out; have := hn.out; omega⟩).mono ?_
  rintro e w' ⟨h1, kv', n', D', h2, h3, h4⟩
  exact ⟨h1, kv', n', D', h2, by have := g.out.kn; have := hm.out; have := hl.out; omega, h4⟩
theorem collect_P (h : Aside0 (StoreAt W base B p s kv mb n D)) {m : Nat} (g : Aside0 (Good m s)) (hm : Aside0 (m ≤ 800)) (low : Int) (hn : Aside0 (n + 20000 < maxLen)) :
    Calls Try.prog 49 #[.pointer (some ⟨p, 0, none⟩), .int .u64 low] W fun e w' => e = .returned (.int .i64 (wentP s low)) ∧ ∃ kv' n' D', StoreAt w' base B p (colP s low) kv' mb n' D' ∧ n' ≤ n + 20000 ∧ Turn base (Own p mb kv) W w' ∧ (∀ k, kv'.ownBlock = some k → kv.ownBlock = some k ∨ W.heap.size ≤ k) := by
  have hkn := g.out.kn
  have hm' := hm.out
  have hn' := hn.out
  refine (store_Collect.calls h low (tfP s low) (zfP s low) ⟨by omega⟩ ⟨fun key hk => size256 (g.out.ks key hk)⟩ ⟨g.out.so.nodup⟩ ⟨fun key _ => g.out.trim hm.out key low⟩ ⟨fun key _ => g.out.size hm.out key low⟩ ⟨by omega⟩).mono ?_
  rintro e w' ⟨rfl, kv', n', D', h1, h2, h3, h4⟩
  exact ⟨rfl, kv', n', D', h1, by omega, h3.mono (fun k hk => hk.elim .inl (fun e => .inr (.inl e))), h4⟩
theorem read_P (h : Aside0 (StoreAt W base B p s kv mb n D)) {m : Nat} (g : Aside0 (Good m s)) (hm : Aside0 (m ≤ 800)) (key : ByteArray) (hk : Aside0 (key.size ≤ maxLen)) (a : Int) :
    Calls Try.prog 43 #[.pointer (some ⟨p, 0, none⟩), .string key, .int .u64 a] W fun e w' => (∃ A c, e = .returned (.tuple #[.slice A (getF (s.ch key) a).1.length c, .bool (getF (s.ch key) a).2]) ∧ (getF (s.ch key) a).1.length ≤ c ∧ Kd.F (Kd.int .u8) w' (fun k => W.heap.size ≤ k) A (getF (s.ch key) a).1.length (getF (s.ch key) a).1) ∧ Below W.heap.size W w' := by
  refine (store_Read.calls h key hk a _ _ ⟨g.out.get hm.out key a⟩).mono ?_
  rintro e w' ⟨v, rfl, ho, hb⟩
  obtain ⟨A, c, rfl⟩ := Kd.R_slice ho
  exact ⟨⟨A, c, rfl, (Kd.R_reads' ho).2.1, Kd.R_F (Kd.R_mono (Kd.R_bound ho) (fun k hk_ => hk_.2.1))⟩, hb⟩
theorem scan_P (h : Aside0 (StoreAt W base B p s kv mb n D)) {m : Nat} (g : Aside0 (Good m s)) (hm : Aside0 (m ≤ 800)) (lo hi : ByteArray) (a : Int) :
    Calls Try.prog 42 #[.pointer (some ⟨p, 0, none⟩), .string lo, .string hi, .int .u64 a] W fun e w' => (∃ A c, e = .returned (.slice A (scanP s lo hi a).length c) ∧ (scanP s lo hi a).length ≤ c ∧ Kd.F k62 w' (fun k => W.heap.size ≤ k) A (scanP s lo hi a).length (scanP s lo hi a)) ∧ Below W.heap.size W w' := by
  have hkn := g.out.kn
  have hm' := hm.out
  refine (store_Scan.calls h ⟨by omega⟩ ⟨fun key hk => size256 (g.out.ks key hk)⟩ lo hi a (fun k => getF (s.ch k) a) ⟨fun key _ => g.out.get hm.out key a⟩).mono ?_
  rintro e w' ⟨v, rfl, ho, hb⟩
  obtain ⟨A, c, rfl⟩ := Kd.N_slice ho
  exact ⟨⟨A, c, rfl, (Kd.N_reads' ho).2.1, Kd.N_F ho⟩, hb⟩
end
def sBig : SS := noStore 1000 10000 1048576 1000 1000 16 1099511627776
def kA : ByteArray := ⟨#[97]⟩
def wA : List S102 := [⟨kA, false, [120]⟩]
def wB : List S102 := [⟨kA, true, []⟩]
def sA : SS := (comP sBig wA 0).2.2
def sB : SS := (comP sA wB 0).2.2
theorem big_good : Good 0 sBig := good_new _ _ _ _ _ _ _ (by decide) (by decide)
theorem exA : (comP sBig wA 0).1 = 1 ∧ (comP sBig wA 0).2.1 = 0 := by decide +kernel
theorem exB : (comP sA wB 0).1 = 2 ∧ (comP sA wB 0).2.1 = 0 := by decide +kernel
theorem exR1 : getF (sB.ch kA) 1 = ([120], true) := by decide +kernel
theorem exR2 : getF (sB.ch kA) 2 = ([], false) := by decide +kernel
theorem exC : wentP sB 2 = 2 := by decide +kernel
theorem exK : (colP sB 2).keys = [] := by decide +kernel
theorem sA_good : Good 1 sA := big_good.com (by decide) 0
theorem sB_good : Good 2 sB := sA_good.com (by decide) 0
theorem big_f : conductorlaw08_Big.f = some (1000, 10000, 1048576, 1000, 1000, 16, 1099511627776) := by kernel_rfl
theorem conv_x (w : World) : ∃ g cap w1, (convert 9 26 (.string ⟨#[120]⟩)).run Try.prog w = .ok (.slice (some ⟨g, 0, none⟩) 1 cap) w1 ∧ 1 ≤ cap ∧ w.heap.size ≤ g ∧ Below w.heap.size w w1 ∧ Kd.F (Kd.int .u8) w1 (fun k => k = g) (some ⟨g, 0, none⟩) 1 [120] := by
  have hr := run_bytes_of_string (P := Try.prog) w 9 26 5 ⟨#[120]⟩ Try.underlying9 Try.underlying26 Try.underlying5
  refine ⟨_, _, _, hr, grownCap_ge w 1 0 5, Nat.le_refl _, ((Below.refl _ w).drew).alloc (Nat.le_refl _) _, fun W' hW => ⟨rfl, by decide, fun _ => ⟨_, rfl, fun j q hj => ?_⟩⟩⟩
  have hb := hW w.heap.size rfl (by simp)
  have hn := heap_alloc_new w.drew (.cells (bytesRow ⟨#[120]⟩ (grownCap w 1 0 5)) 5 ((bytesRow ⟨#[120]⟩ (grownCap w 1 0 5)).size, (bytesRow ⟨#[120]⟩ (grownCap w 1 0 5)).size + 1))
  cases j with
  | succ j => simp at hj
  | zero =>
    simp only [List.getElem?_cons_zero, Option.some.injEq] at hj
    subst hj
    refine ⟨[.int .u8 120], rfl, rfl, fun i u hi => ?_⟩
    cases i with
    | succ i => simp at hi
    | zero =>
      simp only [List.getElem?_cons_zero, Option.some.injEq] at hi
      subst hi
      have := cell_of_row W' w.heap.size 0 _ _ _ (hb.trans hn)
      simp only [Nat.zero_mul, Nat.add_zero]
      rw [show (Addr.add ⟨w.heap.size, 0, none⟩ 0) = ⟨w.heap.size, 0, none⟩ from by simp [Addr.add]]
      rw [this]
      simp only [bytesRow]
      rw [Array.getElem?_append_left (by simp)]
      simp
set_option maxRecDepth 100000 in
set_option maxHeartbeats 4000000 in
theorem put_ax (w : World) : Calls Try.prog 68 #[.string ⟨#[97]⟩, .string ⟨#[120]⟩] w fun e w' => (∃ A c, e = .returned (.slice A wA.length c) ∧ wA.length ≤ c ∧ Kd.F k102 w' (fun k => w.heap.size ≤ k) A wA.length wA) ∧ Below w.heap.size w w' := by
  obtain ⟨g, cap, w1, hrun, hc, hg, hb, hF⟩ := conv_x w
  have HB := Aside0.mk hb
  have HF := Aside0.mk hF
  have HG := Aside0.mk hg
  have HC := Aside0.mk hc
  clear hb hF hg hc
  go_enter Try.func68, Try.ntmps68
  go_wp2_with ((with_reducible refine gate_dst (N := 9) rfl ?_); refine Kd.N_lit k102 (w0 := w) w.heap.size 102 ?hg (N' := 9) ?hd (xs := wA) (inner := [.string ⟨#[97]⟩, .bool false, .slice (some ⟨g, 0, none⟩) 1 cap]) (ok := fun k => w.heap.size ≤ k) (okp := fun k => w.heap.size ≤ k) ?hr ?hp (fun _ hk => hk) HB.out.size HB.out HB.out.size (by decide) ?_; (case hd => rfl); (case hg => rfl); (case hr => first | (go_simp; done) | (go_simp; rfl)); (case hp => exact (Reps.c3 (show Kd.FK k102 _ _ (⟨kA, false, [120]⟩ : S102) [.string ⟨#[97]⟩, .bool false, .slice (some ⟨g, 0, none⟩) 1 cap] from k102_mkF _ _ (⟨kA, false, [120]⟩ : S102) HC.out (Kd.F_mono HF.out (fun k hk => by rw [hk]; exact HG.out))) (Reps.none _ _))); intro v2 w2 ho hb2 hg2 hat2; obtain ⟨A, c, ev⟩ := Kd.N_slice ho; subst ev; have HO := Aside0.mk (Kd.N_F ho); have HL := Aside0.mk (Kd.N_reads' ho).2.1; have HB2 := Aside0.mk hb2; clear ho hb2 hg2 hat2)
  go_ret
  exact ⟨⟨A, c, rfl, HL.out, HO.out⟩, HB2.out⟩
theorem _root_.Go.Proofs.Yteofdgonpbmdlaa.C.StoreAt.lowerB {W : World} {base base' p : Nat} {s : SS} {kv : Value} {mb n : Nat} {D : DataW Value} (h : StoreAt W base (fun k => base ≤ k) p s kv mb n D) (hb : base' ≤ base) (_ : base' ≤ base') : StoreAt W base' (fun k => base' ≤ k) p s kv mb n D where
  cells := h.cells
  keys := h.keys.imp (fun q => Kd.R_lower (Kd.R_mono q (fun k hk => ⟨Nat.le_trans hb hk.1, hk.2⟩)) hb) (fun ⟨e, a, h1, h2, h3⟩ => ⟨e, a, h1, ⟨Nat.le_trans hb h2.1, h2.2⟩, h3⟩)
  map := h.map
  bb := fun _ hk => hk
  bn := fun k hk => Nat.le_trans hb (h.bn k hk)
  bp := Nat.le_trans hb h.bp
  bm := Nat.le_trans hb h.bm
  pm := h.pm
  chains := fun key hk => by
    obtain ⟨A, c, h1, h2, h3⟩ := h.chains key hk
    exact ⟨A, c, h1, h2, Kd.F_mono h3 (fun k hk => ⟨Nat.le_trans hb hk.1, hk.2⟩)⟩
theorem new_big (w : World) : Calls Try.prog 52 #[.agg #[.int .i64 1000, .int .i64 10000, .int .i64 1048576, .int .i64 1000, .int .i64 1000, .int .i64 16, .int .u64 1099511627776]] w fun e w' => (∃ p mb : Nat, e = .returned (.tuple #[.pointer (some ⟨p, 0, none⟩), .int .i64 0]) ∧ StoreAt w' w.heap.size (fun k => w.heap.size ≤ k) p sBig noCh mb 0 (.map [])) ∧ Below w.heap.size w w' :=
  store_New.good 1000 10000 1048576 1000 1000 16 1099511627776 w ⟨by decide, by decide⟩ ⟨by decide, by decide⟩ ⟨by decide, by decide⟩ (by decide)
theorem commit_ax {W : World} {base p : Nat} {B : Nat → Prop} {kv : Value} {mb n : Nat} {D : DataW Value} (h : Aside0 (StoreAt W base B p sBig kv mb n D)) (okA : Nat → Prop) (hokA : Aside0 (∀ k, okA k → k < W.heap.size ∧ ¬ Own p mb kv k)) (A : Option Addr) (c0 : Nat) (hF : Aside0 (Kd.F k102 W okA A wA.length wA)) (hlc : Aside0 (wA.length ≤ c0)) (hn : Aside0 (n ≤ 100)) :
    Calls Try.prog 61 #[.pointer (some ⟨p, 0, none⟩), .slice A wA.length c0, .int .u64 0] W fun e w' => e = .returned (.tuple #[.int .u64 1, .int .i64 0]) ∧ ∃ kv' n' D', StoreAt w' base B p sA kv' mb n' D' ∧ n' ≤ n + 20000 ∧ Turn base (Own p mb kv) W w' ∧ (∀ k, kv'.ownBlock = some k → kv.ownBlock = some k ∨ W.heap.size ≤ k) := by
  refine (commit_P h ⟨big_good⟩ ⟨by decide⟩ wA ⟨by decide⟩ ⟨fun x hx => by rw [List.mem_singleton.1 hx]; decide⟩ 0 okA hokA A c0 hF hlc ⟨by have := hn.out; simp only [maxLen]; omega⟩).mono ?_
  rintro e w' ⟨rfl, rest⟩
  exact ⟨by rw [exA.1, exA.2], rest⟩
theorem commit_bx {W : World} {base p : Nat} {B : Nat → Prop} {kv : Value} {mb n : Nat} {D : DataW Value} (h : Aside0 (StoreAt W base B p sA kv mb n D)) (okA : Nat → Prop) (hokA : Aside0 (∀ k, okA k → k < W.heap.size ∧ ¬ Own p mb kv k)) (A : Option Addr) (c0 : Nat) (hF : Aside0 (Kd.F k102 W okA A wB.length wB)) (hlc : Aside0 (wB.length ≤ c0)) (hn : Aside0 (n ≤ 100000)) :
    Calls Try.prog 61 #[.pointer (some ⟨p, 0, none⟩), .slice A wB.length c0, .int .u64 0] W fun e w' => e = .returned (.tuple #[.int .u64 2, .int .i64 0]) ∧ ∃ kv' n' D', StoreAt w' base B p sB kv' mb n' D' ∧ n' ≤ n + 20000 ∧ Turn base (Own p mb kv) W w' ∧ (∀ k, kv'.ownBlock = some k → kv.ownBlock = some k ∨ W.heap.size ≤ k) := by
  refine (commit_P h ⟨sA_good⟩ ⟨by decide⟩ wB ⟨by decide⟩ ⟨fun x hx => by rw [List.mem_singleton.1 hx]; decide⟩ 0 okA hokA A c0 hF hlc ⟨by have := hn.out; simp only [maxLen]; omega⟩).mono ?_
  rintro e w' ⟨rfl, rest⟩
  exact ⟨by rw [exB.1, exB.2], rest⟩
theorem read_1 {W : World} {base p : Nat} {B : Nat → Prop} {kv : Value} {mb n : Nat} {D : DataW Value} (h : Aside0 (StoreAt W base B p sB kv mb n D)) :
    Calls Try.prog 43 #[.pointer (some ⟨p, 0, none⟩), .string ⟨#[97]⟩, .int .u64 1] W fun e w' => (∃ A c, e = .returned (.tuple #[.slice A 1 c, .bool true]) ∧ 1 ≤ c ∧ Kd.F (Kd.int .u8) w' (fun k => W.heap.size ≤ k) A 1 [120]) ∧ Below W.heap.size W w' := by
  refine (read_P h ⟨sB_good⟩ ⟨by decide⟩ kA ⟨by decide⟩ 1).mono ?_
  rintro e w' ⟨⟨A, c, rfl, h1, h2⟩, hb⟩
  rw [exR1] at h1 h2 ⊢
  exact ⟨⟨A, c, rfl, h1, h2⟩, hb⟩
theorem read_2 {W : World} {base p : Nat} {B : Nat → Prop} {kv : Value} {mb n : Nat} {D : DataW Value} (h : Aside0 (StoreAt W base B p sB kv mb n D)) :
    Calls Try.prog 43 #[.pointer (some ⟨p, 0, none⟩), .string ⟨#[97]⟩, .int .u64 2] W fun e w' => (∃ A c, e = .returned (.tuple #[.slice A 0 c, .bool false])) ∧ Below W.heap.size W w' := by
  refine (read_P h ⟨sB_good⟩ ⟨by decide⟩ kA ⟨by decide⟩ 2).mono ?_
  rintro e w' ⟨⟨A, c, rfl, h1, h2⟩, hb⟩
  rw [exR2]
  exact ⟨⟨A, c, rfl⟩, hb⟩
theorem collect_x {W : World} {base p : Nat} {B : Nat → Prop} {kv : Value} {mb n : Nat} {D : DataW Value} (h : Aside0 (StoreAt W base B p sB kv mb n D)) (hn : Aside0 (n ≤ 1000000)) :
    Calls Try.prog 49 #[.pointer (some ⟨p, 0, none⟩), .int .u64 2] W fun e w' => e = .returned (.int .i64 2) ∧ ∃ kv' n' D', StoreAt w' base B p (colP sB 2) kv' mb n' D' ∧ n' ≤ n + 20000 ∧ Turn base (Own p mb kv) W w' := by
  refine (collect_P h ⟨sB_good⟩ ⟨by decide⟩ 2 ⟨by have := hn.out; simp only [maxLen]; omega⟩).mono ?_
  rintro e w' ⟨rfl, kv', n', D', h1, h2, h3, _⟩
  exact ⟨by rw [exC], kv', n', D', h1, h2, h3⟩
theorem keys_x {W : World} {base p : Nat} {B : Nat → Prop} {kv : Value} {mb n : Nat} {D : DataW Value} (h : Aside0 (StoreAt W base B p (colP sB 2) kv mb n D)) :
    Calls Try.prog 50 #[.pointer (some ⟨p, 0, none⟩)] W fun e w' => (∃ A c, e = .returned (.slice A 0 c)) ∧ Below W.heap.size W w' := by
  refine (store_Keys.calls h ⟨by rw [exK]; decide⟩).mono ?_
  rintro e w' ⟨v, rfl, ho, hb⟩
  obtain ⟨A, c, rfl⟩ := Kd.R_slice ho
  rw [exK]
  exact ⟨⟨A, c, rfl⟩, hb⟩
set_option maxRecDepth 100000 in
set_option maxHeartbeats 8000000 in
theorem live_calls (W : World) : Calls Try.prog 37 #[] W fun e w' => e = .returned (.bool true) ∧ Below W.heap.size W w' := by
  have hsn : strOfNums [120] = (⟨#[120]⟩ : ByteArray) := by decide +kernel
  go_enter Try.func37, Try.ntmps37
  go_wp2_with (first
    | (go_at_call 40; (with_reducible refine (conductorlaw08_Big.calls _ _ _ _ _ _ _ _ big_f).mono ?_); rintro e w1 ⟨rfl, hb⟩; have HB1 := Aside0.mk hb; clear hb)
    | (go_at_call 52; (with_reducible refine (new_big _).mono ?_); rintro e w2 ⟨⟨p, mb, rfl, hS⟩, hb⟩; have HS2 := Aside0.mk (show StoreAt w2 w1.heap.size _ p sBig noCh mb 0 (.map []) from hS); have HB2 := Aside0.mk (below_step HB1.out hb); have h12 := Aside0.mk HB1.out.size; clear hS hb)
    | (go_at_call 68; (refine (put_ax _).mono ?_); rintro e w3 ⟨⟨A1, c1, rfl, hl1, hF1⟩, hb⟩; have HF3 := Aside0.mk hF1; have HL3 := Aside0.mk hl1; have HB3 := Aside0.mk (below_step HB2.out hb); have HS3 := Aside0.mk (HS2.out.below hb); clear hF1 hl1 hb)
    | (go_at_call 61; (with_reducible refine (commit_ax HS3 (fun k => w2.heap.size ≤ k ∧ k < w3.heap.size) ?s0 A1 c1 ?s1 HL3 ⟨by decide⟩).mono ?_); (case s0 => exact ⟨fun k hk_ => ⟨hk_.2, fun ho => by have := (HS2.out.own ho).2.2; omega⟩⟩); (case s1 => exact ⟨Kd.F_bound HF3.out⟩); rintro e w4 ⟨rfl, kv4, n4, D4, hS, hn, hT, hK⟩; have HS4 := Aside0.mk hS; have hn4 := Aside0.mk hn; have HB4 := Aside0.mk ((Below.mono HB3.out (Nat.le_refl _)).trans (hT.below.mono h12.out)); clear hS hn hT hK HS3 HF3)
    | ((with_reducible refine gate_dst (N := 31) rfl ?_); refine Kd.N_lit k102 (w0 := w4) w4.heap.size 102 ?hg (N' := 31) ?hd (xs := wB) (inner := [.string ⟨#[97]⟩, .bool true, .slice none 0 0]) (ok := fun k => w4.heap.size ≤ k) (okp := fun k => w4.heap.size ≤ k) ?hr ?hp (fun _ hk => hk) (Nat.le_refl _) (Below.refl _ _) (Nat.le_refl _) (by decide) ?_; (case hd => rfl); (case hg => rfl); (case hr => first | (go_simp; done) | (go_simp; rfl)); (case hp => exact (Reps.c3 (show Kd.FK k102 _ _ (⟨kA, true, []⟩ : S102) [.string ⟨#[97]⟩, .bool true, .slice none 0 0] from k102_mkF _ _ (⟨kA, true, []⟩ : S102) (Nat.le_refl _) (Kd.F_nil _ _ _)) (Reps.none _ _))); intro v5 w5 ho hb2 hg2 hat2; obtain ⟨A5, c5, ev⟩ := Kd.N_slice ho; subst ev; have HF5 := Aside0.mk (Kd.N_F ho); have HL5 := Aside0.mk (Kd.N_reads' ho).2.1; have HS5 := Aside0.mk (HS4.out.below hb2); have HB5 := Aside0.mk (below_step HB4.out hb2); clear ho hb2 hg2 hat2)
    | (go_at_call 61; (with_reducible refine (commit_bx HS5 (fun k => w4.heap.size ≤ k ∧ k < w5.heap.size) ?s0 A5 c5 ?s1 HL5 ?s2).mono ?_); (case s0 => exact ⟨fun k hk_ => ⟨hk_.2, fun ho => by have := (HS4.out.own ho).2.2; omega⟩⟩); (case s1 => exact ⟨Kd.F_bound HF5.out⟩); (case s2 => exact ⟨by have := hn4.out; omega⟩); rintro e w6 ⟨rfl, kv6, n6, D6, hS, hn, hT, hK⟩; have HS6 := Aside0.mk hS; have hn6 := Aside0.mk hn; have HB6 := Aside0.mk (HB5.out.trans (hT.below.mono h12.out)); clear hS hn hT hK HS5 HF5 HS4)
    | (go_at_call 43; (with_reducible refine (read_1 HS6).mono ?_); rintro e w7 ⟨⟨A7, c7, rfl, hl7, hF7⟩, hb⟩; have HS7 := Aside0.mk (HS6.out.below hb); have HF7 := Aside0.mk hF7; have HB7 := Aside0.mk (below_step HB6.out hb); clear hb hF7 hl7)
    | (go_at_call 43; (with_reducible refine (read_2 HS7).mono ?_); rintro e w8 ⟨⟨A8, c8, rfl⟩, hb⟩; have HS8 := Aside0.mk (HS7.out.below hb); have hcv := Kd.C_string (P := Try.prog) (A := A7) (n := 1) (c := c7) Try.underlying26 Try.underlying5 Try.underlying9 (Kd.F_now (Kd.F_below HF7.out hb)); have HB8 := Aside0.mk (below_step HB7.out hb); clear hb)
    | (go_at_call 49; (with_reducible refine (collect_x HS8 ?s0).mono ?_); (case s0 => exact ⟨by have := hn4.out; have := hn6.out; omega⟩); rintro e w9 ⟨rfl, kv9, n9, D9, hS, hn, hT⟩; have HS9 := Aside0.mk hS; have HB9 := Aside0.mk (HB8.out.trans (hT.below.mono h12.out)); clear hS hn hT)
    | (go_at_call 50; (with_reducible refine (keys_x HS9).mono ?_); rintro e w10 ⟨⟨A10, c10, rfl⟩, hb⟩; have HB10 := Aside0.mk (below_step HB9.out hb); clear hb))
  go_ret
  exact ⟨rfl, HB10.out⟩
set_option maxRecDepth 100000 in
set_option maxHeartbeats 4000000 in
theorem made_good (l0 l1 l2 l3 l4 l5 last : Int) (w : World) (h0 : Room l0) (h1 : Room l1) (h2 : Room l2) (hl : last ≠ 0) :
    Calls Try.prog 39 #[.agg #[.int .i64 l0, .int .i64 l1, .int .i64 l2, .int .i64 l3, .int .i64 l4, .int .i64 l5, .int .u64 last]] w fun e w' => (∃ p mb : Nat, e = .returned (.pointer (some ⟨p, 0, none⟩)) ∧ StoreAt w' w.heap.size (fun k => w.heap.size ≤ k) p (noStore l0 l1 l2 l3 l4 l5 last) noCh mb 0 (.map [])) ∧ Below w.heap.size w w' := by
  have hN := Aside0.mk (fun w' => store_New.good l0 l1 l2 l3 l4 l5 last w' h0 h1 h2 hl)
  clear h0 h1 h2 hl
  go_enter Try.func39, Try.ntmps39
  go_wp2_with (first
    | ((with_reducible refine gate_dst (N := 1) rfl ?_); refine box_event ?hg (N := 1) ?hd (cs := #[.int .i64 l0, .int .i64 l1, .int .i64 l2, .int .i64 l3, .int .i64 l4, .int .i64 l5, .int .u64 last]) (t := 51) ?hr ?_; (case hd => rfl); (case hg => rfl); (case hr => first | (go_simp; done) | (go_simp; rfl)); intro g1 hg w1 hbox hb; have HB1 := Aside0.mk hb; have j0 := (blk_cell hbox 0).trans (show _ = some (Value.int .i64 l0) from rfl); have j1 := (blk_cell hbox 1).trans (show _ = some (Value.int .i64 l1) from rfl); have j2 := (blk_cell hbox 2).trans (show _ = some (Value.int .i64 l2) from rfl); have j3 := (blk_cell hbox 3).trans (show _ = some (Value.int .i64 l3) from rfl); have j4 := (blk_cell hbox 4).trans (show _ = some (Value.int .i64 l4) from rfl); have j5 := (blk_cell hbox 5).trans (show _ = some (Value.int .i64 l5) from rfl); have j6 := (blk_cell hbox 6).trans (show _ = some (Value.int .u64 last) from rfl); clear hbox hb hg)
    | (go_at_call 52; (with_reducible refine (hN.out _).mono ?_); rintro e w2 ⟨⟨p, mb, rfl, hS⟩, hb⟩; have HS2 := Aside0.mk (hS.lowerB HB1.out.size (Nat.le_refl _)); have HB2 := Aside0.mk (below_step HB1.out hb); clear hS hb j0 j1 j2 j3 j4 j5 j6))
  go_ret
  exact ⟨⟨p, mb, rfl, HS2.out⟩, HB2.out⟩
theorem made_big (w : World) : Calls Try.prog 39 #[.agg #[.int .i64 1000, .int .i64 10000, .int .i64 1048576, .int .i64 1000, .int .i64 1000, .int .i64 16, .int .u64 1099511627776]] w fun e w' => (∃ p mb : Nat, e = .returned (.pointer (some ⟨p, 0, none⟩)) ∧ StoreAt w' w.heap.size (fun k => w.heap.size ≤ k) p sBig noCh mb 0 (.map [])) ∧ Below w.heap.size w w' :=
  made_good 1000 10000 1048576 1000 1000 16 1099511627776 w ⟨by decide, by decide⟩ ⟨by decide, by decide⟩ ⟨by decide, by decide⟩ (by decide)
end Go.Proofs.Yteofdgonpbmdlaa.St
namespace Go.Proofs.Yteofdgonpbmdlaa.St
open Go.RowKit Go.Proofs.YteofdgonpbmdlaaW.PrintWords Go.Proofs.Yteofdgonpbmdlaa.C Go.Proofs.Yteofdgonpbmdlaa.Pure
theorem getF_nil (a : Int) : getF [] a = ([], false) := by
  unfold getF
  rw [getV_neg (by simp; omega)]
def runP : SS → List S55 → SS
  | s, [] => s
  | s, o :: t => runP (opP s o).2 t
theorem runP_snoc (o : S55) : ∀ (l : List S55) (s : SS), runP s (l ++ [o]) = (opP (runP s l) o).2
  | [], _ => rfl
  | x :: t, s => runP_snoc o t _
theorem runP_step (s : SS) (l : List S55) (i : Nat) (hi : i < l.length) : runP s (l.take (i + 1)) = (opP (runP s (l.take i)) l[i]).2 := by
  rw [List.take_succ_eq_append_getElem hi, runP_snoc]
theorem Good.run : ∀ (l : List S55) {m : Nat} {s : SS}, Good m s → (∀ o ∈ l, FewOp o) → Good (m + l.length) (runP s l)
  | [], _, _, h, _ => h
  | o :: t, m, s, h, hf => by
    have := Good.run t (h.op (hf o (List.mem_cons_self ..))) (fun x hx => hf x (List.mem_cons_of_mem _ hx))
    exact this.mono (by simp; omega)
theorem Good.runTake {m : Nat} {s : SS} (h : Good m s) (l : List S55) (hf : ∀ o ∈ l, FewOp o) (i : Nat) : Good (m + i) (runP s (l.take i)) :=
  (Good.run _ h (fun o ho => hf o (List.mem_of_mem_take ho))).mono (by rw [List.length_take]; omega)
theorem sorted_ext : ∀ {a b : List ByteArray}, Sorted a → Sorted b → (∀ q, q ∈ a ↔ q ∈ b) → a = b
  | [], [], _, _, _ => rfl
  | [], y :: t, _, _, h => absurd ((h y).2 (List.mem_cons_self ..)) (by simp)
  | x :: t, [], _, _, h => absurd ((h x).1 (List.mem_cons_self ..)) (by simp)
  | x :: t, y :: u, ha, hb, h => by
    have ha' := List.pairwise_cons.1 ha
    have hb' := List.pairwise_cons.1 hb
    have e : x = y := by
      rcases List.mem_cons.1 ((h x).1 (List.mem_cons_self ..)) with e | hx
      · exact e
      · rcases List.mem_cons.1 ((h y).2 (List.mem_cons_self ..)) with e | hy
        · exact e.symm
        · exact absurd (ltt (ha'.1 y hy) (hb'.1 x hx)) (lti _)
    subst e
    congr 1
    refine sorted_ext ha'.2 hb'.2 (fun q => ?_)
    constructor
    · intro hq
      rcases List.mem_cons.1 ((h q).1 (List.mem_cons_of_mem _ hq)) with e | hq2
      · subst e; exact absurd (ha'.1 _ hq) (lti _)
      · exact hq2
    · intro hq
      rcases List.mem_cons.1 ((h q).2 (List.mem_cons_of_mem _ hq)) with e | hq2
      · subst e; exact absurd (hb'.1 _ hq) (lti _)
      · exact hq2
/-- Does a key lie in a stretch that ends at hi? -/
def under (hi k : ByteArray) : Bool := decide (hi.toList = []) || decide (k.toList < hi.toList)
theorem ends_under (hi k : ByteArray) : ends hi k = !under hi k := by
  unfold ends under
  rw [bl]
  by_cases h1 : hi.toList = [] <;> by_cases h2 : k.toList < hi.toList <;> simp [h1, h2]
theorem scanL_eq (gf : ByteArray → List Int × Bool) (hi : ByteArray) : ∀ ks : List ByteArray, Sorted ks → scanL gf hi ks = (ks.filter (fun k => under hi k && (gf k).2)).map (fun k => ⟨k, (gf k).1⟩)
  | [], _ => rfl
  | k :: t, hs => by
    have hs' := List.pairwise_cons.1 hs
    simp only [scanL, ends_under]
    rw [List.filter_cons]
    by_cases hu : under hi k = true
    · rw [if_neg (by simp [hu]), scanL_eq gf hi t hs'.2]
      by_cases hg : (gf k).2 = true
      · rw [if_pos hg, if_pos (by simp [hu, hg])]; rfl
      · rw [if_neg hg, if_neg (by simp [hu, hg])]
    · have hu' : under hi k = false := by simpa using hu
      rw [if_pos (by simp [hu']), if_neg (by simp [hu'])]
      have : ∀ y ∈ t, under hi y = false := fun y hy => by
        have hky := hs'.1 y hy
        unfold under at hu' ⊢
        simp only [Bool.or_eq_false_iff, decide_eq_false_iff_not] at hu' ⊢
        exact ⟨hu'.1, fun h => hu'.2 (ltt hky h)⟩
      rw [List.filter_eq_nil_iff.2 (fun y hy => by simp [this y hy])]
      rfl
theorem drop_filter {ks : List ByteArray} (hs : Sorted ks) (lo : ByteArray) : ks.drop (srchF ks lo) = ks.filter (fun k => !decide (k.toList < lo.toList)) := by
  conv => rhs; rw [← List.take_append_drop (srchF ks lo) ks]
  rw [List.filter_append, List.filter_eq_nil_iff.2 (fun k hk => by simpa using take_srch hs lo k hk), List.nil_append]
  exact (List.filter_eq_self.2 (fun k hk => by simpa using drop_srch hs lo k hk)).symm
/-- The keys that a scan has. -/
def scanK (s : SS) (lo hi : ByteArray) (a : Int) : List ByteArray := s.keys.filter (fun k => (!decide (k.toList < lo.toList)) && (under hi k && (getF (s.ch k) a).2))
theorem scanP_eq {s : SS} (hs : Sorted s.keys) (lo hi : ByteArray) (a : Int) : scanP s lo hi a = (scanK s lo hi a).map (fun k => ⟨k, (getF (s.ch k) a).1⟩) := by
  unfold scanP scanK
  have hd := drop_filter hs lo
  have hs2 : Sorted (s.keys.drop (srchF s.keys lo)) := hs.sublist (List.drop_sublist _ _)
  rw [scanL_eq _ hi _ hs2, hd, List.filter_filter]
  congr 1
  refine List.filter_congr (fun k _ => ?_)
  rw [Bool.and_comm]
theorem scanK_mem {m : Nat} {s : SS} (h : Good m s) (lo hi : ByteArray) (a : Int) (k : ByteArray) : k ∈ scanK s lo hi a ↔ ¬ k.toList < lo.toList ∧ under hi k = true ∧ (getF (s.ch k) a).2 = true := by
  unfold scanK
  rw [List.mem_filter]
  simp only [Bool.and_eq_true, Bool.not_eq_true', decide_eq_false_iff_not]
  constructor
  · rintro ⟨_, h1, h2, h3⟩; exact ⟨h1, h2, h3⟩
  · rintro ⟨h1, h2, h3⟩
    refine ⟨?_, h1, h2, h3⟩
    rw [h.me]
    intro e
    rw [e, getF_nil] at h3
    cases h3
theorem scanK_sorted {m : Nat} {s : SS} (h : Good m s) (lo hi : ByteArray) (a : Int) : Sorted (scanK s lo hi a) := h.so.sublist List.filter_sublist
theorem scan_eq {m m' : Nat} {s s' : SS} (h : Good m s) (h' : Good m' s') (lo hi : ByteArray) (a : Int) (he : ∀ key, getF (s.ch key) a = getF (s'.ch key) a) : scanP s lo hi a = scanP s' lo hi a := by
  have hk : scanK s lo hi a = scanK s' lo hi a := sorted_ext (scanK_sorted h lo hi a) (scanK_sorted h' lo hi a) (fun q => by rw [scanK_mem h, scanK_mem h', he q])
  rw [scanP_eq h.so, scanP_eq h'.so, hk]
  exact List.map_congr_left (fun k _ => by rw [he k])
theorem scan_len {m : Nat} {s : SS} (h : Good m s) (lo hi : ByteArray) (a : Int) : (scanP s lo hi a).length ≤ 20 * m := by
  rw [scanP_eq h.so, List.length_map]
  exact Nat.le_trans (List.length_filter_le _ _) h.kn
theorem same_loop (l : List S62) (hl : l.length ≤ 9223372036854775807) : ∀ (d i k : Nat), i + d = l.length → d < k → conductorref08_SamePairs.l0 k l l l.length i = some true := by
  intro d
  induction d with
  | zero =>
    intro i k hd hk
    obtain ⟨k, rfl⟩ : ∃ m, k = m + 1 := ⟨k - 1, by omega⟩
    simp only [conductorref08_SamePairs.l0]
    rw [if_neg (by omega)]
  | succ d ih =>
    intro i k hd hk
    obtain ⟨k, rfl⟩ : ∃ m, k = m + 1 := ⟨k - 1, by omega⟩
    have hi : i < l.length := by omega
    simp only [conductorref08_SamePairs.l0]
    rw [if_pos (by omega), if_pos (by omega), if_pos (by omega), if_pos (by omega), w1 hi hl]
    simp only [if_true]
    exact ih (i + 1) k (by omega) (by omega)
theorem same_refl (l : List S62) (hl : l.length ≤ 9223372036854775807) : ∃ k, conductorref08_SamePairs.f k l l = some true :=
  ⟨l.length + 1, by unfold conductorref08_SamePairs.f; rw [if_pos rfl]; exact same_loop l hl l.length 0 _ (by omega) (by omega)⟩
end Go.Proofs.Yteofdgonpbmdlaa.St
namespace Go.Proofs.Yteofdgonpbmdlaa.St
open Go.RowKit Go.Maps Go.Proofs.YteofdgonpbmdlaaW.PrintWords Go.Proofs.YteofdgonpbmdlaaW.PrintLast Go.Proofs.YteofdgonpbmdlaaW.PrintMore Go.Proofs.Yteofdgonpbmdlaa.C Go.Proofs.Yteofdgonpbmdlaa.Pure
/-- A block that no call of the store writes. -/
def Free (p mb : Nat) (kv : Value) (W : World) (k : Nat) : Prop := k < W.heap.size ∧ ¬ Own p mb kv k
section
variable {α : Type} {d : Kd α} {W W' : World} {base p : Nat} {B : Nat → Prop} {s s' : SS} {kv kv' : Value} {mb n n' : Nat} {D D' : DataW Value} {A : Option Addr} {k : Nat} {xs : List α}
theorem F_free (h : Kd.F d W' (fun q => W.heap.size ≤ q) A k xs) (hS : StoreAt W base B p s kv mb n D) : Kd.F d W' (Free p mb kv W') A k xs :=
  Kd.F_mono (Kd.F_bound h) (fun q hq => ⟨hq.2, fun ho => by have := (hS.own ho).2.2; have := hq.1; omega⟩)
theorem F_freeBelow (h : Kd.F d W (Free p mb kv W) A k xs) (hb : Below W.heap.size W W') : Kd.F d W' (Free p mb kv W') A k xs :=
  Kd.F_mono (Kd.F_below h hb) (fun _ hq => ⟨Nat.lt_of_lt_of_le hq.1 hb.size, hq.2⟩)
theorem F_freeTurn (h : Kd.F d W (Free p mb kv W) A k xs) (hT : Turn base (Own p mb kv) W W') (hK : ∀ q, kv'.ownBlock = some q → kv.ownBlock = some q ∨ W.heap.size ≤ q) : Kd.F d W' (Free p mb kv' W') A k xs :=
  Kd.F_mono (Kd.F_step h (fun q hq hl => hT.keep q hl hq.2)) (fun q hq => ⟨Nat.lt_of_lt_of_le hq.1 hT.below.size, fun ho => by
    rcases ho with e | e | e
    · exact hq.2 (.inl e)
    · exact hq.2 (.inr (.inl e))
    · rcases hK q e.symm with e2 | e2
      · exact hq.2 (.inr (.inr e2.symm))
      · have := hq.1
        omega⟩)
theorem scan_as (h : Aside0 (StoreAt W base B p s kv mb n D)) {m : Nat} (g : Aside0 (Good m s)) (hm : Aside0 (m ≤ 800)) (lo hi : ByteArray) (a : Int) (L : List S62) (hr : Aside0 (scanP s lo hi a = L)) :
    Calls Try.prog 42 #[.pointer (some ⟨p, 0, none⟩), .string lo, .string hi, .int .u64 a] W fun e w' => (∃ A c, e = .returned (.slice A L.length c) ∧ L.length ≤ c ∧ Kd.F k62 w' (Free p mb kv w') A L.length L) ∧ Below W.heap.size W w' := by
  refine (scan_P h g hm lo hi a).mono ?_
  rintro e w' ⟨⟨A, c, rfl, h1, h2⟩, hb⟩
  rw [hr.out] at h1 h2 ⊢
  exact ⟨⟨A, c, rfl, h1, F_free h2 h.out⟩, hb⟩
end
end Go.Proofs.Yteofdgonpbmdlaa.St
namespace Go.Proofs.Yteofdgonpbmdlaa.St
open Go.RowKit Go.Maps Go.Proofs.YteofdgonpbmdlaaW.PrintWords Go.Proofs.Yteofdgonpbmdlaa.C Go.Proofs.Yteofdgonpbmdlaa.Pure
def sumK {α : Type} (f : α → Nat) (l : List α) : Nat := (l.map f).sum
theorem sumK_nil {α : Type} (f : α → Nat) : sumK f [] = 0 := rfl
theorem sumK_cons {α : Type} (f : α → Nat) (x : α) (l : List α) : sumK f (x :: l) = f x + sumK f l := by simp [sumK]
theorem sumK_app {α : Type} (f : α → Nat) (a b : List α) : sumK f (a ++ b) = sumK f a + sumK f b := by simp [sumK]
theorem sumK_congr {α : Type} {f g : α → Nat} {l : List α} (h : ∀ x ∈ l, f x = g x) : sumK f l = sumK g l := by
  unfold sumK
  rw [List.map_congr_left h]
theorem sumK_le {α : Type} {f g : α → Nat} : ∀ {l : List α}, (∀ x ∈ l, f x ≤ g x) → sumK f l ≤ sumK g l
  | [], _ => Nat.le_refl _
  | x :: t, h => by
    rw [sumK_cons, sumK_cons]
    have h1 := h x (List.mem_cons_self ..)
    have h2 := sumK_le (fun y hy => h y (List.mem_cons_of_mem x hy)) (l := t)
    omega
theorem sumK_add {α : Type} (f g : α → Nat) : ∀ l : List α, sumK (fun x => f x + g x) l = sumK f l + sumK g l
  | [] => rfl
  | x :: t => by
    rw [sumK_cons, sumK_cons, sumK_cons, sumK_add f g t]
    omega
theorem sumK_filter {α : Type} (f g : α → Nat) (p : α → Bool) : ∀ l : List α, (∀ x ∈ l, f x ≤ g x) → sumK f (l.filter p) ≤ sumK g l
  | [], _ => Nat.le_refl _
  | x :: t, h => by
    have h1 := h x (List.mem_cons_self ..)
    have h2 := sumK_filter f g p t (fun y hy => h y (List.mem_cons_of_mem x hy))
    rw [List.filter_cons, sumK_cons]
    split
    · rw [sumK_cons]; omega
    · omega
theorem sumK_one {α : Type} (l : List α) : sumK (fun _ => 1) l = l.length := by
  induction l with
  | nil => rfl
  | cons x t ih => rw [sumK_cons, ih, List.length_cons]; omega
theorem sumK_zero {α : Type} {f : α → Nat} {l : List α} (h : ∀ x ∈ l, f x = 0) : sumK f l = 0 := by
  induction l with
  | nil => rfl
  | cons x t ih => rw [sumK_cons, h x (List.mem_cons_self ..), ih (fun y hy => h y (List.mem_cons_of_mem x hy))]
theorem sumK_indicator (q : ByteArray) (v : Nat) : ∀ l : List ByteArray, l.Nodup → q ∈ l → sumK (fun k => if q = k then v else 0) l = v
  | [], _, h => by cases h
  | k :: t, hn, h => by
    rw [List.nodup_cons] at hn
    rw [sumK_cons]
    by_cases e : q = k
    · subst e
      have hz : ∀ x ∈ t, (if q = x then v else 0) = 0 := fun x hx => by
        rw [if_neg]
        intro e
        exact hn.1 (by rw [e]; exact hx)
      rw [if_pos rfl, sumK_zero hz]
      omega
    · rw [if_neg e, sumK_indicator q v t hn.2 ((List.mem_cons.1 h).resolve_left e)]
      omega
theorem sumK_weigh (w : S102 → Nat) (K : List ByteArray) (hn : K.Nodup) : ∀ L : List S102, (∀ x ∈ L, x.f0 ∈ K) → sumK (fun k => sumK w (L.filter (fun x => decide (x.f0 = k)))) K = sumK w L
  | [], _ => by
    refine sumK_zero (fun x _ => rfl)
  | x :: t, h => by
    rw [sumK_cons, ← sumK_weigh w K hn t (fun y hy => h y (List.mem_cons_of_mem x hy)), ← sumK_indicator x.f0 (w x) K hn (h x (List.mem_cons_self ..)), ← sumK_add]
    refine sumK_congr (fun k _ => ?_)
    rw [List.filter_cons]
    by_cases e : x.f0 = k
    · rw [if_pos (by simp [e]), if_pos e, sumK_cons]
    · rw [if_neg (by simp [e]), if_neg e, Nat.zero_add]
theorem sumK_insL (f : ByteArray → Nat) (K : List ByteArray) (i : Nat) (q : ByteArray) : sumK f (insL K i q) = sumK f K + f q := by
  unfold insL
  have : sumK f K = sumK f (K.take i) + sumK f (K.drop i) := by rw [← sumK_app, List.take_append_drop]
  rw [sumK_app, sumK_cons, this]
  omega
theorem sumK_insK (f : ByteArray → Nat) (pf : ByteArray → List S28) : ∀ (L : List S102) (K : List ByteArray), sumK f (insK pf L K) = sumK f K + sumK (fun x : S102 => f x.f0) (L.filter (fun x => decide ((pf x.f0).length = 1)))
  | [], K => rfl
  | x :: t, K => by
    simp only [insK]
    rw [sumK_insK f pf t, List.filter_cons]
    by_cases h : (pf x.f0).length = 1
    · rw [if_pos h, if_pos (by simpa using h), sumK_insL, sumK_cons]
      omega
    · rw [if_neg h, if_neg (by simpa using h)]
theorem sumK_sub {f g : ByteArray → Nat} : ∀ {a b : List ByteArray}, a.Nodup → (∀ x ∈ a, x ∈ b) → (∀ x ∈ a, f x ≤ g x) → sumK f a ≤ sumK g b
  | [], b, _, _, _ => Nat.zero_le _
  | x :: t, b, hn, hs, hf => by
    rw [List.nodup_cons] at hn
    obtain ⟨b1, b2, rfl⟩ := List.append_of_mem (hs x (List.mem_cons_self ..))
    have h1 := hf x (List.mem_cons_self ..)
    have h2 := sumK_sub (f := f) (g := g) (a := t) (b := b1 ++ b2) hn.2 (fun y hy => by
      have hy2 := hs y (List.mem_cons_of_mem x hy)
      rw [List.mem_append, List.mem_cons] at hy2
      rw [List.mem_append]
      rcases hy2 with h | h | h
      · exact .inl h
      · exact absurd (h ▸ hy) hn.1
      · exact .inr h) (fun y hy => hf y (List.mem_cons_of_mem x hy))
    rw [sumK_app] at h2
    rw [sumK_cons, sumK_app, sumK_cons]
    omega
def vN (ch : ByteArray → List S28) (k : ByteArray) : Nat := (ch k).length
def bN (ch : ByteArray → List S28) (k : ByteArray) : Nat := k.size + dsz (ch k)
structure Sized (s : SS) : Prop where
  z0 : s.n0 = ((s.keys.length : Nat) : Int)
  z1 : s.n1 = ((sumK (vN s.ch) s.keys : Nat) : Int)
  z2 : s.n2 = ((sumK (bN s.ch) s.keys : Nat) : Int)
/-- The sizes lie in their limits, which are no greater than the greatest. -/
structure Fits (s : SS) : Prop where
  f0 : s.n0 ≤ s.l0
  f1 : s.n1 ≤ s.l1
  f2 : s.n2 ≤ s.l2
  g0 : s.l0 ≤ 1048576
  g1 : s.l1 ≤ 1048576
  g2 : s.l2 ≤ 1048576
theorem wr_add (a b : Nat) (h : a + b ≤ 1000000000) : wrap64 ((a : Int) + (b : Int)) = ((a + b : Nat) : Int) := by unfold wrap64; omega
theorem wr_one (a : Nat) (h : a + 1 ≤ 1000000000) : wrap64 ((a : Int) + 1) = ((a + 1 : Nat) : Int) := by unfold wrap64; omega
theorem tri {a b c a' b' c' : Nat} (h1 : a = a') (h2 : b = b') (h3 : c = c') : (((a : Nat) : Int), ((b : Nat) : Int), ((c : Nat) : Int)) = (((a' : Nat) : Int), ((b' : Nat) : Int), ((c' : Nat) : Int)) := by rw [h1, h2, h3]
theorem colN_sum (tf : ByteArray → List S28) (zf : ByteArray → Int) (hz : ∀ k, zf k = ((dsz (tf k) : Nat) : Int)) (M : Nat) (hM : M ≤ 1000000000) : ∀ (l : List ByteArray) (a b c : Nat), a + l.length ≤ M → b + sumK (vN tf) l ≤ M → c + sumK (bN tf) l ≤ M →
    colN tf zf l a b c = (((a + (l.filter (fun q => decide ((tf q).length ≠ 0))).length : Nat) : Int), ((b + sumK (vN tf) (l.filter (fun q => decide ((tf q).length ≠ 0))) : Nat) : Int), ((c + sumK (bN tf) (l.filter (fun q => decide ((tf q).length ≠ 0))) : Nat) : Int)) := by
  intro l
  induction l with
  | nil => intro a b c _ _ _; simp [colN, sumK_nil]
  | cons k t ih =>
    intro a b c h1 h2 h3
    rw [sumK_cons] at h2 h3
    rw [List.length_cons] at h1
    have hv : vN tf k = (tf k).length := rfl
    have hb : bN tf k = k.size + dsz (tf k) := rfl
    rw [List.filter_cons]
    by_cases h0 : (tf k).length = 0
    · rw [if_neg (by simp [h0])]
      simp only [colN, if_pos h0]
      exact ih a b c (by omega) (by omega) (by omega)
    · rw [if_pos (by simpa using h0)]
      simp only [colN, if_neg h0, hz]
      have b1 : a + 1 ≤ 1000000000 := by omega
      have b2 : b + (tf k).length ≤ 1000000000 := by omega
      have b3 : k.size + dsz (tf k) ≤ 1000000000 := by omega
      have b4 : c + (k.size + dsz (tf k)) ≤ 1000000000 := by omega
      have i1 := ih (a + 1) (b + (tf k).length) (c + (k.size + dsz (tf k))) (by omega) (by omega) (by omega)
      rw [wr_one a b1, wr_add b (tf k).length b2, wr_add k.size (dsz (tf k)) b3, wr_add c (k.size + dsz (tf k)) b4, i1]
      clear i1 ih
      rw [List.length_cons, sumK_cons, sumK_cons, hv, hb]
      exact tri (by omega) (by omega) (by omega)
theorem Sized.col {m : Nat} {s : SS} (hs : Sized s) (h : Good m s) (hf : Fits s) (low : Int) : Sized (colP s low) ∧ Fits (colP s low) := by
  have hz : ∀ k, zfP s low k = ((dsz (tfP s low k) : Nat) : Int) := fun _ => rfl
  have t1 : sumK (vN (tfP s low)) s.keys ≤ sumK (vN s.ch) s.keys := sumK_le (fun k _ => trim_len _ _)
  have t2 : sumK (bN (tfP s low)) s.keys ≤ sumK (bN s.ch) s.keys := sumK_le (fun k _ => by have := dsz_sub (trim_sub (s.ch k) low); show k.size + dsz (trimF (s.ch k) low) ≤ k.size + dsz (s.ch k); omega)
  have e0 := hs.z0
  have e1 := hs.z1
  have e2 := hs.z2
  obtain ⟨f0, f1, f2, g0, g1, g2⟩ := hf
  have hc := colN_sum (tfP s low) (zfP s low) hz 1000000000 (Nat.le_refl _) s.keys 0 0 0 (by omega) (by omega) (by omega)
  simp only [Nat.zero_add] at hc
  have hk := col_keys s low
  have hch := h.col_ch low
  have q0 : (colP s low).n0 = (((colP s low).keys.length : Nat) : Int) := by
    show (colN (tfP s low) (zfP s low) s.keys 0 0 0).1 = _
    exact (congrArg (·.1) hc).trans (by first | rfl | (rw [hk]; rfl))
  have q1 : (colP s low).n1 = ((sumK (vN (tfP s low)) (colP s low).keys : Nat) : Int) := by
    show (colN (tfP s low) (zfP s low) s.keys 0 0 0).2.1 = _
    exact (congrArg (·.2.1) hc).trans (by first | rfl | (rw [hk]; rfl))
  have q2 : (colP s low).n2 = ((sumK (bN (tfP s low)) (colP s low).keys : Nat) : Int) := by
    show (colN (tfP s low) (zfP s low) s.keys 0 0 0).2.2 = _
    exact (congrArg (·.2.2) hc).trans (by first | rfl | (rw [hk]; rfl))
  have hce : (colP s low).ch = tfP s low := hch
  have u0 : (colP s low).keys.length ≤ s.keys.length := by rw [hk]; exact List.length_filter_le _ _
  have u1 : sumK (vN (tfP s low)) (colP s low).keys ≤ sumK (vN s.ch) s.keys := by rw [hk]; exact sumK_filter _ _ _ _ (fun k _ => trim_len _ _)
  have u2 : sumK (bN (tfP s low)) (colP s low).keys ≤ sumK (bN s.ch) s.keys := by rw [hk]; exact sumK_filter _ _ _ _ (fun k _ => by have := dsz_sub (trim_sub (s.ch k) low); show k.size + dsz (trimF (s.ch k) low) ≤ k.size + dsz (s.ch k); omega)
  refine ⟨⟨q0, by rw [hce]; exact q1, by rw [hce]; exact q2⟩, ⟨?_, ?_, ?_, g0, g1, g2⟩⟩
  · show (colP s low).n0 ≤ s.l0; omega
  · show (colP s low).n1 ≤ s.l1; omega
  · show (colP s low).n2 ≤ s.l2; omega
theorem comesN_sum (ch : ByteArray → List S28) (M : Nat) (hM : M ≤ 1000000000) : ∀ (l : List S102) (a b c : Nat), a + l.length ≤ M → b + l.length ≤ M → c + sumK (fun x : S102 => x.f2.length + x.f0.size) l ≤ M →
    comesN ch l a b c = (((a + ((comesL ch l).filter (fun x => decide ((ch x.f0).length = 0))).length : Nat) : Int), ((b + (comesL ch l).length : Nat) : Int), ((c + (sumK (fun x : S102 => x.f2.length) (comesL ch l) + sumK (fun x : S102 => x.f0.size) ((comesL ch l).filter (fun x => decide ((ch x.f0).length = 0)))) : Nat) : Int)) := by
  intro l
  induction l with
  | nil => intro a b c _ _ _; simp [comesN, comesL, sumK_nil]
  | cons x t ih =>
    intro a b c h1 h2 h3
    rw [sumK_cons] at h3
    rw [List.length_cons] at h1 h2
    simp only [comesN, comesL]
    by_cases hg : (x.f1 && goneC (ch x.f0)) = true
    · rw [if_pos hg, if_pos hg]
      exact ih a b c (by omega) (by omega) (by omega)
    · rw [if_neg hg, if_neg hg, List.filter_cons, sumK_cons, List.length_cons]
      have b1 : a + 1 ≤ 1000000000 := by omega
      have b2 : b + 1 ≤ 1000000000 := by omega
      have b3 : c + x.f2.length ≤ 1000000000 := by omega
      have b4 : c + x.f2.length + x.f0.size ≤ 1000000000 := by omega
      have i1 := ih (a + 1) (b + 1) (c + x.f2.length + x.f0.size) (by omega) (by omega) (by omega)
      have i2 := ih a (b + 1) (c + x.f2.length) (by omega) (by omega) (by omega)
      by_cases h0 : (ch x.f0).length = 0
      · rw [if_pos h0, if_pos (by simpa using h0), wr_one a b1, wr_one b b2, wr_add c x.f2.length b3, wr_add (c + x.f2.length) x.f0.size b4, i1]
        clear i1 i2 ih
        rw [sumK_cons, List.length_cons]
        exact tri (by omega) (by omega) (by omega)
      · rw [if_neg h0, if_neg (by simpa using h0), wr_one b b2, wr_add c x.f2.length b3, i2]
        clear i1 i2 ih
        exact tri (by omega) (by omega) (by omega)
theorem dsz_vers (now : Int) (a : List S28) (b : List S102) : dsz (a ++ b.map (verOf now)) = dsz a + sumK (fun x : S102 => x.f2.length) b := by
  unfold dsz sumK
  rw [List.map_append, List.sum_append, List.map_map]
  rfl
theorem put_sums {m : Nat} {s1 : SS} (h : Good m s1) {L : List S102} (hn : (L.map (·.f0)).Nodup) :
    (insK (pfP s1 L) L s1.keys).length = s1.keys.length + (L.filter (fun x => decide ((s1.ch x.f0).length = 0))).length ∧
    sumK (vN (pfP s1 L)) (insK (pfP s1 L) L s1.keys) = sumK (vN s1.ch) s1.keys + L.length ∧
    sumK (bN (pfP s1 L)) (insK (pfP s1 L) L s1.keys) = sumK (bN s1.ch) s1.keys + (sumK (fun x : S102 => x.f2.length) L + sumK (fun x : S102 => x.f0.size) (L.filter (fun x => decide ((s1.ch x.f0).length = 0)))) := by
  obtain ⟨hso, hme⟩ := insK_all (pfP s1 L) L s1.keys h.so hn (pf_len h hn)
  have hnd := hso.nodup
  have hin : ∀ x ∈ L, x.f0 ∈ insK (pfP s1 L) L s1.keys := fun x hx => (hme _).2 (.inr (List.mem_map.2 ⟨x, hx, rfl⟩))
  have hfl : L.filter (fun x => decide ((pfP s1 L x.f0).length = 1)) = L.filter (fun x => decide ((s1.ch x.f0).length = 0)) := by
    refine List.filter_congr (fun x hx => ?_)
    rw [decide_eq_decide, pf_len h hn x hx, h.me, Classical.not_not, List.length_eq_zero_iff]
  have hz : ∀ x ∈ L.filter (fun x => decide ((s1.ch x.f0).length = 0)), s1.ch x.f0 = [] := fun x hx => by
    have := (List.mem_filter.1 hx).2
    exact List.length_eq_zero_iff.1 (of_decide_eq_true this)
  refine ⟨?_, ?_, ?_⟩
  · rw [← sumK_one, sumK_insK, sumK_one, hfl, sumK_one]
  · have e : sumK (vN (pfP s1 L)) (insK (pfP s1 L) L s1.keys) = sumK (fun k => vN s1.ch k + sumK (fun _ => 1) (L.filter (fun x => decide (x.f0 = k)))) (insK (pfP s1 L) L s1.keys) := by
      refine sumK_congr (fun k _ => ?_)
      rw [sumK_one]
      simp [vN, pfP]
    have e3 : sumK (fun x : S102 => vN s1.ch x.f0) (L.filter (fun x => decide ((s1.ch x.f0).length = 0))) = 0 := sumK_zero (fun x hx => by
      show (s1.ch x.f0).length = 0
      rw [hz x hx]
      rfl)
    rw [e, sumK_add, sumK_weigh (fun _ => 1) _ hnd L hin, sumK_one, sumK_insK, hfl, e3]
    rfl
  · have e : sumK (bN (pfP s1 L)) (insK (pfP s1 L) L s1.keys) = sumK (fun k => bN s1.ch k + sumK (fun x : S102 => x.f2.length) (L.filter (fun x => decide (x.f0 = k)))) (insK (pfP s1 L) L s1.keys) := by
      refine sumK_congr (fun k _ => ?_)
      show k.size + dsz (s1.ch k ++ (L.filter (fun x => decide (x.f0 = k))).map (verOf s1.now)) = k.size + dsz (s1.ch k) + _
      rw [dsz_vers, Nat.add_assoc]
    have e2 : sumK (fun x : S102 => bN s1.ch x.f0) (L.filter (fun x => decide ((s1.ch x.f0).length = 0))) = sumK (fun x : S102 => x.f0.size) (L.filter (fun x => decide ((s1.ch x.f0).length = 0))) := by
      refine sumK_congr (fun x hx => ?_)
      show x.f0.size + dsz (s1.ch x.f0) = x.f0.size
      rw [hz x hx]
      rfl
    rw [e, sumK_add, sumK_weigh _ _ hnd L hin, sumK_insK, hfl, e2, Nat.add_assoc, Nat.add_comm (sumK _ (L.filter _)) (sumK _ L)]
theorem sizes_true {m : Nat} {s1 : SS} (h : Good m s1) (hs : Sized s1) (hf : Fits s1) {l : List S102} (hl : l.length ≤ 20) (hk : ∀ x ∈ l, x.f0.size ≤ 300) (hd : ∀ x ∈ l, x.f2.length ≤ 5000) (hn : ((comesL s1.ch l).map (·.f0)).Nodup) :
    sizesOf s1 l = ((((insK (pfP s1 (comesL s1.ch l)) (comesL s1.ch l) s1.keys).length : Nat) : Int), ((sumK (vN (pfP s1 (comesL s1.ch l))) (insK (pfP s1 (comesL s1.ch l)) (comesL s1.ch l) s1.keys) : Nat) : Int), ((sumK (bN (pfP s1 (comesL s1.ch l))) (insK (pfP s1 (comesL s1.ch l)) (comesL s1.ch l) s1.keys) : Nat) : Int)) := by
  obtain ⟨e0, e1, e2⟩ := put_sums h hn
  obtain ⟨f0, f1, f2, g0, g1, g2⟩ := hf
  have z0 := hs.z0
  have z1 := hs.z1
  have z2 := hs.z2
  have hb : sumK (fun x : S102 => x.f2.length + x.f0.size) l ≤ 5300 * l.length := by
    have : sumK (fun x : S102 => x.f2.length + x.f0.size) l ≤ sumK (fun _ => 5300) l := sumK_le (fun x hx => by have := hk x hx; have := hd x hx; omega)
    have h2 : ∀ q : List S102, sumK (fun _ => 5300) q = 5300 * q.length := fun q => by
      induction q with
      | nil => rfl
      | cons x t ih => rw [sumK_cons, ih, List.length_cons]; omega
    rw [h2] at this
    exact this
  have b0 : s1.keys.length + l.length ≤ 1000000000 := by omega
  have b1 : sumK (vN s1.ch) s1.keys + l.length ≤ 1000000000 := by omega
  have b2 : sumK (bN s1.ch) s1.keys + sumK (fun x : S102 => x.f2.length + x.f0.size) l ≤ 1000000000 := by omega
  have hc := comesN_sum s1.ch 1000000000 (Nat.le_refl _) l s1.keys.length (sumK (vN s1.ch) s1.keys) (sumK (bN s1.ch) s1.keys) b0 b1 b2
  unfold sizesOf
  rw [z0, z1, z2, hc]
  exact tri e0.symm e1.symm e2.symm
theorem Sized.put {m : Nat} {s1 : SS} (h : Good m s1) (hs : Sized s1) (hf : Fits s1) {l : List S102} (hl : l.length ≤ 20) (hk : ∀ x ∈ l, x.f0.size ≤ 300) (hd : ∀ x ∈ l, x.f2.length ≤ 5000) (hn : ((comesL s1.ch l).map (·.f0)).Nodup) (hfit : fitsB s1 (sizesOf s1 l) = true) :
    Sized (putS s1 (pfP s1 (comesL s1.ch l)) (comesL s1.ch l) (sizesOf s1 l)) ∧ Fits (putS s1 (pfP s1 (comesL s1.ch l)) (comesL s1.ch l) (sizesOf s1 l)) := by
  have e := sizes_true h hs hf hl hk hd hn
  have hch : (putS s1 (pfP s1 (comesL s1.ch l)) (comesL s1.ch l) (sizesOf s1 l)).ch = pfP s1 (comesL s1.ch l) := pf_colCh s1 _
  have hb : ((sizesOf s1 l).1 ≤ s1.l0 ∧ (sizesOf s1 l).2.1 ≤ s1.l1) ∧ (sizesOf s1 l).2.2 ≤ s1.l2 := by
    simpa only [fitsB, Bool.and_eq_true, decide_eq_true_eq] using hfit
  refine ⟨⟨?_, ?_, ?_⟩, ⟨hb.1.1, hb.1.2, hb.2, hf.g0, hf.g1, hf.g2⟩⟩
  · exact congrArg (·.1) e
  · rw [hch]; exact congrArg (·.2.1) e
  · rw [hch]; exact congrArg (·.2.2) e
theorem Sized.coS {m : Nat} {s : SS} (h : Good m s) (hs : Sized s) (hf : Fits s) (l : List S102) (low : Int) : Sized (comS s l low) ∧ Fits (comS s l low) := by
  rcases comS_cases s l low with e | e <;> rw [e]
  · exact ⟨hs, hf⟩
  · exact hs.col h hf low
theorem Sized.com {m : Nat} {s : SS} (h : Good m s) (hs : Sized s) (hf : Fits s) {l : List S102} (hl : l.length ≤ 20) (hk : ∀ x ∈ l, x.f0.size ≤ 300) (hd : ∀ x ∈ l, x.f2.length ≤ 5000) (low : Int) : Sized (comP s l low).2.2 ∧ Fits (comP s l low).2.2 := by
  unfold comP comR
  split
  · exact ⟨hs, hf⟩
  rename_i h1
  split
  · exact ⟨hs, hf⟩
  split
  · exact ⟨hs, hf⟩
  have hw := chk_wok (Classical.not_not.1 h1)
  obtain ⟨hs1, hf1⟩ := hs.coS h hf l low
  split
  · rename_i hfit
    exact Sized.put (h.coS l low) hs1 hf1 hl hk hd ((hw.sub (comesL_sub (comS s l low).ch l)).so.nodup) hfit
  · exact ⟨hs1, hf1⟩
theorem Sized.op {m : Nat} {s : SS} (h : Good m s) (hs : Sized s) (hf : Fits s) {o : S55} (ho : FewOp o) : Sized (opP s o).2 ∧ Fits (opP s o).2 := by
  unfold opP
  split
  · exact hs.com h hf ho.len ho.key ho.dat o.f2
  split
  · exact hs.col h hf o.f2
  split
  · exact ⟨hs, hf⟩
  split <;> exact ⟨hs, hf⟩
theorem com_lim (s : SS) (l : List S102) (low : Int) : (comP s l low).2.2.l0 = s.l0 ∧ (comP s l low).2.2.l1 = s.l1 ∧ (comP s l low).2.2.l2 = s.l2 ∧ (comP s l low).2.2.last = s.last := by
  have hc : (comS s l low).l0 = s.l0 ∧ (comS s l low).l1 = s.l1 ∧ (comS s l low).l2 = s.l2 ∧ (comS s l low).last = s.last := by
    rcases comS_cases s l low with e | e <;> rw [e] <;> exact ⟨rfl, rfl, rfl, rfl⟩
  unfold comP comR
  split
  · exact ⟨rfl, rfl, rfl, rfl⟩
  split
  · exact ⟨rfl, rfl, rfl, rfl⟩
  split
  · exact ⟨rfl, rfl, rfl, rfl⟩
  split <;> exact hc
theorem op_lim (s : SS) (o : S55) : (opP s o).2.l0 = s.l0 ∧ (opP s o).2.l1 = s.l1 ∧ (opP s o).2.l2 = s.l2 ∧ (opP s o).2.last = s.last := by
  unfold opP
  split
  · exact com_lim _ _ _
  split
  · exact ⟨rfl, rfl, rfl, rfl⟩
  split
  · exact ⟨rfl, rfl, rfl, rfl⟩
  split <;> exact ⟨rfl, rfl, rfl, rfl⟩
structure Lim (m : Nat) (s0 s : SS) : Prop where
  good : Good m s
  sized : Sized s
  fits : Fits s
  l0 : s.l0 = s0.l0
  l1 : s.l1 = s0.l1
  l2 : s.l2 = s0.l2
  la : s.last = s0.last
theorem Lim.op {m : Nat} {s0 s : SS} (h : Lim m s0 s) {o : S55} (ho : FewOp o) : Lim (m + 1) s0 (opP s o).2 := by
  obtain ⟨a, b⟩ := Sized.op h.good h.sized h.fits ho
  obtain ⟨e0, e1, e2, e3⟩ := op_lim s o
  exact ⟨h.good.op ho, a, b, e0.trans h.l0, e1.trans h.l1, e2.trans h.l2, e3.trans h.la⟩
theorem Lim.run : ∀ (l : List S55) {m : Nat} {s0 s : SS}, Lim m s0 s → (∀ o ∈ l, FewOp o) → Lim (m + l.length) s0 (runP s l)
  | [], _, _, _, h, _ => h
  | o :: t, m, s0, s, h, hf => by
    have := Lim.run t (h.op (hf o (List.mem_cons_self ..))) (fun x hx => hf x (List.mem_cons_of_mem _ hx))
    rw [List.length_cons, show m + (t.length + 1) = m + 1 + t.length by omega]
    exact this
theorem Good.lim {m m' : Nat} {s0 s : SS} (h : Lim m s0 s) (hm : m ≤ m') : Lim m' s0 s := { h with good := h.good.mono hm }
theorem Lim.runTake {m : Nat} {s0 s : SS} (h : Lim m s0 s) (l : List S55) (hf : ∀ o ∈ l, FewOp o) (i : Nat) : Lim (m + i) s0 (runP s (l.take i)) :=
  Good.lim (Lim.run _ h (fun o ho => hf o (List.mem_of_mem_take ho))) (by rw [List.length_take]; omega)
instance (n : Int) : Decidable (Room n) := inferInstanceAs (Decidable (1 ≤ n ∧ n ≤ 1048576))
theorem rd28' (l : List S28) (i : Nat) (h : i < l.length) : rd_T28 l (i : Int) = l[i] := by
  simp [rd_T28, List.getD_eq_getElem?_getD, h]
theorem goneC_drop (l : List S28) (t : Nat) (ht : t < l.length) : goneC (l.drop t) = goneC l := by
  unfold goneC
  have e1 : ((l.drop t).length : Int) - 1 = ((l.length - t - 1 : Nat) : Int) := by rw [List.length_drop]; omega
  have e2 : (l.length : Int) - 1 = ((l.length - 1 : Nat) : Int) := by omega
  rw [e1, e2, rd28' _ _ (by rw [List.length_drop]; omega), rd28' _ _ (by omega), List.getElem_drop]
  have e3 : (l.drop t).length ≠ 0 := by rw [List.length_drop]; omega
  have e4 : l.length ≠ 0 := by omega
  rw [decide_eq_false e3, decide_eq_false e4]
  congr 2
  congr 1
  omega
theorem goneC_trim {l : List S28} (hs : rgt 0 l = true) (a : Int) : goneC (trimF l a) = goneC l := by
  have hu := up_spec hs a
  have hle := tAt_le l (up l a)
  have hn := hu.1
  unfold trimF
  by_cases h : tAt l (up l a) < l.length
  · exact goneC_drop l _ h
  · rw [List.drop_eq_nil_of_le (by omega)]
    have e : up l a = l.length := by omega
    by_cases h0 : l.length = 0
    · rw [List.eq_nil_of_length_eq_zero h0]
    · have ht : tAt l l.length = l.length := by rw [e] at h hle; omega
      rw [tPos ⟨by omega, Nat.le_refl _⟩] at ht
      have hg : (l[l.length - 1]).f1 = true := by
        cases hx : (l[l.length - 1]).f1 with
        | true => rfl
        | false => rw [if_pos hx] at ht; omega
      unfold goneC
      have e2 : (l.length : Int) - 1 = ((l.length - 1 : Nat) : Int) := by omega
      rw [e2, rd28' _ _ (by omega), hg]
      simp
theorem trim_app {l : List S28} (hs : rgt 0 l = true) (v : S28) (h : ∀ x ∈ l, x.f0 < v.f0) (h0 : 0 < v.f0) (hg : v.f1 = true → v.f2 = []) {a : Int} (ha : a < v.f0) : trimF (l ++ [v]) a = trimF l a ++ [v] := by
  have h1 := up_spec hs a
  have hn := h1.1
  have hle := tAt_le l (up l a)
  have h2 : Upto (l ++ [v]) a (up l a) := by
    refine ⟨by simp; omega, fun j hj hlt => ?_, fun j hj hge => ?_⟩
    · rw [List.getElem_append_left (by omega)]; exact h1.2.1 j (by omega) hlt
    · by_cases hjl : j < l.length
      · rw [List.getElem_append_left hjl]; exact h1.2.2 j hjl hge
      · rw [List.getElem_append_right (by omega)]; simpa using ha
  have e : up (l ++ [v]) a = up l a := up_is (rgt_app hs v h h0 hg) h2
  have e2 : tAt (l ++ [v]) (up l a) = tAt l (up l a) := by
    by_cases hp : 0 < up l a
    · rw [tPos ⟨hp, by simp; omega⟩, tPos ⟨hp, hn⟩, List.getElem_append_left (by omega)]
    · unfold tAt
      rw [dif_neg (fun q => hp q.1), dif_neg (fun q => hp q.1)]
  unfold trimF
  rw [e, e2, List.drop_append_of_le_length (by omega)]
theorem comesL_congr {c1 c2 : ByteArray → List S28} (h : ∀ k, goneC (c1 k) = goneC (c2 k)) : ∀ l : List S102, comesL c1 l = comesL c2 l
  | [] => rfl
  | x :: t => by simp only [comesL, h, comesL_congr h t]
structure Uns (low : Int) (m : Nat) (s0 s x : SS) : Prop where
  ls : Lim m s0 s
  lx : Lim m s0 x
  now : s.now = x.now
  tr : ∀ key, trimF (s.ch key) low = trimF (x.ch key) low
theorem Uns.get {low a : Int} {m : Nat} {s0 s x : SS} (h : Uns low m s0 s x) (hl : low ≤ a) (key : ByteArray) : getF (s.ch key) a = getF (x.ch key) a := by
  rw [← get_trimF (h.ls.good.rg key) hl, ← get_trimF (h.lx.good.rg key) hl, h.tr key]
theorem Uns.scan {low a : Int} {m : Nat} {s0 s x : SS} (h : Uns low m s0 s x) (hl : low ≤ a) (lo hi : ByteArray) : scanP s lo hi a = scanP x lo hi a :=
  scan_eq h.ls.good h.lx.good lo hi a (h.get hl)
theorem Uns.gone {low : Int} {m : Nat} {s0 s x : SS} (h : Uns low m s0 s x) (key : ByteArray) : goneC (s.ch key) = goneC (x.ch key) := by
  rw [← goneC_trim (h.ls.good.rg key) low, ← goneC_trim (h.lx.good.rg key) low, h.tr key]
/-- What a store collected would come to is no more than what it would come to as it is. -/
theorem col_sizes {m : Nat} {s0 s : SS} (h : Lim m s0 s) {l : List S102} (hl : l.length ≤ 20) (hk : ∀ x ∈ l, x.f0.size ≤ 300) (hd : ∀ x ∈ l, x.f2.length ≤ 5000) (hw : WOk l) (low : Int) (hfit : fitsB s (sizesOf s l) = true) : fitsB (colP s low) (sizesOf (colP s low) l) = true := by
  obtain ⟨hs1, hf1⟩ := h.sized.col h.good h.fits low
  have hg1 := h.good.col low
  have hch : ∀ k, (colP s low).ch k = trimF (s.ch k) low := fun k => by rw [h.good.col_ch]
  have hLe : comesL (colP s low).ch l = comesL s.ch l := comesL_congr (fun k => by rw [hch]; exact goneC_trim (h.good.rg k) low) l
  have hn : ((comesL s.ch l).map (·.f0)).Nodup := (hw.sub (comesL_sub s.ch l)).so.nodup
  have e := sizes_true h.good h.sized h.fits hl hk hd hn
  have e1 := sizes_true hg1 hs1 hf1 hl hk hd (by rw [hLe]; exact hn)
  rw [hLe] at e1
  obtain ⟨so, me⟩ := insK_all (pfP s (comesL s.ch l)) (comesL s.ch l) s.keys h.good.so hn (pf_len h.good hn)
  obtain ⟨so1, me1⟩ := insK_all (pfP (colP s low) (comesL s.ch l)) (comesL s.ch l) (colP s low).keys hg1.so hn (pf_len hg1 hn)
  have hsub : ∀ q ∈ insK (pfP (colP s low) (comesL s.ch l)) (comesL s.ch l) (colP s low).keys, q ∈ insK (pfP s (comesL s.ch l)) (comesL s.ch l) s.keys := fun q hq => by
    rw [me]
    rcases (me1 q).1 hq with e2 | e2
    · rw [col_keys] at e2
      exact .inl (List.mem_filter.1 e2).1
    · exact .inr e2
  have hv : ∀ k, pfP (colP s low) (comesL s.ch l) k = trimF (s.ch k) low ++ ((comesL s.ch l).filter (fun x => decide (x.f0 = k))).map (verOf s.now) := fun k => by
    unfold pfP
    rw [hch]
    rfl
  have i0 : (insK (pfP (colP s low) (comesL s.ch l)) (comesL s.ch l) (colP s low).keys).length ≤ (insK (pfP s (comesL s.ch l)) (comesL s.ch l) s.keys).length := by
    rw [← sumK_one, ← sumK_one]
    exact sumK_sub so1.nodup hsub (fun _ _ => Nat.le_refl _)
  have i1 : sumK (vN (pfP (colP s low) (comesL s.ch l))) (insK (pfP (colP s low) (comesL s.ch l)) (comesL s.ch l) (colP s low).keys) ≤ sumK (vN (pfP s (comesL s.ch l))) (insK (pfP s (comesL s.ch l)) (comesL s.ch l) s.keys) := by
    refine sumK_sub so1.nodup hsub (fun k _ => ?_)
    show (pfP (colP s low) (comesL s.ch l) k).length ≤ (pfP s (comesL s.ch l) k).length
    rw [hv, List.length_append]
    have := trim_len (s.ch k) low
    show _ ≤ (s.ch k ++ ((comesL s.ch l).filter (fun x => decide (x.f0 = k))).map (verOf s.now)).length
    rw [List.length_append]
    omega
  have i2 : sumK (bN (pfP (colP s low) (comesL s.ch l))) (insK (pfP (colP s low) (comesL s.ch l)) (comesL s.ch l) (colP s low).keys) ≤ sumK (bN (pfP s (comesL s.ch l))) (insK (pfP s (comesL s.ch l)) (comesL s.ch l) s.keys) := by
    refine sumK_sub so1.nodup hsub (fun k _ => ?_)
    show k.size + dsz (pfP (colP s low) (comesL s.ch l) k) ≤ k.size + dsz (s.ch k ++ ((comesL s.ch l).filter (fun x => decide (x.f0 = k))).map (verOf s.now))
    rw [hv, dsz_vers, dsz_vers]
    have := dsz_sub (trim_sub (s.ch k) low)
    omega
  have hb : ((sizesOf s l).1 ≤ s.l0 ∧ (sizesOf s l).2.1 ≤ s.l1) ∧ (sizesOf s l).2.2 ≤ s.l2 := by
    simpa only [fitsB, Bool.and_eq_true, decide_eq_true_eq] using hfit
  rw [e] at hb
  simp only [fitsB, Bool.and_eq_true, decide_eq_true_eq, e1]
  show ((_ ≤ s.l0 ∧ _ ≤ s.l1) ∧ _ ≤ s.l2)
  obtain ⟨⟨b0, b1⟩, b2⟩ := hb
  refine ⟨⟨?_, ?_⟩, ?_⟩
  · exact Int.le_trans (Int.ofNat_le.2 i0) b0
  · exact Int.le_trans (Int.ofNat_le.2 i1) b1
  · exact Int.le_trans (Int.ofNat_le.2 i2) b2
section
variable {low : Int} {m : Nat} {s0 s x : SS}
theorem Uns.colCh (h : Uns low m s0 s x) : (colP s low).ch = (colP x low).ch := by
  rw [h.ls.good.col_ch, h.lx.good.col_ch]
  exact funext h.tr
theorem Uns.colKeys (h : Uns low m s0 s x) : (colP s low).keys = (colP x low).keys :=
  sorted_ext (h.ls.good.col low).so (h.lx.good.col low).so (fun q => by rw [(h.ls.good.col low).me, (h.lx.good.col low).me, h.colCh])
theorem Uns.colFits (h : Uns low m s0 s x) (l : List S102) : fitsB (colP s low) (sizesOf (colP s low) l) = fitsB (colP x low) (sizesOf (colP x low) l) := by
  obtain ⟨hs, _⟩ := h.ls.sized.col h.ls.good h.ls.fits low
  obtain ⟨hx, _⟩ := h.lx.sized.col h.lx.good h.lx.fits low
  have e0 : (colP s low).n0 = (colP x low).n0 := by rw [hs.z0, hx.z0, h.colKeys]
  have e1 : (colP s low).n1 = (colP x low).n1 := by rw [hs.z1, hx.z1, h.colKeys, h.colCh]
  have e2 : (colP s low).n2 = (colP x low).n2 := by rw [hs.z2, hx.z2, h.colKeys, h.colCh]
  have f0 : (colP s low).l0 = (colP x low).l0 := h.ls.l0.trans h.lx.l0.symm
  have f1 : (colP s low).l1 = (colP x low).l1 := h.ls.l1.trans h.lx.l1.symm
  have f2 : (colP s low).l2 = (colP x low).l2 := h.ls.l2.trans h.lx.l2.symm
  unfold sizesOf fitsB
  rw [h.colCh, e0, e1, e2, f0, f1, f2]
theorem ok_col (h : Lim m s0 s) {l : List S102} (hl : l.length ≤ 20) (hk : ∀ x ∈ l, x.f0.size ≤ 300) (hd : ∀ x ∈ l, x.f2.length ≤ 5000) (hw : WOk l) (low : Int) :
    fitsB (comS s l low) (sizesOf (comS s l low) l) = fitsB (colP s low) (sizesOf (colP s low) l) := by
  by_cases hf : fitsB s (sizesOf s l) = true
  · have e : comS s l low = s := if_pos hf
    rw [e, hf, col_sizes h hl hk hd hw low hf]
  · have e : comS s l low = colP s low := if_neg hf
    rw [e]
theorem trim_coS (h : Good m s) (l : List S102) (low : Int) (k : ByteArray) : trimF ((comS s l low).ch k) low = trimF (s.ch k) low := by
  rcases comS_cases s l low with e | e <;> rw [e]
  rw [h.col_ch]
  exact trim_trim (h.rg k) (Int.le_refl low)
theorem gone_coS (h : Good m s) (l : List S102) (low : Int) (k : ByteArray) : goneC ((comS s l low).ch k) = goneC (s.ch k) := by
  rcases comS_cases s l low with e | e <;> rw [e]
  rw [h.col_ch]
  exact goneC_trim (h.rg k) low
theorem Uns.comL (h : Uns low m s0 s x) (l : List S102) : comL s l low = comL x l low :=
  comesL_congr (fun k => by rw [gone_coS h.ls.good, gone_coS h.lx.good, h.gone]) l
theorem trim_put (h : Good m s) {l : List S102} (hw : WOk l) (low : Int) (hlow : low ≤ s.now) (N : Int × Int × Int) (k : ByteArray) :
    trimF ((putS (comS s l low) (pfP (comS s l low) (comL s l low)) (comL s l low) N).ch k) low = trimF (s.ch k) low ++ ((comL s l low).filter (fun x => decide (x.f0 = k))).map (verOf s.now) := by
  have hch : (putS (comS s l low) (pfP (comS s l low) (comL s l low)) (comL s l low) N).ch = pfP (comS s l low) (comL s l low) := pf_colCh _ _
  rw [hch]
  have hw2 : WOk (comL s l low) := hw.sub (comesL_sub (comS s l low).ch l)
  have hg := h.coS l low
  have hnow := comS_now s l low
  have h0 := h.n0
  rw [← trim_coS h l low k]
  by_cases hk : k ∈ (comL s l low).map (·.f0)
  · obtain ⟨y, hy, rfl⟩ := List.mem_map.1 hk
    rw [pf_at hw2.so.nodup hy, filter_one _ hw2.so.nodup y hy, hnow]
    exact trim_app (hg.rg _) (verOf s.now y) (fun z hz => by have := hg.tm _ z hz; rw [hnow] at this; show z.f0 < s.now + 1; omega) (by show 0 < s.now + 1; omega) (hw2.go y hy) (by show low < s.now + 1; omega)
  · rw [pf_not hk]
    have : (comL s l low).filter (fun x => decide (x.f0 = k)) = [] := List.filter_eq_nil_iff.2 (fun y hy e => hk (List.mem_map.2 ⟨y, hy, of_decide_eq_true e⟩))
    rw [this]
    simp
theorem Uns.com (h : Uns low m s0 s x) {l : List S102} (hl : l.length ≤ 20) (hk : ∀ x ∈ l, x.f0.size ≤ 300) (hd : ∀ x ∈ l, x.f2.length ≤ 5000) (hlow : low ≤ s.now) :
    (comP s l low).1 = (comP x l low).1 ∧ (comP s l low).2.1 = (comP x l low).2.1 ∧ (comP s l low).2.2.now = (comP x l low).2.2.now ∧ ∀ key, trimF ((comP s l low).2.2.ch key) low = trimF ((comP x l low).2.2.ch key) low := by
  have hla : s.last = x.last := h.ls.la.trans h.lx.la.symm
  unfold comP comR
  by_cases h1 : chkL none l ≠ 0
  · rw [if_pos h1, if_pos h1]
    exact ⟨rfl, rfl, h.now, h.tr⟩
  rw [if_neg h1, if_neg h1]
  by_cases h2 : l.length = 0
  · rw [if_pos h2, if_pos h2]
    exact ⟨h.now, rfl, h.now, h.tr⟩
  rw [if_neg h2, if_neg h2, ← hla, ← h.now]
  by_cases h3 : s.last ≤ s.now
  · rw [if_pos h3, if_pos h3]
    exact ⟨rfl, rfl, h.now, h.tr⟩
  rw [if_neg h3, if_neg h3]
  have hw := chk_wok (Classical.not_not.1 h1)
  have e : fitsB (comS s l low) (sizesOf (comS s l low) l) = fitsB (comS x l low) (sizesOf (comS x l low) l) := by
    rw [ok_col h.ls hl hk hd hw, ok_col h.lx hl hk hd hw, h.colFits]
  show (if fitsB (comS s l low) (sizesOf (comS s l low) l) = true then _ else _ : Int × Int × SS).1 = (if fitsB (comS x l low) (sizesOf (comS x l low) l) = true then _ else _ : Int × Int × SS).1 ∧ (if fitsB (comS s l low) (sizesOf (comS s l low) l) = true then _ else _ : Int × Int × SS).2.1 = (if fitsB (comS x l low) (sizesOf (comS x l low) l) = true then _ else _ : Int × Int × SS).2.1 ∧ (if fitsB (comS s l low) (sizesOf (comS s l low) l) = true then _ else _ : Int × Int × SS).2.2.now = (if fitsB (comS x l low) (sizesOf (comS x l low) l) = true then _ else _ : Int × Int × SS).2.2.now ∧ ∀ key, trimF ((if fitsB (comS s l low) (sizesOf (comS s l low) l) = true then _ else _ : Int × Int × SS).2.2.ch key) low = trimF ((if fitsB (comS x l low) (sizesOf (comS x l low) l) = true then _ else _ : Int × Int × SS).2.2.ch key) low
  rw [← e]
  by_cases h4 : fitsB (comS s l low) (sizesOf (comS s l low) l) = true
  · rw [if_pos h4, if_pos h4]
    refine ⟨rfl, rfl, ?_, fun key => ?_⟩
    · show (comS s l low).now + 1 = (comS x l low).now + 1
      rw [comS_now, comS_now, h.now]
    · have e1 := trim_put h.ls.good hw low hlow (sizesOf (comS s l low) l) key
      have e2 := trim_put h.lx.good hw low (h.now ▸ hlow) (sizesOf (comS x l low) l) key
      refine e1.trans (Eq.trans ?_ e2.symm)
      rw [h.tr key, h.comL, h.now]
  · rw [if_neg h4, if_neg h4]
    refine ⟨rfl, rfl, ?_, fun key => ?_⟩
    · show (comS s l low).now = (comS x l low).now
      rw [comS_now, comS_now, h.now]
    · show trimF ((comS s l low).ch key) low = trimF ((comS x l low).ch key) low
      rw [trim_coS h.ls.good, trim_coS h.lx.good, h.tr key]
theorem Uns.op (h : Uns low m s0 s x) {o : S55} (ho : FewOp o) (h1 : o.f0 ≠ 1) (hlow : o.f2 = low) (hn : low ≤ s.now) (ha : low ≤ o.f3) :
    Uns low (m + 1) s0 (opP s o).2 (opP x o).2 ∧ (opP s o).1.e = (opP x o).1.e ∧ (opP s o).1.b = (opP x o).1.b ∧ (opP s o).1.is = (opP x o).1.is ∧ (opP s o).1.sc = (opP x o).1.sc ∧ (o.f0 ≠ 2 → (opP s o).1.n = (opP x o).1.n) := by
  have hls := h.ls.op ho
  have hlx := h.lx.op ho
  by_cases h0 : o.f0 = 0
  · simp only [opP, if_pos h0, hlow] at hls hlx ⊢
    obtain ⟨a, b, c, d⟩ := h.com ho.len ho.key ho.dat hn
    exact ⟨⟨hls, hlx, c, d⟩, b, trivial, trivial, trivial, fun _ => a⟩
  by_cases h2 : o.f0 = 2
  · simp only [opP, if_neg h0, if_neg h1, if_pos h2] at hls hlx ⊢
    exact ⟨⟨hls, hlx, h.now, h.tr⟩, trivial, by rw [h.get ha], by rw [h.get ha], trivial, fun e => absurd h2 e⟩
  by_cases h3 : o.f0 = 3
  · simp only [opP, if_neg h0, if_neg h1, if_neg h2, if_pos h3] at hls hlx ⊢
    exact ⟨⟨hls, hlx, h.now, h.tr⟩, trivial, trivial, trivial, h.scan ha _ _, fun _ => trivial⟩
  simp only [opP, if_neg h0, if_neg h1, if_neg h2, if_neg h3] at hls hlx ⊢
  exact ⟨⟨hls, hlx, h.now, h.tr⟩, trivial, trivial, trivial, trivial, fun _ => trivial⟩
end
end Go.Proofs.Yteofdgonpbmdlaa.St
namespace Go.Proofs.Yteofdgonpbmdlaa.St
open Go.RowKit Go.Maps Go.Proofs.YteofdgonpbmdlaaW.PrintWords Go.Proofs.YteofdgonpbmdlaaW.PrintLast Go.Proofs.YteofdgonpbmdlaaW.PrintMore Go.Proofs.Yteofdgonpbmdlaa.C Go.Proofs.Yteofdgonpbmdlaa.Pure
/-- The blocks from base on that the other store does not own. -/
def Oth (base p mb : Nat) (kv : Value) (k : Nat) : Prop := base ≤ k ∧ ¬ Own p mb kv k
theorem oth_turn {W W' : World} {base p mb p2 mb2 n2 n' : Nat} {kv kv' kv2 : Value} {s2 s' : SS} {D2 D' : DataW Value} {B : Nat → Prop} (hx : StoreAt W base (Oth base p mb kv) p2 s2 kv2 mb2 n2 D2) (hT : Turn base (Own p mb kv) W W') (hK : ∀ q, kv'.ownBlock = some q → kv.ownBlock = some q ∨ W.heap.size ≤ q) (hS : StoreAt W' base B p s' kv' mb n' D') :
    StoreAt W' base (Oth base p mb kv') p2 s2 kv2 mb2 n2 D2 :=
  hx.move hT.below.size (fun k hk hl => hT.keep k hl hk.2) (fun k hk hl => ⟨hk.1, fun ho => by
    rcases ho with e | e | e
    · exact hk.2 (.inl e)
    · exact hk.2 (.inr (.inl e))
    · rcases hK k e.symm with e2 | e2
      · exact hk.2 (.inr (.inr e2.symm))
      · omega⟩) (fun k hk => hk.1) (fun k hk => ⟨Nat.le_trans hS.base_le hk, fun ho => by have := (hS.own ho).2.2; omega⟩)
end Go.Proofs.Yteofdgonpbmdlaa.St
namespace Go.Proofs.Yteofdgonpbmdlaa.C
open Go.RowKit Go.Maps Go.Proofs.YteofdgonpbmdlaaW.PrintWords Go.Proofs.YteofdgonpbmdlaaW.PrintLast Go.Proofs.YteofdgonpbmdlaaW.PrintMore
attribute [local go_sem] max2_int min2_int max2_str min2_str str_leq str_gtr str_geq max_two min_two max_three min_three max_four min_four
set_option maxHeartbeats 1000000 in
theorem store_is.nil (W : World) : Calls Try.prog 70 #[.pointer none] W fun e w' => e = .returned (.bool false) ∧ w' = W := by
  go_enter Try.func70, Try.ntmps70
  go_wp2
  go_ret
  exact ⟨rfl, rfl⟩
set_option maxHeartbeats 1000000 in
theorem store_is.zero (W : World) (g : Nat) (h9 : W.cell? ⟨g, 9, none⟩ = some (.map none)) : Calls Try.prog 70 #[.pointer (some ⟨g, 0, none⟩)] W fun e w' => e = .returned (.bool false) ∧ w' = W := by
  have hne := fun (W : World) (r : Option Nat) => run_neq_map_nil (P := Try.prog) W 89 9 22 r Try.underlying89
  go_enter Try.func70, Try.ntmps70
  go_wp2
  go_ret
  exact ⟨rfl, rfl⟩
/-- A receiver that no call made. -/
def IsNone (W : World) (pv : Value) : Prop := ∀ W', Below W.heap.size W W' → Calls Try.prog 70 #[pv] W' fun e w' => e = .returned (.bool false) ∧ w' = W'
theorem isNone_nil (W : World) : IsNone W (.pointer none) := fun W' _ => store_is.nil W'
theorem isNone_zero (W : World) (g : Nat) (h9 : W.cell? ⟨g, 9, none⟩ = some (.map none)) : IsNone W (.pointer (some ⟨g, 0, none⟩)) := fun W' hb => store_is.zero W' g (pw_cell_below hb h9)
set_option maxHeartbeats 1000000 in
theorem none_Now (W : World) (pv : Value) (h : IsNone W pv) : Calls Try.prog 44 #[pv] W fun e w' => e = .returned (.int .u64 0) ∧ w' = W := by
  have H := Aside0.mk (h W (Below.refl _ _))
  clear h
  go_enter Try.func44, Try.ntmps44
  go_wp2_with (go_at_call 70; refine H.out.mono ?_; rintro e w1 ⟨rfl, rfl⟩)
  go_ret
  exact ⟨rfl, rfl⟩
set_option maxHeartbeats 1000000 in
theorem none_chain (W : World) (pv : Value) (h : IsNone W pv) (key : ByteArray) : Calls Try.prog 72 #[pv, .string key] W fun e w' => e = .returned (.slice none 0 0) ∧ w' = W := by
  have H := Aside0.mk (h W (Below.refl _ _))
  clear h
  go_enter Try.func72, Try.ntmps72
  go_wp2_with (go_at_call 70; refine H.out.mono ?_; rintro e w1 ⟨rfl, rfl⟩)
  go_ret
  exact ⟨rfl, rfl⟩
set_option maxHeartbeats 1000000 in
theorem none_Keys (W : World) (pv : Value) (h : IsNone W pv) : Calls Try.prog 50 #[pv] W fun e w' => e = .returned (.slice none 0 0) ∧ w' = W := by
  have H := Aside0.mk (h W (Below.refl _ _))
  clear h
  go_enter Try.func50, Try.ntmps50
  go_wp2_with (go_at_call 70; refine H.out.mono ?_; rintro e w1 ⟨rfl, rfl⟩)
  go_ret
  exact ⟨rfl, rfl⟩
set_option maxHeartbeats 1000000 in
theorem none_Scan (W : World) (pv : Value) (h : IsNone W pv) (lo : ByteArray) (hi : ByteArray) (t : Int) : Calls Try.prog 42 #[pv, .string lo, .string hi, .int .u64 t] W fun e w' => e = .returned (.slice none 0 0) ∧ w' = W := by
  have H := Aside0.mk (h W (Below.refl _ _))
  clear h
  go_enter Try.func42, Try.ntmps42
  go_wp2_with (go_at_call 70; refine H.out.mono ?_; rintro e w1 ⟨rfl, rfl⟩)
  go_ret
  exact ⟨rfl, rfl⟩
set_option maxHeartbeats 1000000 in
theorem none_Collect (W : World) (pv : Value) (h : IsNone W pv) (t : Int) : Calls Try.prog 49 #[pv, .int .u64 t] W fun e w' => e = .returned (.int .i64 0) ∧ w' = W := by
  have H := Aside0.mk (h W (Below.refl _ _))
  clear h
  go_enter Try.func49, Try.ntmps49
  go_wp2_with (go_at_call 70; refine H.out.mono ?_; rintro e w1 ⟨rfl, rfl⟩)
  go_ret
  exact ⟨rfl, rfl⟩
set_option maxHeartbeats 1000000 in
theorem none_Clone (W : World) (pv : Value) (h : IsNone W pv) : Calls Try.prog 60 #[pv] W fun e w' => e = .returned (.pointer none) ∧ w' = W := by
  have H := Aside0.mk (h W (Below.refl _ _))
  clear h
  go_enter Try.func60, Try.ntmps60
  go_wp2_with (go_at_call 70; refine H.out.mono ?_; rintro e w1 ⟨rfl, rfl⟩)
  go_ret
  exact ⟨rfl, rfl⟩
set_option maxHeartbeats 1000000 in
theorem none_Commit (W : World) (pv : Value) (h : IsNone W pv) (l : Value) (t : Int) : Calls Try.prog 61 #[pv, l, .int .u64 t] W fun e w' => e = .returned (.tuple #[.int .u64 0, .int .i64 2]) ∧ w' = W := by
  have H := Aside0.mk (h W (Below.refl _ _))
  clear h
  go_enter Try.func61, Try.ntmps61
  go_wp2_with (go_at_call 70; refine H.out.mono ?_; rintro e w1 ⟨rfl, rfl⟩)
  go_ret2
  exact ⟨rfl, rfl⟩
end Go.Proofs.Yteofdgonpbmdlaa.C
namespace Go.Proofs.Yteofdgonpbmdlaa.C
open Go.RowKit Go.Maps Go.Proofs.YteofdgonpbmdlaaW.PrintWords Go.Proofs.YteofdgonpbmdlaaW.PrintLast Go.Proofs.YteofdgonpbmdlaaW.PrintMore
attribute [local go_sem] max2_int min2_int max_two min_two max_three min_three max_four min_four
set_option maxHeartbeats 1000000 in
theorem none_Count (W : World) (pv : Value) (h : IsNone W pv) : Calls Try.prog 48 #[pv] W fun e w' => e = .returned (.agg #[.int .i64 0, .int .i64 0, .int .i64 0]) ∧ Below W.heap.size W w' := by
  have HB := Aside0.mk (Below.refl W.heap.size W)
  go_enter Try.func48, Try.ntmps48
  go_wp2_with (first
    | ((with_reducible refine gate_dst (N := 2) rfl ?_); refine box_event ?hg (N := 2) ?hd (cs := #[.int .i64 0, .int .i64 0, .int .i64 0]) (t := 72) ?hr ?_; (case hd => rfl); (case hg => rfl); (case hr => first | (go_simp; done) | (go_simp; rfl)); intro g hg w1 hbox hb; have HI := Aside0.mk (h _ hb); have GE := Aside0.mk (show W.heap.size ≤ g by rw [hg]; exact Nat.le_refl _); clear HB; have HB := Aside0.mk hb; have BK := Aside0.mk hbox; have c0 := (blk_cell hbox 0).trans (show _ = some (Value.int .i64 0) from rfl); have c1 := (blk_cell hbox 1).trans (show _ = some (Value.int .i64 0) from rfl); have c2 := (blk_cell hbox 2).trans (show _ = some (Value.int .i64 0) from rfl); have f0 := blk_frozen hbox 0; have f1 := blk_frozen hbox 1; have f2 := blk_frozen hbox 2; clear hbox hb hg)
    | (go_at_call 70; refine HI.out.mono ?_; rintro e w2 ⟨rfl, rfl⟩))
  exact bodyPost_ret (v := .agg #[.int .i64 0, .int .i64 0, .int .i64 0]) (by simp [results, Try.results48, go_sem, c0, c1, c2]) rfl ⟨rfl, below_set (below_set (below_set HB.out GE.out) GE.out) GE.out⟩
set_option maxHeartbeats 1000000 in
theorem none_Latest (W : World) (pv : Value) (h : IsNone W pv) (key : ByteArray) : Calls Try.prog 62 #[pv, .string key] W fun e w' => e = .returned (.int .u64 0) ∧ Below W.heap.size W w' := by
  have H := Aside0.mk (none_chain W pv h key)
  have hg : chain_Last.f [] = some 0 := by decide +kernel
  have HG : Aside0 (∀ W : World, Calls Try.prog 26 #[.slice none 0 0] W fun e w' => e = .returned (.int .u64 0) ∧ Below W.heap.size W w') := ⟨fun W => (chain_Last.calls none 0 [] 0 W (Kd.C_nil k28 W) (Nat.le_refl _) hg).mono (fun e w' h_ => ⟨h_.1, h_.2.below⟩)⟩
  clear h hg
  go_enter Try.func62, Try.ntmps62
  go_wp2_with (first
    | (go_at_call 72; refine H.out.mono ?_; rintro e w1 ⟨rfl, e1⟩; replace e1 := e1.symm; subst e1)
    | (go_at_call 26; refine (HG.out _).mono ?_; rintro e w2 ⟨rfl, hd⟩; have HB := Aside0.mk hd; clear hd))
  go_ret
  exact ⟨rfl, HB.out⟩
set_option maxHeartbeats 1000000 in
theorem none_Read (W : World) (pv : Value) (h : IsNone W pv) (key : ByteArray) (at_ : Int) : Calls Try.prog 43 #[pv, .string key, .int .u64 at_] W fun e w' => (∃ A c, e = .returned (.tuple #[.slice A 0 c, .bool false])) ∧ Below W.heap.size W w' := by
  have H := Aside0.mk (none_chain W pv h key)
  have hg : chain_Get.f [] at_ = some ([], false) := (St.get5 (l := []) rfl (fun v hv => by cases hv) (by decide) at_).trans (by rw [St.getF_nil])
  have HG : Aside0 (∀ W : World, Calls Try.prog 22 #[.slice none 0 0, .int .u64 at_] W fun e w' => (∃ A c, e = .returned (.tuple #[.slice A 0 c, .bool false])) ∧ Below W.heap.size W w') := ⟨fun W => (chain_Get.calls none 0 [] at_ [] false W (Kd.C_nil k28 W) (Nat.le_refl _) hg).mono (fun e w' h_ => by
    obtain ⟨v, rfl, ho, hb⟩ := h_
    obtain ⟨A, c, rfl⟩ := Kd.R_slice ho
    exact ⟨⟨A, c, rfl⟩, hb⟩)⟩
  clear h hg
  go_enter Try.func43, Try.ntmps43
  go_wp2_with (first
    | (go_at_call 72; refine H.out.mono ?_; rintro e w1 ⟨rfl, e1⟩; replace e1 := e1.symm; subst e1)
    | (go_at_call 22; refine (HG.out _).mono ?_; rintro e w2 ⟨⟨A, c, rfl⟩, hb⟩; have HB := Aside0.mk hb; clear hb))
  go_ret2
  exact ⟨⟨_, _, rfl⟩, HB.out⟩
set_option maxHeartbeats 1000000 in
theorem clone_nil (w : World) : Calls Try.prog 75 #[.slice none 0 0] w fun e w' => e = .returned (.slice none 0 0) ∧ Below w.heap.size w w' := by
  have heq := fun W => Lib.run_eql_slice_nil (P := Try.prog) W 22 28 (none : Option Addr) 0 0 0 0 Try.underlying22
  go_enter Try.func75, Try.ntmps75
  go_wp2
  go_ret
  exact ⟨rfl, Below.refl _ _⟩
set_option maxHeartbeats 2000000 in
theorem none_Chain (W : World) (pv : Value) (h : IsNone W pv) (key : ByteArray) : Calls Try.prog 51 #[pv, .string key] W fun e w' => e = .returned (.slice none 0 0) ∧ Below W.heap.size W w' := by
  have H := Aside0.mk (none_chain W pv h key)
  have HC := Aside0.mk (clone_nil)
  clear h
  go_enter Try.func51, Try.ntmps51
  go_wp2_with (first
    | (go_at_call 72; refine H.out.mono ?_; rintro e w1 ⟨rfl, e1⟩; replace e1 := e1.symm; subst e1)
    | (go_at_call 75; refine (HC.out _).mono ?_; rintro e w2 ⟨rfl, hb⟩; have HB := Aside0.mk hb; clear hb))
  go_loopw [13] (fun vi wr => vi = .int .i64 0 ∧ Aside0 (Below W.heap.size W wr)) (fun _ _ => 0)
  case atStart => exact ⟨rfl, HB⟩
  case round =>
    obtain ⟨rfl, HB⟩ := hrel
    go_wp2
    go_ret
    exact ⟨rfl, HB.out⟩
end Go.Proofs.Yteofdgonpbmdlaa.C
namespace Go.Proofs.Yteofdgonpbmdlaa.C
open Go.RowKit Go.Maps Go.Proofs.YteofdgonpbmdlaaW.PrintWords
theorem clone_at {W W' : World} {base p p2 mb2 mb n : Nat} {B : Nat → Prop} {s : SS} {kv v : Value} {D : DataW Value} (h : StoreAt W base B p s kv mb n D) (hb : W.heap.size ≤ W'.heap.size) (hp2 : W'.heap[p2]? = some (.cells (cellsOf s v mb2) 91 (0, 0))) (hm : W'.heap[mb2]? = some (.map #[] 0)) (h2 : W.heap.size ≤ p2) (h3 : W.heap.size ≤ mb2)
    (hv : Kd.R Kd.string 9 W' base (fun k => W.heap.size ≤ k ∧ k ≠ p2 ∧ k ≠ mb2) v s.keys) : StoreAt W' base (fun k => B k ∧ ¬ Own p mb kv k) p2 { s with ch := fun _ => [] } v mb2 0 (.map []) := by
  have hno : ∀ k, W.heap.size ≤ k → B k ∧ ¬ Own p mb kv k := fun k hk => ⟨h.bn k hk, fun ho => by have := (h.own ho).2.2; omega⟩
  exact {
    cells := hp2
    keys := .inl (Kd.R_mono hv (fun k hk => ⟨hno k hk.1, hk.2⟩))
    map := by
      refine ⟨#[], 0, hm, ?_⟩
      obtain ⟨es, clock, h1, h2⟩ := World.ownsMap_made (H := Value) W Try.prog 9 tok
      have e : (W.alloc (.map #[] 0)).heap[W.heap.size]? = some (.map #[] 0) := heap_alloc_new _ _
      rw [e] at h1
      injection h1 with h1
      injection h1 with h1 h3
      subst h1 h3
      exact h2
    bb := fun k hk => h.bb k hk.1
    bn := fun k hk => hno k (Nat.le_trans hb hk)
    bp := hno p2 h2
    bm := hno mb2 h3
    pm := fun e => by rw [e, hm] at hp2; cases hp2
    chains := fun key _ => ⟨none, 0, rfl, Nat.le_refl _, Kd.F_nil _ _ _⟩ }
end Go.Proofs.Yteofdgonpbmdlaa.C
namespace Go.Proofs.Yteofdgonpbmdlaa.St
open Go.RowKit Go.Maps Go.Proofs.YteofdgonpbmdlaaW.PrintWords Go.Proofs.YteofdgonpbmdlaaW.PrintLast Go.Proofs.YteofdgonpbmdlaaW.PrintMore Go.Proofs.Yteofdgonpbmdlaa.C Go.Proofs.Yteofdgonpbmdlaa.Pure
attribute [local go_sem] max2_int min2_int max2_str min2_str str_leq str_gtr str_geq max_two min_two max_three min_three max_four min_four
set_option maxRecDepth 100000 in
set_option maxHeartbeats 16000000 in
theorem store_Clone.calls {W : World} {base p : Nat} {B : Nat → Prop} {s : SS} {kv : Value} {mb n : Nat} {D : DataW Value} (h : Aside0 (StoreAt W base B p s kv mb n D)) (hl : Aside0 (s.keys.length ≤ 100000)) (hk : Aside0 (∀ key, key ∈ s.keys → key.size ≤ maxLen)) (hz : Aside0 (∀ key, key ∉ s.keys → s.ch key = [])) :
    Calls Try.prog 60 #[.pointer (some ⟨p, 0, none⟩)] W fun e w' => (∃ (p2 mb2 n2 : Nat) (kv2 : Value) (D2 : DataW Value), e = .returned (.pointer (some ⟨p2, 0, none⟩)) ∧ StoreAt w' base (fun k => B k ∧ ¬ Own p mb kv k) p2 s kv2 mb2 n2 D2 ∧ n2 ≤ s.keys.length ∧ ∀ k, Own p2 mb2 kv2 k → W.heap.size ≤ k) ∧ Below W.heap.size W w' := by
  obtain ⟨A, c, ekv, hl_, hc_⟩ := h.out.keys.row
  have HC := Aside0.mk hc_
  have HL := Aside0.mk hl_
  clear hl_ hc_
  have hmm := @run_makeMap Try.prog
  have h20 : ∀ w' : World, (w'.cell? ⟨p, 0, none⟩ = some (.int .i64 s.l0) ∧ w'.cell? ⟨p, 1, none⟩ = some (.int .i64 s.l1) ∧ w'.cell? ⟨p, 2, none⟩ = some (.int .i64 s.l2) ∧ w'.cell? ⟨p, 3, none⟩ = some (.int .i64 s.l3) ∧ w'.cell? ⟨p, 4, none⟩ = some (.int .i64 s.l4) ∧ w'.cell? ⟨p, 5, none⟩ = some (.int .i64 s.l5) ∧ w'.cell? ⟨p, 6, none⟩ = some (.int .u64 s.last) ∧ w'.cell? ⟨p, 7, none⟩ = some (.int .u64 s.now) ∧ w'.cell? ⟨p, 8, none⟩ = some (.slice A s.keys.length c) ∧ w'.cell? ⟨p, 10, none⟩ = some (.int .i64 s.n0) ∧ w'.cell? ⟨p, 11, none⟩ = some (.int .i64 s.n1) ∧ w'.cell? ⟨p, 12, none⟩ = some (.int .i64 s.n2) ∧ Below W.heap.size W w') → Below W.heap.size W w' := fun _ h_ => h_.2.2.2.2.2.2.2.2.2.2.2.2
  have H20 := Aside0.mk h20
  have k20 : ∀ w' : World, Below W.heap.size W w' → (w'.cell? ⟨p, 0, none⟩ = some (.int .i64 s.l0) ∧ w'.cell? ⟨p, 1, none⟩ = some (.int .i64 s.l1) ∧ w'.cell? ⟨p, 2, none⟩ = some (.int .i64 s.l2) ∧ w'.cell? ⟨p, 3, none⟩ = some (.int .i64 s.l3) ∧ w'.cell? ⟨p, 4, none⟩ = some (.int .i64 s.l4) ∧ w'.cell? ⟨p, 5, none⟩ = some (.int .i64 s.l5) ∧ w'.cell? ⟨p, 6, none⟩ = some (.int .u64 s.last) ∧ w'.cell? ⟨p, 7, none⟩ = some (.int .u64 s.now) ∧ w'.cell? ⟨p, 8, none⟩ = some (.slice A s.keys.length c) ∧ w'.cell? ⟨p, 10, none⟩ = some (.int .i64 s.n0) ∧ w'.cell? ⟨p, 11, none⟩ = some (.int .i64 s.n1) ∧ w'.cell? ⟨p, 12, none⟩ = some (.int .i64 s.n2) ∧ Below W.heap.size W w') := fun w' hb_ => ⟨pw_cell_below hb_ ((blk_cell h.out.cells 0).trans rfl), pw_cell_below hb_ ((blk_cell h.out.cells 1).trans rfl), pw_cell_below hb_ ((blk_cell h.out.cells 2).trans rfl), pw_cell_below hb_ ((blk_cell h.out.cells 3).trans rfl), pw_cell_below hb_ ((blk_cell h.out.cells 4).trans rfl), pw_cell_below hb_ ((blk_cell h.out.cells 5).trans rfl), pw_cell_below hb_ ((blk_cell h.out.cells 6).trans rfl), pw_cell_below hb_ ((blk_cell h.out.cells 7).trans rfl), pw_cell_below hb_ ((blk_cell h.out.cells 8).trans (show _ = some (Value.slice A s.keys.length c) from by rw [← ekv]; rfl)), pw_cell_below hb_ ((blk_cell h.out.cells 10).trans rfl), pw_cell_below hb_ ((blk_cell h.out.cells 11).trans rfl), pw_cell_below hb_ ((blk_cell h.out.cells 12).trans rfl), hb_⟩
  have K20 := Aside0.mk k20
  clear h20 k20
  go_enter Try.func60, Try.ntmps60
  go_wp2_with (go_at_call 70; refine (store_is.calls h).mono ?_; rintro e w1 ⟨rfl, e1⟩; replace e1 := e1.symm; subst e1)
  go_cut [3] (fun v3 wc => ∃ (p2 mb2 : Nat) (v : Value), v3 = .pointer (some ⟨p2, 0, none⟩) ∧ Aside0 (StoreAt wc base (fun k => B k ∧ ¬ Own p mb kv k) p2 { s with ch := fun _ => [] } v mb2 0 (.map [])) ∧ Aside0 (∀ k, Own p2 mb2 v k → W.heap.size ≤ k) ∧ Aside0 (Below W.heap.size W wc))
  case first =>
   go_region_held3 (fun w' : World => (w'.cell? ⟨p, 0, none⟩ = some (.int .i64 s.l0) ∧ w'.cell? ⟨p, 1, none⟩ = some (.int .i64 s.l1) ∧ w'.cell? ⟨p, 2, none⟩ = some (.int .i64 s.l2) ∧ w'.cell? ⟨p, 3, none⟩ = some (.int .i64 s.l3) ∧ w'.cell? ⟨p, 4, none⟩ = some (.int .i64 s.l4) ∧ w'.cell? ⟨p, 5, none⟩ = some (.int .i64 s.l5) ∧ w'.cell? ⟨p, 6, none⟩ = some (.int .u64 s.last) ∧ w'.cell? ⟨p, 7, none⟩ = some (.int .u64 s.now) ∧ w'.cell? ⟨p, 8, none⟩ = some (.slice A s.keys.length c) ∧ w'.cell? ⟨p, 10, none⟩ = some (.int .i64 s.n0) ∧ w'.cell? ⟨p, 11, none⟩ = some (.int .i64 s.n1) ∧ w'.cell? ⟨p, 12, none⟩ = some (.int .i64 s.n2) ∧ Below W.heap.size W w')) (first | exact K20.out _ (below_drew1 (Below.refl _ _)) | exact K20.out _ (below_step (H20.out _ (by assumption)) hb2) | assumption | exact K20.out _ (below_alloc (H20.out _ (by assumption)) _) | exact K20.out _ (below_drew1 (below_alloc (H20.out _ (by assumption)) _)) | exact K20.out _ (below_drew1 (below_alloc (Below.refl _ _) _)) | exact K20.out _ (below_alloc (Below.refl _ _) _)) (first | (go_at_call 74; refine (clone_strings A c s.keys _ (Kd.C_below HC.out (H20.out _ (by assumption))) HL.out (by have := hl.out; omega)).mono ?_; rintro e w2 ⟨v, rfl, ho, hb2⟩; obtain ⟨A2, c2, ev⟩ := Kd.R_slice ho; subst ev))
   all_goals ((try go_wp2); go_meet)
   · have hB2 : Below W.heap.size W w2 := below_step (below_drew1 (Below.refl _ _)) hb2
     have hv2 := Kd.R_mono (Kd.R_bound ho) (fun k hk_ => And.intro hk_.2.1 hk_.2.2.1)
     have hs1 : ∀ (w_ : World) (o_ : Obj), (w_.alloc o_).heap.size = w_.heap.size + 1 := fun _ _ => by simp
     have hbW := h.out.base_le
     have hsz := hB2.size
     have hBB : ∀ c_ : Obj, Below w2.heap.size w2 ((w2.alloc (.map #[] 0)).alloc c_) := fun c_ => below_alloc (below_alloc (Below.refl _ _) _) _
     refine ⟨w2.heap.size + 1, w2.heap.size, .slice A2 s.keys.length c2, rfl, ⟨clone_at h.out (Nat.le_trans hsz (hBB _).size) ?_ ?_ (by omega) hsz (Kd.R_lower (Kd.R_mono (Kd.R_below hv2 (hBB _)) (fun k hk_ => ?_)) hbW)⟩, ⟨fun k ho_ => ?_⟩, ⟨below_alloc (below_alloc hB2 _) _⟩⟩
     · rw [← hs1 w2 (.map #[] 0)]; exact heap_alloc_new _ _
     · exact (Below.heap_alloc _ _ _ (by simp)).trans (heap_alloc_new _ _)
     · have h_ : W.heap.size ≤ k := hk_.1
       exact ⟨h_, by omega, by omega⟩
     · rcases ho_ with e | e | e
       · omega
       · omega
       · exact (hv2.1 k e.symm).1
   · have hB2 : Below W.heap.size W w2 := below_step (below_drew1 (below_alloc (Below.refl _ _) _)) hb2
     have hv2 := Kd.R_mono (Kd.R_bound ho) (fun k hk_ => And.intro hk_.2.1 hk_.2.2.1)
     have hs1 : ∀ (w_ : World) (o_ : Obj), (w_.alloc o_).heap.size = w_.heap.size + 1 := fun _ _ => by simp
     have hbW := h.out.base_le
     have hsz := hB2.size
     have hq : (W.alloc (Obj.map #[] 0)).drew.heap.size = W.heap.size + 1 := hs1 W _
     have hBB : ∀ c_ : Obj, Below w2.heap.size w2 (w2.alloc c_) := fun c_ => below_alloc (Below.refl _ _) _
     have hm2 : w2.heap[W.heap.size]? = some (.map #[] 0) := (hb2.block W.heap.size (by omega)).trans (heap_alloc_new W (.map #[] 0))
     have hsz2 := hb2.size
     refine ⟨w2.heap.size, W.heap.size, .slice A2 s.keys.length c2, rfl, ⟨clone_at h.out (Nat.le_trans hsz (hBB _).size) ?_ ?_ hsz (Nat.le_refl _) (Kd.R_lower (Kd.R_mono (Kd.R_below hv2 (hBB _)) (fun k hk_ => ?_)) (by omega))⟩, ⟨fun k ho_ => ?_⟩, ⟨below_alloc hB2 _⟩⟩
     · exact heap_alloc_new _ _
     · exact ((hBB _).block W.heap.size (by omega)).trans hm2
     · have h_ := hk_.1
       exact ⟨by omega, by omega, by omega⟩
     · rcases ho_ with e | e | e
       · omega
       · omega
       · have h_ := (hv2.1 k e.symm).1
         omega
  case rest =>
    obtain ⟨p2, mb2, v, rfl, HS2, HO2, HB2⟩ := hcut
    have d8 := (K20.out _ HB2.out).2.2.2.2.2.2.2.2.1
    go_wp2
    clear d8
    go_loopw [34] (fun vi wr => ∃ (i n2 : Nat) (D2 : DataW Value), vi = .int .i64 i ∧ i ≤ s.keys.length ∧ n2 ≤ i ∧ Aside0 (StoreAt wr base (fun k => B k ∧ ¬ Own p mb kv k) p2 { s with ch := colCh (s.keys.take i) s.ch (fun _ => []) } v mb2 n2 D2) ∧ Aside0 (Below W.heap.size W wr)) (fun vi _ => s.keys.length - (intOf vi).toNat)
    case atStart => exact ⟨0, 0, .map [], rfl, Nat.zero_le _, Nat.le_refl _, ⟨HS2.out⟩, HB2⟩
    case round =>
      clear HS2 HB2
      obtain ⟨i, n2, D2, rfl, hi1, hn2, HS, HB⟩ := hrel
      by_cases hlt : i < s.keys.length
      · obtain ⟨ad, e_, hx⟩ := Kd.at_string (Kd.C_below HC.out HB.out) (i : Int) (by omega) (by omega)
        subst e_
        obtain ⟨key, hkey⟩ : ∃ key, ks s.keys (i : Nat) = key := ⟨_, rfl⟩
        have hx2 : wr.cell? (ad.add i) = some (.string key) := by rw [← hkey]; exact hx
        have hi3 : i < 100000 := by have := hl.out; omega
        clear hx
        have hmem : key ∈ s.keys := by rw [← hkey, ks_get _ _ hlt]; exact List.getElem_mem hlt
        obtain ⟨Ac, cc, hat, hcl, hcF⟩ := h.out.chains key (hk.out key hmem)
        have HAT := Aside0.mk hat
        have HCL := Aside0.mk hcl
        have HCF := Aside0.mk hcF
        clear hat hcl hcF
        go_wp2
        have hb3 := below_drew1 (Below.refl wr.heap.size wr)
        have HS17 := Aside0.mk (HS.out.below hb3)
        have HB17 := Aside0.mk (below_step HB.out hb3)
        have d9 : wr.cell? ⟨p, 9, none⟩ = some (.map (some mb)) := pw_cell_below HB.out ((blk_cell h.out.cells 9).trans rfl)
        have e9 : wr.cell? ⟨p2, 9, none⟩ = some (.map (some mb2)) := (blk_cell HS.out.cells 9).trans rfl
        have hlk2 := h.out.lookW HB17.out key (hk.out key hmem) HAT.out
        have hlk : Sem.run Try.prog (Instr.lookup 89 (Value.map (some mb)) (Value.string key) false) ({ heap := wr.heap, tape := wr.tape, drawn := wr.drawn + 1, os := wr.os, output := wr.output } : World) = .ok (Value.slice Ac (s.ch key).length cc) ({ heap := wr.heap, tape := wr.tape, drawn := wr.drawn + 1, os := wr.os, output := wr.output } : World) := hlk2
        go_still_tail 11, (by kernel_rfl)
        have HCF17 := Aside0.mk (Kd.F_below (Kd.F_mono (Kd.F_bound HCF.out) (ok' := fun q => (B q ∧ ¬ Own p mb kv q) ∧ q ≠ p2 ∧ q ≠ mb2 ∧ some q ≠ v.ownBlock) (fun q hq => ⟨⟨hq.1.1, fun ho => ho.elim hq.1.2.1 (fun ho2 => ho2.elim hq.1.2.2.1 hq.1.2.2.2)⟩, fun e => by have := HO2.out q (.inl e); have := hq.2; omega, fun e => by have := HO2.out q (.inr (.inl e)); have := hq.2; omega, fun e => by have := HO2.out q (.inr (.inr e)); have := hq.2; omega⟩)) HB17.out)
        have HST := Aside0.mk (colCh_step s.keys s.ch (fun _ => []) i hlt (s.ch key) (by rw [hkey]))
        rw [hkey] at HST
        have hw2 := Aside0.mk (HO2.out mb2 (.inr (.inl rfl)))
        at_mapUpdate
        refine wpList_mapUpdate_own _ rfl _ _ _ 89 rfl 9 22 law9 Try.underlying89 tok mb2 n2 D2 rfl HS17.out.map (by have := hl.out; simp only [maxLen]; omega) (.string key) (.slice Ac (s.ch key).length cc) (.string key.data.toList) rfl rfl (Go.WideMaps.keyOf_string_mk Try.underlying9 (hk.out key hmem)) (.held (.slice Ac (s.ch key).length cc)) [] rfl ?_
        intro w18 hown hgrow
        have HS18 := Aside0.mk (HS17.out.mapPut key HCL.out HCF17.out hown hgrow)
        have HB18 := Aside0.mk (HB17.out.grown hgrow HB17.out.size (fun k e => by injection e with e; subst e; exact hw2.out))
        clear hown hgrow
        go_wp2
        go_round
        case rel => exact ⟨i + 1, n2 + 1, _, by go_num, hlt, by omega, ⟨by rw [← HST.out]; exact HS18.out⟩, HB18⟩
        case measure => simp [intOf]; omega
      · have hie : i = s.keys.length := by omega
        have hce : colCh (s.keys.take i) s.ch (fun _ => []) = s.ch := by
          rw [hie, List.take_length]
          funext q
          unfold colCh
          by_cases hq : q ∈ s.keys
          · rw [if_pos (hasK_iff.2 hq)]
          · rw [if_neg (fun h_ => hq (hasK_iff.1 h_)), hz.out q hq]
        rw [hce] at HS
        clear hce
        go_wp2
        go_ret
        exact ⟨⟨p2, mb2, n2, v, D2, rfl, HS.out, by omega, HO2.out⟩, HB.out⟩
end Go.Proofs.Yteofdgonpbmdlaa.St
namespace Go.Proofs.Yteofdgonpbmdlaa.C
open Go.RowKit Go.Proofs.YteofdgonpbmdlaaW.PrintWords
structure S51 where
  f0 : Int
  f1 : Int
  f2 : Int
  f3 : Int
  f4 : Int
  f5 : Int
  f6 : Int
def k51 : Kd S51 := Kd.iso (Kd.pair (Kd.int .i64) (Kd.pair (Kd.int .i64) (Kd.pair (Kd.int .i64) (Kd.pair (Kd.int .i64) (Kd.pair (Kd.int .i64) (Kd.pair (Kd.int .i64) (Kd.int .u64))))))) (fun x : S51 => (x.f0, x.f1, x.f2, x.f3, x.f4, x.f5, x.f6))
end Go.Proofs.Yteofdgonpbmdlaa.C
