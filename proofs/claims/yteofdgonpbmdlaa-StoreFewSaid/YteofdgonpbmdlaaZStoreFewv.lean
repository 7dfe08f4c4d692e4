/- Texts of this session, merged for the law StoreFew: C30, TU, TV, PE, UG, UH, UI. No condition. -/
import Derived.Test.YteofdgonpbmdlaaZStoreFewo
import Derived.Test.YteofdgonpbmdlaaZStoreFewu
import Derived.Laws.IdiomStrings
import Derived.Test.YteofdgonpbmdlaaZStoreFewt
import Derived.Test.YteofdgonpbmdlaaZStoreFewp
import Derived.Test.YteofdgonpbmdlaaZStoreFewq
set_option linter.unusedVariables false
set_option linter.unusedSimpArgs false
namespace Go.Proofs.Yteofdgonpbmdlaa.C
open Go.RowKit Go.Proofs.YteofdgonpbmdlaaW.PrintWords Go.Proofs.YteofdgonpbmdlaaW.PrintLast Go.Proofs.YteofdgonpbmdlaaW.PrintMore
attribute [local go_sem] max2_int min2_int max2_str min2_str str_leq str_gtr str_geq max_two min_two max_three min_three max_four min_four   -- for this text's walks alone
set_option linter.unusedVariables false
set_option linter.unusedSimpArgs false
def conductorlaw08_Big.f  : Option (Int × Int × Int × Int × Int × Int × Int) := some (1000, 10000, 1048576, 1000, 1000, 16, 1099511627776)
set_option maxHeartbeats 8000000 in
set_option maxRecDepth 100000 in
theorem conductorlaw08_Big.calls  (r1 : Int) (r2 : Int) (r3 : Int) (r4 : Int) (r5 : Int) (r6 : Int) (r7 : Int) (w : World) (h : conductorlaw08_Big.f  = some (r1, r2, r3, r4, r5, r6, r7)) :
  Calls Try.prog 40 #[] w fun e w' => e = .returned (.agg #[.int .i64 r1, .int .i64 r2, .int .i64 r3, .int .i64 r4, .int .i64 r5, .int .i64 r6, .int .u64 r7]) ∧ Below w.heap.size w w' := by
 have hu51 := Try.underlying51
 have HB := Aside0.mk (Below.refl w.heap.size w)
 have H : (some (1000, 10000, 1048576, 1000, 1000, 16, 1099511627776)) = some (r1, r2, r3, r4, r5, r6, r7) := h
 clear h
 simp only [Option.some.injEq, Prod.mk.injEq] at H
 obtain ⟨rfl, rfl, rfl, rfl, rfl, rfl, rfl⟩ := H
 go_enter Try.func40, Try.ntmps40
 go_wp2_with (first | ((with_reducible refine gate_dst (N := 0) rfl ?_); refine box_event ?hg (N := 0) ?hd (cs := #[.int .i64 0, .int .i64 0, .int .i64 0, .int .i64 0, .int .i64 0, .int .i64 0, .int .u64 0]) (t := 51) ?hr ?_; (case hd => rfl); (case hg => rfl); (case hr => first | (go_simp; done) | (go_simp; rfl)); intro gb390 hg w1 hbox hb; have n0_ := Aside0.mk (below_step (by repeat (first | (with_reducible first | exact HB.out | apply below_alloc | apply pw_below_drewN | apply below_drew1) | exact HB.out)) hb); have n1_ := Aside0.mk (hbox); have n2_ := Aside0.mk ((by rw [hg]; exact (below_size (by repeat (first | (with_reducible first | exact HB.out | apply below_alloc | apply pw_below_drewN | apply below_drew1) | exact HB.out))) : w.heap.size ≤ gb390)); have n3_ := Aside0.mk ((by rw [hg]; exact (below_size (by repeat (first | (with_reducible first | exact HB.out | apply below_alloc | apply pw_below_drewN | apply below_drew1) | exact HB.out))) : w.heap.size ≤ gb390)); clear HB; have HB := n0_; have BK390 := n1_; have GW390 := n2_; have GE390 := n3_; clear n0_ n1_ n2_ n3_; clear hb hbox hg; have hcz2_0 : w1.cell? ⟨gb390, 0, none⟩ = some (.int .i64 0) := (blk_cell BK390.out 0).trans rfl; have hcz2_1 : w1.cell? ⟨gb390, 1, none⟩ = some (.int .i64 0) := (blk_cell BK390.out 1).trans rfl; have hcz2_2 : w1.cell? ⟨gb390, 2, none⟩ = some (.int .i64 0) := (blk_cell BK390.out 2).trans rfl; have hcz2_3 : w1.cell? ⟨gb390, 3, none⟩ = some (.int .i64 0) := (blk_cell BK390.out 3).trans rfl; have hcz2_4 : w1.cell? ⟨gb390, 4, none⟩ = some (.int .i64 0) := (blk_cell BK390.out 4).trans rfl; have hcz2_5 : w1.cell? ⟨gb390, 5, none⟩ = some (.int .i64 0) := (blk_cell BK390.out 5).trans rfl; have hcz2_6 : w1.cell? ⟨gb390, 6, none⟩ = some (.int .u64 0) := (blk_cell BK390.out 6).trans rfl; have hfz2_0 := blk_frozen BK390.out 0; have hfz2_1 := blk_frozen BK390.out 1; have hfz2_2 := blk_frozen BK390.out 2; have hfz2_3 := blk_frozen BK390.out 3; have hfz2_4 := blk_frozen BK390.out 4; have hfz2_5 := blk_frozen BK390.out 5; have hfz2_6 := blk_frozen BK390.out 6))
 refine bodyPost_ret (results_cell_row rfl _ _ gb390 51 #[.int .i64 1000, .int .i64 10000, .int .i64 1048576, .int .i64 1000, .int .i64 1000, .int .i64 16, .int .u64 1099511627776] (0, 0) _ rfl (by (with_reducible repeat (first | refine blk_drewN ?_ _ | refine blk_drew ?_ | refine blk_alloc ?_ _)); refine blk_put (cs := #[.int .i64 1000, .int .i64 10000, .int .i64 1048576, .int .i64 1000, .int .i64 1000, .int .i64 16, .int .u64 0]) ?_ 6 _ rfl; (with_reducible repeat (first | refine blk_drewN ?_ _ | refine blk_drew ?_ | refine blk_alloc ?_ _)); refine blk_put (cs := #[.int .i64 1000, .int .i64 10000, .int .i64 1048576, .int .i64 1000, .int .i64 1000, .int .i64 0, .int .u64 0]) ?_ 5 _ rfl; (with_reducible repeat (first | refine blk_drewN ?_ _ | refine blk_drew ?_ | refine blk_alloc ?_ _)); refine blk_put (cs := #[.int .i64 1000, .int .i64 10000, .int .i64 1048576, .int .i64 1000, .int .i64 0, .int .i64 0, .int .u64 0]) ?_ 4 _ rfl; (with_reducible repeat (first | refine blk_drewN ?_ _ | refine blk_drew ?_ | refine blk_alloc ?_ _)); refine blk_put (cs := #[.int .i64 1000, .int .i64 10000, .int .i64 1048576, .int .i64 0, .int .i64 0, .int .i64 0, .int .u64 0]) ?_ 3 _ rfl; (with_reducible repeat (first | refine blk_drewN ?_ _ | refine blk_drew ?_ | refine blk_alloc ?_ _)); refine blk_put (cs := #[.int .i64 1000, .int .i64 10000, .int .i64 0, .int .i64 0, .int .i64 0, .int .i64 0, .int .u64 0]) ?_ 2 _ rfl; (with_reducible repeat (first | refine blk_drewN ?_ _ | refine blk_drew ?_ | refine blk_alloc ?_ _)); refine blk_put (cs := #[.int .i64 1000, .int .i64 0, .int .i64 0, .int .i64 0, .int .i64 0, .int .i64 0, .int .u64 0]) ?_ 1 _ rfl; (with_reducible repeat (first | refine blk_drewN ?_ _ | refine blk_drew ?_ | refine blk_alloc ?_ _)); refine blk_put (cs := #[.int .i64 0, .int .i64 0, .int .i64 0, .int .i64 0, .int .i64 0, .int .i64 0, .int .u64 0]) ?_ 0 _ rfl; (with_reducible repeat (first | refine blk_drewN ?_ _ | refine blk_drew ?_ | refine blk_alloc ?_ _)); exact BK390.out) Try.underlying51 rfl (by kernel_rfl)) rfl ?_
 exact ⟨by first | rfl | (simp [errW_none, errW_some] <;> rfl) | (simp [*, errW_none, errW_some] <;> rfl), by repeat (first | (with_reducible first | exact HB.out | apply below_alloc | apply pw_below_drewN | apply below_drew1 | refine below_set ?_ GE390.out) | exact HB.out)⟩
-- NOT PRINTED: function 70 (store_Store_is)
-- NOT PRINTED: function 72 (store_Store_chain)
-- NOT PRINTED: function 43 (store_Store_Read)
-- NOT PRINTED: function 49 (store_Store_Collect)
-- NOT PRINTED: function 74 (slices_Clone_string_string)
-- NOT PRINTED: function 50 (store_Store_Keys)
-- NOT PRINTED: function 52 (store_New)
end Go.Proofs.Yteofdgonpbmdlaa.C
namespace Go.Proofs.Yteofdgonpbmdlaa.St
open Go.RowKit Go.Maps Go.Proofs.YteofdgonpbmdlaaW.PrintWords Go.Proofs.YteofdgonpbmdlaaW.PrintLast Go.Proofs.YteofdgonpbmdlaaW.PrintMore Go.Proofs.Yteofdgonpbmdlaa.C Go.Proofs.Yteofdgonpbmdlaa.Pure
attribute [local go_sem] max2_int min2_int max2_str min2_str str_leq str_gtr str_geq max_two min_two max_three min_three max_four min_four
theorem good_new (l0 l1 l2 l3 l4 l5 last : Int) (h1 : 0 ≤ last) (h2 : last ≤ 18446744073709551615) : Good 0 (noStore l0 l1 l2 l3 l4 l5 last) where
  rg := fun _ => rfl
  ln := fun _ => Nat.le_refl _
  dl := fun _ v hv => by cases hv
  tm := fun _ v hv => by cases hv
  so := List.Pairwise.nil
  me := fun key => by simp [noStore]
  ks := fun key hk => by cases hk
  kn := Nat.le_refl _
  n0 := Int.le_refl _
  n1 := h1
  la := h2
section
variable {W : World} {base p : Nat} {B : Nat → Prop} {s : SS} {kv : Value} {mb n : Nat} {D : DataW Value}
theorem commit_P (h : Aside0 (StoreAt W base B p s kv mb n D)) {m : Nat} (g : Aside0 (Good m s)) (hm : Aside0 (m ≤ 800)) (l : List S102) (hl : Aside0 (l.length ≤ 20)) (hk : Aside0 (∀ x ∈ l, x.f0.size ≤ maxLen)) (low : Int) (okA : Nat → Prop) (hokA : Aside0 (∀ k, okA k → k < W.heap.size ∧ ¬ Own p mb kv k)) (A : Option Addr) (c0 : Nat) (hF : Aside0 (Kd.F k102 W okA A l.length l)) (hlc : Aside0 (l.length ≤ c0)) (hn : Aside0 (n + 20000 < maxLen)) :
    Calls Try.prog 61 #[.pointer (some ⟨p, 0, none⟩), .slice A l.length c0, .int .u64 low] W (ComPost W base B p kv mb n (comP s l low) 20000) := by
  refine (commit_calls h okA hokA A c0 l hF hlc low _ _ _ _ ⟨g.out.ask hm.out hl.out hk.out low⟩ ⟨by have := g.out.kn; have := hm.out; have := hl.out; have := hn.out; omega⟩).mono ?_
  rintro e w' ⟨h1, kv', n', D', h2, h3, h4⟩
  exact ⟨h1, kv', n', D', h2, by have := g.out.kn; have := hm.out; have := hl.out; omega, h4⟩
theorem collect_P (h : Aside0 (StoreAt W base B p s kv mb n D)) {m : Nat} (g : Aside0 (Good m s)) (hm : Aside0 (m ≤ 800)) (low : Int) (hn : Aside0 (n + 20000 < maxLen)) :
    Calls Try.prog 49 #[.pointer (some ⟨p, 0, none⟩), .int .u64 low] W fun e w' => e = .returned (.int .i64 (wentP s low)) ∧ ∃ kv' n' D', StoreAt w' base B p (colP s low) kv' mb n' D' ∧ n' ≤ n + 20000 ∧ Turn base (Own p mb kv) W w' ∧ (∀ k, kv'.ownBlock = some k → kv.ownBlock = some k ∨ W.heap.size ≤ k) := by
  have hkn := g.out.kn
  have hm' := hm.out
  have hn' := hn.out
  refine (store_Collect.calls h low (tfP s low) (zfP s low) ⟨by omega⟩ ⟨fun key hk => size256 (g.out.ks key hk)⟩ ⟨g.out.so.nodup⟩ ⟨fun key _ => g.out.trim hm.out key low⟩ ⟨fun key _ => g.out.size hm.out key low⟩ ⟨by omega⟩).mono ?_
  rintro e w' ⟨rfl, kv', n', D', h1, h2, h3, h4⟩
  exact ⟨rfl, kv', n', D', h1, by omega, h3.mono (fun k hk => hk.elim .inl (fun e => .inr (.inl e))), h4⟩
theorem read_P (h : Aside0 (StoreAt W base B p s kv mb n D)) {m : Nat} (g : Aside0 (Good m s)) (hm : Aside0 (m ≤ 800)) (key : ByteArray) (hk : Aside0 (key.size ≤ maxLen)) (a : Int) :
    Calls Try.prog 43 #[.pointer (some ⟨p, 0, none⟩), .string key, .int .u64 a] W fun e w' => (∃ A c, e = .returned (.tuple #[.slice A (getF (s.ch key) a).1.length c, .bool (getF (s.ch key) a).2]) ∧ (getF (s.ch key) a).1.length ≤ c ∧ Kd.F (Kd.int .u8) w' (fun k => W.heap.size ≤ k) A (getF (s.ch key) a).1.length (getF (s.ch key) a).1) ∧ Below W.heap.size W w' := by
  refine (store_Read.calls h key hk a _ _ ⟨g.out.get hm.out key a⟩).mono ?_
  rintro e w' ⟨v, rfl, ho, hb⟩
  obtain ⟨A, c, rfl⟩ := Kd.R_slice ho
  exact ⟨⟨A, c, rfl, (Kd.R_reads' ho).2.1, Kd.R_F (Kd.R_mono (Kd.R_bound ho) (fun k hk_ => hk_.2.1))⟩, hb⟩
end
def sBig : SS := noStore 1000 10000 1048576 1000 1000 16 1099511627776
def kA : ByteArray := ⟨#[97]⟩
def wA : List S102 := [⟨kA, false, [120]⟩]
def wB : List S102 := [⟨kA, true, []⟩]
def sA : SS := (comP sBig wA 0).2.2
def sB : SS := (comP sA wB 0).2.2
theorem big_good : Good 0 sBig := good_new _ _ _ _ _ _ _ (by decide) (by decide)
theorem exA : (comP sBig wA 0).1 = 1 ∧ (comP sBig wA 0).2.1 = 0 := by decide +kernel
theorem exB : (comP sA wB 0).1 = 2 ∧ (comP sA wB 0).2.1 = 0 := by decide +kernel
theorem exR1 : getF (sB.ch kA) 1 = ([120], true) := by decide +kernel
theorem exR2 : getF (sB.ch kA) 2 = ([], false) := by decide +kernel
theorem exC : wentP sB 2 = 2 := by decide +kernel
theorem exK : (colP sB 2).keys = [] := by decide +kernel
theorem sA_good : Good 1 sA := big_good.com (by decide) 0
theorem sB_good : Good 2 sB := sA_good.com (by decide) 0
theorem big_f : conductorlaw08_Big.f = some (1000, 10000, 1048576, 1000, 1000, 16, 1099511627776) := by kernel_rfl
theorem conv_x (w : World) : ∃ g cap w1, (convert 9 26 (.string ⟨#[120]⟩)).run Try.prog w = .ok (.slice (some ⟨g, 0, none⟩) 1 cap) w1 ∧ 1 ≤ cap ∧ w.heap.size ≤ g ∧ Below w.heap.size w w1 ∧ Kd.F (Kd.int .u8) w1 (fun k => k = g) (some ⟨g, 0, none⟩) 1 [120] := by
  have hr := run_bytes_of_string (P := Try.prog) w 9 26 5 ⟨#[120]⟩ Try.underlying9 Try.underlying26 Try.underlying5
  refine ⟨_, _, _, hr, grownCap_ge w 1 0 5, Nat.le_refl _, ((Below.refl _ w).drew).alloc (Nat.le_refl _) _, fun W' hW => ⟨rfl, by decide, fun _ => ⟨_, rfl, fun j q hj => ?_⟩⟩⟩
  have hb := hW w.heap.size rfl (by simp)
  have hn := heap_alloc_new w.drew (.cells (bytesRow ⟨#[120]⟩ (grownCap w 1 0 5)) 5 ((bytesRow ⟨#[120]⟩ (grownCap w 1 0 5)).size, (bytesRow ⟨#[120]⟩ (grownCap w 1 0 5)).size + 1))
  cases j with
  | succ j => simp at hj
  | zero =>
    simp only [List.getElem?_cons_zero, Option.some.injEq] at hj
    subst hj
    refine ⟨[.int .u8 120], rfl, rfl, fun i u hi => ?_⟩
    cases i with
    | succ i => simp at hi
    | zero =>
      simp only [List.getElem?_cons_zero, Option.some.injEq] at hi
      subst hi
      have := cell_of_row W' w.heap.size 0 _ _ _ (hb.trans hn)
      simp only [Nat.zero_mul, Nat.add_zero]
      rw [show (Addr.add ⟨w.heap.size, 0, none⟩ 0) = ⟨w.heap.size, 0, none⟩ from by simp [Addr.add]]
      rw [this]
      simp only [bytesRow]
      rw [Array.getElem?_append_left (by simp)]
      simp
set_option maxRecDepth 100000 in
set_option maxHeartbeats 4000000 in
theorem put_ax (w : World) : Calls Try.prog 68 #[.string ⟨#[97]⟩, .string ⟨#[120]⟩] w fun e w' => (∃ A c, e = .returned (.slice A wA.length c) ∧ wA.length ≤ c ∧ Kd.F k102 w' (fun k => w.heap.size ≤ k) A wA.length wA) ∧ Below w.heap.size w w' := by
  obtain ⟨g, cap, w1, hrun, hc, hg, hb, hF⟩ := conv_x w
  have HB := Aside0.mk hb
  have HF := Aside0.mk hF
  have HG := Aside0.mk hg
  have HC := Aside0.mk hc
  clear hb hF hg hc
  go_enter Try.func68, Try.ntmps68
  go_wp2_with ((with_reducible refine gate_dst (N := 9) rfl ?_); refine Kd.N_lit k102 (w0 := w) w.heap.size 102 ?hg (N' := 9) ?hd (xs := wA) (inner := [.string ⟨#[97]⟩, .bool false, .slice (some ⟨g, 0, none⟩) 1 cap]) (ok := fun k => w.heap.size ≤ k) (okp := fun k => w.heap.size ≤ k) ?hr ?hp (fun _ hk => hk) HB.out.size HB.out HB.out.size (by decide) ?_; (case hd => rfl); (case hg => rfl); (case hr => first | (go_simp; done) | (go_simp; rfl)); (case hp => exact (Reps.c3 (show Kd.FK k102 _ _ (⟨kA, false, [120]⟩ : S102) [.string ⟨#[97]⟩, .bool false, .slice (some ⟨g, 0, none⟩) 1 cap] from k102_mkF _ _ (⟨kA, false, [120]⟩ : S102) HC.out (Kd.F_mono HF.out (fun k hk => by rw [hk]; exact HG.out))) (Reps.none _ _))); intro v2 w2 ho hb2 hg2 hat2; obtain ⟨A, c, ev⟩ := Kd.N_slice ho; subst ev; have HO := Aside0.mk (Kd.N_F ho); have HL := Aside0.mk (Kd.N_reads' ho).2.1; have HB2 := Aside0.mk hb2; clear ho hb2 hg2 hat2)
  go_ret
  exact ⟨⟨A, c, rfl, HL.out, HO.out⟩, HB2.out⟩
theorem _root_.Go.Proofs.Yteofdgonpbmdlaa.C.StoreAt.lowerB {W : World} {base base' p : Nat} {s : SS} {kv : Value} {mb n : Nat} {D : DataW Value} (h : StoreAt W base (fun k => base ≤ k) p s kv mb n D) (hb : base' ≤ base) (_ : base' ≤ base') : StoreAt W base' (fun k => base' ≤ k) p s kv mb n D where
  cells := h.cells
  keys := h.keys.imp (fun q => Kd.R_lower (Kd.R_mono q (fun k hk => ⟨Nat.le_trans hb hk.1, hk.2⟩)) hb) (fun ⟨e, a, h1, h2, h3⟩ => ⟨e, a, h1, ⟨Nat.le_trans hb h2.1, h2.2⟩, h3⟩)
  map := h.map
  bb := fun _ hk => hk
  bn := fun k hk => Nat.le_trans hb (h.bn k hk)
  bp := Nat.le_trans hb h.bp
  bm := Nat.le_trans hb h.bm
  pm := h.pm
  chains := fun key hk => by
    obtain ⟨A, c, h1, h2, h3⟩ := h.chains key hk
    exact ⟨A, c, h1, h2, Kd.F_mono h3 (fun k hk => ⟨Nat.le_trans hb hk.1, hk.2⟩)⟩
theorem new_big (w : World) : Calls Try.prog 52 #[.agg #[.int .i64 1000, .int .i64 10000, .int .i64 1048576, .int .i64 1000, .int .i64 1000, .int .i64 16, .int .u64 1099511627776]] w fun e w' => (∃ p mb : Nat, e = .returned (.tuple #[.pointer (some ⟨p, 0, none⟩), .int .i64 0]) ∧ StoreAt w' w.heap.size (fun k => w.heap.size ≤ k) p sBig noCh mb 0 (.map [])) ∧ Below w.heap.size w w' :=
  store_New.good 1000 10000 1048576 1000 1000 16 1099511627776 w ⟨by decide, by decide⟩ ⟨by decide, by decide⟩ ⟨by decide, by decide⟩ (by decide)
theorem commit_ax {W : World} {base p : Nat} {B : Nat → Prop} {kv : Value} {mb n : Nat} {D : DataW Value} (h : Aside0 (StoreAt W base B p sBig kv mb n D)) (okA : Nat → Prop) (hokA : Aside0 (∀ k, okA k → k < W.heap.size ∧ ¬ Own p mb kv k)) (A : Option Addr) (c0 : Nat) (hF : Aside0 (Kd.F k102 W okA A wA.length wA)) (hlc : Aside0 (wA.length ≤ c0)) (hn : Aside0 (n ≤ 100)) :
    Calls Try.prog 61 #[.pointer (some ⟨p, 0, none⟩), .slice A wA.length c0, .int .u64 0] W fun e w' => e = .returned (.tuple #[.int .u64 1, .int .i64 0]) ∧ ∃ kv' n' D', StoreAt w' base B p sA kv' mb n' D' ∧ n' ≤ n + 20000 ∧ Turn base (Own p mb kv) W w' ∧ (∀ k, kv'.ownBlock = some k → kv.ownBlock = some k ∨ W.heap.size ≤ k) := by
  refine (commit_P h ⟨big_good⟩ ⟨by decide⟩ wA ⟨by decide⟩ ⟨fun x hx => by rw [List.mem_singleton.1 hx]; decide⟩ 0 okA hokA A c0 hF hlc ⟨by have := hn.out; simp only [maxLen]; omega⟩).mono ?_
  rintro e w' ⟨rfl, rest⟩
  exact ⟨by rw [exA.1, exA.2], rest⟩
theorem commit_bx {W : World} {base p : Nat} {B : Nat → Prop} {kv : Value} {mb n : Nat} {D : DataW Value} (h : Aside0 (StoreAt W base B p sA kv mb n D)) (okA : Nat → Prop) (hokA : Aside0 (∀ k, okA k → k < W.heap.size ∧ ¬ Own p mb kv k)) (A : Option Addr) (c0 : Nat) (hF : Aside0 (Kd.F k102 W okA A wB.length wB)) (hlc : Aside0 (wB.length ≤ c0)) (hn : Aside0 (n ≤ 100000)) :
    Calls Try.prog 61 #[.pointer (some ⟨p, 0, none⟩), .slice A wB.length c0, .int .u64 0] W fun e w' => e = .returned (.tuple #[.int .u64 2, .int .i64 0]) ∧ ∃ kv' n' D', StoreAt w' base B p sB kv' mb n' D' ∧ n' ≤ n + 20000 ∧ Turn base (Own p mb kv) W w' ∧ (∀ k, kv'.ownBlock = some k → kv.ownBlock = some k ∨ W.heap.size ≤ k) := by
  refine (commit_P h ⟨sA_good⟩ ⟨by decide⟩ wB ⟨by decide⟩ ⟨fun x hx => by rw [List.mem_singleton.1 hx]; decide⟩ 0 okA hokA A c0 hF hlc ⟨by have := hn.out; simp only [maxLen]; omega⟩).mono ?_
  rintro e w' ⟨rfl, rest⟩
  exact ⟨by rw [exB.1, exB.2], rest⟩
theorem read_1 {W : World} {base p : Nat} {B : Nat → Prop} {kv : Value} {mb n : Nat} {D : DataW Value} (h : Aside0 (StoreAt W base B p sB kv mb n D)) :
    Calls Try.prog 43 #[.pointer (some ⟨p, 0, none⟩), .string ⟨#[97]⟩, .int .u64 1] W fun e w' => (∃ A c, e = .returned (.tuple #[.slice A 1 c, .bool true]) ∧ 1 ≤ c ∧ Kd.F (Kd.int .u8) w' (fun k => W.heap.size ≤ k) A 1 [120]) ∧ Below W.heap.size W w' := by
  refine (read_P h ⟨sB_good⟩ ⟨by decide⟩ kA ⟨by decide⟩ 1).mono ?_
  rintro e w' ⟨⟨A, c, rfl, h1, h2⟩, hb⟩
  rw [exR1] at h1 h2 ⊢
  exact ⟨⟨A, c, rfl, h1, h2⟩, hb⟩
theorem read_2 {W : World} {base p : Nat} {B : Nat → Prop} {kv : Value} {mb n : Nat} {D : DataW Value} (h : Aside0 (StoreAt W base B p sB kv mb n D)) :
    Calls Try.prog 43 #[.pointer (some ⟨p, 0, none⟩), .string ⟨#[97]⟩, .int .u64 2] W fun e w' => (∃ A c, e = .returned (.tuple #[.slice A 0 c, .bool false])) ∧ Below W.heap.size W w' := by
  refine (read_P h ⟨sB_good⟩ ⟨by decide⟩ kA ⟨by decide⟩ 2).mono ?_
  rintro e w' ⟨⟨A, c, rfl, h1, h2⟩, hb⟩
  rw [exR2]
  exact ⟨⟨A, c, rfl⟩, hb⟩
theorem collect_x {W : World} {base p : Nat} {B : Nat → Prop} {kv : Value} {mb n : Nat} {D : DataW Value} (h : Aside0 (StoreAt W base B p sB kv mb n D)) (hn : Aside0 (n ≤ 1000000)) :
    Calls Try.prog 49 #[.pointer (some ⟨p, 0, none⟩), .int .u64 2] W fun e w' => e = .returned (.int .i64 2) ∧ ∃ kv' n' D', StoreAt w' base B p (colP sB 2) kv' mb n' D' ∧ n' ≤ n + 20000 ∧ Turn base (Own p mb kv) W w' := by
  refine (collect_P h ⟨sB_good⟩ ⟨by decide⟩ 2 ⟨by have := hn.out; simp only [maxLen]; omega⟩).mono ?_
  rintro e w' ⟨rfl, kv', n', D', h1, h2, h3, _⟩
  exact ⟨by rw [exC], kv', n', D', h1, h2, h3⟩
theorem keys_x {W : World} {base p : Nat} {B : Nat → Prop} {kv : Value} {mb n : Nat} {D : DataW Value} (h : Aside0 (StoreAt W base B p (colP sB 2) kv mb n D)) :
    Calls Try.prog 50 #[.pointer (some ⟨p, 0, none⟩)] W fun e w' => (∃ A c, e = .returned (.slice A 0 c)) ∧ Below W.heap.size W w' := by
  refine (store_Keys.calls h ⟨by rw [exK]; decide⟩).mono ?_
  rintro e w' ⟨v, rfl, ho, hb⟩
  obtain ⟨A, c, rfl⟩ := Kd.R_slice ho
  rw [exK]
  exact ⟨⟨A, c, rfl⟩, hb⟩
set_option maxRecDepth 100000 in
set_option maxHeartbeats 8000000 in
theorem live_calls (W : World) : Calls Try.prog 37 #[] W fun e w' => e = .returned (.bool true) ∧ Below W.heap.size W w' := by
  have hsn : strOfNums [120] = (⟨#[120]⟩ : ByteArray) := by decide +kernel
  go_enter Try.func37, Try.ntmps37
  go_wp2_with (first
    | (go_at_call 40; (with_reducible refine (conductorlaw08_Big.calls _ _ _ _ _ _ _ _ big_f).mono ?_); rintro e w1 ⟨rfl, hb⟩; have HB1 := Aside0.mk hb; clear hb)
    | (go_at_call 52; (with_reducible refine (new_big _).mono ?_); rintro e w2 ⟨⟨p, mb, rfl, hS⟩, hb⟩; have HS2 := Aside0.mk (show StoreAt w2 w1.heap.size _ p sBig noCh mb 0 (.map []) from hS); have HB2 := Aside0.mk (below_step HB1.out hb); have h12 := Aside0.mk HB1.out.size; clear hS hb)
    | (go_at_call 68; (refine (put_ax _).mono ?_); rintro e w3 ⟨⟨A1, c1, rfl, hl1, hF1⟩, hb⟩; have HF3 := Aside0.mk hF1; have HL3 := Aside0.mk hl1; have HB3 := Aside0.mk (below_step HB2.out hb); have HS3 := Aside0.mk (HS2.out.below hb); clear hF1 hl1 hb)
    | (go_at_call 61; (with_reducible refine (commit_ax HS3 (fun k => w2.heap.size ≤ k ∧ k < w3.heap.size) ?s0 A1 c1 ?s1 HL3 ⟨by decide⟩).mono ?_); (case s0 => exact ⟨fun k hk_ => ⟨hk_.2, fun ho => by have := (HS2.out.own ho).2.2; omega⟩⟩); (case s1 => exact ⟨Kd.F_bound HF3.out⟩); rintro e w4 ⟨rfl, kv4, n4, D4, hS, hn, hT, hK⟩; have HS4 := Aside0.mk hS; have hn4 := Aside0.mk hn; have HB4 := Aside0.mk ((Below.mono HB3.out (Nat.le_refl _)).trans (hT.below.mono h12.out)); clear hS hn hT hK HS3 HF3)
    | ((with_reducible refine gate_dst (N := 31) rfl ?_); refine Kd.N_lit k102 (w0 := w4) w4.heap.size 102 ?hg (N' := 31) ?hd (xs := wB) (inner := [.string ⟨#[97]⟩, .bool true, .slice none 0 0]) (ok := fun k => w4.heap.size ≤ k) (okp := fun k => w4.heap.size ≤ k) ?hr ?hp (fun _ hk => hk) (Nat.le_refl _) (Below.refl _ _) (Nat.le_refl _) (by decide) ?_; (case hd => rfl); (case hg => rfl); (case hr => first | (go_simp; done) | (go_simp; rfl)); (case hp => exact (Reps.c3 (show Kd.FK k102 _ _ (⟨kA, true, []⟩ : S102) [.string ⟨#[97]⟩, .bool true, .slice none 0 0] from k102_mkF _ _ (⟨kA, true, []⟩ : S102) (Nat.le_refl _) (Kd.F_nil _ _ _)) (Reps.none _ _))); intro v5 w5 ho hb2 hg2 hat2; obtain ⟨A5, c5, ev⟩ := Kd.N_slice ho; subst ev; have HF5 := Aside0.mk (Kd.N_F ho); have HL5 := Aside0.mk (Kd.N_reads' ho).2.1; have HS5 := Aside0.mk (HS4.out.below hb2); have HB5 := Aside0.mk (below_step HB4.out hb2); clear ho hb2 hg2 hat2)
    | (go_at_call 61; (with_reducible refine (commit_bx HS5 (fun k => w4.heap.size ≤ k ∧ k < w5.heap.size) ?s0 A5 c5 ?s1 HL5 ?s2).mono ?_); (case s0 => exact ⟨fun k hk_ => ⟨hk_.2, fun ho => by have := (HS4.out.own ho).2.2; omega⟩⟩); (case s1 => exact ⟨Kd.F_bound HF5.out⟩); (case s2 => exact ⟨by have := hn4.out; omega⟩); rintro e w6 ⟨rfl, kv6, n6, D6, hS, hn, hT, hK⟩; have HS6 := Aside0.mk hS; have hn6 := Aside0.mk hn; have HB6 := Aside0.mk (HB5.out.trans (hT.below.mono h12.out)); clear hS hn hT hK HS5 HF5 HS4)
    | (go_at_call 43; (with_reducible refine (read_1 HS6).mono ?_); rintro e w7 ⟨⟨A7, c7, rfl, hl7, hF7⟩, hb⟩; have HS7 := Aside0.mk (HS6.out.below hb); have HF7 := Aside0.mk hF7; have HB7 := Aside0.mk (below_step HB6.out hb); clear hb hF7 hl7)
    | (go_at_call 43; (with_reducible refine (read_2 HS7).mono ?_); rintro e w8 ⟨⟨A8, c8, rfl⟩, hb⟩; have HS8 := Aside0.mk (HS7.out.below hb); have hcv := Kd.C_string (P := Try.prog) (A := A7) (n := 1) (c := c7) Try.underlying26 Try.underlying5 Try.underlying9 (Kd.F_now (Kd.F_below HF7.out hb)); have HB8 := Aside0.mk (below_step HB7.out hb); clear hb)
    | (go_at_call 49; (with_reducible refine (collect_x HS8 ?s0).mono ?_); (case s0 => exact ⟨by have := hn4.out; have := hn6.out; omega⟩); rintro e w9 ⟨rfl, kv9, n9, D9, hS, hn, hT⟩; have HS9 := Aside0.mk hS; have HB9 := Aside0.mk (HB8.out.trans (hT.below.mono h12.out)); clear hS hn hT)
    | (go_at_call 50; (with_reducible refine (keys_x HS9).mono ?_); rintro e w10 ⟨⟨A10, c10, rfl⟩, hb⟩; have HB10 := Aside0.mk (below_step HB9.out hb); clear hb))
  go_ret
  exact ⟨rfl, HB10.out⟩
set_option maxRecDepth 100000 in
set_option maxHeartbeats 4000000 in
theorem made_good (l0 l1 l2 l3 l4 l5 last : Int) (w : World) (h0 : Room l0) (h1 : Room l1) (h2 : Room l2) (hl : last ≠ 0) :
    Calls Try.prog 39 #[.agg #[.int .i64 l0, .int .i64 l1, .int .i64 l2, .int .i64 l3, .int .i64 l4, .int .i64 l5, .int .u64 last]] w fun e w' => (∃ p mb : Nat, e = .returned (.pointer (some ⟨p, 0, none⟩)) ∧ StoreAt w' w.heap.size (fun k => w.heap.size ≤ k) p (noStore l0 l1 l2 l3 l4 l5 last) noCh mb 0 (.map [])) ∧ Below w.heap.size w w' := by
  have hN := Aside0.mk (fun w' => store_New.good l0 l1 l2 l3 l4 l5 last w' h0 h1 h2 hl)
  clear h0 h1 h2 hl
  go_enter Try.func39, Try.ntmps39
  go_wp2_with (first
    | ((with_reducible refine gate_dst (N := 1) rfl ?_); refine box_event ?hg (N := 1) ?hd (cs := #[.int .i64 l0, .int .i64 l1, .int .i64 l2, .int .i64 l3, .int .i64 l4, .int .i64 l5, .int .u64 last]) (t := 51) ?hr ?_; (case hd => rfl); (case hg => rfl); (case hr => first | (go_simp; done) | (go_simp; rfl)); intro g1 hg w1 hbox hb; have HB1 := Aside0.mk hb; have j0 := (blk_cell hbox 0).trans (show _ = some (Value.int .i64 l0) from rfl); have j1 := (blk_cell hbox 1).trans (show _ = some (Value.int .i64 l1) from rfl); have j2 := (blk_cell hbox 2).trans (show _ = some (Value.int .i64 l2) from rfl); have j3 := (blk_cell hbox 3).trans (show _ = some (Value.int .i64 l3) from rfl); have j4 := (blk_cell hbox 4).trans (show _ = some (Value.int .i64 l4) from rfl); have j5 := (blk_cell hbox 5).trans (show _ = some (Value.int .i64 l5) from rfl); have j6 := (blk_cell hbox 6).trans (show _ = some (Value.int .u64 last) from rfl); clear hbox hb hg)
    | (go_at_call 52; (with_reducible refine (hN.out _).mono ?_); rintro e w2 ⟨⟨p, mb, rfl, hS⟩, hb⟩; have HS2 := Aside0.mk (hS.lowerB HB1.out.size (Nat.le_refl _)); have HB2 := Aside0.mk (below_step HB1.out hb); clear hS hb j0 j1 j2 j3 j4 j5 j6))
  go_ret
  exact ⟨⟨p, mb, rfl, HS2.out⟩, HB2.out⟩
theorem made_big (w : World) : Calls Try.prog 39 #[.agg #[.int .i64 1000, .int .i64 10000, .int .i64 1048576, .int .i64 1000, .int .i64 1000, .int .i64 16, .int .u64 1099511627776]] w fun e w' => (∃ p mb : Nat, e = .returned (.pointer (some ⟨p, 0, none⟩)) ∧ StoreAt w' w.heap.size (fun k => w.heap.size ≤ k) p sBig noCh mb 0 (.map [])) ∧ Below w.heap.size w w' :=
  made_good 1000 10000 1048576 1000 1000 16 1099511627776 w ⟨by decide, by decide⟩ ⟨by decide, by decide⟩ ⟨by decide, by decide⟩ (by decide)
end Go.Proofs.Yteofdgonpbmdlaa.St
namespace Go.Proofs.Yteofdgonpbmdlaa.St
open Go.RowKit Go.Proofs.YteofdgonpbmdlaaW.PrintWords Go.Proofs.Yteofdgonpbmdlaa.C Go.Proofs.Yteofdgonpbmdlaa.Pure
def runP : SS → List S55 → SS
  | s, [] => s
  | s, o :: t => runP (opP s o).2 t
theorem runP_snoc (o : S55) : ∀ (l : List S55) (s : SS), runP s (l ++ [o]) = (opP (runP s l) o).2
  | [], _ => rfl
  | x :: t, s => runP_snoc o t _
theorem runP_step (s : SS) (l : List S55) (i : Nat) (hi : i < l.length) : runP s (l.take (i + 1)) = (opP (runP s (l.take i)) l[i]).2 := by
  rw [List.take_succ_eq_append_getElem hi, runP_snoc]
theorem Good.run : ∀ (l : List S55) {m : Nat} {s : SS}, Good m s → (∀ o ∈ l, FewOp o) → Good (m + l.length) (runP s l)
  | [], _, _, h, _ => h
  | o :: t, m, s, h, hf => by
    have := Good.run t (h.op (hf o (List.mem_cons_self ..))) (fun x hx => hf x (List.mem_cons_of_mem _ hx))
    exact this.mono (by simp; omega)
theorem Good.runTake {m : Nat} {s : SS} (h : Good m s) (l : List S55) (hf : ∀ o ∈ l, FewOp o) (i : Nat) : Good (m + i) (runP s (l.take i)) :=
  (Good.run _ h (fun o ho => hf o (List.mem_of_mem_take ho))).mono (by rw [List.length_take]; omega)
end Go.Proofs.Yteofdgonpbmdlaa.St
namespace Go.Proofs.Yteofdgonpbmdlaa.C
open Go.RowKit Go.Maps Go.Proofs.YteofdgonpbmdlaaW.PrintWords Go.Proofs.YteofdgonpbmdlaaW.PrintLast Go.Proofs.YteofdgonpbmdlaaW.PrintMore
attribute [local go_sem] max2_int min2_int max_two min_two max_three min_three max_four min_four
set_option maxHeartbeats 1000000 in
theorem clone_bytes (A0 : Option Addr) (c0 : Nat) (l0 : List Int) (w : World) (hr0 : Kd.C (Kd.int .u8) w A0 l0.length l0) (hc0 : l0.length ≤ c0) (hl : l0.length < 8796093022208) :
    Calls Try.prog 76 #[.slice A0 l0.length c0] w fun e w' => ∃ v0_ : Value, e = .returned (v0_) ∧ Kd.R (Kd.int .u8) 5 w' w.heap.size (fun _ => True) v0_ l0 ∧ Below w.heap.size w w' := by
  have HL := Aside0.mk hl
  clear hl
  cases A0 with
  | none =>
    have hn : l0 = [] := by
      cases l0 with
      | nil => rfl
      | cons x t => have := hr0.2.2 (by simp); obtain ⟨ad, h1, _⟩ := this; cases h1
    subst hn
    have HR := Aside0.mk hr0
    clear hr0
    have heq := fun W => Lib.run_eql_slice_nil (P := Try.prog) W 26 5 (none : Option Addr) 0 c0 0 0 Try.underlying26
    go_enter Try.func76, Try.ntmps76
    go_wp2
    go_ret
    exact ⟨_, rfl, Kd.R_nil _ _ _ _ _, Below.refl _ _⟩
  | some ad =>
    have HR := Aside0.mk hr0
    have HC := Aside0.mk hc0
    have heq := fun W => Lib.run_eql_slice_nil (P := Try.prog) W 26 5 (some ad) l0.length c0 0 0 Try.underlying26
    clear hr0 hc0
    go_enter Try.func76, Try.ntmps76
    go_wp2_with (first
      | ((with_reducible refine gate_dst (N := 5) rfl ?_); refine Kd.R_lit (Kd.int .u8) _ 5 ?hg (N := 5) ?hd (xs := ([] : List Int)) (inner := []) (ok := fun _ => True) (okp := fun _ => True) ?hr ?hp (fun _ hk => hk) trivial (Below.refl w.heap.size w) (Nat.le_refl _) (by simp) ?_; (case hd => rfl); (case hg => rfl); (case hr => first | (go_simp; done) | (go_simp; rfl)); (case hp => exact Reps.none _ _); intro v1 w1 ho1 hb1 hg_ hnew_; clear hg_ hnew_; have HO1 := Aside0.mk ho1; have HB1 := Aside0.mk hb1; clear ho1 hb1)
      | ((with_reducible refine gate_builtin (b := .append) (xs := #[.tmp 5, .tmp 6]) rfl ?_); at_builtin; refine Kd.R_append_rows (Kd.int .u8) (w0 := w) w.heap.size rfl (.tmp 5) (.tmp 6) 26 5 (.int .u8 0) 1 rfl Try.underlying26 info5 rfl (by decide) (by omega) v1 [] l0 _ _ _ (fun _ => True) (fun _ => False) rfl rfl ?aO ?aR (fun _ _ h => h) (fun _ h => h.elim) ?aF ?aB ?aS ?aL ?_; (case aR => exact (Kd.C_below HR.out HB1.out)); (case aF => exact (fun _ _ => trivial)); (case aO => exact HO1.out); (case aB => exact HB1.out); (case aS => exact HB1.out.size); (case aL => have := HL.out; simp only [List.length_nil]; omega); intro v2 w2 ho2 hb2 hg_ hnew_; clear hg_ hnew_; have HO2 := Aside0.mk ho2; have HB2 := Aside0.mk hb2; clear ho2 hb2))
    go_ret
    exact ⟨_, rfl, HO2.out, HB2.out⟩
set_option maxHeartbeats 1000000 in
theorem clone_vers (A0 : Option Addr) (c0 : Nat) (l0 : List S28) (w : World) (hr0 : Kd.F k28 w (fun k => k < w.heap.size) A0 l0.length l0) (hc0 : l0.length ≤ c0) (hl : l0.length < 1000000000000) :
    Calls Try.prog 75 #[.slice A0 l0.length c0] w fun e w' => ∃ v0_ : Value, e = .returned (v0_) ∧ Kd.N k28 28 w' w.heap.size (fun _ => True) v0_ l0 ∧ Below w.heap.size w w' := by
  have HL := Aside0.mk hl
  clear hl
  cases A0 with
  | none =>
    have hn : l0 = [] := by
      cases l0 with
      | nil => rfl
      | cons x t => have := (Kd.F_now hr0).2.2 (by simp); obtain ⟨ad, h1, _⟩ := this; cases h1
    subst hn
    have HR := Aside0.mk hr0
    clear hr0
    have heq := fun W => Lib.run_eql_slice_nil (P := Try.prog) W 22 28 (none : Option Addr) 0 c0 0 0 Try.underlying22
    go_enter Try.func75, Try.ntmps75
    go_wp2
    go_ret
    exact ⟨_, rfl, Kd.N_nil _ _ _ _ _, Below.refl _ _⟩
  | some ad =>
    have HR := Aside0.mk hr0
    have HC := Aside0.mk hc0
    have heq := fun W => Lib.run_eql_slice_nil (P := Try.prog) W 22 28 (some ad) l0.length c0 0 0 Try.underlying22
    clear hr0 hc0
    go_enter Try.func75, Try.ntmps75
    go_wp2_with (first
      | ((with_reducible refine gate_dst (N := 5) rfl ?_); refine Kd.N_lit k28 (w0 := w) w.heap.size 28 ?hg (N' := 5) ?hd (xs := ([] : List S28)) (inner := []) (ok := fun _ => True) (okp := fun _ => True) ?hr ?hp (fun _ hk => hk) trivial (Below.refl w.heap.size w) (Nat.le_refl _) (by decide) ?_; (case hd => rfl); (case hg => rfl); (case hr => first | (go_simp; done) | (go_simp; rfl)); (case hp => exact Reps.none _ _); intro v1 w1 ho1 hb1 hg_ hnew_; have HN1 := Aside0.mk hnew_; clear hg_; have HO1 := Aside0.mk ho1; have HB1 := Aside0.mk hb1; have HV1 := Aside0.mk (show ∀ k, v1.ownBlock = some k → w.heap.size ≤ k from fun k hk => Kd.N_base ho1 k hk); clear ho1 hb1 hnew_)
      | ((with_reducible refine gate_builtin (b := .append) (xs := #[.tmp 5, .tmp 6]) rfl ?_); at_builtin; refine Kd.N_append_rows k28 (w0 := w) w.heap.size rfl (.tmp 5) (.tmp 6) 22 28 (.agg #[(.int .u64 0), (.bool false), (.slice none 0 0)]) 40 rfl Try.underlying22 info28 rfl (by decide) (by omega) v1 [] l0 _ _ _ (fun _ => True) (fun k => k < w.heap.size) rfl rfl ?aO ?aR ?aP ?aF ?aB ?aS ?aL ?_; (case aR => exact (Kd.F_below HR.out HB1.out)); (case aP => exact fun k hk => ⟨trivial, fun e => by have := HV1.out k e.symm; omega⟩); (case aF => exact (fun _ _ => trivial)); (case aO => exact HO1.out); (case aB => exact HB1.out); (case aS => exact HB1.out.size); (case aL => have := HL.out; simp only [List.length_nil]; omega); intro v2 w2 ho2 hb2 hg_ hnew_; clear hg_ hnew_; have HO2 := Aside0.mk ho2; have HB2 := Aside0.mk hb2; clear ho2 hb2))
    go_ret
    exact ⟨_, rfl, HO2.out, HB2.out⟩
/-- An element's data replaced by a copy of themselves. -/
theorem N_data {W : World} {base g n cap : Nat} {L : List S28} (h : Kd.N k28 28 W base (fun _ => True) (.slice (some ⟨g, 0, none⟩) n cap) L) (i : Nat) (hi : i < L.length) (hn : n = L.length) {okp : Nat → Prop} (hokp : ∀ k, okp k → k ≠ g) {A : Option Addr} {c' : Nat} (hl : (L[i]).f2.length ≤ c') (hF : Kd.F (Kd.int .u8) W okp A (L[i]).f2.length (L[i]).f2) :
    Kd.N k28 28 (W.setCell ⟨g, i * 3 + 2, none⟩ (.slice A (L[i]).f2.length c')) base (fun _ => True) (.slice (some ⟨g, 0, none⟩) n cap) L := by
  obtain ⟨c, hcl, hM, hcc, hfr⟩ := Kd.N_elem h z28 (i : Int) (by omega) (by omega)
  rw [show L.getD (i : Int).toNat z28 = L[i] by simp [List.getD, List.getElem?_eq_getElem hi]] at hM
  obtain ⟨A2, c2, rfl, hl2, hg2⟩ := k28_openF hM
  have := (Kd.N_seg h (i : Int) (by omega) (by omega) (seg := [.slice A (L[i]).f2.length c']) (j := 2) hcl hcc (by show 2 + 1 ≤ 3; omega) (x' := L[i]) (k28_mkF W okp (L[i]) hl hF) (fun k hk => ⟨trivial, hokp k hk⟩)).1
  rw [show L.set (i : Int).toNat L[i] = L by simp] at this
  exact this
set_option maxRecDepth 100000 in
set_option maxHeartbeats 4000000 in
theorem store_Chain.calls {W : World} {base p : Nat} {B : Nat → Prop} {s : SS} {kv : Value} {mb n : Nat} {D : DataW Value} (h : Aside0 (StoreAt W base B p s kv mb n D)) (key : ByteArray) (hk : Aside0 (key.size ≤ maxLen)) (L : List S28) (hL : Aside0 (s.ch key = L)) (hl : Aside0 (L.length ≤ 1000000)) (hd : Aside0 (∀ v ∈ L, v.f2.length ≤ 1000000)) :
    Calls Try.prog 51 #[.pointer (some ⟨p, 0, none⟩), .string key] W fun e w' => (∃ A c, e = .returned (.slice A L.length c) ∧ L.length ≤ c ∧ Kd.C k28 w' A L.length L) ∧ Below W.heap.size W w' := by
  go_enter Try.func51, Try.ntmps51
  go_wp2_with (first
    | (go_at_call 72; refine (store_chain.calls h key hk).mono ?_; rintro e w1 ⟨⟨A0, c0, rfl, hl0, hF0⟩, e1⟩; replace e1 := e1.symm; subst e1; rw [hL.out] at hl0 hF0 ⊢; have HF0 := Aside0.mk (Kd.F_mono (Kd.F_bound hF0) (fun k hk_ => hk_.2)); have HL0 := Aside0.mk hl0; clear hl0 hF0)
    | (go_at_call 75; refine (clone_vers A0 c0 L _ HF0.out HL0.out (by have := hl.out; omega)).mono ?_; rintro e w2 ⟨v, rfl, ho, hb⟩; obtain ⟨A5, c5, ev⟩ := Kd.N_slice ho; subst ev; have HO := Aside0.mk ho; have HB := Aside0.mk hb; clear ho hb))
  clear HF0 HL0
  go_loopw [13] (fun vi wr => ∃ i : Nat, vi = .int .i64 i ∧ i ≤ L.length ∧ Aside0 (Kd.N k28 28 wr W.heap.size (fun _ => True) (.slice A5 L.length c5) L) ∧ Aside0 (Below W.heap.size W wr)) (fun vi _ => L.length - (intOf vi).toNat)
  case atStart => exact ⟨0, rfl, Nat.zero_le _, HO, HB⟩
  case round =>
    clear HO HB
    obtain ⟨i, rfl, hi1, HO, HB⟩ := hrel
    by_cases hlt : i < L.length
    · have hi3 : i < 1000000 := by have := hl.out; omega
      obtain ⟨ad, c_, rfl, hcl_, hK_, hcc_⟩ := Kd.C_get (Kd.N_reads' HO.out).2.2 z28 (i : Int) (by omega) (by omega)
      obtain ⟨g, rfl⟩ : ∃ g, ad = ⟨g, 0, none⟩ := by
        obtain ⟨_, rows, _, hR, _⟩ := HO.out
        exact Kd.R_head hR
      clear hcl_ hK_ hcc_
      obtain ⟨c, hcl, hM, hcc, hfr⟩ := Kd.N_elem HO.out z28 (i : Int) (by omega) (by omega)
      rw [show L.getD (i : Int).toNat z28 = L[i] by simp [List.getD, List.getElem?_eq_getElem hlt]] at hM
      obtain ⟨x, hx⟩ : ∃ x, L[i] = x := ⟨_, rfl⟩
      rw [hx] at hM
      obtain ⟨A2, c2, rfl, hl2, hg2⟩ := k28_openF hM
      have e2 : wr.cell? ⟨g, i * 3 + 2, none⟩ = some (.slice A2 x.f2.length c2) := hcc 2 _ rfl
      have HX := Aside0.mk hx
      have HG2 := Aside0.mk hg2
      have HL2 := Aside0.mk hl2
      have HDX := Aside0.mk (hd.out x (hx ▸ List.getElem_mem hlt))
      have HGB := Aside0.mk (show W.heap.size ≤ g from Kd.N_base HO.out g (by simp [Value.ownBlock]))
      have HGL := Aside0.mk (show g < wr.heap.size from Kd.N_lt HO.out g (by simp [Value.ownBlock]))
      clear hcl hM hcc hfr hx hg2 hl2
      go_wp2_with (first
        | (go_at_call 76; refine (clone_bytes A2 c2 x.f2 _ (Kd.F_now HG2.out) HL2.out (by have := HDX.out; omega)).mono ?_; rintro e w3 ⟨v, rfl, ho, hb⟩; obtain ⟨A3, c3, ev⟩ := Kd.R_slice ho; subst ev; have HO3 := Aside0.mk (Kd.R_F (Kd.R_mono (Kd.R_bound ho) (ok' := fun k => wr.heap.size ≤ k) (fun k hk_ => hk_.2.1))); have HL3 := Aside0.mk (Kd.R_reads' ho).2.1; have HB3 := Aside0.mk (below_step HB.out hb); have HN3 := Aside0.mk (Kd.N_below HO.out hb); have hfr := (Kd.N_elem HN3.out z28 (i : Int) (by omega) (by omega)).choose_spec.2.2.2 2; have hfr2 : w3.frozen? ⟨g, i * 3 + 2, none⟩ = false := hfr; have e3 := pw_cell_below hb e2; clear ho hb hfr)
        | ((with_reducible refine gate_store (t := 26) (p := 25) rfl ?_); refine store_event (t := 26) (p := 25) (v := ?vo1_) (w1 := w3.setCell ⟨g, i * 3 + 2, none⟩ (.slice A3 x.f2.length c3)) ?hg ?ho ?hn ?hr ?_; (case ho => rfl); (case hg => rfl); (case hn => rfl); (case hr => first | (go_simp; done) | (go_simp; rfl)); intro w4 hw; have HO4 := Aside0.mk (show Kd.N k28 28 w4 W.heap.size (fun _ => True) (.slice (some ⟨g, 0, none⟩) L.length c5) L by rw [hw]; have := N_data HN3.out i hlt rfl (okp := fun k => wr.heap.size ≤ k) (fun k hk_ e => by have := HGL.out; omega) (A := A3) (c' := c3) (by rw [HX.out]; exact HL3.out) (by rw [HX.out]; exact HO3.out); rw [HX.out] at this; exact this); have HB4 := Aside0.mk (show Below W.heap.size W w4 by rw [hw]; exact below_set HB3.out HGB.out); clear hw))
      go_round
      case rel => exact ⟨i + 1, by go_num, hlt, HO4, HB4⟩
      case measure => simp [intOf]; omega
    · go_wp2
      go_ret
      exact ⟨⟨A5, c5, rfl, (Kd.N_reads' HO.out).2.1, (Kd.N_reads' HO.out).2.2⟩, HB.out⟩
end Go.Proofs.Yteofdgonpbmdlaa.C
namespace Go.Proofs.Yteofdgonpbmdlaa.St
open Go.RowKit Go.Maps Go.Proofs.YteofdgonpbmdlaaW.PrintWords Go.Proofs.YteofdgonpbmdlaaW.PrintLast Go.Proofs.YteofdgonpbmdlaaW.PrintMore Go.Proofs.Yteofdgonpbmdlaa.C Go.Proofs.Yteofdgonpbmdlaa.Pure
theorem colN_filter (tf tf' : ByteArray → List S28) (zf zf' : ByteArray → Int) : ∀ (l : List ByteArray) (a a' b c c' : Int), (∀ k ∈ l, tf' k = tf k) →
    (colN tf' zf' (l.filter (fun q => decide ((tf q).length ≠ 0))) a' b c').2.1 = (colN tf zf l a b c).2.1
  | [], _, _, _, _, _, _ => rfl
  | k :: t, a, a', b, c, c', h => by
    have ht := fun x hx => h x (List.mem_cons_of_mem _ hx)
    rw [List.filter_cons]
    by_cases h0 : (tf k).length = 0
    · rw [if_neg (by simp [h0])]
      simp only [colN, if_pos h0]
      exact colN_filter tf tf' zf zf' t a a' b c c' ht
    · rw [if_pos (by simpa using h0)]
      simp only [colN]
      rw [h k (List.mem_cons_self ..), if_neg h0, if_neg h0]
      exact colN_filter tf tf' zf zf' t _ _ _ _ _ ht
theorem col_n1 (s : SS) (low : Int) : (colP s low).n1 = (colN (tfP s low) (zfP s low) s.keys 0 0 0).2.1 := rfl
theorem went_eq (s : SS) (low : Int) : wentP s low = wrap64 (s.n1 - (colP s low).n1) := rfl
theorem went_again {m : Nat} {s : SS} (h : Good m s) (low : Int) : wentP (colP s low) low = 0 := by
  have e : (colN (tfP (colP s low) low) (zfP (colP s low) low) (colP s low).keys 0 0 0).2.1 = (colN (tfP s low) (zfP s low) s.keys 0 0 0).2.1 := by
    rw [col_keys]
    refine colN_filter (tfP s low) (tfP (colP s low) low) _ _ s.keys 0 0 0 0 0 (fun k _ => ?_)
    show trimF ((colP s low).ch k) low = trimF (s.ch k) low
    rw [h.col_ch]
    exact trim_trim (h.rg k) (Int.le_refl low)
  show wrap64 ((colP s low).n1 - (colN (tfP (colP s low) low) (zfP (colP s low) low) (colP s low).keys 0 0 0).2.1) = 0
  rw [e, col_n1, Int.sub_self]
  exact by decide +kernel
theorem col_few {m : Nat} {s : SS} (h : Good m s) (low : Int) {key : ByteArray} {L : List S28} (hL : (colP s low).ch key = L) (j : Nat) (hj : j < L.length) (hl : (L[j]).f0 ≤ low) : j = 0 ∧ (L[j]).f1 = false := by
  rw [h.col_ch] at hL
  subst hL
  exact (trim_few (h.rg key) low).2 j hj hl
theorem rd28 (l : List S28) (i : Nat) (h : i < l.length) : rd_T28 l (i : Int) = l[i] := by
  simp [rd_T28, List.getD_eq_getElem?_getD, h]
end Go.Proofs.Yteofdgonpbmdlaa.St
namespace Go.Proofs.Yteofdgonpbmdlaa.St
open Go.RowKit Go.Maps Go.Proofs.YteofdgonpbmdlaaW.PrintWords Go.Proofs.YteofdgonpbmdlaaW.PrintLast Go.Proofs.YteofdgonpbmdlaaW.PrintMore Go.Proofs.Yteofdgonpbmdlaa.C Go.Proofs.Yteofdgonpbmdlaa.Pure
attribute [local go_sem] max2_int min2_int max2_str min2_str str_leq str_gtr str_geq max_two min_two max_three min_three max_four min_four
set_option maxRecDepth 100000 in
set_option maxHeartbeats 16000000 in
theorem fewl_few (A0 : Option Addr) (c0 : Nat) (l0 : List S55) (low : Int) (w : World) (hC0 : Kd.C k55 w A0 l0.length l0) (hl0 : l0.length ≤ c0) (hm0 : ∀ o ∈ l0, o.f1.length ≤ 9223372036854775807) (hb0 : fewB l0 = false) :
    Calls Try.prog 14 #[.slice A0 l0.length c0, .int .u64 low] w fun e w' => e = .returned (.bool true) ∧ Below w.heap.size w w' := by
  obtain ⟨k0, h0⟩ := few_ev l0 hC0.2.1 hm0
  rw [hb0] at h0
  have H0 := Aside0.mk h0
  have HC0 := Aside0.mk hC0
  have HL0 := Aside0.mk hl0
  have HB0 := Aside0.mk (Below.refl w.heap.size w)
  clear h0 hC0 hl0 hb0 hm0
  go_enter Try.func14, Try.ntmps14
  go_wp2_with (first
    | (go_at_call 37; (refine (live_calls _).mono ?_); rintro e w2 ⟨rfl, hb⟩; have HB1 := Aside0.mk (below_step (by first | exact HB1.out | exact HB0.out) hb); clear hb)
    | (go_at_call 38; (with_reducible refine (conductorlaw08_few.calls k0 _ _ l0 false _ ?s1 HL0.out H0.out).mono ?_); (case s1 => exact Kd.C_below HC0.out HB1.out); rintro e w2 ⟨rfl, hb⟩; have HB1 := Aside0.mk (below_step HB1.out hb); clear hb))
  go_ret
  exact ⟨rfl, HB1.out⟩
set_option maxRecDepth 100000 in
set_option maxHeartbeats 16000000 in
theorem fewl_main (A0 : Option Addr) (c0 : Nat) (l0 : List S55) (low : Int) (w : World) (hC0 : Kd.C k55 w A0 l0.length l0) (hl0 : l0.length ≤ c0) (hm0 : ∀ o ∈ l0, o.f1.length ≤ 9223372036854775807) (hb0 : fewB l0 = true) :
    Calls Try.prog 14 #[.slice A0 l0.length c0, .int .u64 low] w fun e w' => e = .returned (.bool true) ∧ Below w.heap.size w w' := by
  obtain ⟨k0, h0⟩ := few_ev l0 hC0.2.1 hm0
  rw [hb0] at h0
  have H0 := Aside0.mk h0
  have HC0 := Aside0.mk hC0
  have HL0 := Aside0.mk hl0
  have HB0 := Aside0.mk (Below.refl w.heap.size w)
  have HCF0 := Aside0.mk (Kd.C_F k55_heap hC0)
  have F0 := Aside0.mk (fewB_spec hb0)
  clear h0 hC0 hl0 hb0 hm0
  go_enter Try.func14, Try.ntmps14
  go_wp2_with (first
    | (go_at_call 37; (refine (live_calls _).mono ?_); rintro e w2 ⟨rfl, hb⟩; have HB1 := Aside0.mk (below_step (by first | exact HB1.out | exact HB0.out) hb); clear hb)
    | (go_at_call 38; (with_reducible refine (conductorlaw08_few.calls k0 _ _ l0 true _ ?s1 HL0.out H0.out).mono ?_); (case s1 => exact Kd.C_below HC0.out HB1.out); rintro e w2 ⟨rfl, hb⟩; have HB1 := Aside0.mk (below_step HB1.out hb); clear hb)
    | (go_at_call 40; (with_reducible refine (conductorlaw08_Big.calls _ _ _ _ _ _ _ _ big_f).mono ?_); rintro e w2 ⟨rfl, hb⟩; have HB1 := Aside0.mk (below_step HB1.out hb); clear hb)
    | (go_at_call 39; (with_reducible refine (made_big _).mono ?_); rintro e w3 ⟨⟨p, mb, rfl, hS⟩, hb⟩; obtain ⟨base, hba⟩ : ∃ b, b = w2.heap.size := ⟨_, rfl⟩; rw [← hba] at hS; have HS3 := Aside0.mk hS; have hbase := Aside0.mk (show w.heap.size ≤ base by rw [hba]; exact HB1.out.size); have HB3 := Aside0.mk (below_step HB1.out hb); clear hS hb hba))
  go_loopw [29] (fun vi wr => ∃ (i : Nat) (kvr : Value) (nr : Nat) (Dr : DataW Value), vi = .int .i64 i ∧ i ≤ l0.length ∧ Aside0 (nr ≤ 20000 * i) ∧ Aside0 (StoreAt wr base (fun k => base ≤ k) p (runP sBig (l0.take i)) kvr mb nr Dr) ∧ Aside0 (Below w.heap.size w wr)) (fun vi _ => l0.length - (intOf vi).toNat)
  case atStart => exact ⟨0, noCh, 0, .map [], rfl, Nat.zero_le _, ⟨Nat.le_refl _⟩, HS3, HB3⟩
  case round =>
    clear HS3
    obtain ⟨i, kvr, nr, Dr, rfl, hi1, HNr, HS, HB⟩ := hrel
    by_cases hlt : i < l0.length
    · have hi4 : i < 40 := by have := F0.out.1; omega
      have HF := Aside0.mk (Kd.F_below HCF0.out HB.out)
      obtain ⟨ad, ce_, rfl, hcl_, hFK, hcc, hok⟩ := Kd.F_get HF.out z55 (i : Int) (by omega) (by omega)
      rw [show l0.getD (i : Int).toNat z55 = l0[i] by simp [List.getD, List.getElem?_eq_getElem hlt]] at hFK
      obtain ⟨x, hx⟩ : ∃ x, l0[i] = x := ⟨_, rfl⟩
      rw [hx] at hFK
      obtain ⟨A2, c2, rfl, hl2, hg2⟩ := k55_openF hFK
      have e0 : wr.cell? (ad.add (i * 6)) = some (.int .i64 x.f0) := hcc 0 _ rfl
      have e1 : wr.cell? ⟨(ad.add (i * 6)).block, (ad.add (i * 6)).off + 1, none⟩ = some (.slice A2 x.f1.length c2) := by rw [← add_field _ _ 1 (by omega)]; exact hcc 1 _ rfl
      have e2 : wr.cell? ⟨(ad.add (i * 6)).block, (ad.add (i * 6)).off + 2, none⟩ = some (.int .u64 x.f2) := by rw [← add_field _ _ 2 (by omega)]; exact hcc 2 _ rfl
      have e3 : wr.cell? ⟨(ad.add (i * 6)).block, (ad.add (i * 6)).off + 3, none⟩ = some (.int .u64 x.f3) := by rw [← add_field _ _ 3 (by omega)]; exact hcc 3 _ rfl
      have e4 : wr.cell? ⟨(ad.add (i * 6)).block, (ad.add (i * 6)).off + 4, none⟩ = some (.string x.f4) := by rw [← add_field _ _ 4 (by omega)]; exact hcc 4 _ rfl
      have e5 : wr.cell? ⟨(ad.add (i * 6)).block, (ad.add (i * 6)).off + 5, none⟩ = some (.string x.f5) := by rw [← add_field _ _ 5 (by omega)]; exact hcc 5 _ rfl
      have HG2 := Aside0.mk hg2
      have HL2 := Aside0.mk hl2
      have hmem : x ∈ l0 := hx ▸ List.getElem_mem hlt
      have HX := Aside0.mk hx
      clear hcl_ hFK hcc hok hl2 hg2 hx
      have HO := Aside0.mk (F0.out.2 x hmem)
      have HG := Aside0.mk (big_good.runTake l0 F0.out.2 i)
      have hs' : (opP (runP sBig (l0.take i)) x).2 = runP sBig (l0.take (i + 1)) := by rw [runP_step _ _ _ hlt, HX.out]
      have HS' := Aside0.mk hs'
      clear hs'
      go_wp2_with (first
        | ((with_reducible refine gate_dst (N := 7) rfl ?_); refine box_event ?hg (N := 7) ?hd (cs := #[.int .i64 0, .slice none 0 0, .int .u64 0, .int .u64 0, .string ⟨#[]⟩, .string ⟨#[]⟩]) (t := 55) ?hr ?_; (case hd => rfl); (case hg => rfl); (case hr => first | (go_simp; done) | (go_simp; rfl)); intro g7 hg wa hbox hb; have HBa := Aside0.mk hb; have GE7 := Aside0.mk (show wr.heap.size ≤ g7 by rw [hg]; exact Nat.le_refl _); have BKa := Aside0.mk hbox; have z0 := (blk_cell hbox 0).trans (show _ = some (Value.int .i64 0) from rfl); have y0 := blk_frozen hbox 0; have z1 := (blk_cell hbox 1).trans (show _ = some (Value.slice none 0 0) from rfl); have y1 := blk_frozen hbox 1; have z2 := (blk_cell hbox 2).trans (show _ = some (Value.int .u64 0) from rfl); have y2 := blk_frozen hbox 2; have z3 := (blk_cell hbox 3).trans (show _ = some (Value.int .u64 0) from rfl); have y3 := blk_frozen hbox 3; have z4 := (blk_cell hbox 4).trans (show _ = some (Value.string ⟨#[]⟩) from rfl); have y4 := blk_frozen hbox 4; have z5 := (blk_cell hbox 5).trans (show _ = some (Value.string ⟨#[]⟩) from rfl); have y5 := blk_frozen hbox 5; clear hbox hb hg)
        | ((with_reducible refine gate_store (t := 55) (p := 7) rfl ?_); refine store_event (t := 55) (p := 7) (v := ?vo2_) (w1 := (((((wa.setCell ⟨g7, 0, none⟩ (.int .i64 x.f0)).setCell ⟨g7, 1, none⟩ (.slice A2 x.f1.length c2)).setCell ⟨g7, 2, none⟩ (.int .u64 x.f2)).setCell ⟨g7, 3, none⟩ (.int .u64 x.f3)).setCell ⟨g7, 4, none⟩ (.string x.f4)).setCell ⟨g7, 5, none⟩ (.string x.f5)) ?hg ?ho ?hn ?hr ?_; (case ho => rfl); (case hg => rfl); (case hn => rfl); (case hr => first | (go_simp; done) | (go_simp; rfl)); intro wb hw; have HBx := Aside0.mk (show Below wr.heap.size wr wb by rw [hw]; exact (below_set (below_set (below_set (below_set (below_set (below_set HBa.out GE7.out) GE7.out) GE7.out) GE7.out) GE7.out) GE7.out)); have BKx := Aside0.mk (show wb.heap[g7]? = some (.cells #[.int .i64 x.f0, .slice A2 x.f1.length c2, .int .u64 x.f2, .int .u64 x.f3, .string x.f4, .string x.f5] 55 (0, 0)) by rw [hw]; exact (blk_put (blk_put (blk_put (blk_put (blk_put (blk_put BKa.out 0 _ rfl) 1 _ rfl) 2 _ rfl) 3 _ rfl) 4 _ rfl) 5 _ rfl)); have q0 := (blk_cell BKx.out 0).trans (show _ = some (Value.int .i64 x.f0) from rfl); have q1 := (blk_cell BKx.out 1).trans (show _ = some (Value.slice A2 x.f1.length c2) from rfl); have q2 := (blk_cell BKx.out 2).trans (show _ = some (Value.int .u64 x.f2) from rfl); have q3 := (blk_cell BKx.out 3).trans (show _ = some (Value.int .u64 x.f3) from rfl); have q4 := (blk_cell BKx.out 4).trans (show _ = some (Value.string x.f4) from rfl); have q5 := (blk_cell BKx.out 5).trans (show _ = some (Value.string x.f5) from rfl); have fz2 := blk_frozen BKx.out 2; have fz3 := blk_frozen BKx.out 3; clear hw z0 z1 z2 z3 z4 z5 y0 y1 y2 y3 y4 y5 HBa BKa e0 e1 e2 e3 e4 e5)
        | (go_at_call 41; (with_reducible refine (does_op (Aside0.mk (HS.out.below HBx.out)) HG ?s0 x HO (fun k => k < w.heap.size) ?s1 A2 c2 ?s2 HL2 ?s3).mono ?_); (case s0 => exact ⟨by omega⟩); (case s1 => exact ⟨fun k hk_ => Nat.lt_of_lt_of_le hk_ hbase.out⟩); (case s2 => exact ⟨Kd.F_below HG2.out HBx.out⟩); (case s3 => exact ⟨by have := HNr.out; simp only [maxLen]; omega⟩); rintro e w5 ⟨⟨Ab, cb, As, cs, rfl, hlb, hls, hFb, hFs⟩, kv', n', D', hS, hn, hT, hK⟩; rw [HS'.out] at hS; have HS5 := Aside0.mk hS; have HN5 := Aside0.mk hn; have HB5 := Aside0.mk (show Below w.heap.size w w5 from (below_step HB.out HBx.out).trans (hT.below.mono hbase.out)); clear hS hn hT hK hlb hls hFb hFs q0 q1 q2 q3 q4 q5))
      go_round
      case rel => exact ⟨i + 1, kv', n', D', by go_num, hlt, ⟨by have := HN5.out; have := HNr.out; omega⟩, HS5, HB5⟩
      case measure => simp [intOf]; omega
    · have hie : i = l0.length := by omega
      subst hie
      rw [List.take_length] at HS
      obtain ⟨s1, hs1⟩ : ∃ s1, runP sBig l0 = s1 := ⟨_, rfl⟩
      have HG1 := Aside0.mk (show Good 40 s1 from hs1 ▸ (Good.run l0 big_good F0.out.2).mono (by have := F0.out.1; omega))
      rw [hs1] at HS
      obtain ⟨s2, hs2⟩ : ∃ s2, colP s1 low = s2 := ⟨_, rfl⟩
      have HG2 := Aside0.mk (show Good 40 s2 from hs2 ▸ HG1.out.col low)
      have hw0 : wentP s2 low = 0 := hs2 ▸ went_again HG1.out low
      have HW0 := Aside0.mk hw0
      obtain ⟨wv, hwv⟩ : ∃ wv, wentP s1 low = wv := ⟨_, rfl⟩
      have HWV := Aside0.mk hwv
      have hsub : wrap64 (s1.n1 - s2.n1) = wv := by rw [← hwv, went_eq, hs2]
      have HSUB := Aside0.mk hsub
      have HS2e := Aside0.mk hs2
      clear hs1 hs2 hw0 hwv hsub
      have fl1 : ∀ w, (Instr.field 72 (.agg #[.int .i64 s1.n0, .int .i64 s1.n1, .int .i64 s1.n2]) 1).run Try.prog w = .ok (.int .i64 s1.n1) w := fun _ => by kernel_rfl
      have fl2 : ∀ w, (Instr.field 72 (.agg #[.int .i64 s2.n0, .int .i64 s2.n1, .int .i64 s2.n2]) 1).run Try.prog w = .ok (.int .i64 s2.n1) w := fun _ => by kernel_rfl
      go_wp2_with (first
        | (go_at_call 48; refine (store_Count.calls HS).mono ?_; rintro e w6 ⟨rfl, hb⟩; have HS6 := Aside0.mk (HS.out.below hb); have HB6 := Aside0.mk (below_step HB.out hb); clear hb)
        | (go_at_call 49; (with_reducible refine (collect_P HS6 HG1 ⟨by decide⟩ low ?s0).mono ?_); (case s0 => exact ⟨by have := HNr.out; have := F0.out.1; simp only [maxLen]; omega⟩); rintro e w7 ⟨rfl, kv7, n7, D7, hS, hn, hT, hK⟩; rw [HS2e.out] at hS; rw [HWV.out]; have HS7 := Aside0.mk hS; have HN7 := Aside0.mk hn; have HB7 := Aside0.mk (show Below w.heap.size w w7 from HB6.out.trans (hT.below.mono hbase.out)); clear hS hn hT hK)
        | (go_at_call 50; (with_reducible refine (store_Keys.calls HS7 ⟨by have := HG2.out.kn; omega⟩).mono ?_); rintro e w8 ⟨v, rfl, ho, hb⟩; obtain ⟨A8, c8, ev⟩ := Kd.R_slice ho; subst ev; have HC8 := Aside0.mk (Kd.R_reads' ho).2.2; have HS8 := Aside0.mk (HS7.out.below hb); have HB8 := Aside0.mk (below_step HB7.out hb); clear ho hb))
      clear HS HB HS6 HB6 HS7 HB7
      have HNR := HNr
      clear HNr
      have HKL := Aside0.mk (show s2.keys.length ≤ 800 from HG2.out.kn)
      go_loopw [46] (fun vi wr => ∃ i : Nat, vi = .int .i64 i ∧ i ≤ s2.keys.length ∧ Aside0 (Below w8.heap.size w8 wr)) (fun vi _ => s2.keys.length - (intOf vi).toNat)
      case atStart => exact ⟨0, rfl, Nat.zero_le _, ⟨Below.refl _ _⟩⟩
      case round =>
        obtain ⟨i, rfl, hi1, HB⟩ := hrel
        by_cases hlt : i < s2.keys.length
        · have hi4 : i < 800 := by have := HKL.out; omega
          obtain ⟨ad, e_, hx⟩ := Kd.at_string (Kd.C_below HC8.out HB.out) (i : Int) (by omega) (by omega)
          subst e_
          obtain ⟨key, hkey⟩ : ∃ key, ks s2.keys (i : Nat) = key := ⟨_, rfl⟩
          have hx2 : wr.cell? (ad.add i) = some (.string key) := by rw [← hkey]; exact hx
          have hmem : key ∈ s2.keys := by rw [← hkey, ks_get _ _ hlt]; exact List.getElem_mem hlt
          have HKEY := Aside0.mk (size256 (HG2.out.ks key hmem))
          obtain ⟨L, hL⟩ : ∃ L, s2.ch key = L := ⟨_, rfl⟩
          have HL := Aside0.mk hL
          have hne : L.length ≠ 0 := fun h_ => (HG2.out.me key).1 hmem (hL.trans (List.eq_nil_of_length_eq_zero h_))
          have HNE := Aside0.mk hne
          have HLL := Aside0.mk (show L.length ≤ 1000000 by have := HG2.out.ln key; rw [hL] at this; omega)
          have HLD := Aside0.mk (show ∀ v ∈ L, v.f2.length ≤ 1000000 from fun v hv => by have := HG2.out.dl key v (by rw [hL]; exact hv); omega)
          have HFEW := Aside0.mk (fun j hj hl_ => col_few HG1.out low (key := key) (L := L) (by rw [HS2e.out]; exact hL) j hj hl_)
          have HSr := Aside0.mk (HS8.out.below HB.out)
          clear hx hkey hmem hL hne
          go_wp2_with (first
            | (go_at_call 51; (with_reducible refine (store_Chain.calls HSr key HKEY L HL HLL HLD).mono ?_); rintro e wc ⟨⟨Ac, cc, rfl, hlc, hC_⟩, hb⟩; have HCc := Aside0.mk hC_; have HBc := Aside0.mk (below_step (Below.refl wr.heap.size wr) hb); clear hC_ hb))
          go_loopw [12, 54] (fun vn vi wq => ∃ (j n_ : Nat), vi = .int .i64 j ∧ j ≤ L.length ∧ vn = .int .i64 n_ ∧ n_ ≤ 1 ∧ Aside0 (n_ = 1 → 0 < j) ∧ Aside0 (Below wc.heap.size wc wq)) (fun _ vi _ => L.length - (intOf vi).toNat)
          case atStart => exact ⟨0, 0, rfl, Nat.zero_le _, rfl, by omega, ⟨fun h_ => absurd h_ (by omega)⟩, ⟨Below.refl _ _⟩⟩
          case round =>
            obtain ⟨j, n_, rfl, hj1, rfl, hn1, HN_, HQ⟩ := hrel
            by_cases hjt : j < L.length
            · have hj4 : j < 1000000 := by have := HLL.out; omega
              obtain ⟨ad2, A2, c2, rfl, e0, e1, e2, hl2, hg2⟩ := at_T28 (Kd.C_below HCc.out HQ.out) (j : Int) (by omega) (by omega)
              rw [rd28 L j hjt] at e0 e1 e2 hl2 hg2
              simp only [Int.toNat_natCast] at e0 e1 e2
              obtain ⟨x, hx⟩ : ∃ x, L[j] = x := ⟨_, rfl⟩
              rw [hx] at e0 e1 e2 hl2 hg2
              have HJ : Aside0 (x.f0 ≤ low → j = 0 ∧ x.f1 = false) := ⟨fun h_ => by have := HFEW.out j hjt (by rw [hx]; exact h_); rw [hx] at this; exact this⟩
              clear hx hl2 hg2
              by_cases hle : x.f0 ≤ low
              · have hf1 : x.f1 = false := (HJ.out hle).2
                rw [hf1] at e1
                have HJ0 := Aside0.mk (HJ.out hle).1
                have hn0 : n_ = 0 := by have := HN_.out; have := HJ0.out; omega
                subst hn0
                clear HJ
                go_wp2_with (first
                  | ((with_reducible refine gate_dst (N := 14) rfl ?_); refine box_event ?hg (N := 14) ?hd (cs := #[.int .u64 0, .bool false, .slice none 0 0]) (t := 28) ?hr ?_; (case hd => rfl); (case hg => rfl); (case hr => first | (go_simp; done) | (go_simp; rfl)); intro g7 hg wa hbox hb; have HBa := Aside0.mk hb; have GE7 := Aside0.mk (show wr.heap.size ≤ g7 by rw [hg]; exact Nat.le_refl _); have BKa := Aside0.mk hbox; have z0 := (blk_cell hbox 0).trans (show _ = some (Value.int .u64 0) from rfl); have y0 := blk_frozen hbox 0; have z1 := (blk_cell hbox 1).trans (show _ = some (Value.bool false) from rfl); have y1 := blk_frozen hbox 1; have z2 := (blk_cell hbox 2).trans (show _ = some (Value.slice none 0 0) from rfl); have y2 := blk_frozen hbox 2; clear hbox hb hg)
                  | ((with_reducible refine gate_store (t := 28) (p := 14) rfl ?_); refine store_event (t := 28) (p := 14) (v := ?vf1_) (w1 := ((wa.setCell ⟨g7, 0, none⟩ (.int .u64 x.f0)).setCell ⟨g7, 1, none⟩ (.bool false)).setCell ⟨g7, 2, none⟩ (.slice A2 x.f2.length c2)) ?hg ?ho ?hn ?hr ?_; (case ho => rfl); (case hg => rfl); (case hn => rfl); (case hr => first | (go_simp; done) | (go_simp; rfl)); intro wb hw; have HBx := Aside0.mk (show Below wr.heap.size wr wb by rw [hw]; exact (below_set (below_set (below_set HBa.out GE7.out) GE7.out) GE7.out)); have BKx := Aside0.mk (show wb.heap[g7]? = some (.cells #[.int .u64 x.f0, .bool false, .slice A2 x.f2.length c2] 28 (0, 0)) by rw [hw]; exact (blk_put (blk_put (blk_put BKa.out 0 _ rfl) 1 _ rfl) 2 _ rfl)); have q0 := (blk_cell BKx.out 0).trans (show _ = some (Value.int .u64 x.f0) from rfl); have q1 := (blk_cell BKx.out 1).trans (show _ = some (Value.bool false) from rfl); have q2 := (blk_cell BKx.out 2).trans (show _ = some (Value.slice A2 x.f2.length c2) from rfl); clear hw z0 z1 z2 y0 y1 y2 HBa BKa e0 e1 e2))
                go_round
                case rel => exact ⟨j + 1, 1, by go_num, hjt, rfl, by omega, ⟨fun _ => by omega⟩, ⟨HQ.out.trans (HBx.out.mono HQ.out.size)⟩⟩
                case measure => simp [intOf]; omega
              · go_wp2_with (first
                  | ((with_reducible refine gate_dst (N := 14) rfl ?_); refine box_event ?hg (N := 14) ?hd (cs := #[.int .u64 0, .bool false, .slice none 0 0]) (t := 28) ?hr ?_; (case hd => rfl); (case hg => rfl); (case hr => first | (go_simp; done) | (go_simp; rfl)); intro g7 hg wa hbox hb; have HBa := Aside0.mk hb; have GE7 := Aside0.mk (show wr.heap.size ≤ g7 by rw [hg]; exact Nat.le_refl _); have BKa := Aside0.mk hbox; have z0 := (blk_cell hbox 0).trans (show _ = some (Value.int .u64 0) from rfl); have y0 := blk_frozen hbox 0; have z1 := (blk_cell hbox 1).trans (show _ = some (Value.bool false) from rfl); have y1 := blk_frozen hbox 1; have z2 := (blk_cell hbox 2).trans (show _ = some (Value.slice none 0 0) from rfl); have y2 := blk_frozen hbox 2; clear hbox hb hg)
                  | ((with_reducible refine gate_store (t := 28) (p := 14) rfl ?_); refine store_event (t := 28) (p := 14) (v := ?vo1_) (w1 := ((wa.setCell ⟨g7, 0, none⟩ (.int .u64 x.f0)).setCell ⟨g7, 1, none⟩ (.bool x.f1)).setCell ⟨g7, 2, none⟩ (.slice A2 x.f2.length c2)) ?hg ?ho ?hn ?hr ?_; (case ho => rfl); (case hg => rfl); (case hn => rfl); (case hr => first | (go_simp; done) | (go_simp; rfl)); intro wb hw; have HBx := Aside0.mk (show Below wr.heap.size wr wb by rw [hw]; exact (below_set (below_set (below_set HBa.out GE7.out) GE7.out) GE7.out)); have BKx := Aside0.mk (show wb.heap[g7]? = some (.cells #[.int .u64 x.f0, .bool x.f1, .slice A2 x.f2.length c2] 28 (0, 0)) by rw [hw]; exact (blk_put (blk_put (blk_put BKa.out 0 _ rfl) 1 _ rfl) 2 _ rfl)); have q0 := (blk_cell BKx.out 0).trans (show _ = some (Value.int .u64 x.f0) from rfl); have q1 := (blk_cell BKx.out 1).trans (show _ = some (Value.bool x.f1) from rfl); have q2 := (blk_cell BKx.out 2).trans (show _ = some (Value.slice A2 x.f2.length c2) from rfl); clear hw z0 z1 z2 y0 y1 y2 HBa BKa e0 e1 e2))
                go_round
                case rel => exact ⟨j + 1, n_, by go_num, hjt, rfl, hn1, ⟨fun _ => by omega⟩, ⟨HQ.out.trans (HBx.out.mono HQ.out.size)⟩⟩
                case measure => simp [intOf]; omega
            · have HSq := Aside0.mk (HSr.out.below (HBc.out.trans (HQ.out.mono HBc.out.size)))
              have hng : ¬ ((1:Int) < (n_:Int)) := by omega
              have hne0 : ((L.length : Int) == 0) = false := by have := HNE.out; simp; exact fun h_ => this (by rw [h_]; rfl)
              go_wp2_with (first
                | (go_at_call 51; (with_reducible refine (store_Chain.calls HSq key HKEY L HL HLL HLD).mono ?_); rintro e wd ⟨⟨Ad, cd, rfl, hld, hC_⟩, hb⟩; have HCd := Aside0.mk hC_; have HBd := Aside0.mk (below_step (Below.refl wr.heap.size wr) hb); clear hC_ hb))
              go_round
              case rel => exact ⟨i + 1, by go_num, hlt, ⟨HB.out.trans (((HBc.out.trans (HQ.out.mono HBc.out.size)).trans (HBd.out.mono (Nat.le_trans HBc.out.size HQ.out.size))).mono HB.out.size)⟩⟩
              case measure => simp [intOf]; omega
        · have HS9 := Aside0.mk (HS8.out.below HB.out)
          have hsub := HSUB.out
          go_wp2_with (first
            | (go_at_call 48; refine (store_Count.calls HS9).mono ?_; rintro e w10 ⟨rfl, hb⟩; have HS10 := Aside0.mk (HS9.out.below hb); have HB10 := Aside0.mk (below_step (HB8.out.trans (HB.out.mono HB8.out.size)) hb); clear hb)
            | (go_at_call 49; (with_reducible refine (collect_P HS10 HG2 ⟨by decide⟩ low ?s0).mono ?_); (case s0 => exact ⟨by have := HN7.out; have := HNR.out; have := F0.out.1; simp only [maxLen]; omega⟩); rintro e w11 ⟨rfl, kv11, n11, D11, hS, hn, hT, hK⟩; rw [HW0.out]; have HB11 := Aside0.mk (show Below w.heap.size w w11 from HB10.out.trans (hT.below.mono hbase.out)); clear hS hn hT hK))
          go_ret
          exact ⟨rfl, HB11.out⟩
theorem fewl_all (A0 : Option Addr) (c0 : Nat) (l0 : List S55) (low : Int) (w : World) (hC0 : Kd.C k55 w A0 l0.length l0) (hl0 : l0.length ≤ c0) (hm0 : ∀ o ∈ l0, o.f1.length ≤ 9223372036854775807) :
    Calls Try.prog 14 #[.slice A0 l0.length c0, .int .u64 low] w fun e w' => e = .returned (.bool true) ∧ Below w.heap.size w w' := by
  cases h : fewB l0 with
  | true => exact fewl_main A0 c0 l0 low w hC0 hl0 hm0 h
  | false => exact fewl_few A0 c0 l0 low w hC0 hl0 hm0 h
end Go.Proofs.Yteofdgonpbmdlaa.St
