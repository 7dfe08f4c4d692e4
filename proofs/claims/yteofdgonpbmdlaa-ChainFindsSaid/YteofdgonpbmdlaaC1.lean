/- Printed by a program of this session (pp.py) over the print of the kit: functions of the translation as plain functions, and the contracts of their calls. No condition. -/
import Derived.Test.YteofdgonpbmdlaaC0
namespace Go.Proofs.Yteofdgonpbmdlaa.C
open Go.RowKit Go.Proofs.YteofdgonpbmdlaaW.PrintWords Go.Proofs.YteofdgonpbmdlaaW.PrintLast Go.Proofs.YteofdgonpbmdlaaW.PrintMore
attribute [local go_sem] max2_int min2_int max_two min_two max_three min_three max_four min_four   -- for this text's walks alone
set_option linter.unusedVariables false
set_option linter.unusedSimpArgs false

-- NOT PRINTED: function 85 (api_Version)

/-! ### chain_upto: function 64 -/
theorem upto1_calls (t b : Int) (g : Bool) (d : Value) (q : Nat) (w : World) (hb : w.cell? ⟨q, 0, none⟩ = some (.int .u64 b)) :
    Calls Try.prog 86 #[.agg #[.int .u64 t, .bool g, d], .pointer (some ⟨q, 0, none⟩)] w fun e w' => e = .returned (.bool (decide (t ≤ b))) ∧ Below w.heap.size w w' := by
  have hq := World.block_lt_of_cell? w _ hb
  have hc1 : (w.alloc (.cells #[.int .u64 t, .bool g, d] 28)).cell? ⟨q, 0, none⟩ = some (.int .u64 b) := by
    rw [World.cell?_of_block (w := w) (Below.heap_alloc _ _ _ hq)]; exact hb
  go_enter Try.func86, Try.ntmps86
  go_wp2
  go_ret
  exact ⟨rfl, below_alloc (Below.refl _ _) _⟩

def upto_go (l : List S28) (a : Int) : Nat → Int → Int → Int
  | 0, lo, _ => lo
  | k + 1, lo, hi => if lo < hi then (if (rd_T28 l (lo + (hi - lo) / 2)).f0 ≤ a then upto_go l a k (lo + (hi - lo) / 2 + 1) hi else upto_go l a k lo (lo + (hi - lo) / 2)) else lo

def chain_upto.f (l0 : List S28) (a1 : Int) : Option Int := some (upto_go l0 a1 l0.length 0 l0.length)

set_option maxHeartbeats 1000000 in
theorem behind_calls (A : Option Addr) (c : Nat) (l : List S28) (b : Int) (q : Nat) (w : World) (hr : Kd.C k28 w A l.length l) (hc : l.length ≤ c) (hb : w.cell? ⟨q, 0, none⟩ = some (.int .u64 b)) :
    Calls Try.prog 85 #[.slice A l.length c, .func (.func 86) #[] #[.pointer (some ⟨q, 0, none⟩)]] w fun e w' => e = .returned (.int .i64 (upto_go l b l.length 0 l.length)) ∧ Below w.heap.size w w' := by
  have hm : l.length ≤ 9223372036854775807 := hr.2.1
  have HR := Aside0.mk hr
  have HC := Aside0.mk hc
  have HQ := Aside0.mk hb
  clear hr hc hb
  go_enter Try.func85, Try.ntmps85
  go_wp2
  go_loopw [5, 6] (fun lo hi wr => ∃ (k i j : Nat), lo = .int .i64 i ∧ hi = .int .i64 j ∧ i ≤ j ∧ j ≤ l.length ∧ j - i ≤ k ∧ Aside0 (upto_go l b k i j = upto_go l b l.length 0 l.length) ∧ Aside0 (Below w.heap.size w wr)) (fun lo hi _ => (intOf hi - intOf lo).toNat)
  case atStart => exact ⟨l.length, 0, l.length, rfl, rfl, Nat.zero_le _, Nat.le_refl _, by omega, ⟨rfl⟩, ⟨Below.refl _ _⟩⟩
  case round =>
    obtain ⟨k, i, j, rfl, rfl, hij, hj, hk, HU, HB⟩ := hrel
    have HQ' : wr.cell? ⟨q, 0, none⟩ = some (.int .u64 b) := pw_cell_below HB.out HQ.out
    have HR' := Aside0.mk (Kd.C_below HR.out HB.out)
    by_cases hlt : i < j
    · obtain ⟨k, rfl⟩ : ∃ k', k = k' + 1 := ⟨k - 1, by omega⟩
      have hlti : (i : Int) < j := by omega
      obtain ⟨m, hm, hm1, hm2⟩ : ∃ m : Nat, (i : Int) + ((j : Int) - i) / 2 = m ∧ i ≤ m ∧ m < j := ⟨((i : Int) + ((j : Int) - i) / 2).toNat, by omega, by omega, by omega⟩
      have HU' := HU.out
      simp only [upto_go, if_pos hlti, hm] at HU'
      obtain ⟨ad, A2, c2, e, hx0, hx1, hx2, hl2, hi2⟩ := at_T28 HR'.out (m : Int) (by omega) (by omega)
      subst e
      simp only [Int.toNat_natCast] at hx0 hx1 hx2
      have HA2 := Aside0.mk hi2
      clear hi2 HU
      have hm3 : m < l.length := by omega
      by_cases ht : (rd_T28 l (m : Int)).f0 ≤ b
      · rw [if_pos ht] at HU'
        have HU := Aside0.mk HU'
        clear HU'
        have htd : decide ((rd_T28 l (m : Int)).f0 ≤ b) = true := decide_eq_true ht
        go_wp2_with (go_at_call 86; refine (upto1_calls _ _ _ _ q _ (by assumption)).mono ?_; rintro e w1 ⟨rfl, hb1⟩)
        go_roundw
        case measure => simp [intOf]; omega
        case rel => exact ⟨k, ⟨((m + 1 : Nat) : Nat), ⟨j, by go_num, rfl, by omega, by omega, by omega, ⟨by rw [← HU.out]; rfl⟩, ⟨HB.out.trans (hb1.mono HB.out.size)⟩⟩⟩⟩
      · rw [if_neg ht] at HU'
        have HU := Aside0.mk HU'
        clear HU'
        have htd : decide ((rd_T28 l (m : Int)).f0 ≤ b) = false := decide_eq_false ht
        go_wp2_with (go_at_call 86; refine (upto1_calls _ _ _ _ q _ (by assumption)).mono ?_; rintro e w1 ⟨rfl, hb1⟩)
        go_roundw
        case measure => simp [intOf]; omega
        case rel => exact ⟨k, ⟨i, ⟨m, rfl, rfl, by omega, by omega, by omega, ⟨HU.out⟩, ⟨HB.out.trans (hb1.mono HB.out.size)⟩⟩⟩⟩
    · have hd : ∀ k, upto_go l b k (i : Int) j = i := by
        intro k
        cases k with
        | zero => rfl
        | succ k => simp only [upto_go]; rw [if_neg (by omega)]
      have HU2 := Aside0.mk ((hd k).symm.trans HU.out)
      clear HU hd
      go_wp2
      go_ret
      exact ⟨congrArg (fun z => Ending.returned (.int .i64 z)) HU2.out, HB.out⟩

set_option maxHeartbeats 1000000 in
theorem chain_upto.calls (A0 : Option Addr) (c0 : Nat) (l0 : List (S28)) (a1 : Int) (r : Int) (w : World) (hr0 : Kd.C k28 w A0 l0.length l0) (hc0 : l0.length ≤ c0) (h : chain_upto.f l0 a1 = some r) :
    Calls Try.prog 64 #[.slice A0 l0.length c0, .int .u64 a1] w fun e w' => e = .returned (.int .i64 r) ∧ Below w.heap.size w w' := by
  obtain rfl := Option.some.inj h
  clear h
  have HR := Aside0.mk (Kd.C_below hr0 (below_alloc (Below.refl _ _) (.cells #[.int .u64 a1] 23)))
  have HC := Aside0.mk hc0
  clear hr0 hc0
  have HQ : (w.alloc (.cells #[.int .u64 a1] 23)).cell? ⟨w.heap.size, 0, none⟩ = some (.int .u64 a1) := cell_of_one (heap_alloc_new _ _)
  go_enter Try.func64, Try.ntmps64
  go_wp2_with (go_at_call 85; refine (behind_calls _ _ _ _ w.heap.size _ HR.out HC.out HQ).mono ?_; rintro e w1 ⟨rfl, hb1⟩)
  go_ret
  exact ⟨rfl, (below_alloc (Below.refl _ _) _).trans (hb1.mono (by simp))⟩

/-! ### bytes_Clone: function 65 -/
def bytes_Clone.f (l0 : List Int) : Option (List Int) := if l0.length < 140737488355328 then some l0 else none

set_option maxHeartbeats 1000000 in
theorem bytes_Clone.calls (A0 : Option Addr) (c0 : Nat) (l0 : List Int) (r : List Int) (w : World) (hr0 : Kd.C (Kd.int .u8) w A0 l0.length l0) (hc0 : l0.length ≤ c0) (h : bytes_Clone.f l0 = some r) :
    Calls Try.prog 65 #[.slice A0 l0.length c0] w fun e w' => ∃ v0_ : Value, e = .returned (v0_) ∧ Kd.R (Kd.int .u8) 5 w' w.heap.size (fun _ => True) v0_ r ∧ Below w.heap.size w w' := by
  unfold bytes_Clone.f at h
  by_cases hl : l0.length < 140737488355328
  · rw [if_pos hl] at h
    obtain rfl := Option.some.inj h
    have HL := Aside0.mk hl
    clear h hl
    cases A0 with
    | none =>
      have hn : l0 = [] := by
        cases l0 with
        | nil => rfl
        | cons x t => have := hr0.2.2 (by simp); obtain ⟨ad, h1, _⟩ := this; cases h1
      subst hn
      have HR := Aside0.mk hr0
      clear hr0
      have heq := fun W => Lib.run_eql_slice_nil (P := Try.prog) W 26 5 (none : Option Addr) 0 c0 0 0 Try.underlying26
      go_enter Try.func65, Try.ntmps65
      go_wp2
      go_ret
      exact ⟨_, rfl, Kd.R_nil _ _ _ _ _, Below.refl _ _⟩
    | some ad =>
      have HR := Aside0.mk hr0
      have HC := Aside0.mk hc0
      have heq := fun W => Lib.run_eql_slice_nil (P := Try.prog) W 26 5 (some ad) l0.length c0 0 0 Try.underlying26
      clear hr0 hc0
      go_enter Try.func65, Try.ntmps65
      go_wp2_with (first
        | ((with_reducible refine gate_dst (N := 5) rfl ?_); refine Kd.R_lit (Kd.int .u8) _ 5 ?hg (N := 5) ?hd (xs := ([] : List Int)) (inner := []) (ok := fun _ => True) (okp := fun _ => True) ?hr ?hp (fun _ hk => hk) trivial (Below.refl w.heap.size w) (Nat.le_refl _) (by simp) ?_; (case hd => rfl); (case hg => rfl); (case hr => first | (go_simp; done) | (go_simp; rfl)); (case hp => exact Reps.none _ _); intro v1 w1 ho1 hb1 hg_ hnew_; clear hg_ hnew_; have HO1 := Aside0.mk ho1; have HB1 := Aside0.mk hb1; clear ho1 hb1)
        | ((with_reducible refine gate_builtin (b := .append) (xs := #[.tmp 5, .tmp 6]) rfl ?_); at_builtin; refine Kd.R_append_rows (Kd.int .u8) (w0 := w) w.heap.size rfl (.tmp 5) (.tmp 6) 26 5 (.int .u8 0) 1 rfl Try.underlying26 info5 rfl (by decide) (by omega) v1 [] l0 _ _ _ (fun _ => True) (fun _ => False) rfl rfl ?aO ?aR (fun _ _ h => h) (fun _ h => h.elim) ?aF ?aB ?aS ?aL ?_; (case aR => exact (Kd.C_below HR.out HB1.out)); (case aF => exact (fun _ _ => trivial)); (case aO => exact HO1.out); (case aB => exact HB1.out); (case aS => exact HB1.out.size); (case aL => have := HL.out; simp only [List.length_nil]; omega); intro v2 w2 ho2 hb2 hg_ hnew_; clear hg_ hnew_; have HO2 := Aside0.mk ho2; have HB2 := Aside0.mk hb2; clear ho2 hb2))
      go_ret
      exact ⟨_, rfl, HO2.out, HB2.out⟩
  · rw [if_neg hl] at h; cases h

end Go.Proofs.Yteofdgonpbmdlaa.C
