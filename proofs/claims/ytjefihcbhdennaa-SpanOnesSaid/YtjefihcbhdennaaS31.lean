/- Printed by a program of this session (pp.py) over the print of the kit: functions of the translation as plain functions, and the contracts of their calls. No condition. -/
import Derived.Test.YtjefihcbhdennaaS0
import Derived.Test.YtjefihcbhdennaaS26
import Derived.Test.YtjefihcbhdennaaS27
import Derived.Test.YtjefihcbhdennaaS28
namespace Go.Proofs.Ytjefihcbhdennaa.S
open Go.RowKit Go.Proofs.YtjefihcbhdennaaW.PrintWords Go.Proofs.YtjefihcbhdennaaW.PrintLast Go.Proofs.YtjefihcbhdennaaW.PrintMore
attribute [local go_sem] max2_int min2_int max2_str min2_str str_leq str_gtr str_geq max_two min_two max_three min_three max_four min_four   -- for this text's walks alone
set_option linter.unusedVariables false
set_option linter.unusedSimpArgs false

/-! ### span_Meet: function 37 -/
def meetsB (x y : S41) : Bool := (span_Meets.f x.f0 x.f1 y.f0 y.f1).getD false
theorem meetsB_eq (x y : S41) : span_Meets.f x.f0 x.f1 y.f0 y.f1 = some (meetsB x y) := by
  have h : (span_Meets.f x.f0 x.f1 y.f0 y.f1).isSome = true := by
    unfold span_Meets.f span_Right.f span_ahead.f
    by_cases h1 : x.f1.toList = [] <;> by_cases h2 : y.f1.toList = [] <;> simp only [h1, h2, if_true, if_false, Option.bind_some] <;> cases Op.bytesLess y.f0.toList y.f1.toList <;> cases Op.bytesLess x.f0.toList x.f1.toList <;> cases Op.bytesLess y.f0.toList x.f1.toList <;> cases Op.bytesLess x.f0.toList y.f1.toList <;> rfl
  obtain ⟨b, hb⟩ := Option.isSome_iff_exists.1 h
  unfold meetsB
  rw [hb]; rfl
def span_Meet.f (l0 l1 : List S41) : Option Bool := some (l0.any fun x => l1.any fun y => meetsB x y)
set_option maxHeartbeats 1000000 in
theorem meet2_calls (x y : S41) (q : Nat) (w : World) (hq : w.heap[q]? = some (.cells #[.string x.f0, .string x.f1] 41 (0, 0))) :
    Calls Try.prog 68 #[.agg #[.string y.f0, .string y.f1], .pointer (some ⟨q, 0, none⟩)] w fun e w' => e = .returned (.bool (meetsB x y)) ∧ Below w.heap.size w w' := by
  have hlt := blk_lt hq
  have hq' : (w.alloc (.cells #[.string y.f0, .string y.f1] 41)).heap[q]? = some (.cells #[.string x.f0, .string x.f1] 41 (0, 0)) := (Below.heap_alloc _ _ _ hlt).trans hq
  have hc1 : (w.alloc (.cells #[.string y.f0, .string y.f1] 41)).cell? ⟨q, 0, none⟩ = some (.string x.f0) := blk_cell hq' 0
  have hc2 : (w.alloc (.cells #[.string y.f0, .string y.f1] 41)).cell? ⟨q, 1, none⟩ = some (.string x.f1) := blk_cell hq' 1
  clear hq hq'
  go_enter Try.func68, Try.ntmps68
  go_wp2_with (go_at_call 34; refine (span_Meets.calls _ _ _ _ _ _ (meetsB_eq x y)).mono ?_; rintro e w1 ⟨rfl, hb1⟩; have HB1 := Aside0.mk hb1; clear hb1)
  go_ret
  exact ⟨rfl, below_step (below_alloc (Below.refl _ _) _) HB1.out⟩
set_option maxHeartbeats 1000000 in
set_option maxRecDepth 100000 in
theorem index68 (A : Option Addr) (c : Nat) (l : List S41) (p : S41 → Bool) (q : Nat) (w : World) (hr : Kd.C k41 w A l.length l) (hc : l.length ≤ c)
    (hp : ∀ (x : S41) (w1 : World), Below w.heap.size w w1 → Calls Try.prog 68 #[.agg #[.string x.f0, .string x.f1], .pointer (some ⟨q, 0, none⟩)] w1 fun e w' => e = .returned (.bool (p x)) ∧ Below w1.heap.size w1 w') :
    Calls Try.prog 78 #[.slice A l.length c, .func (.func 68) #[] #[.pointer (some ⟨q, 0, none⟩)]] w fun e w' => ∃ r : Int, e = .returned (.int .i64 r) ∧ decide (0 ≤ r) = l.any p ∧ Below w.heap.size w w' := by
  have hm : l.length ≤ 9223372036854775807 := hr.2.1
  have HR := Aside0.mk hr
  have HC := Aside0.mk hc
  have HP := Aside0.mk hp
  clear hr hc hp
  go_enter Try.func78, Try.ntmps78
  go_wp2
  go_loopw [8] (fun i wr => ∃ k : Nat, i = .int .i64 k ∧ k ≤ l.length ∧ Aside0 ((l.take k).any p = false) ∧ Aside0 (Below w.heap.size w wr)) (fun i _ => l.length - (intOf i).toNat)
  case atStart => exact ⟨0, rfl, Nat.zero_le _, ⟨by simp⟩, ⟨Below.refl _ _⟩⟩
  case round =>
    obtain ⟨k, rfl, hk, HA, HB⟩ := hrel
    by_cases hlt : k < l.length
    · obtain ⟨ad, e, hx0, hx1⟩ := at_T41 (Kd.C_below HR.out HB.out) (k : Int) (by omega) (by omega)
      subst e
      simp only [Int.toNat_natCast] at hx0 hx1
      have HE := Aside0.mk (show (l.take (k + 1)).any p = ((l.take k).any p || p (rd_T41 l (k : Int))) by
        rw [List.take_succ_eq_append_getElem hlt, List.any_append]
        simp [rd_T41, List.getD_eq_getElem?_getD, hlt])
      cases hpx : p (rd_T41 l (k : Int)) with
      | true =>
        have HPX := Aside0.mk hpx
        clear hpx
        go_wp2_with (go_at_call 68; refine (HP.out (rd_T41 l (k : Int)) _ HB.out).mono ?_; rintro e w1 ⟨rfl, hb1⟩; rw [HPX.out]; have HB1 := Aside0.mk hb1; clear hb1)
        go_ret
        refine ⟨_, rfl, ?_, below_step HB.out HB1.out⟩
        have h1 : (l.take (k + 1)).any p = true := by rw [HE.out, HPX.out, Bool.or_true]
        have h2 : l.any p = true := by
          rw [List.any_eq_true] at h1 ⊢
          obtain ⟨x, hx, hpx⟩ := h1
          exact ⟨x, List.mem_of_mem_take hx, hpx⟩
        rw [h2]; simp
      | false =>
        have HPX := Aside0.mk hpx
        clear hpx
        go_wp2_with (go_at_call 68; refine (HP.out (rd_T41 l (k : Int)) _ HB.out).mono ?_; rintro e w1 ⟨rfl, hb1⟩; rw [HPX.out]; have HB1 := Aside0.mk hb1; clear hb1)
        go_roundw
        case measure => simp [intOf]; omega
        case rel => exact ⟨k + 1, by go_num, by omega, ⟨by rw [HE.out, HA.out, HPX.out]; rfl⟩, ⟨below_step HB.out HB1.out⟩⟩
    · have hkl : k = l.length := by omega
      have HA2 := Aside0.mk (show l.any p = false by have := HA.out; rwa [hkl, List.take_length] at this)
      clear hkl HA
      go_wp2
      go_ret
      exact ⟨_, rfl, by rw [HA2.out]; rfl, HB.out⟩
set_option maxHeartbeats 1000000 in
theorem contains68 (A : Option Addr) (c : Nat) (l : List S41) (p : S41 → Bool) (q : Nat) (w : World) (hr : Kd.C k41 w A l.length l) (hc : l.length ≤ c)
    (hp : ∀ (x : S41) (w1 : World), Below w.heap.size w w1 → Calls Try.prog 68 #[.agg #[.string x.f0, .string x.f1], .pointer (some ⟨q, 0, none⟩)] w1 fun e w' => e = .returned (.bool (p x)) ∧ Below w1.heap.size w1 w') :
    Calls Try.prog 65 #[.slice A l.length c, .func (.func 68) #[] #[.pointer (some ⟨q, 0, none⟩)]] w fun e w' => e = .returned (.bool (l.any p)) ∧ Below w.heap.size w w' := by
  have HR := Aside0.mk hr
  have HC := Aside0.mk hc
  have HP := Aside0.mk hp
  clear hr hc hp
  go_enter Try.func65, Try.ntmps65
  go_wp2_with (go_at_call 78; refine (index68 _ _ _ p q _ HR.out HC.out HP.out).mono ?_; rintro e w1 ⟨r, rfl, hd, hb1⟩; have HD := Aside0.mk hd; have HB1 := Aside0.mk hb1; clear hd hb1)
  go_ret
  exact ⟨by rw [← HD.out]; rfl, HB1.out⟩
set_option maxHeartbeats 1000000 in
theorem meet1_calls (x : S41) (A1 : Option Addr) (c1 : Nat) (l1 : List S41) (q : Nat) (w : World) (hr1 : Kd.C k41 w A1 l1.length l1) (hc1 : l1.length ≤ c1) (hq : w.cell? ⟨q, 0, none⟩ = some (.slice A1 l1.length c1)) :
    Calls Try.prog 67 #[.agg #[.string x.f0, .string x.f1], .pointer (some ⟨q, 0, none⟩)] w fun e w' => e = .returned (.bool (l1.any fun y => meetsB x y)) ∧ Below w.heap.size w w' := by
  have hlt := World.block_lt_of_cell? w _ hq
  have HB0 := Aside0.mk (below_alloc (Below.refl w.heap.size w) (.cells #[.string x.f0, .string x.f1] 41))
  have hq1 : (w.alloc (.cells #[.string x.f0, .string x.f1] 41)).cell? ⟨q, 0, none⟩ = some (.slice A1 l1.length c1) := by
    rw [World.cell?_of_block (w := w) (Below.heap_alloc _ _ _ hlt)]; exact hq
  have HR := Aside0.mk (Kd.C_below hr1 HB0.out)
  have HC := Aside0.mk hc1
  have HX := Aside0.mk (show (w.alloc (.cells #[.string x.f0, .string x.f1] 41)).heap[w.heap.size]? = some (.cells #[.string x.f0, .string x.f1] 41 (0, 0)) from heap_alloc_new _ _)
  clear hr1 hc1 hq
  go_enter Try.func67, Try.ntmps67
  go_wp2_with (go_at_call 65; refine (contains68 _ _ _ (fun y => meetsB x y) w.heap.size _ HR.out HC.out (fun y w1 hb => meet2_calls x y w.heap.size w1 ((hb.block _ (blk_lt HX.out)).trans HX.out))).mono ?_; rintro e w1 ⟨rfl, hb1⟩; have HB1 := Aside0.mk hb1; clear hb1)
  go_ret
  exact ⟨rfl, below_step HB0.out HB1.out⟩
set_option maxHeartbeats 1000000 in
set_option maxRecDepth 100000 in
theorem index67 (A : Option Addr) (c : Nat) (l : List S41) (p : S41 → Bool) (q : Nat) (w : World) (hr : Kd.C k41 w A l.length l) (hc : l.length ≤ c)
    (hp : ∀ (x : S41) (w1 : World), Below w.heap.size w w1 → Calls Try.prog 67 #[.agg #[.string x.f0, .string x.f1], .pointer (some ⟨q, 0, none⟩)] w1 fun e w' => e = .returned (.bool (p x)) ∧ Below w1.heap.size w1 w') :
    Calls Try.prog 78 #[.slice A l.length c, .func (.func 67) #[] #[.pointer (some ⟨q, 0, none⟩)]] w fun e w' => ∃ r : Int, e = .returned (.int .i64 r) ∧ decide (0 ≤ r) = l.any p ∧ Below w.heap.size w w' := by
  have hm : l.length ≤ 9223372036854775807 := hr.2.1
  have HR := Aside0.mk hr
  have HC := Aside0.mk hc
  have HP := Aside0.mk hp
  clear hr hc hp
  go_enter Try.func78, Try.ntmps78
  go_wp2
  go_loopw [8] (fun i wr => ∃ k : Nat, i = .int .i64 k ∧ k ≤ l.length ∧ Aside0 ((l.take k).any p = false) ∧ Aside0 (Below w.heap.size w wr)) (fun i _ => l.length - (intOf i).toNat)
  case atStart => exact ⟨0, rfl, Nat.zero_le _, ⟨by simp⟩, ⟨Below.refl _ _⟩⟩
  case round =>
    obtain ⟨k, rfl, hk, HA, HB⟩ := hrel
    by_cases hlt : k < l.length
    · obtain ⟨ad, e, hx0, hx1⟩ := at_T41 (Kd.C_below HR.out HB.out) (k : Int) (by omega) (by omega)
      subst e
      simp only [Int.toNat_natCast] at hx0 hx1
      have HE := Aside0.mk (show (l.take (k + 1)).any p = ((l.take k).any p || p (rd_T41 l (k : Int))) by
        rw [List.take_succ_eq_append_getElem hlt, List.any_append]
        simp [rd_T41, List.getD_eq_getElem?_getD, hlt])
      cases hpx : p (rd_T41 l (k : Int)) with
      | true =>
        have HPX := Aside0.mk hpx
        clear hpx
        go_wp2_with (go_at_call 67; refine (HP.out (rd_T41 l (k : Int)) _ HB.out).mono ?_; rintro e w1 ⟨rfl, hb1⟩; rw [HPX.out]; have HB1 := Aside0.mk hb1; clear hb1)
        go_ret
        refine ⟨_, rfl, ?_, below_step HB.out HB1.out⟩
        have h1 : (l.take (k + 1)).any p = true := by rw [HE.out, HPX.out, Bool.or_true]
        have h2 : l.any p = true := by
          rw [List.any_eq_true] at h1 ⊢
          obtain ⟨x, hx, hpx⟩ := h1
          exact ⟨x, List.mem_of_mem_take hx, hpx⟩
        rw [h2]; simp
      | false =>
        have HPX := Aside0.mk hpx
        clear hpx
        go_wp2_with (go_at_call 67; refine (HP.out (rd_T41 l (k : Int)) _ HB.out).mono ?_; rintro e w1 ⟨rfl, hb1⟩; rw [HPX.out]; have HB1 := Aside0.mk hb1; clear hb1)
        go_roundw
        case measure => simp [intOf]; omega
        case rel => exact ⟨k + 1, by go_num, by omega, ⟨by rw [HE.out, HA.out, HPX.out]; rfl⟩, ⟨below_step HB.out HB1.out⟩⟩
    · have hkl : k = l.length := by omega
      have HA2 := Aside0.mk (show l.any p = false by have := HA.out; rwa [hkl, List.take_length] at this)
      clear hkl HA
      go_wp2
      go_ret
      exact ⟨_, rfl, by rw [HA2.out]; rfl, HB.out⟩
set_option maxHeartbeats 1000000 in
theorem contains67 (A : Option Addr) (c : Nat) (l : List S41) (p : S41 → Bool) (q : Nat) (w : World) (hr : Kd.C k41 w A l.length l) (hc : l.length ≤ c)
    (hp : ∀ (x : S41) (w1 : World), Below w.heap.size w w1 → Calls Try.prog 67 #[.agg #[.string x.f0, .string x.f1], .pointer (some ⟨q, 0, none⟩)] w1 fun e w' => e = .returned (.bool (p x)) ∧ Below w1.heap.size w1 w') :
    Calls Try.prog 65 #[.slice A l.length c, .func (.func 67) #[] #[.pointer (some ⟨q, 0, none⟩)]] w fun e w' => e = .returned (.bool (l.any p)) ∧ Below w.heap.size w w' := by
  have HR := Aside0.mk hr
  have HC := Aside0.mk hc
  have HP := Aside0.mk hp
  clear hr hc hp
  go_enter Try.func65, Try.ntmps65
  go_wp2_with (go_at_call 78; refine (index67 _ _ _ p q _ HR.out HC.out HP.out).mono ?_; rintro e w1 ⟨r, rfl, hd, hb1⟩; have HD := Aside0.mk hd; have HB1 := Aside0.mk hb1; clear hd hb1)
  go_ret
  exact ⟨by rw [← HD.out]; rfl, HB1.out⟩
set_option maxHeartbeats 1000000 in
theorem span_Meet.calls (A0 : Option Addr) (c0 : Nat) (l0 : List S41) (A1 : Option Addr) (c1 : Nat) (l1 : List S41) (r : Bool) (w : World) (hr0 : Kd.C k41 w A0 l0.length l0) (hc0 : l0.length ≤ c0) (hr1 : Kd.C k41 w A1 l1.length l1) (hc1 : l1.length ≤ c1) (h : span_Meet.f l0 l1 = some r) :
    Calls Try.prog 37 #[.slice A0 l0.length c0, .slice A1 l1.length c1] w fun e w' => e = .returned (.bool r) ∧ Below w.heap.size w w' := by
  obtain rfl := Option.some.inj h
  clear h
  have HB0 := Aside0.mk (below_alloc (Below.refl w.heap.size w) (.cells #[.slice A1 l1.length c1] 24))
  have HR := Aside0.mk (Kd.C_below hr0 HB0.out)
  have HC := Aside0.mk hc0
  have HR1 := Aside0.mk (Kd.C_below hr1 HB0.out)
  have HC1 := Aside0.mk hc1
  have HQ := Aside0.mk (show (w.alloc (.cells #[.slice A1 l1.length c1] 24)).cell? ⟨w.heap.size, 0, none⟩ = some (.slice A1 l1.length c1) from cell_of_one (heap_alloc_new _ _))
  clear hr0 hc0 hr1 hc1
  go_enter Try.func37, Try.ntmps37
  go_wp2_with (go_at_call 65; refine (contains67 _ _ _ (fun x => l1.any fun y => meetsB x y) w.heap.size _ HR.out HC.out (fun x w1 hb => meet1_calls x A1 c1 l1 w.heap.size w1 (Kd.C_below HR1.out hb) HC1.out (pw_cell_below hb HQ.out))).mono ?_; rintro e w1 ⟨rfl, hb1⟩; have HB1 := Aside0.mk hb1; clear hb1)
  go_ret
  exact ⟨rfl, below_step HB0.out HB1.out⟩

end Go.Proofs.Ytjefihcbhdennaa.S
