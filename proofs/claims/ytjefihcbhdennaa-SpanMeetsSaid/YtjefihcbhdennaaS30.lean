/- Printed by a program of this session (pp.py) over the print of the kit: functions of the translation as plain functions, and the contracts of their calls. No condition. -/
import Derived.Test.YtjefihcbhdennaaS0
import Derived.Test.YtjefihcbhdennaaS26
namespace Go.Proofs.Ytjefihcbhdennaa.S
open Go.RowKit Go.Proofs.YtjefihcbhdennaaW.PrintWords Go.Proofs.YtjefihcbhdennaaW.PrintLast Go.Proofs.YtjefihcbhdennaaW.PrintMore
attribute [local go_sem] max2_int min2_int max2_str min2_str str_leq str_gtr str_geq max_two min_two max_three min_three max_four min_four   -- for this text's walks alone
set_option linter.unusedVariables false
set_option linter.unusedSimpArgs false

-- NOT PRINTED: function 78 (api_Span_78)

-- NOT PRINTED: function 65 (api_Span_65)

/-! ### span_In: function 36 -/
def hasB (x : S41) (key : ByteArray) : Bool := (span_Has.f x.f0 x.f1 key).getD false
theorem hasB_eq (x : S41) (key : ByteArray) : span_Has.f x.f0 x.f1 key = some (hasB x key) := by
  unfold hasB span_Has.f
  split
  · rfl
  · split <;> rfl
def span_In.f (l0 : List S41) (a1 : ByteArray) : Option Bool := some (l0.any fun x => hasB x a1)
set_option maxHeartbeats 1000000 in
theorem in1_calls (x : S41) (key : ByteArray) (q : Nat) (w : World) (hq : w.cell? ⟨q, 0, none⟩ = some (.string key)) :
    Calls Try.prog 66 #[.agg #[.string x.f0, .string x.f1], .pointer (some ⟨q, 0, none⟩)] w fun e w' => e = .returned (.bool (hasB x key)) ∧ Below w.heap.size w w' := by
  have hlt := World.block_lt_of_cell? w _ hq
  have hc1 : (w.alloc (.cells #[.string x.f0, .string x.f1] 41)).cell? ⟨q, 0, none⟩ = some (.string key) := by
    rw [World.cell?_of_block (w := w) (Below.heap_alloc _ _ _ hlt)]; exact hq
  clear hq
  go_enter Try.func66, Try.ntmps66
  go_wp2_with (go_at_call 32; refine (span_Has.calls _ _ _ _ _ (hasB_eq x key)).mono ?_; rintro e w1 ⟨rfl, hb1⟩; have HB1 := Aside0.mk hb1; clear hb1)
  go_ret
  exact ⟨rfl, below_step (below_alloc (Below.refl _ _) _) HB1.out⟩
set_option maxHeartbeats 1000000 in
set_option maxRecDepth 100000 in
theorem index66 (A : Option Addr) (c : Nat) (l : List S41) (p : S41 → Bool) (q : Nat) (w : World) (hr : Kd.C k41 w A l.length l) (hc : l.length ≤ c)
    (hp : ∀ (x : S41) (w1 : World), Below w.heap.size w w1 → Calls Try.prog 66 #[.agg #[.string x.f0, .string x.f1], .pointer (some ⟨q, 0, none⟩)] w1 fun e w' => e = .returned (.bool (p x)) ∧ Below w1.heap.size w1 w') :
    Calls Try.prog 78 #[.slice A l.length c, .func (.func 66) #[] #[.pointer (some ⟨q, 0, none⟩)]] w fun e w' => ∃ r : Int, e = .returned (.int .i64 r) ∧ decide (0 ≤ r) = l.any p ∧ Below w.heap.size w w' := by
  have hm : l.length ≤ 9223372036854775807 := hr.2.1
  have HR := Aside0.mk hr
  have HC := Aside0.mk hc
  have HP := Aside0.mk hp
  clear hr hc hp
  go_enter Try.func78, Try.ntmps78
  go_wp2
  go_loopw [8] (fun i wr => ∃ k : Nat, i = .int .i64 k ∧ k ≤ l.length ∧ Aside0 ((l.take k).any p = false) ∧ Aside0 (Below w.heap.size w wr)) (fun i _ => l.length - (intOf i).toNat)
  case atStart => exact ⟨0, rfl, Nat.zero_le _, ⟨by simp⟩, ⟨Below.refl _ _⟩⟩
  case round =>
    obtain ⟨k, rfl, hk, HA, HB⟩ := hrel
    by_cases hlt : k < l.length
    · obtain ⟨ad, e, hx0, hx1⟩ := at_T41 (Kd.C_below HR.out HB.out) (k : Int) (by omega) (by omega)
      subst e
      simp only [Int.toNat_natCast] at hx0 hx1
      have HE := Aside0.mk (show (l.take (k + 1)).any p = ((l.take k).any p || p (rd_T41 l (k : Int))) by
        rw [List.take_succ_eq_append_getElem hlt, List.any_append]
        simp [rd_T41, List.getD_eq_getElem?_getD, hlt])
      cases hpx : p (rd_T41 l (k : Int)) with
      | true =>
        have HPX := Aside0.mk hpx
        clear hpx
        go_wp2_with (go_at_call 66; refine (HP.out (rd_T41 l (k : Int)) _ HB.out).mono ?_; rintro e w1 ⟨rfl, hb1⟩; rw [HPX.out]; have HB1 := Aside0.mk hb1; clear hb1)
        go_ret
        refine ⟨_, rfl, ?_, below_step HB.out HB1.out⟩
        have h1 : (l.take (k + 1)).any p = true := by rw [HE.out, HPX.out, Bool.or_true]
        have h2 : l.any p = true := by
          rw [List.any_eq_true] at h1 ⊢
          obtain ⟨x, hx, hpx⟩ := h1
          exact ⟨x, List.mem_of_mem_take hx, hpx⟩
        rw [h2]; simp
      | false =>
        have HPX := Aside0.mk hpx
        clear hpx
        go_wp2_with (go_at_call 66; refine (HP.out (rd_T41 l (k : Int)) _ HB.out).mono ?_; rintro e w1 ⟨rfl, hb1⟩; rw [HPX.out]; have HB1 := Aside0.mk hb1; clear hb1)
        go_roundw
        case measure => simp [intOf]; omega
        case rel => exact ⟨k + 1, by go_num, by omega, ⟨by rw [HE.out, HA.out, HPX.out]; rfl⟩, ⟨below_step HB.out HB1.out⟩⟩
    · have hkl : k = l.length := by omega
      have HA2 := Aside0.mk (show l.any p = false by have := HA.out; rwa [hkl, List.take_length] at this)
      clear hkl HA
      go_wp2
      go_ret
      exact ⟨_, rfl, by rw [HA2.out]; rfl, HB.out⟩
set_option maxHeartbeats 1000000 in
theorem contains66 (A : Option Addr) (c : Nat) (l : List S41) (p : S41 → Bool) (q : Nat) (w : World) (hr : Kd.C k41 w A l.length l) (hc : l.length ≤ c)
    (hp : ∀ (x : S41) (w1 : World), Below w.heap.size w w1 → Calls Try.prog 66 #[.agg #[.string x.f0, .string x.f1], .pointer (some ⟨q, 0, none⟩)] w1 fun e w' => e = .returned (.bool (p x)) ∧ Below w1.heap.size w1 w') :
    Calls Try.prog 65 #[.slice A l.length c, .func (.func 66) #[] #[.pointer (some ⟨q, 0, none⟩)]] w fun e w' => e = .returned (.bool (l.any p)) ∧ Below w.heap.size w w' := by
  have HR := Aside0.mk hr
  have HC := Aside0.mk hc
  have HP := Aside0.mk hp
  clear hr hc hp
  go_enter Try.func65, Try.ntmps65
  go_wp2_with (go_at_call 78; refine (index66 _ _ _ p q _ HR.out HC.out HP.out).mono ?_; rintro e w1 ⟨r, rfl, hd, hb1⟩; have HD := Aside0.mk hd; have HB1 := Aside0.mk hb1; clear hd hb1)
  go_ret
  exact ⟨by rw [← HD.out]; rfl, HB1.out⟩
set_option maxHeartbeats 1000000 in
theorem span_In.calls (A0 : Option Addr) (c0 : Nat) (l0 : List S41) (a1 : ByteArray) (r : Bool) (w : World) (hr0 : Kd.C k41 w A0 l0.length l0) (hc0 : l0.length ≤ c0) (h : span_In.f l0 a1 = some r) :
    Calls Try.prog 36 #[.slice A0 l0.length c0, .string a1] w fun e w' => e = .returned (.bool r) ∧ Below w.heap.size w w' := by
  obtain rfl := Option.some.inj h
  clear h
  have HB0 := Aside0.mk (below_alloc (Below.refl w.heap.size w) (.cells #[.string a1] 9))
  have HR := Aside0.mk (Kd.C_below hr0 HB0.out)
  have HC := Aside0.mk hc0
  have HQ := Aside0.mk (show (w.alloc (.cells #[.string a1] 9)).cell? ⟨w.heap.size, 0, none⟩ = some (.string a1) from cell_of_one (heap_alloc_new _ _))
  clear hr0 hc0
  go_enter Try.func36, Try.ntmps36
  go_wp2_with (go_at_call 65; refine (contains66 _ _ _ (fun x => hasB x a1) w.heap.size _ HR.out HC.out (fun x w1 hb => in1_calls x a1 w.heap.size w1 (pw_cell_below hb HQ.out))).mono ?_; rintro e w1 ⟨rfl, hb1⟩; have HB1 := Aside0.mk hb1; clear hb1)
  go_ret
  exact ⟨rfl, below_step HB0.out HB1.out⟩

end Go.Proofs.Ytjefihcbhdennaa.S
