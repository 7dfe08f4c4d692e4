/- The row of the law SsiAlone: for every input the call returns true and leaves its arguments as they were. No condition. -/
import Derived.Test.YtjefihcbhdennaaRows
import Derived.Test.YtjefihcbhdennaaS0
import Derived.Test.YtjefihcbhdennaaS39
import Derived.Test.YtjefihcbhdennaaSK
import Derived.Test.YtjefihcbhdennaaPureSsiAlone
import Derived.WalkKit
import Derived.ProofKit
import Derived.OpenShut
import Derived.ShutString
import Derived.ChangeOld
import Derived.Below
import Derived.SizedLaws
namespace Go.Proofs.Ytjefihcbhdennaa.ssiAlone
open Go.ChangeShapes Go.WideShapes Go.ChangeAt Go.RowKit
open Go.ChangeMaps (open_string shut_string)
open Go.Proofs.YtjefihcbhdennaaW.PrintWords Go.Proofs.Ytjefihcbhdennaa.S
theorem own : ownKnob Try.prog.godebug = none := by kernel_rfl
theorem laidOut : laidOutB Try.prog = true := by kernel_rfl
set_option maxRecDepth 100000 in
set_option maxHeartbeats 1000000 in
theorem lifted (os : Os) (started : os.Started) (H : Type) (enc : TypeId × Value → H) :
    ReturnsInHanded {} Try.checked os 4 .any (Rows.ssiAloneSpec.pre6 enc Try.prog Try.f4 Rows.ssiAloneRow.domain false) (Rows.ssiAloneSpec.post enc Try.prog Try.f4 false true false false) := by
  refine returnsInHanded_of_change_sized (C := Try.checked) own started (by kernel_rfl) Try.func4
    (ChangeSpec.witness6 (enc := enc) (C := Try.checked) false ⟨#[], #[.slice none 0 0, .agg #[.int .u64 0, .int .u64 0, .int .u64 0, .int .u64 0, .slice none 0 0, .slice none 0 0]], []⟩ 12 (by kernel_rfl) (by kernel_rfl) (by kernel_rfl) (by kernel_rfl)) ?_
  intro W base args ds gs before hval0 hW hcnd hsz0 _
  have hval : ∀ (j : Nat) t v, Try.f4.params[j]? = some t → args[j]? = some v → Value.okWide Try.prog W .any base t v := hval0
  have hW' := hW
  obtain ⟨p, q, hA0, hV, rfl, hfz, hnd⟩ := hW
  have hA : DataW.TrodAll enc Try.prog W 0 (fun _ => true) true Try.f4.params.toList args.toList ds p := hA0
  rw [Try.params4] at hA hval
  obtain ⟨v0, vs0, d0, ds0, p0, q0, hargs, rfl, rfl, h0, r0⟩ := trodAll_cons hA
  obtain ⟨v1, vs1, d1, ds1, p1, q1, rfl, rfl, rfl, h1, r1⟩ := trodAll_cons r0
  obtain ⟨rfl, rfl, rfl⟩ := trodAll_nil r1
  obtain rfl : args = #[v0, v1] := by cases args; simp_all
  obtain ⟨rfl, rfl⟩ := trodVars_none hV
  have k0 := h0
  have lt0 : ∀ x ∈ p0, x.block < W.heap.size := by obtain ⟨m, hm⟩ := k0; exact DataW.trod_lt m _ _ _ hm
  obtain ⟨A0, c0, l0, rfl, hl0, hC0, hwf0⟩ := Kd.arg_slice opens22 Try.underlying22 (hval 0 22 v0 rfl rfl) h0
  have k1 := h1
  have lt1 : ∀ x ∈ p1, x.block < W.heap.size := by obtain ⟨m, hm⟩ := k1; exact DataW.trod_lt m _ _ _ hm
  obtain ⟨cs1, a1, rfl, hK1, hwf1⟩ := Kd.arg_struct opens26 Try.underlying26 (hval 1 26 v1 rfl rfl) h1
  obtain ⟨A1_4, c1_4, A1_5, c1_5, hcs1, hl1_4, hC1_4, hl1_5, hC1_5⟩ := k26_open hK1
  obtain rfl : cs1 = _ := Array.toList_inj.1 (hcs1.trans (List.toList_toArray).symm)
  clear hA0 hval0 hsz0
  obtain ⟨k, hP⟩ := Pure.SsiAlone l0 hC0.2.1 hwf0 a1 hwf1 hC1_4.2.1 hC1_5.2.1
  refine (conductorlaw10_SsiAlone.calls k A0 c0 l0 a1.f0 a1.f1 a1.f2 a1.f3 (fun k_ => k_ < W.heap.size) A1_4 c1_4 a1.f4 (fun k_ => k_ < W.heap.size) A1_5 c1_5 a1.f5 true W hC0 hl0 (show Kd.V _ _ W W.heap.size (fun k_ => (fun k_ => k_ < W.heap.size) k_) _ _ from ⟨_, _, rfl, hl1_4, Kd.C_F k41_heap hC1_4⟩) (show Kd.V _ _ W W.heap.size (fun k_ => (fun k_ => k_ < W.heap.size) k_) _ _ from ⟨_, _, rfl, hl1_5, Kd.C_F k41_heap hC1_5⟩) hP).mono fun e W' ⟨he, bel⟩ => ?_
  subst he
  exact ⟨_, rfl, _, _, _, [], _, [], hW', trodAll_mk1 (shut_bool Try.underlying4 _), (trodAll_cons_mk (Below.trod laidOut (by kernel_rfl) (of_decide_eq_true (by kernel_rfl)) k0 bel lt0) (trodAll_cons_mk (Below.trod laidOut (by kernel_rfl) (of_decide_eq_true (by kernel_rfl)) k1 bel lt1) trodAll_mk0)), rfl, bel.frame _, fun h => by cases h⟩
theorem over : Rows.ssiAloneRow.holds Try.pinned (OpenSpec.ofChange Rows.ssiAloneSpec) :=
  OpenClaim.holds_of_wide 4 Try.f4 rfl rfl rfl rfl rfl rfl rfl ⟨rfl, rfl, rfl, rfl, rfl⟩ rfl rfl rfl rfl rfl (by kernel_rfl) Try.func4 (by kernel_rfl)
    (of_decide_eq_true (by kernel_rfl)) (by unfold Func.isWrapper; first | (rw [if_pos (by decide +kernel)]; kernel_rfl) | (rw [if_neg (by decide +kernel)]; exact ⟨rfl, rfl⟩))
    (fun os started H enc _ => lifted os started H enc)
theorem proved : Rows.SsiAloneSaid := over
#print axioms proved
end Go.Proofs.Ytjefihcbhdennaa.ssiAlone
namespace Go.Proofs.Ytjefihcbhdennaa
/-- The row, under a short name, for the claim. -/
theorem ssiAlone_holds : Rows.SsiAloneSaid := ssiAlone.proved
end Go.Proofs.Ytjefihcbhdennaa
