/- Texts of this session, merged for the law SsiJoins: S43, S18, S44, S2, S49. No condition. -/
import Derived.Test.YtjefihcbhdennaaZSsiJoinsd
import Derived.Test.YtjefihcbhdennaaZSsiJoinsp
import Derived.Test.YtjefihcbhdennaaZSsiJoinsq
namespace Go.Proofs.Ytjefihcbhdennaa.S
open Go.RowKit Go.Proofs.YtjefihcbhdennaaW.PrintWords Go.Proofs.YtjefihcbhdennaaW.PrintLast Go.Proofs.YtjefihcbhdennaaW.PrintMore
attribute [local go_sem] max2_int min2_int max2_str min2_str str_leq str_gtr str_geq max_two min_two max_three min_three max_four min_four
set_option linter.unusedVariables false
set_option linter.unusedSimpArgs false
def conductorlaw10_live.f (k : Nat)  : Option (Bool) := (conductorlaw10_at.f (⟨#[97]⟩ : ByteArray)).bind fun t468 => ((conductorlaw10_at.f (⟨#[98]⟩ : ByteArray)).bind fun t471 => ((conductorlaw10_at.f (⟨#[97]⟩ : ByteArray)).bind fun t475 => ((conductorlaw10_at.f (⟨#[98]⟩ : ByteArray)).bind fun t478 => ((conductorlaw10_at.f (⟨#[99]⟩ : ByteArray)).bind fun t481 => ((conductorlaw10_at.f (⟨#[98]⟩ : ByteArray)).bind fun t487 => ((conductorlaw10_at.f (⟨#[99]⟩ : ByteArray)).bind fun t490 => ((conductorlaw10_at.f (⟨#[97]⟩ : ByteArray)).bind fun t493 => ((ssi_Judge.f k (([(⟨1, 1, 0, 0, ([] : List (S41)), t475⟩ : S26), (⟨2, 2, 0, 0, t478, t481⟩ : S26)] : List (S26))) 0 0 0 0 t468 t471).bind fun bt499 => ((ssi_Judge.f k (([(⟨1, 1, 0, 0, t487, t490⟩ : S26), (⟨2, 2, 0, 0, ([] : List (S41)), t493⟩ : S26)] : List (S26))) 0 0 0 0 t468 t471).bind fun bt501 => (if bt499.2 = 101 then (if bt501.1 = 2 then (some (bt501.2 == 0)) else (some false)) else (some false)))))))))))
theorem conductorlaw10_live.mono : ∀ k, LeO (conductorlaw10_live.f k ) (conductorlaw10_live.f (k + 1) ) := by
 intro  k
 unfold conductorlaw10_live.f
 repeat' first
   | (with_reducible exact ssi_Judge.mono _ _ _ _ _ _ _ _)
   | (with_reducible exact LeO.refl _)
   | (with_reducible exact LeO.none _)
   | (with_reducible refine LeO.ite ?_ ?_)
   | (with_reducible refine LeO.bind ?_ (fun _ => ?_))
   | exact ssi_Judge.mono _ _ _ _ _ _ _ _
   | exact LeO.none _
   | refine LeO.ite ?_ ?_
   | refine LeO.bind ?_ (fun _ => ?_)
set_option maxHeartbeats 8000000 in
set_option maxRecDepth 100000 in
theorem conductorlaw10_live.callsT (k : Nat)  (r : Bool) (w : World) (h : conductorlaw10_live.f k  = some r) (hT : Aside0 (r = true)) :
  Calls Try.prog 15 #[] w fun e w' => e = .returned (.bool r) ∧ Below w.heap.size w w' := by
 have hu26 := Try.underlying26
 have HB := Aside0.mk (Below.refl w.heap.size w)
 have H : ((conductorlaw10_at.f (⟨#[97]⟩ : ByteArray)).bind fun t468 => ((conductorlaw10_at.f (⟨#[98]⟩ : ByteArray)).bind fun t471 => ((conductorlaw10_at.f (⟨#[97]⟩ : ByteArray)).bind fun t475 => ((conductorlaw10_at.f (⟨#[98]⟩ : ByteArray)).bind fun t478 => ((conductorlaw10_at.f (⟨#[99]⟩ : ByteArray)).bind fun t481 => ((conductorlaw10_at.f (⟨#[98]⟩ : ByteArray)).bind fun t487 => ((conductorlaw10_at.f (⟨#[99]⟩ : ByteArray)).bind fun t490 => ((conductorlaw10_at.f (⟨#[97]⟩ : ByteArray)).bind fun t493 => ((ssi_Judge.f k (([(⟨1, 1, 0, 0, ([] : List (S41)), t475⟩ : S26), (⟨2, 2, 0, 0, t478, t481⟩ : S26)] : List (S26))) 0 0 0 0 t468 t471).bind fun bt499 => ((ssi_Judge.f k (([(⟨1, 1, 0, 0, t487, t490⟩ : S26), (⟨2, 2, 0, 0, ([] : List (S41)), t493⟩ : S26)] : List (S26))) 0 0 0 0 t468 t471).bind fun bt501 => (if bt499.2 = 101 then (if bt501.1 = 2 then (some (bt501.2 == 0)) else (some false)) else (some false)))))))))))) = some r := h
 clear h; replace H := Option.bind_eq_some_iff.mp H; obtain ⟨t468, A10, H⟩ := H
 replace H : ((conductorlaw10_at.f (⟨#[98]⟩ : ByteArray)).bind fun t471 => ((conductorlaw10_at.f (⟨#[97]⟩ : ByteArray)).bind fun t475 => ((conductorlaw10_at.f (⟨#[98]⟩ : ByteArray)).bind fun t478 => ((conductorlaw10_at.f (⟨#[99]⟩ : ByteArray)).bind fun t481 => ((conductorlaw10_at.f (⟨#[98]⟩ : ByteArray)).bind fun t487 => ((conductorlaw10_at.f (⟨#[99]⟩ : ByteArray)).bind fun t490 => ((conductorlaw10_at.f (⟨#[97]⟩ : ByteArray)).bind fun t493 => ((ssi_Judge.f k (([(⟨1, 1, 0, 0, ([] : List (S41)), t475⟩ : S26), (⟨2, 2, 0, 0, t478, t481⟩ : S26)] : List (S26))) 0 0 0 0 t468 t471).bind fun bt499 => ((ssi_Judge.f k (([(⟨1, 1, 0, 0, t487, t490⟩ : S26), (⟨2, 2, 0, 0, ([] : List (S41)), t493⟩ : S26)] : List (S26))) 0 0 0 0 t468 t471).bind fun bt501 => (if bt499.2 = 101 then (if bt501.1 = 2 then (some (bt501.2 == 0)) else (some false)) else (some false))))))))))) = some r := H
 have A1 := Aside0.mk A10; clear A10; replace H := Option.bind_eq_some_iff.mp H; obtain ⟨t471, A20, H⟩ := H
 replace H : ((conductorlaw10_at.f (⟨#[97]⟩ : ByteArray)).bind fun t475 => ((conductorlaw10_at.f (⟨#[98]⟩ : ByteArray)).bind fun t478 => ((conductorlaw10_at.f (⟨#[99]⟩ : ByteArray)).bind fun t481 => ((conductorlaw10_at.f (⟨#[98]⟩ : ByteArray)).bind fun t487 => ((conductorlaw10_at.f (⟨#[99]⟩ : ByteArray)).bind fun t490 => ((conductorlaw10_at.f (⟨#[97]⟩ : ByteArray)).bind fun t493 => ((ssi_Judge.f k (([(⟨1, 1, 0, 0, ([] : List (S41)), t475⟩ : S26), (⟨2, 2, 0, 0, t478, t481⟩ : S26)] : List (S26))) 0 0 0 0 t468 t471).bind fun bt499 => ((ssi_Judge.f k (([(⟨1, 1, 0, 0, t487, t490⟩ : S26), (⟨2, 2, 0, 0, ([] : List (S41)), t493⟩ : S26)] : List (S26))) 0 0 0 0 t468 t471).bind fun bt501 => (if bt499.2 = 101 then (if bt501.1 = 2 then (some (bt501.2 == 0)) else (some false)) else (some false)))))))))) = some r := H
 have A2 := Aside0.mk A20; clear A20; replace H := Option.bind_eq_some_iff.mp H; obtain ⟨t475, A30, H⟩ := H
 replace H : ((conductorlaw10_at.f (⟨#[98]⟩ : ByteArray)).bind fun t478 => ((conductorlaw10_at.f (⟨#[99]⟩ : ByteArray)).bind fun t481 => ((conductorlaw10_at.f (⟨#[98]⟩ : ByteArray)).bind fun t487 => ((conductorlaw10_at.f (⟨#[99]⟩ : ByteArray)).bind fun t490 => ((conductorlaw10_at.f (⟨#[97]⟩ : ByteArray)).bind fun t493 => ((ssi_Judge.f k (([(⟨1, 1, 0, 0, ([] : List (S41)), t475⟩ : S26), (⟨2, 2, 0, 0, t478, t481⟩ : S26)] : List (S26))) 0 0 0 0 t468 t471).bind fun bt499 => ((ssi_Judge.f k (([(⟨1, 1, 0, 0, t487, t490⟩ : S26), (⟨2, 2, 0, 0, ([] : List (S41)), t493⟩ : S26)] : List (S26))) 0 0 0 0 t468 t471).bind fun bt501 => (if bt499.2 = 101 then (if bt501.1 = 2 then (some (bt501.2 == 0)) else (some false)) else (some false))))))))) = some r := H
 have A3 := Aside0.mk A30; clear A30; replace H := Option.bind_eq_some_iff.mp H; obtain ⟨t478, A40, H⟩ := H
 replace H : ((conductorlaw10_at.f (⟨#[99]⟩ : ByteArray)).bind fun t481 => ((conductorlaw10_at.f (⟨#[98]⟩ : ByteArray)).bind fun t487 => ((conductorlaw10_at.f (⟨#[99]⟩ : ByteArray)).bind fun t490 => ((conductorlaw10_at.f (⟨#[97]⟩ : ByteArray)).bind fun t493 => ((ssi_Judge.f k (([(⟨1, 1, 0, 0, ([] : List (S41)), t475⟩ : S26), (⟨2, 2, 0, 0, t478, t481⟩ : S26)] : List (S26))) 0 0 0 0 t468 t471).bind fun bt499 => ((ssi_Judge.f k (([(⟨1, 1, 0, 0, t487, t490⟩ : S26), (⟨2, 2, 0, 0, ([] : List (S41)), t493⟩ : S26)] : List (S26))) 0 0 0 0 t468 t471).bind fun bt501 => (if bt499.2 = 101 then (if bt501.1 = 2 then (some (bt501.2 == 0)) else (some false)) else (some false)))))))) = some r := H
 have A4 := Aside0.mk A40; clear A40; replace H := Option.bind_eq_some_iff.mp H; obtain ⟨t481, A50, H⟩ := H
 replace H : ((conductorlaw10_at.f (⟨#[98]⟩ : ByteArray)).bind fun t487 => ((conductorlaw10_at.f (⟨#[99]⟩ : ByteArray)).bind fun t490 => ((conductorlaw10_at.f (⟨#[97]⟩ : ByteArray)).bind fun t493 => ((ssi_Judge.f k (([(⟨1, 1, 0, 0, ([] : List (S41)), t475⟩ : S26), (⟨2, 2, 0, 0, t478, t481⟩ : S26)] : List (S26))) 0 0 0 0 t468 t471).bind fun bt499 => ((ssi_Judge.f k (([(⟨1, 1, 0, 0, t487, t490⟩ : S26), (⟨2, 2, 0, 0, ([] : List (S41)), t493⟩ : S26)] : List (S26))) 0 0 0 0 t468 t471).bind fun bt501 => (if bt499.2 = 101 then (if bt501.1 = 2 then (some (bt501.2 == 0)) else (some false)) else (some false))))))) = some r := H
 have A5 := Aside0.mk A50; clear A50
 obtain ⟨y484, hy484⟩ : ∃ y_ : List (S26), y_ = (([(⟨1, 1, 0, 0, ([] : List (S41)), t475⟩ : S26), (⟨2, 2, 0, 0, t478, t481⟩ : S26)] : List (S26))) := ⟨_, rfl⟩
 replace H : ((conductorlaw10_at.f (⟨#[98]⟩ : ByteArray)).bind fun t487 => ((conductorlaw10_at.f (⟨#[99]⟩ : ByteArray)).bind fun t490 => ((conductorlaw10_at.f (⟨#[97]⟩ : ByteArray)).bind fun t493 => ((ssi_Judge.f k y484 0 0 0 0 t468 t471).bind fun bt499 => ((ssi_Judge.f k (([(⟨1, 1, 0, 0, t487, t490⟩ : S26), (⟨2, 2, 0, 0, ([] : List (S41)), t493⟩ : S26)] : List (S26))) 0 0 0 0 t468 t471).bind fun bt501 => (if bt499.2 = 101 then (if bt501.1 = 2 then (some (bt501.2 == 0)) else (some false)) else (some false))))))) = some r := by first | (rw [hy484]; with_reducible exact H) | (have H2_ := (Option.bind_some _ _).symm.trans H; rw [hy484]; with_reducible exact H2_) | (have H2_ := (Option.bind_some _ _).symm.trans H; with_reducible exact H2_) | with_reducible exact H | (rw [hy484]; exact H) | exact H
 have Ny484 := Aside0.mk hy484; clear hy484; replace H := Option.bind_eq_some_iff.mp H; obtain ⟨t487, A60, H⟩ := H
 replace H : ((conductorlaw10_at.f (⟨#[99]⟩ : ByteArray)).bind fun t490 => ((conductorlaw10_at.f (⟨#[97]⟩ : ByteArray)).bind fun t493 => ((ssi_Judge.f k y484 0 0 0 0 t468 t471).bind fun bt499 => ((ssi_Judge.f k (([(⟨1, 1, 0, 0, t487, t490⟩ : S26), (⟨2, 2, 0, 0, ([] : List (S41)), t493⟩ : S26)] : List (S26))) 0 0 0 0 t468 t471).bind fun bt501 => (if bt499.2 = 101 then (if bt501.1 = 2 then (some (bt501.2 == 0)) else (some false)) else (some false)))))) = some r := H
 have A6 := Aside0.mk A60; clear A60; replace H := Option.bind_eq_some_iff.mp H; obtain ⟨t490, A70, H⟩ := H
 replace H : ((conductorlaw10_at.f (⟨#[97]⟩ : ByteArray)).bind fun t493 => ((ssi_Judge.f k y484 0 0 0 0 t468 t471).bind fun bt499 => ((ssi_Judge.f k (([(⟨1, 1, 0, 0, t487, t490⟩ : S26), (⟨2, 2, 0, 0, ([] : List (S41)), t493⟩ : S26)] : List (S26))) 0 0 0 0 t468 t471).bind fun bt501 => (if bt499.2 = 101 then (if bt501.1 = 2 then (some (bt501.2 == 0)) else (some false)) else (some false))))) = some r := H
 have A7 := Aside0.mk A70; clear A70; replace H := Option.bind_eq_some_iff.mp H; obtain ⟨t493, A80, H⟩ := H
 replace H : ((ssi_Judge.f k y484 0 0 0 0 t468 t471).bind fun bt499 => ((ssi_Judge.f k (([(⟨1, 1, 0, 0, t487, t490⟩ : S26), (⟨2, 2, 0, 0, ([] : List (S41)), t493⟩ : S26)] : List (S26))) 0 0 0 0 t468 t471).bind fun bt501 => (if bt499.2 = 101 then (if bt501.1 = 2 then (some (bt501.2 == 0)) else (some false)) else (some false)))) = some r := H
 have A8 := Aside0.mk A80; clear A80
 obtain ⟨y496, hy496⟩ : ∃ y_ : List (S26), y_ = (([(⟨1, 1, 0, 0, t487, t490⟩ : S26), (⟨2, 2, 0, 0, ([] : List (S41)), t493⟩ : S26)] : List (S26))) := ⟨_, rfl⟩
 replace H : ((ssi_Judge.f k y484 0 0 0 0 t468 t471).bind fun bt499 => ((ssi_Judge.f k y496 0 0 0 0 t468 t471).bind fun bt501 => (if bt499.2 = 101 then (if bt501.1 = 2 then (some (bt501.2 == 0)) else (some false)) else (some false)))) = some r := by first | (rw [hy496]; with_reducible exact H) | (have H2_ := (Option.bind_some _ _).symm.trans H; rw [hy496]; with_reducible exact H2_) | (have H2_ := (Option.bind_some _ _).symm.trans H; with_reducible exact H2_) | with_reducible exact H | (rw [hy496]; exact H) | exact H
 have Ny496 := Aside0.mk hy496; clear hy496; replace H := Option.bind_eq_some_iff.mp H; obtain ⟨⟨t499, t500⟩, A90, H⟩ := H
 replace H : ((ssi_Judge.f k y496 0 0 0 0 t468 t471).bind fun bt501 => (if t500 = 101 then (if bt501.1 = 2 then (some (bt501.2 == 0)) else (some false)) else (some false))) = some r := H
 have A9 := Aside0.mk A90; clear A90; replace H := Option.bind_eq_some_iff.mp H; obtain ⟨⟨t501, t502⟩, A100, H⟩ := H
 replace H : (if t500 = 101 then (if t501 = 2 then (some (t502 == 0)) else (some false)) else (some false)) = some r := H
 have A10 := Aside0.mk A100; clear A100
 by_cases c11 : t500 = 101
 ·rw [if_pos c11] at H
  have c11b0 : (t500 == 101) = true := beq_iff_eq.mpr c11
  have c11b1 : (t500 != 101) = false := bne_eq_false_iff_eq.mpr c11
  clear c11
  by_cases c12 : t501 = 2
  ·rw [if_pos c12] at H
   have c12b0 : (t501 == 2) = true := beq_iff_eq.mpr c12
   have c12b1 : (t501 != 2) = false := bne_eq_false_iff_eq.mpr c12
   clear c12; obtain rfl := Option.some.inj H
   go_enter Try.func15, Try.ntmps15
   go_wp2_with (first | ((with_reducible refine gate_callee (f := 53) rfl ?_); refine goesL_ (some 8) rfl rfl Try.func53 (by kernel_rfl) rfl #[.string (⟨#[97]⟩ : ByteArray)] rfl sa_ ?_; (with_reducible refine (conductorlaw10_at.calls (⟨#[97]⟩ : ByteArray) t468 _ A1.out).mono ?_); rintro e w13 ⟨v469, rfl, ho0, hb⟩; refine ⟨_, rfl, ?_⟩; have n0_ := Aside0.mk (Kd.R_lower ho0 (below_size bl_)); have n1_ := Aside0.mk (below_step bl_ hb); clear HB; have HO470 := n0_; have HB := n1_; clear n0_ n1_; (try clear hb); (try clear hb2); (try clear hk); (try clear hi); (try clear ho0)) | ((with_reducible refine gate_callee (f := 53) rfl ?_); refine goesL_ (some 9) rfl rfl Try.func53 (by kernel_rfl) rfl #[.string (⟨#[98]⟩ : ByteArray)] rfl sa_ ?_; (with_reducible refine (conductorlaw10_at.calls (⟨#[98]⟩ : ByteArray) t471 _ A2.out).mono ?_); rintro e w14 ⟨v472, rfl, ho0, hb⟩; refine ⟨_, rfl, ?_⟩; have n0_ := Aside0.mk (Kd.R_elder' (by exact HO470.out) (Kd.R_base ho0) hb); have n1_ := Aside0.mk (Kd.R_lower (Kd.R_new' ho0 (Kd.R_lt (by exact HO470.out))) (below_size bl_)); have n2_ := Aside0.mk (below_step bl_ hb); clear HO470; clear HB; have HO470 := n0_; have HO473 := n1_; have HB := n2_; clear n0_ n1_ n2_; (try clear hb); (try clear hb2); (try clear hk); (try clear hi); (try clear ho0); obtain ⟨Ao15, co15, eo15⟩ := Kd.R_slice HO473.out; subst eo15; obtain ⟨Ao16, co16, eo16⟩ := Kd.R_slice HO470.out; subst eo16) | ((with_reducible refine gate_dst (N := 1) rfl ?_); refine box_event ?hg (N := 1) ?hd (cs := #[.int .u64 0, .int .u64 0, .int .u64 0, .int .u64 0, .slice none 0 0, .slice none 0 0]) (t := 26) ?hr ?_; (case hd => rfl); (case hg => rfl); (case hr => first | (go_simp; done) | (go_simp; rfl)); intro gb474 hg w17 hbox hb; have n0_ := Aside0.mk (Kd.R_below (by exact HO470.out) hb); have n1_ := Aside0.mk (Kd.R_below (by exact HO473.out) hb); have n2_ := Aside0.mk (below_step bl_ hb); have n3_ := Aside0.mk (hbox); have n4_ := Aside0.mk (bsz_ hg : w.heap.size ≤ gb474); have n5_ := Aside0.mk (bsz_ hg : w.heap.size ≤ gb474); clear HO470; clear HO473; clear HB; have HO470 := n0_; have HO473 := n1_; have HB := n2_; have BK474 := n3_; have GW474 := n4_; have GE474 := n5_; clear n0_ n1_ n2_ n3_ n4_ n5_; clear hb hbox hg; obtain ⟨hcz18_0, hcz18_1, hcz18_2, hcz18_3, hcz18_4, hcz18_5, hfz18_0, hfz18_1, hfz18_2, hfz18_3, hfz18_4, hfz18_5⟩ := blk6_ BK474.out) | ((with_reducible refine gate_callee (f := 53) rfl ?_); refine goesL_ (some 11) rfl rfl Try.func53 (by kernel_rfl) rfl #[.string (⟨#[97]⟩ : ByteArray)] rfl sa_ ?_; (with_reducible refine (conductorlaw10_at.calls (⟨#[97]⟩ : ByteArray) t475 _ A3.out).mono ?_); rintro e w19 ⟨v476, rfl, ho0, hb⟩; refine ⟨_, rfl, ?_⟩; have n0_ := Aside0.mk (Kd.R_elder' (by exact (Kd.R_mono (Kd.R_far (p := ⟨gb474, 5, none⟩) (Kd.R_far (p := ⟨gb474, 4, none⟩) (Kd.R_far (p := ⟨gb474, 3, none⟩) (Kd.R_far (p := ⟨gb474, 2, none⟩) (Kd.R_far (p := ⟨gb474, 1, none⟩) (Kd.R_far (p := ⟨gb474, 0, none⟩) (Kd.R_types HO470.out BK474.out (by decide)) (fun _ hk => hk.2) (.int .u64 0)) (fun _ hk => hk.2) (.int .u64 0)) (fun _ hk => hk.2) (.int .u64 0)) (fun _ hk => hk.2) (.int .u64 0)) (fun _ hk => hk.2) (.slice Ao16 t468.length co16)) (fun _ hk => hk.2) (.slice Ao15 t471.length co15)) (fun _ h_ => h_.1))) (Kd.R_base ho0) hb); have n1_ := Aside0.mk (Kd.R_elder' (by exact (Kd.R_mono (Kd.R_far (p := ⟨gb474, 5, none⟩) (Kd.R_far (p := ⟨gb474, 4, none⟩) (Kd.R_far (p := ⟨gb474, 3, none⟩) (Kd.R_far (p := ⟨gb474, 2, none⟩) (Kd.R_far (p := ⟨gb474, 1, none⟩) (Kd.R_far (p := ⟨gb474, 0, none⟩) (Kd.R_types HO473.out BK474.out (by decide)) (fun _ hk => hk.2) (.int .u64 0)) (fun _ hk => hk.2) (.int .u64 0)) (fun _ hk => hk.2) (.int .u64 0)) (fun _ hk => hk.2) (.int .u64 0)) (fun _ hk => hk.2) (.slice Ao16 t468.length co16)) (fun _ hk => hk.2) (.slice Ao15 t471.length co15)) (fun _ h_ => h_.1))) (Kd.R_base ho0) hb); have n2_ := Aside0.mk (Kd.R_lower (Kd.R_new' (Kd.R_new' ho0 (Kd.R_lt (by exact (Kd.R_mono (Kd.R_far (p := ⟨gb474, 5, none⟩) (Kd.R_far (p := ⟨gb474, 4, none⟩) (Kd.R_far (p := ⟨gb474, 3, none⟩) (Kd.R_far (p := ⟨gb474, 2, none⟩) (Kd.R_far (p := ⟨gb474, 1, none⟩) (Kd.R_far (p := ⟨gb474, 0, none⟩) (Kd.R_types HO470.out BK474.out (by decide)) (fun _ hk => hk.2) (.int .u64 0)) (fun _ hk => hk.2) (.int .u64 0)) (fun _ hk => hk.2) (.int .u64 0)) (fun _ hk => hk.2) (.int .u64 0)) (fun _ hk => hk.2) (.slice Ao16 t468.length co16)) (fun _ hk => hk.2) (.slice Ao15 t471.length co15)) (fun _ h_ => h_.1))))) (Kd.R_lt (by exact (Kd.R_mono (Kd.R_far (p := ⟨gb474, 5, none⟩) (Kd.R_far (p := ⟨gb474, 4, none⟩) (Kd.R_far (p := ⟨gb474, 3, none⟩) (Kd.R_far (p := ⟨gb474, 2, none⟩) (Kd.R_far (p := ⟨gb474, 1, none⟩) (Kd.R_far (p := ⟨gb474, 0, none⟩) (Kd.R_types HO473.out BK474.out (by decide)) (fun _ hk => hk.2) (.int .u64 0)) (fun _ hk => hk.2) (.int .u64 0)) (fun _ hk => hk.2) (.int .u64 0)) (fun _ hk => hk.2) (.int .u64 0)) (fun _ hk => hk.2) (.slice Ao16 t468.length co16)) (fun _ hk => hk.2) (.slice Ao15 t471.length co15)) (fun _ h_ => h_.1))))) (below_size bl_)); have n3_ := Aside0.mk (blk_below (g := gb474) (o := .cells #[.int .u64 0, .int .u64 0, .int .u64 0, .int .u64 0, .slice Ao16 t468.length co16, .slice Ao15 t471.length co15] 26 (0, 0)) (by (with_reducible repeat (first | refine blk_drewN ?_ _ | refine blk_drew ?_ | refine blk_alloc ?_ _)); refine blk_put (cs := #[.int .u64 0, .int .u64 0, .int .u64 0, .int .u64 0, .slice Ao16 t468.length co16, .slice none 0 0]) ?_ 5 _ rfl; refine blk_put (cs := #[.int .u64 0, .int .u64 0, .int .u64 0, .int .u64 0, .slice none 0 0, .slice none 0 0]) ?_ 4 _ rfl; refine blk_put (cs := #[.int .u64 0, .int .u64 0, .int .u64 0, .int .u64 0, .slice none 0 0, .slice none 0 0]) ?_ 3 _ rfl; refine blk_put (cs := #[.int .u64 0, .int .u64 0, .int .u64 0, .int .u64 0, .slice none 0 0, .slice none 0 0]) ?_ 2 _ rfl; refine blk_put (cs := #[.int .u64 0, .int .u64 0, .int .u64 0, .int .u64 0, .slice none 0 0, .slice none 0 0]) ?_ 1 _ rfl; refine blk_put (cs := #[.int .u64 0, .int .u64 0, .int .u64 0, .int .u64 0, .slice none 0 0, .slice none 0 0]) ?_ 0 _ rfl; exact BK474.out) hb); have n4_ := Aside0.mk (below_step bl_ hb); clear HO470; clear HO473; clear BK474; clear HB; have HO470 := n0_; have HO473 := n1_; have HO477 := n2_; have BK474 := n3_; have HB := n4_; clear n0_ n1_ n2_ n3_ n4_; (try clear hb); (try clear hb2); (try clear hk); (try clear hi); (try clear ho0); obtain ⟨Ao20, co20, eo20⟩ := Kd.R_slice HO477.out; subst eo20) | ((with_reducible refine gate_callee (f := 53) rfl ?_); refine goesL_ (some 13) rfl rfl Try.func53 (by kernel_rfl) rfl #[.string (⟨#[98]⟩ : ByteArray)] rfl sa_ ?_; (with_reducible refine (conductorlaw10_at.calls (⟨#[98]⟩ : ByteArray) t478 _ A4.out).mono ?_); rintro e w21 ⟨v479, rfl, ho0, hb⟩; refine ⟨_, rfl, ?_⟩; have n0_ := Aside0.mk (Kd.R_elder' (by exact HO470.out) (Kd.R_base ho0) hb); have n1_ := Aside0.mk (Kd.R_elder' (by exact HO473.out) (Kd.R_base ho0) hb); have n2_ := Aside0.mk (Kd.R_elder' (by exact HO477.out) (Kd.R_base ho0) hb); have n3_ := Aside0.mk (Kd.R_lower (Kd.R_new' (Kd.R_new' (Kd.R_new' ho0 (Kd.R_lt (by exact HO470.out))) (Kd.R_lt (by exact HO473.out))) (Kd.R_lt (by exact HO477.out))) (below_size bl_)); have n4_ := Aside0.mk (blk_below (g := gb474) (o := .cells #[.int .u64 0, .int .u64 0, .int .u64 0, .int .u64 0, .slice Ao16 t468.length co16, .slice Ao15 t471.length co15] 26 (0, 0)) (by (with_reducible repeat (first | refine blk_drewN ?_ _ | refine blk_drew ?_ | refine blk_alloc ?_ _)); exact BK474.out) hb); have n5_ := Aside0.mk (below_step bl_ hb); clear HO470; clear HO473; clear HO477; clear BK474; clear HB; have HO470 := n0_; have HO473 := n1_; have HO477 := n2_; have HO480 := n3_; have BK474 := n4_; have HB := n5_; clear n0_ n1_ n2_ n3_ n4_ n5_; (try clear hb); (try clear hb2); (try clear hk); (try clear hi); (try clear ho0)) | ((with_reducible refine gate_callee (f := 53) rfl ?_); refine goesL_ (some 14) rfl rfl Try.func53 (by kernel_rfl) rfl #[.string (⟨#[99]⟩ : ByteArray)] rfl sa_ ?_; (with_reducible refine (conductorlaw10_at.calls (⟨#[99]⟩ : ByteArray) t481 _ A5.out).mono ?_); rintro e w22 ⟨v482, rfl, ho0, hb⟩; refine ⟨_, rfl, ?_⟩; have n0_ := Aside0.mk (Kd.R_elder' (by exact HO470.out) (Kd.R_base ho0) hb); have n1_ := Aside0.mk (Kd.R_elder' (by exact HO473.out) (Kd.R_base ho0) hb); have n2_ := Aside0.mk (Kd.R_elder' (by exact HO477.out) (Kd.R_base ho0) hb); have n3_ := Aside0.mk (Kd.R_elder' (by exact HO480.out) (Kd.R_base ho0) hb); have n4_ := Aside0.mk (Kd.R_lower (Kd.R_new' (Kd.R_new' (Kd.R_new' (Kd.R_new' ho0 (Kd.R_lt (by exact HO470.out))) (Kd.R_lt (by exact HO473.out))) (Kd.R_lt (by exact HO477.out))) (Kd.R_lt (by exact HO480.out))) (below_size bl_)); have n5_ := Aside0.mk (blk_below (g := gb474) (o := .cells #[.int .u64 0, .int .u64 0, .int .u64 0, .int .u64 0, .slice Ao16 t468.length co16, .slice Ao15 t471.length co15] 26 (0, 0)) (by (with_reducible repeat (first | refine blk_drewN ?_ _ | refine blk_drew ?_ | refine blk_alloc ?_ _)); exact BK474.out) hb); have n6_ := Aside0.mk (below_step bl_ hb); clear HO470; clear HO473; clear HO477; clear HO480; clear BK474; clear HB; have HO470 := n0_; have HO473 := n1_; have HO477 := n2_; have HO480 := n3_; have HO483 := n4_; have BK474 := n5_; have HB := n6_; clear n0_ n1_ n2_ n3_ n4_ n5_ n6_; (try clear hb); (try clear hb2); (try clear hk); (try clear hi); (try clear ho0); obtain ⟨Ao23, co23, eo23⟩ := Kd.R_slice HO483.out; subst eo23; obtain ⟨Ao24, co24, eo24⟩ := Kd.R_slice HO480.out; subst eo24) | ((with_reducible refine gate_dst (N := 16) rfl ?_); refine Kd.N_lit k26 _ 26 ?hg (N' := 16) ?hd (xs := ([(⟨1, 1, 0, 0, ([] : List (S41)), t475⟩ : S26), (⟨2, 2, 0, 0, t478, t481⟩ : S26)] : List (S26))) (inner := [.int .u64 1, .int .u64 1, .int .u64 0, .int .u64 0, .slice none 0 0, .slice Ao20 t475.length co20, .int .u64 2, .int .u64 2, .int .u64 0, .int .u64 0, .slice Ao24 t478.length co24, .slice Ao23 t481.length co23]) (ok := (fun k_ => some k_ ≠ (.slice Ao16 t468.length co16 : Value).ownBlock ∧ some k_ ≠ (.slice Ao15 t471.length co15 : Value).ownBlock ∧ k_ ≠ gb474)) (okp := (fun k_ => some k_ ≠ (.slice Ao16 t468.length co16 : Value).ownBlock ∧ some k_ ≠ (.slice Ao15 t471.length co15 : Value).ownBlock ∧ k_ ≠ gb474)) ?hr ?hp (fun _ hk => hk) ((show ∀ k_, w22.heap.size ≤ k_ → (fun k_ => some k_ ≠ (.slice Ao16 t468.length co16 : Value).ownBlock ∧ some k_ ≠ (.slice Ao15 t471.length co15 : Value).ownBlock ∧ k_ ≠ gb474) k_ from fun k_ hk => ⟨Kd.fresh' (Kd.R_lt (by exact HO470.out)) k_ hk, Kd.fresh' (Kd.R_lt (by exact HO473.out)) k_ hk, Kd.freshB (g := gb474) (o := .cells #[.int .u64 0, .int .u64 0, .int .u64 0, .int .u64 0, .slice Ao16 t468.length co16, .slice Ao15 t471.length co15] 26 (0, 0)) (by (with_reducible repeat (first | refine blk_drewN ?_ _ | refine blk_drew ?_ | refine blk_alloc ?_ _)); exact BK474.out) k_ hk⟩) _ (Nat.le_refl _)) (Below.refl _ _) (Nat.le_refl _) (by simp) ?_; (case hd => rfl); (case hg => rfl); (case hr => first | (go_simp; done) | (go_simp; rfl)); (case hp => exact (Reps.c6 (show Kd.FK k26 _ _ (⟨1, 1, 0, 0, ([] : List (S41)), t475⟩ : S26) [.int .u64 1, .int .u64 1, .int .u64 0, .int .u64 0, .slice none 0 0, .slice Ao20 t475.length co20] from (k26_mkF _ _ (⟨1, 1, 0, 0, ([] : List (S41)), t475⟩ : S26) (Nat.le_refl _) (Kd.F_nil _ _ _) (Kd.R_reads' (Kd.R_mono (ok' := (fun k_ => some k_ ≠ (.slice Ao16 t468.length co16 : Value).ownBlock ∧ some k_ ≠ (.slice Ao15 t471.length co15 : Value).ownBlock ∧ k_ ≠ gb474)) (Kd.R_types (HO477.out) BK474.out (by decide)) (fun k_ hk => ⟨hk.1.1.1.1.2, ⟨hk.1.1.1.2, hk.2⟩⟩))).2.1 (Kd.R_F (Kd.R_mono (ok' := (fun k_ => some k_ ≠ (.slice Ao16 t468.length co16 : Value).ownBlock ∧ some k_ ≠ (.slice Ao15 t471.length co15 : Value).ownBlock ∧ k_ ≠ gb474)) (Kd.R_types (HO477.out) BK474.out (by decide)) (fun k_ hk => ⟨hk.1.1.1.1.2, ⟨hk.1.1.1.2, hk.2⟩⟩))))) (Reps.c6 (show Kd.FK k26 _ _ (⟨2, 2, 0, 0, t478, t481⟩ : S26) [.int .u64 2, .int .u64 2, .int .u64 0, .int .u64 0, .slice Ao24 t478.length co24, .slice Ao23 t481.length co23] from (k26_mkF _ _ (⟨2, 2, 0, 0, t478, t481⟩ : S26) (Kd.R_reads' (Kd.R_mono (ok' := (fun k_ => some k_ ≠ (.slice Ao16 t468.length co16 : Value).ownBlock ∧ some k_ ≠ (.slice Ao15 t471.length co15 : Value).ownBlock ∧ k_ ≠ gb474)) (Kd.R_types (HO480.out) BK474.out (by decide)) (fun k_ hk => ⟨hk.1.1.1.1.2, ⟨hk.1.1.1.2, hk.2⟩⟩))).2.1 (Kd.R_F (Kd.R_mono (ok' := (fun k_ => some k_ ≠ (.slice Ao16 t468.length co16 : Value).ownBlock ∧ some k_ ≠ (.slice Ao15 t471.length co15 : Value).ownBlock ∧ k_ ≠ gb474)) (Kd.R_types (HO480.out) BK474.out (by decide)) (fun k_ hk => ⟨hk.1.1.1.1.2, ⟨hk.1.1.1.2, hk.2⟩⟩))) (Kd.R_reads' (Kd.R_mono (ok' := (fun k_ => some k_ ≠ (.slice Ao16 t468.length co16 : Value).ownBlock ∧ some k_ ≠ (.slice Ao15 t471.length co15 : Value).ownBlock ∧ k_ ≠ gb474)) (Kd.R_types (HO483.out) BK474.out (by decide)) (fun k_ hk => ⟨hk.1.1.1.1.2, ⟨hk.1.1.1.2, hk.2⟩⟩))).2.1 (Kd.R_F (Kd.R_mono (ok' := (fun k_ => some k_ ≠ (.slice Ao16 t468.length co16 : Value).ownBlock ∧ some k_ ≠ (.slice Ao15 t471.length co15 : Value).ownBlock ∧ k_ ≠ gb474)) (Kd.R_types (HO483.out) BK474.out (by decide)) (fun k_ hk => ⟨hk.1.1.1.1.2, ⟨hk.1.1.1.2, hk.2⟩⟩))))) (Reps.none _ _)))); intro v485 w25 ho26 hb hg_ hnew_; clear hg_ hnew_; (first | rw [← Ny484.out] at ho26 | (simp only [Int.reduceToNat] at ho26; rw [← Ny484.out] at ho26)); have n0_ := Aside0.mk (Kd.R_below (by exact HO470.out) hb); have n1_ := Aside0.mk (Kd.R_below (by exact HO473.out) hb); have n2_ := Aside0.mk (Kd.N_lower ho26 (below_size bl_)); have n3_ := Aside0.mk (blk_below (g := gb474) (o := .cells #[.int .u64 0, .int .u64 0, .int .u64 0, .int .u64 0, .slice Ao16 t468.length co16, .slice Ao15 t471.length co15] 26 (0, 0)) (by (with_reducible repeat (first | refine blk_drewN ?_ _ | refine blk_drew ?_ | refine blk_alloc ?_ _)); exact BK474.out) hb); have n4_ := Aside0.mk (below_step bl_ hb); clear HO470; clear HO473; clear BK474; clear HB; clear HO477; clear HO480; clear HO483; have HO470 := n0_; have HO473 := n1_; have HO486 := n2_; have BK474 := n3_; have HB := n4_; clear n0_ n1_ n2_ n3_ n4_; clear hb ho26) | ((with_reducible refine gate_callee (f := 53) rfl ?_); refine goesL_ (some 17) rfl rfl Try.func53 (by kernel_rfl) rfl #[.string (⟨#[98]⟩ : ByteArray)] rfl sa_ ?_; (with_reducible refine (conductorlaw10_at.calls (⟨#[98]⟩ : ByteArray) t487 _ A6.out).mono ?_); rintro e w27 ⟨v488, rfl, ho0, hb⟩; refine ⟨_, rfl, ?_⟩; have n0_ := Aside0.mk (Kd.R_elder' (by exact HO470.out) (Kd.R_base ho0) hb); have n1_ := Aside0.mk (Kd.R_elder' (by exact HO473.out) (Kd.R_base ho0) hb); have n2_ := Aside0.mk (Kd.N_elder' (by exact HO486.out) (Kd.R_base ho0) hb); have n3_ := Aside0.mk (Kd.R_lower (Kd.R_new' (Kd.R_new' ho0 (Kd.R_lt (by exact HO470.out))) (Kd.R_lt (by exact HO473.out))) (below_size bl_)); have n4_ := Aside0.mk (blk_below (g := gb474) (o := .cells #[.int .u64 0, .int .u64 0, .int .u64 0, .int .u64 0, .slice Ao16 t468.length co16, .slice Ao15 t471.length co15] 26 (0, 0)) (by (with_reducible repeat (first | refine blk_drewN ?_ _ | refine blk_drew ?_ | refine blk_alloc ?_ _)); exact BK474.out) hb); have n5_ := Aside0.mk (below_step bl_ hb); clear HO470; clear HO473; clear HO486; clear BK474; clear HB; have HO470 := n0_; have HO473 := n1_; have HO486 := n2_; have HO489 := n3_; have BK474 := n4_; have HB := n5_; clear n0_ n1_ n2_ n3_ n4_ n5_; (try clear hb); (try clear hb2); (try clear hk); (try clear hi); (try clear ho0)) | ((with_reducible refine gate_callee (f := 53) rfl ?_); refine goesL_ (some 18) rfl rfl Try.func53 (by kernel_rfl) rfl #[.string (⟨#[99]⟩ : ByteArray)] rfl sa_ ?_; (with_reducible refine (conductorlaw10_at.calls (⟨#[99]⟩ : ByteArray) t490 _ A7.out).mono ?_); rintro e w28 ⟨v491, rfl, ho0, hb⟩; refine ⟨_, rfl, ?_⟩; have n0_ := Aside0.mk (Kd.R_elder' (by exact HO470.out) (Kd.R_base ho0) hb); have n1_ := Aside0.mk (Kd.R_elder' (by exact HO473.out) (Kd.R_base ho0) hb); have n2_ := Aside0.mk (Kd.N_elder' (by exact HO486.out) (Kd.R_base ho0) hb); have n3_ := Aside0.mk (Kd.R_elder' (by exact HO489.out) (Kd.R_base ho0) hb); have n4_ := Aside0.mk (Kd.R_lower (Kd.R_new' (Kd.R_new' (Kd.R_new' ho0 (Kd.R_lt (by exact HO470.out))) (Kd.R_lt (by exact HO473.out))) (Kd.R_lt (by exact HO489.out))) (below_size bl_)); have n5_ := Aside0.mk (blk_below (g := gb474) (o := .cells #[.int .u64 0, .int .u64 0, .int .u64 0, .int .u64 0, .slice Ao16 t468.length co16, .slice Ao15 t471.length co15] 26 (0, 0)) (by (with_reducible repeat (first | refine blk_drewN ?_ _ | refine blk_drew ?_ | refine blk_alloc ?_ _)); exact BK474.out) hb); have n6_ := Aside0.mk (below_step bl_ hb); clear HO470; clear HO473; clear HO486; clear HO489; clear BK474; clear HB; have HO470 := n0_; have HO473 := n1_; have HO486 := n2_; have HO489 := n3_; have HO492 := n4_; have BK474 := n5_; have HB := n6_; clear n0_ n1_ n2_ n3_ n4_ n5_ n6_; (try clear hb); (try clear hb2); (try clear hk); (try clear hi); (try clear ho0); obtain ⟨Ao29, co29, eo29⟩ := Kd.R_slice HO492.out; subst eo29; obtain ⟨Ao30, co30, eo30⟩ := Kd.R_slice HO489.out; subst eo30) | ((with_reducible refine gate_callee (f := 53) rfl ?_); refine goesL_ (some 20) rfl rfl Try.func53 (by kernel_rfl) rfl #[.string (⟨#[97]⟩ : ByteArray)] rfl sa_ ?_; (with_reducible refine (conductorlaw10_at.calls (⟨#[97]⟩ : ByteArray) t493 _ A8.out).mono ?_); rintro e w31 ⟨v494, rfl, ho0, hb⟩; refine ⟨_, rfl, ?_⟩; have n0_ := Aside0.mk (Kd.R_elder' (by exact HO470.out) (Kd.R_base ho0) hb); have n1_ := Aside0.mk (Kd.R_elder' (by exact HO473.out) (Kd.R_base ho0) hb); have n2_ := Aside0.mk (Kd.N_elder' (by exact HO486.out) (Kd.R_base ho0) hb); have n3_ := Aside0.mk (Kd.R_elder' (by exact HO489.out) (Kd.R_base ho0) hb); have n4_ := Aside0.mk (Kd.R_elder' (by exact HO492.out) (Kd.R_base ho0) hb); have n5_ := Aside0.mk (Kd.R_lower (Kd.R_new' (Kd.R_new' (Kd.R_new' (Kd.R_new' ho0 (Kd.R_lt (by exact HO470.out))) (Kd.R_lt (by exact HO473.out))) (Kd.R_lt (by exact HO489.out))) (Kd.R_lt (by exact HO492.out))) (below_size bl_)); have n6_ := Aside0.mk (blk_below (g := gb474) (o := .cells #[.int .u64 0, .int .u64 0, .int .u64 0, .int .u64 0, .slice Ao16 t468.length co16, .slice Ao15 t471.length co15] 26 (0, 0)) (by (with_reducible repeat (first | refine blk_drewN ?_ _ | refine blk_drew ?_ | refine blk_alloc ?_ _)); exact BK474.out) hb); have n7_ := Aside0.mk (below_step bl_ hb); clear HO470; clear HO473; clear HO486; clear HO489; clear HO492; clear BK474; clear HB; have HO470 := n0_; have HO473 := n1_; have HO486 := n2_; have HO489 := n3_; have HO492 := n4_; have HO495 := n5_; have BK474 := n6_; have HB := n7_; clear n0_ n1_ n2_ n3_ n4_ n5_ n6_ n7_; (try clear hb); (try clear hb2); (try clear hk); (try clear hi); (try clear ho0); obtain ⟨Ao32, co32, eo32⟩ := Kd.R_slice HO495.out; subst eo32) | ((with_reducible refine gate_dst (N := 22) rfl ?_); refine Kd.N_lit k26 _ 26 ?hg (N' := 22) ?hd (xs := ([(⟨1, 1, 0, 0, t487, t490⟩ : S26), (⟨2, 2, 0, 0, ([] : List (S41)), t493⟩ : S26)] : List (S26))) (inner := [.int .u64 1, .int .u64 1, .int .u64 0, .int .u64 0, .slice Ao30 t487.length co30, .slice Ao29 t490.length co29, .int .u64 2, .int .u64 2, .int .u64 0, .int .u64 0, .slice none 0 0, .slice Ao32 t493.length co32]) (ok := (fun k_ => some k_ ≠ (.slice Ao16 t468.length co16 : Value).ownBlock ∧ some k_ ≠ (.slice Ao15 t471.length co15 : Value).ownBlock ∧ some k_ ≠ (v485 : Value).ownBlock ∧ k_ ≠ gb474)) (okp := (fun k_ => some k_ ≠ (.slice Ao16 t468.length co16 : Value).ownBlock ∧ some k_ ≠ (.slice Ao15 t471.length co15 : Value).ownBlock ∧ some k_ ≠ (v485 : Value).ownBlock ∧ k_ ≠ gb474)) ?hr ?hp (fun _ hk => hk) ((show ∀ k_, w31.heap.size ≤ k_ → (fun k_ => some k_ ≠ (.slice Ao16 t468.length co16 : Value).ownBlock ∧ some k_ ≠ (.slice Ao15 t471.length co15 : Value).ownBlock ∧ some k_ ≠ (v485 : Value).ownBlock ∧ k_ ≠ gb474) k_ from fun k_ hk => ⟨Kd.fresh' (Kd.R_lt (by exact HO470.out)) k_ hk, Kd.fresh' (Kd.R_lt (by exact HO473.out)) k_ hk, Kd.fresh' (Kd.N_lt (by exact HO486.out)) k_ hk, Kd.freshB (g := gb474) (o := .cells #[.int .u64 0, .int .u64 0, .int .u64 0, .int .u64 0, .slice Ao16 t468.length co16, .slice Ao15 t471.length co15] 26 (0, 0)) (by (with_reducible repeat (first | refine blk_drewN ?_ _ | refine blk_drew ?_ | refine blk_alloc ?_ _)); exact BK474.out) k_ hk⟩) _ (Nat.le_refl _)) (Below.refl _ _) (Nat.le_refl _) (by simp) ?_; (case hd => rfl); (case hg => rfl); (case hr => first | (go_simp; done) | (go_simp; rfl)); (case hp => exact (Reps.c6 (show Kd.FK k26 _ _ (⟨1, 1, 0, 0, t487, t490⟩ : S26) [.int .u64 1, .int .u64 1, .int .u64 0, .int .u64 0, .slice Ao30 t487.length co30, .slice Ao29 t490.length co29] from (k26_mkF _ _ (⟨1, 1, 0, 0, t487, t490⟩ : S26) (Kd.R_reads' (Kd.R_mono (ok' := (fun k_ => some k_ ≠ (.slice Ao16 t468.length co16 : Value).ownBlock ∧ some k_ ≠ (.slice Ao15 t471.length co15 : Value).ownBlock ∧ some k_ ≠ (v485 : Value).ownBlock ∧ k_ ≠ gb474)) (Kd.R_types (Kd.R_apart' (HO489.out) (Kd.N_typed HO486.out) (by decide)) BK474.out (by decide)) (fun k_ hk => ⟨hk.1.1.1.1.1.2, ⟨hk.1.1.1.1.2, ⟨hk.1.2, hk.2⟩⟩⟩))).2.1 (Kd.R_F (Kd.R_mono (ok' := (fun k_ => some k_ ≠ (.slice Ao16 t468.length co16 : Value).ownBlock ∧ some k_ ≠ (.slice Ao15 t471.length co15 : Value).ownBlock ∧ some k_ ≠ (v485 : Value).ownBlock ∧ k_ ≠ gb474)) (Kd.R_types (Kd.R_apart' (HO489.out) (Kd.N_typed HO486.out) (by decide)) BK474.out (by decide)) (fun k_ hk => ⟨hk.1.1.1.1.1.2, ⟨hk.1.1.1.1.2, ⟨hk.1.2, hk.2⟩⟩⟩))) (Kd.R_reads' (Kd.R_mono (ok' := (fun k_ => some k_ ≠ (.slice Ao16 t468.length co16 : Value).ownBlock ∧ some k_ ≠ (.slice Ao15 t471.length co15 : Value).ownBlock ∧ some k_ ≠ (v485 : Value).ownBlock ∧ k_ ≠ gb474)) (Kd.R_types (Kd.R_apart' (HO492.out) (Kd.N_typed HO486.out) (by decide)) BK474.out (by decide)) (fun k_ hk => ⟨hk.1.1.1.1.1.2, ⟨hk.1.1.1.1.2, ⟨hk.1.2, hk.2⟩⟩⟩))).2.1 (Kd.R_F (Kd.R_mono (ok' := (fun k_ => some k_ ≠ (.slice Ao16 t468.length co16 : Value).ownBlock ∧ some k_ ≠ (.slice Ao15 t471.length co15 : Value).ownBlock ∧ some k_ ≠ (v485 : Value).ownBlock ∧ k_ ≠ gb474)) (Kd.R_types (Kd.R_apart' (HO492.out) (Kd.N_typed HO486.out) (by decide)) BK474.out (by decide)) (fun k_ hk => ⟨hk.1.1.1.1.1.2, ⟨hk.1.1.1.1.2, ⟨hk.1.2, hk.2⟩⟩⟩))))) (Reps.c6 (show Kd.FK k26 _ _ (⟨2, 2, 0, 0, ([] : List (S41)), t493⟩ : S26) [.int .u64 2, .int .u64 2, .int .u64 0, .int .u64 0, .slice none 0 0, .slice Ao32 t493.length co32] from (k26_mkF _ _ (⟨2, 2, 0, 0, ([] : List (S41)), t493⟩ : S26) (Nat.le_refl _) (Kd.F_nil _ _ _) (Kd.R_reads' (Kd.R_mono (ok' := (fun k_ => some k_ ≠ (.slice Ao16 t468.length co16 : Value).ownBlock ∧ some k_ ≠ (.slice Ao15 t471.length co15 : Value).ownBlock ∧ some k_ ≠ (v485 : Value).ownBlock ∧ k_ ≠ gb474)) (Kd.R_types (Kd.R_apart' (HO495.out) (Kd.N_typed HO486.out) (by decide)) BK474.out (by decide)) (fun k_ hk => ⟨hk.1.1.1.1.1.2, ⟨hk.1.1.1.1.2, ⟨hk.1.2, hk.2⟩⟩⟩))).2.1 (Kd.R_F (Kd.R_mono (ok' := (fun k_ => some k_ ≠ (.slice Ao16 t468.length co16 : Value).ownBlock ∧ some k_ ≠ (.slice Ao15 t471.length co15 : Value).ownBlock ∧ some k_ ≠ (v485 : Value).ownBlock ∧ k_ ≠ gb474)) (Kd.R_types (Kd.R_apart' (HO495.out) (Kd.N_typed HO486.out) (by decide)) BK474.out (by decide)) (fun k_ hk => ⟨hk.1.1.1.1.1.2, ⟨hk.1.1.1.1.2, ⟨hk.1.2, hk.2⟩⟩⟩))))) (Reps.none _ _)))); intro v497 w33 ho34 hb hg_ hnew_; clear hg_ hnew_; (first | rw [← Ny496.out] at ho34 | (simp only [Int.reduceToNat] at ho34; rw [← Ny496.out] at ho34)); have n0_ := Aside0.mk (Kd.R_below (by exact HO470.out) hb); have n1_ := Aside0.mk (Kd.R_below (by exact HO473.out) hb); have n2_ := Aside0.mk (Kd.N_elder' (by exact HO486.out) (Kd.N_base ho34) hb); have n3_ := Aside0.mk (Kd.N_lower ho34 (below_size bl_)); have n4_ := Aside0.mk (blk_below (g := gb474) (o := .cells #[.int .u64 0, .int .u64 0, .int .u64 0, .int .u64 0, .slice Ao16 t468.length co16, .slice Ao15 t471.length co15] 26 (0, 0)) (by (with_reducible repeat (first | refine blk_drewN ?_ _ | refine blk_drew ?_ | refine blk_alloc ?_ _)); exact BK474.out) hb); have n5_ := Aside0.mk (below_step bl_ hb); clear HO470; clear HO473; clear HO486; clear BK474; clear HB; clear HO489; clear HO492; clear HO495; have HO470 := n0_; have HO473 := n1_; have HO486 := n2_; have HO498 := n3_; have BK474 := n4_; have HB := n5_; clear n0_ n1_ n2_ n3_ n4_ n5_; clear hb ho34; obtain ⟨hcz35_0, hcz35_1, hcz35_2, hcz35_3, hcz35_4, hcz35_5, hfz35_0, hfz35_1, hfz35_2, hfz35_3, hfz35_4, hfz35_5⟩ := blk6_ BK474.out; obtain ⟨Ao36, co36, eo36⟩ := Kd.N_slice HO486.out; subst eo36) | ((with_reducible refine gate_callee (f := 18) rfl ?_); refine goesL_ (some 26) rfl rfl Try.func18 (by kernel_rfl) rfl #[.slice Ao36 y484.length co36, .agg #[.int .u64 0, .int .u64 0, .int .u64 0, .int .u64 0, .slice Ao16 t468.length co16, .slice Ao15 t471.length co15]] rfl sa_ ?_; (with_reducible refine (ssi_Judge.calls k _ _ y484 0 0 0 0 _ _ t468 _ _ t471 t499 t500 _ ?side1 ?side2 ?side3 ?side4 ?side5 ?side6 A9.out).mono ?_); (case side1 => exact (Kd.N_reads' HO486.out).2.2); (case side2 => exact (Kd.N_reads' HO486.out).2.1); (case side3 => exact (Kd.R_reads' HO470.out).2.2); (case side4 => exact (Kd.R_reads' HO470.out).2.1); (case side5 => exact (Kd.R_reads' HO473.out).2.2); (case side6 => exact (Kd.R_reads' HO473.out).2.1); rintro e w37 ⟨rfl, hb⟩; refine ⟨_, rfl, ?_⟩; have n0_ := Aside0.mk (Kd.R_below (by exact HO470.out) hb); have n1_ := Aside0.mk (Kd.R_below (by exact HO473.out) hb); have n2_ := Aside0.mk (Kd.N_below (by exact HO486.out) hb); have n3_ := Aside0.mk (Kd.N_below (by exact HO498.out) hb); have n4_ := Aside0.mk (blk_below (g := gb474) (o := .cells #[.int .u64 0, .int .u64 0, .int .u64 0, .int .u64 0, .slice Ao16 t468.length co16, .slice Ao15 t471.length co15] 26 (0, 0)) (by (with_reducible repeat (first | refine blk_drewN ?_ _ | refine blk_drew ?_ | refine blk_alloc ?_ _)); exact BK474.out) hb); have n5_ := Aside0.mk (below_step bl_ hb); clear HO470; clear HO473; clear HO486; clear HO498; clear BK474; clear HB; have HO470 := n0_; have HO473 := n1_; have HO486 := n2_; have HO498 := n3_; have BK474 := n4_; have HB := n5_; clear n0_ n1_ n2_ n3_ n4_ n5_; (try clear hb); (try clear hb2); (try clear hk); (try clear hi); obtain ⟨hcz38_0, hcz38_1, hcz38_2, hcz38_3, hcz38_4, hcz38_5, hfz38_0, hfz38_1, hfz38_2, hfz38_3, hfz38_4, hfz38_5⟩ := blk6_ BK474.out; obtain ⟨Ao39, co39, eo39⟩ := Kd.N_slice HO498.out; subst eo39) | ((with_reducible refine gate_callee (f := 18) rfl ?_); refine goesL_ (some 32) rfl rfl Try.func18 (by kernel_rfl) rfl #[.slice Ao39 y496.length co39, .agg #[.int .u64 0, .int .u64 0, .int .u64 0, .int .u64 0, .slice Ao16 t468.length co16, .slice Ao15 t471.length co15]] rfl sa_ ?_; (with_reducible refine (ssi_Judge.calls k _ _ y496 0 0 0 0 _ _ t468 _ _ t471 t501 t502 _ ?side1 ?side2 ?side3 ?side4 ?side5 ?side6 A10.out).mono ?_); (case side1 => exact (Kd.N_reads' HO498.out).2.2); (case side2 => exact (Kd.N_reads' HO498.out).2.1); (case side3 => exact (Kd.R_reads' HO470.out).2.2); (case side4 => exact (Kd.R_reads' HO470.out).2.1); (case side5 => exact (Kd.R_reads' HO473.out).2.2); (case side6 => exact (Kd.R_reads' HO473.out).2.1); rintro e w40 ⟨rfl, hb⟩; refine ⟨_, rfl, ?_⟩; have n0_ := Aside0.mk (Kd.R_below (by exact HO470.out) hb); have n1_ := Aside0.mk (Kd.R_below (by exact HO473.out) hb); have n2_ := Aside0.mk (Kd.N_below (by exact HO486.out) hb); have n3_ := Aside0.mk (Kd.N_below (by exact HO498.out) hb); have n4_ := Aside0.mk (blk_below (g := gb474) (o := .cells #[.int .u64 0, .int .u64 0, .int .u64 0, .int .u64 0, .slice Ao16 t468.length co16, .slice Ao15 t471.length co15] 26 (0, 0)) (by (with_reducible repeat (first | refine blk_drewN ?_ _ | refine blk_drew ?_ | refine blk_alloc ?_ _)); exact BK474.out) hb); have n5_ := Aside0.mk (below_step bl_ hb); clear HO470; clear HO473; clear HO486; clear HO498; clear BK474; clear HB; have HO470 := n0_; have HO473 := n1_; have HO486 := n2_; have HO498 := n3_; have BK474 := n4_; have HB := n5_; clear n0_ n1_ n2_ n3_ n4_ n5_; (try clear hb); (try clear hb2); (try clear hk); (try clear hi)))
   go_ret
   exact ⟨by first | rfl | (simp [errW_none, errW_some] <;> rfl) | (simp [*, errW_none, errW_some] <;> rfl), bl_⟩
  ·rw [if_neg c12] at H
   have c12b0 : (t501 == 2) = false := beq_eq_false_iff_ne.mpr c12
   have c12b1 : (t501 != 2) = true := bne_iff_ne.mpr c12
   exact absurd ((Option.some.inj H).trans hT.out) (by decide)
 ·rw [if_neg c11] at H
  have c11b0 : (t500 == 101) = false := beq_eq_false_iff_ne.mpr c11
  have c11b1 : (t500 != 101) = true := bne_iff_ne.mpr c11
  exact absurd ((Option.some.inj H).trans hT.out) (by decide)
theorem conductorlaw10_live.told (k : Nat) (r : Bool) (h : conductorlaw10_live.f k = some r) : r = true := by
 have h1 : conductorlaw10_live.f 30 = some true := by decide +kernel
 have h2 := at_rounds (g := fun k => conductorlaw10_live.f k) conductorlaw10_live.mono (Nat.le_max_left k 30) h
 have h3 := at_rounds (g := fun k => conductorlaw10_live.f k) conductorlaw10_live.mono (Nat.le_max_right k 30) h1
 exact Option.some.inj (h2.symm.trans h3)
theorem conductorlaw10_live.calls (k : Nat)  (r : Bool) (w : World) (h : conductorlaw10_live.f k  = some r) :
  Calls Try.prog 15 #[] w fun e w' => e = .returned (.bool r) ∧ Below w.heap.size w w' :=
 conductorlaw10_live.callsT k r w h ⟨conductorlaw10_live.told k r h⟩
def conductorlaw09_Few.l0 : Nat → List (S41) → List (S41) → Int → Int → Option (Bool)
 | 0, _, _, _, _ => none
 | k + 1, x0, x5, x6, x7 => if x7 < x6 then (if 0 ≤ x7 then (if x7 < (x5.length : Int) then (if (((rd_T41 x5 x7).f0).size : Int) > 300 then (some false) else (if (((rd_T41 x5 x7).f1).size : Int) > 300 then (some false) else (conductorlaw09_Few.l0 k x0 x5 x6 (wrap64 (x7 + 1))))) else (none)) else (none)) else (some (decide ((x0.length : Int) ≤ 40)))
def conductorlaw09_Few.f (k : Nat) (l0 : List (S41)) : Option (Bool) := conductorlaw09_Few.l0 k l0 l0 (l0.length : Int) 0
set_option maxHeartbeats 8000000 in
set_option maxRecDepth 100000 in
theorem conductorlaw09_Few.calls (k : Nat) (A0 : Option Addr) (c0 : Nat) (l0 : List (S41)) (r : Bool) (w : World) (hr0 : Kd.C k41 w A0 l0.length l0) (hc0 : l0.length ≤ c0) (h : conductorlaw09_Few.f k l0 = some r) :
  Calls Try.prog 22 #[.slice A0 l0.length c0] w fun e w' => e = .returned (.bool r) ∧ Below w.heap.size w w' := by
 have hu41 := Try.underlying41
 have HR0 := Aside0.mk hr0; have HC0 := Aside0.mk hc0; clear hr0 hc0
 have HB := Aside0.mk (Below.refl w.heap.size w)
 have H : (conductorlaw09_Few.l0 k l0 l0 (l0.length : Int) 0) = some r := h
 clear h; have H' := Aside0.mk H; clear H
 go_enter Try.func22, Try.ntmps22
 go_wp2
 go_loopg [7] k (fun kq v7 w' => ∃ (x7_1 : Int), v7 = .int .i64 x7_1 ∧ Aside0 (conductorlaw09_Few.l0 kq l0 l0 (l0.length : Int) x7_1 = some r) ∧ Aside0 (kq ≤ k) ∧ Aside0 (Below w.heap.size w w'))
 case atStart => exact ⟨(0), (by first | rfl | (simp; done) | (simp [*]; done)), H', ⟨Nat.le_refl _⟩, ⟨bl_⟩⟩
 case round =>
  clear H'; obtain ⟨x7_1, rfl, HA, HK1, HB⟩ := hrel
  cases gk with
  | zero => exact absurd HA.out (by simp [conductorlaw09_Few.l0])
  | succ k1 =>
   have H := HA.out
   clear HA
   simp only [conductorlaw09_Few.l0] at H
   by_cases c2 : x7_1 < (l0.length : Int)
   ·rw [if_pos c2] at H
    have c2b0 : decide (x7_1 < (l0.length : Int)) = true := decide_eq_true c2
    clear c2
    by_cases c3 : 0 ≤ x7_1
    ·rw [if_pos c3] at H
     have c3b0 : decide (0 ≤ x7_1) = true := decide_eq_true c3
     clear c3
     by_cases c4 : x7_1 < (l0.length : Int)
     ·rw [if_pos c4] at H
      have c4b0 : decide (x7_1 < (l0.length : Int)) = true := decide_eq_true c4
      clear c4
      by_cases c5 : (((rd_T41 l0 x7_1).f0).size : Int) > 300
      ·rw [if_pos c5] at H
       have c5b0 : decide (300 < (((rd_T41 l0 x7_1).f0).size : Int)) = true := decide_eq_true c5
       have c5b1 : decide (300 < ((rd_T41 l0 x7_1).f0).size) = true := decide_eq_true (by omega)
       clear c5; obtain rfl := Option.some.inj H
       have p196 : 0 ≤ (x7_1 : Int) := od_
       have q196 : x7_1 < (l0.length : Int) := od_
       obtain ⟨ad196, e196, hx196_0, hx196_1⟩ := at_T41 HR0.out x7_1 p196 q196; cases e196
       replace hx196_0 := up_ HB.out hx196_0
       replace hx196_1 := up_ HB.out hx196_1
       replace p196 := eq_true p196; replace q196 := eq_true q196
       go_wp2_with (first | ((with_reducible refine gate_dst (N := 4) rfl ?_); (try (refine gate_guard (by rfl) ?_; dsimp only)); refine box_event ?hg (N := 4) ?hd (cs := #[.string (⟨#[]⟩ : ByteArray), .string (⟨#[]⟩ : ByteArray)]) (t := 41) ?hr ?_; (case hd => rfl); (case hg => rfl); (case hr => first | (go_simp; done) | (go_simp; rfl)); intro gb197 hg w6 hbox hb; have n0_ := Aside0.mk (below_step bl_ hb); have n1_ := Aside0.mk (hbox); have n2_ := Aside0.mk (bsz_ hg : w.heap.size ≤ gb197); have n3_ := Aside0.mk (bsz_ hg : w.heap.size ≤ gb197); clear HB; have HB := n0_; have BK197 := n1_; have GW197 := n2_; have GE197 := n3_; clear n0_ n1_ n2_ n3_; clear hb hbox hg; obtain ⟨hcz7_0, hcz7_1, hfz7_0, hfz7_1⟩ := blk2_ BK197.out))
       go_ret
       exact ⟨by first | rfl | (simp [errW_none, errW_some] <;> rfl) | (simp [*, errW_none, errW_some] <;> rfl), bl_⟩
      ·rw [if_neg c5] at H
       have c5b0 : decide (300 < (((rd_T41 l0 x7_1).f0).size : Int)) = false := decide_eq_false c5
       have c5b1 : decide (300 < ((rd_T41 l0 x7_1).f0).size) = false := decide_eq_false (by omega)
       clear c5
       by_cases c8 : (((rd_T41 l0 x7_1).f1).size : Int) > 300
       ·rw [if_pos c8] at H
        have c8b0 : decide (300 < (((rd_T41 l0 x7_1).f1).size : Int)) = true := decide_eq_true c8
        have c8b1 : decide (300 < ((rd_T41 l0 x7_1).f1).size) = true := decide_eq_true (by omega)
        clear c8; obtain rfl := Option.some.inj H
        have p196 : 0 ≤ (x7_1 : Int) := od_
        have q196 : x7_1 < (l0.length : Int) := od_
        obtain ⟨ad196, e196, hx196_0, hx196_1⟩ := at_T41 HR0.out x7_1 p196 q196; cases e196
        replace hx196_0 := up_ HB.out hx196_0
        replace hx196_1 := up_ HB.out hx196_1
        replace p196 := eq_true p196; replace q196 := eq_true q196
        go_wp2_with (first | ((with_reducible refine gate_dst (N := 4) rfl ?_); (try (refine gate_guard (by rfl) ?_; dsimp only)); refine box_event ?hg (N := 4) ?hd (cs := #[.string (⟨#[]⟩ : ByteArray), .string (⟨#[]⟩ : ByteArray)]) (t := 41) ?hr ?_; (case hd => rfl); (case hg => rfl); (case hr => first | (go_simp; done) | (go_simp; rfl)); intro gb197 hg w9 hbox hb; have n0_ := Aside0.mk (below_step bl_ hb); have n1_ := Aside0.mk (hbox); have n2_ := Aside0.mk (bsz_ hg : w.heap.size ≤ gb197); have n3_ := Aside0.mk (bsz_ hg : w.heap.size ≤ gb197); clear HB; have HB := n0_; have BK197 := n1_; have GW197 := n2_; have GE197 := n3_; clear n0_ n1_ n2_ n3_; clear hb hbox hg; obtain ⟨hcz10_0, hcz10_1, hfz10_0, hfz10_1⟩ := blk2_ BK197.out))
        go_ret
        exact ⟨by first | rfl | (simp [errW_none, errW_some] <;> rfl) | (simp [*, errW_none, errW_some] <;> rfl), bl_⟩
       ·rw [if_neg c8] at H
        have c8b0 : decide (300 < (((rd_T41 l0 x7_1).f1).size : Int)) = false := decide_eq_false c8
        have c8b1 : decide (300 < ((rd_T41 l0 x7_1).f1).size) = false := decide_eq_false (by omega)
        clear c8; have H' := Aside0.mk H; clear H
        have p196 : 0 ≤ (x7_1 : Int) := od_
        have q196 : x7_1 < (l0.length : Int) := od_
        obtain ⟨ad196, e196, hx196_0, hx196_1⟩ := at_T41 HR0.out x7_1 p196 q196; cases e196
        replace hx196_0 := up_ HB.out hx196_0
        replace hx196_1 := up_ HB.out hx196_1
        replace p196 := eq_true p196; replace q196 := eq_true q196
        go_wp2_with (first | ((with_reducible refine gate_dst (N := 4) rfl ?_); (try (refine gate_guard (by rfl) ?_; dsimp only)); refine box_event ?hg (N := 4) ?hd (cs := #[.string (⟨#[]⟩ : ByteArray), .string (⟨#[]⟩ : ByteArray)]) (t := 41) ?hr ?_; (case hd => rfl); (case hg => rfl); (case hr => first | (go_simp; done) | (go_simp; rfl)); intro gb197 hg w11 hbox hb; have n0_ := Aside0.mk (below_step bl_ hb); have n1_ := Aside0.mk (hbox); have n2_ := Aside0.mk (bsz_ hg : w.heap.size ≤ gb197); have n3_ := Aside0.mk (bsz_ hg : w.heap.size ≤ gb197); clear HB; have HB := n0_; have BK197 := n1_; have GW197 := n2_; have GE197 := n3_; clear n0_ n1_ n2_ n3_; clear hb hbox hg; obtain ⟨hcz12_0, hcz12_1, hfz12_0, hfz12_1⟩ := blk2_ BK197.out))
        go_roundg k1
        case measure => have := HK1.out; omega
        case rel => exact ⟨(wrap64 (x7_1 + 1)), (by first | rfl | (simp; done) | (simp [*]; done)), H', ⟨by have := HK1.out; omega⟩, ⟨bl_⟩⟩
     ·rw [if_neg c4] at H
      exact absurd H (by simp)
    ·rw [if_neg c3] at H
     exact absurd H (by simp)
   ·rw [if_neg c2] at H
    have c2b0 : decide (x7_1 < (l0.length : Int)) = false := decide_eq_false c2
    clear c2; obtain rfl := Option.some.inj H
    go_wp2
    go_ret
    exact ⟨by first | rfl | (simp [errW_none, errW_some] <;> rfl) | (simp [*, errW_none, errW_some] <;> rfl), bl_⟩
def conductorlaw10_few.l0 : Nat → List (S26) → List (S26) → Int → Int → Option (Bool)
 | 0, _, _, _, _ => none
 | k + 1, x0, x5, x6, x7 => if x7 < x6 then (if 0 ≤ x7 then (if x7 < (x5.length : Int) then ((conductorlaw09_Few.f k ((rd_T26 x5 x7).f4)).bind fun t505 => (if t505 = true then ((conductorlaw09_Few.f k ((rd_T26 x5 x7).f5)).bind fun t506 => (if t506 = true then (if (wrap64 ((((rd_T26 x5 x7).f4).length : Int) + (((rd_T26 x5 x7).f5).length : Int))) > 20 then (some false) else (conductorlaw10_few.l0 k x0 x5 x6 (wrap64 (x7 + 1)))) else (some false))) else (some false))) else (none)) else (none)) else (some (decide ((x0.length : Int) ≤ 20)))
def conductorlaw10_few.f (k : Nat) (l0 : List (S26)) : Option (Bool) := conductorlaw10_few.l0 k l0 l0 (l0.length : Int) 0
set_option maxHeartbeats 8000000 in
set_option maxRecDepth 100000 in
theorem conductorlaw10_few.calls (k : Nat) (A0 : Option Addr) (c0 : Nat) (l0 : List (S26)) (r : Bool) (w : World) (hr0 : Kd.C k26 w A0 l0.length l0) (hc0 : l0.length ≤ c0) (h : conductorlaw10_few.f k l0 = some r) :
  Calls Try.prog 16 #[.slice A0 l0.length c0] w fun e w' => e = .returned (.bool r) ∧ Below w.heap.size w w' := by
 have hu26 := Try.underlying26
 have HR0 := Aside0.mk hr0; have HC0 := Aside0.mk hc0; clear hr0 hc0
 have HB := Aside0.mk (Below.refl w.heap.size w)
 have H : (conductorlaw10_few.l0 k l0 l0 (l0.length : Int) 0) = some r := h
 clear h; have H' := Aside0.mk H; clear H
 go_enter Try.func16, Try.ntmps16
 go_wp2
 go_loopg [7] k (fun kq v7 w' => ∃ (x7_1 : Int), v7 = .int .i64 x7_1 ∧ Aside0 (conductorlaw10_few.l0 kq l0 l0 (l0.length : Int) x7_1 = some r) ∧ Aside0 (kq ≤ k) ∧ Aside0 (Below w.heap.size w w'))
 case atStart => exact ⟨(0), (by first | rfl | (simp; done) | (simp [*]; done)), H', ⟨Nat.le_refl _⟩, ⟨bl_⟩⟩
 case round =>
  clear H'; obtain ⟨x7_1, rfl, HA, HK1, HB⟩ := hrel
  cases gk with
  | zero => exact absurd HA.out (by simp [conductorlaw10_few.l0])
  | succ k1 =>
   have H := HA.out
   clear HA
   simp only [conductorlaw10_few.l0] at H
   by_cases c2 : x7_1 < (l0.length : Int)
   ·rw [if_pos c2] at H
    have c2b0 : decide (x7_1 < (l0.length : Int)) = true := decide_eq_true c2
    clear c2
    by_cases c3 : 0 ≤ x7_1
    ·rw [if_pos c3] at H
     have c3b0 : decide (0 ≤ x7_1) = true := decide_eq_true c3
     clear c3
     by_cases c4 : x7_1 < (l0.length : Int)
     ·rw [if_pos c4] at H
      have c4b0 : decide (x7_1 < (l0.length : Int)) = true := decide_eq_true c4
      clear c4; replace H := Option.bind_eq_some_iff.mp H; obtain ⟨t505, A50, H⟩ := H
      replace H : (if t505 = true then ((conductorlaw09_Few.f k1 ((rd_T26 l0 x7_1).f5)).bind fun t506 => (if t506 = true then (if (wrap64 ((((rd_T26 l0 x7_1).f4).length : Int) + (((rd_T26 l0 x7_1).f5).length : Int))) > 20 then (some false) else (conductorlaw10_few.l0 k1 l0 l0 (l0.length : Int) (wrap64 (x7_1 + 1)))) else (some false))) else (some false)) = some r := H
      have A5 := Aside0.mk A50; clear A50
      by_cases c6 : t505 = true
      ·subst c6
       have H1 : ((conductorlaw09_Few.f k1 ((rd_T26 l0 x7_1).f5)).bind fun t506 => (if t506 = true then (if (wrap64 ((((rd_T26 l0 x7_1).f4).length : Int) + (((rd_T26 l0 x7_1).f5).length : Int))) > 20 then (some false) else (conductorlaw10_few.l0 k1 l0 l0 (l0.length : Int) (wrap64 (x7_1 + 1)))) else (some false))) = some r := by rw [if_pos rfl] at H; exact H
       clear H; have H := H1; clear H1; replace H := Option.bind_eq_some_iff.mp H; obtain ⟨t506, A70, H⟩ := H
       replace H : (if t506 = true then (if (wrap64 ((((rd_T26 l0 x7_1).f4).length : Int) + (((rd_T26 l0 x7_1).f5).length : Int))) > 20 then (some false) else (conductorlaw10_few.l0 k1 l0 l0 (l0.length : Int) (wrap64 (x7_1 + 1)))) else (some false)) = some r := H
       have A7 := Aside0.mk A70; clear A70
       by_cases c8 : t506 = true
       ·subst c8
        have H1 : (if (wrap64 ((((rd_T26 l0 x7_1).f4).length : Int) + (((rd_T26 l0 x7_1).f5).length : Int))) > 20 then (some false) else (conductorlaw10_few.l0 k1 l0 l0 (l0.length : Int) (wrap64 (x7_1 + 1)))) = some r := by rw [if_pos rfl] at H; exact H
        clear H; have H := H1; clear H1
        by_cases c9 : (wrap64 ((((rd_T26 l0 x7_1).f4).length : Int) + (((rd_T26 l0 x7_1).f5).length : Int))) > 20
        ·rw [if_pos c9] at H
         have c9b0 : decide (20 < (wrap64 ((((rd_T26 l0 x7_1).f4).length : Int) + (((rd_T26 l0 x7_1).f5).length : Int)))) = true := decide_eq_true c9
         clear c9; obtain rfl := Option.some.inj H
         have p503 : 0 ≤ (x7_1 : Int) := od_
         have q503 : x7_1 < (l0.length : Int) := od_
         obtain ⟨ad503, A503_4, c503_4, A503_5, c503_5, e503, hx503_0, hx503_1, hx503_2, hx503_3, hx503_4, hx503_5, hl503_4, hi503_4, hl503_5, hi503_5⟩ := at_T26 HR0.out x7_1 p503 q503; cases e503
         replace hx503_0 := up_ HB.out hx503_0
         replace hx503_1 := up_ HB.out hx503_1
         replace hx503_2 := up_ HB.out hx503_2
         replace hx503_3 := up_ HB.out hx503_3
         replace hx503_4 := up_ HB.out hx503_4
         replace hx503_5 := up_ HB.out hx503_5
         have HR503_4 := Aside0.mk hi503_4; have HC503_4 := Aside0.mk hl503_4; clear hi503_4 hl503_4; have HR503_5 := Aside0.mk hi503_5; have HC503_5 := Aside0.mk hl503_5; clear hi503_5 hl503_5; replace p503 := eq_true p503; replace q503 := eq_true q503
         go_wp2_with (first | ((with_reducible refine gate_dst (N := 4) rfl ?_); (try (refine gate_guard (by rfl) ?_; dsimp only)); refine box_event ?hg (N := 4) ?hd (cs := #[.int .u64 0, .int .u64 0, .int .u64 0, .int .u64 0, .slice none 0 0, .slice none 0 0]) (t := 26) ?hr ?_; (case hd => rfl); (case hg => rfl); (case hr => first | (go_simp; done) | (go_simp; rfl)); intro gb504 hg w10 hbox hb; have n0_ := Aside0.mk (below_step bl_ hb); have n1_ := Aside0.mk (hbox); have n2_ := Aside0.mk (bsz_ hg : w.heap.size ≤ gb504); have n3_ := Aside0.mk (bsz_ hg : w.heap.size ≤ gb504); clear HB; have HB := n0_; have BK504 := n1_; have GW504 := n2_; have GE504 := n3_; clear n0_ n1_ n2_ n3_; clear hb hbox hg; obtain ⟨hcz11_0, hcz11_1, hcz11_2, hcz11_3, hcz11_4, hcz11_5, hfz11_0, hfz11_1, hfz11_2, hfz11_3, hfz11_4, hfz11_5⟩ := blk6_ BK504.out) | ((with_reducible refine gate_callee (f := 22) rfl ?_); refine goesL_ (some 13) rfl rfl Try.func22 (by kernel_rfl) rfl #[.slice A503_4 ((rd_T26 l0 x7_1).f4).length c503_4] rfl sa_ ?_; (with_reducible refine (conductorlaw09_Few.calls k1 _ _ ((rd_T26 l0 x7_1).f4) true _ ?side1 ?side2 A5.out).mono ?_); (case side1 => exact Kd.C_below HR503_4.out bl_); (case side2 => exact HC503_4.out); rintro e w12 ⟨rfl, hb⟩; refine ⟨_, rfl, ?_⟩; have n0_ := Aside0.mk (blk_below (g := gb504) (o := .cells #[.int .u64 ((rd_T26 l0 x7_1).f0), .int .u64 ((rd_T26 l0 x7_1).f1), .int .u64 ((rd_T26 l0 x7_1).f2), .int .u64 ((rd_T26 l0 x7_1).f3), .slice A503_4 ((rd_T26 l0 x7_1).f4).length c503_4, .slice A503_5 ((rd_T26 l0 x7_1).f5).length c503_5] 26 (0, 0)) (by (with_reducible repeat (first | refine blk_drewN ?_ _ | refine blk_drew ?_ | refine blk_alloc ?_ _)); refine blk_put (cs := #[.int .u64 ((rd_T26 l0 x7_1).f0), .int .u64 ((rd_T26 l0 x7_1).f1), .int .u64 ((rd_T26 l0 x7_1).f2), .int .u64 ((rd_T26 l0 x7_1).f3), .slice A503_4 ((rd_T26 l0 x7_1).f4).length c503_4, .slice none 0 0]) ?_ 5 _ rfl; refine blk_put (cs := #[.int .u64 ((rd_T26 l0 x7_1).f0), .int .u64 ((rd_T26 l0 x7_1).f1), .int .u64 ((rd_T26 l0 x7_1).f2), .int .u64 ((rd_T26 l0 x7_1).f3), .slice none 0 0, .slice none 0 0]) ?_ 4 _ rfl; refine blk_put (cs := #[.int .u64 ((rd_T26 l0 x7_1).f0), .int .u64 ((rd_T26 l0 x7_1).f1), .int .u64 ((rd_T26 l0 x7_1).f2), .int .u64 0, .slice none 0 0, .slice none 0 0]) ?_ 3 _ rfl; refine blk_put (cs := #[.int .u64 ((rd_T26 l0 x7_1).f0), .int .u64 ((rd_T26 l0 x7_1).f1), .int .u64 0, .int .u64 0, .slice none 0 0, .slice none 0 0]) ?_ 2 _ rfl; refine blk_put (cs := #[.int .u64 ((rd_T26 l0 x7_1).f0), .int .u64 0, .int .u64 0, .int .u64 0, .slice none 0 0, .slice none 0 0]) ?_ 1 _ rfl; refine blk_put (cs := #[.int .u64 0, .int .u64 0, .int .u64 0, .int .u64 0, .slice none 0 0, .slice none 0 0]) ?_ 0 _ rfl; exact BK504.out) hb); have n1_ := Aside0.mk (below_step bl_ hb); clear BK504; clear HB; have BK504 := n0_; have HB := n1_; clear n0_ n1_; (try clear hb); (try clear hb2); (try clear hk); (try clear hi); obtain ⟨hcz13_0, hcz13_1, hcz13_2, hcz13_3, hcz13_4, hcz13_5, hfz13_0, hfz13_1, hfz13_2, hfz13_3, hfz13_4, hfz13_5⟩ := blk6_ BK504.out) | (go_at_call 22; (with_reducible refine (conductorlaw09_Few.calls k1 _ _ ((rd_T26 l0 x7_1).f5) true _ ?side1 ?side2 A7.out).mono ?_); (case side1 => exact (Kd.C_below HR503_5.out HB.out)); (case side2 => exact HC503_5.out); rintro e w14 ⟨rfl, hb⟩; have n0_ := Aside0.mk (blk_below (g := gb504) (o := .cells #[.int .u64 ((rd_T26 l0 x7_1).f0), .int .u64 ((rd_T26 l0 x7_1).f1), .int .u64 ((rd_T26 l0 x7_1).f2), .int .u64 ((rd_T26 l0 x7_1).f3), .slice A503_4 ((rd_T26 l0 x7_1).f4).length c503_4, .slice A503_5 ((rd_T26 l0 x7_1).f5).length c503_5] 26 (0, 0)) (by (with_reducible repeat (first | refine blk_drewN ?_ _ | refine blk_drew ?_ | refine blk_alloc ?_ _)); exact BK504.out) hb); have n1_ := Aside0.mk (below_step bl_ hb); clear BK504; clear HB; have BK504 := n0_; have HB := n1_; clear n0_ n1_; (try clear hb); (try clear hb2); (try clear hk); (try clear hi); obtain ⟨hcz15_0, hcz15_1, hcz15_2, hcz15_3, hcz15_4, hcz15_5, hfz15_0, hfz15_1, hfz15_2, hfz15_3, hfz15_4, hfz15_5⟩ := blk6_ BK504.out))
         go_ret
         exact ⟨by first | rfl | (simp [errW_none, errW_some] <;> rfl) | (simp [*, errW_none, errW_some] <;> rfl), bl_⟩
        ·rw [if_neg c9] at H
         have c9b0 : decide (20 < (wrap64 ((((rd_T26 l0 x7_1).f4).length : Int) + (((rd_T26 l0 x7_1).f5).length : Int)))) = false := decide_eq_false c9
         clear c9; have H' := Aside0.mk H; clear H
         have p503 : 0 ≤ (x7_1 : Int) := od_
         have q503 : x7_1 < (l0.length : Int) := od_
         obtain ⟨ad503, A503_4, c503_4, A503_5, c503_5, e503, hx503_0, hx503_1, hx503_2, hx503_3, hx503_4, hx503_5, hl503_4, hi503_4, hl503_5, hi503_5⟩ := at_T26 HR0.out x7_1 p503 q503; cases e503
         replace hx503_0 := up_ HB.out hx503_0
         replace hx503_1 := up_ HB.out hx503_1
         replace hx503_2 := up_ HB.out hx503_2
         replace hx503_3 := up_ HB.out hx503_3
         replace hx503_4 := up_ HB.out hx503_4
         replace hx503_5 := up_ HB.out hx503_5
         have HR503_4 := Aside0.mk hi503_4; have HC503_4 := Aside0.mk hl503_4; clear hi503_4 hl503_4; have HR503_5 := Aside0.mk hi503_5; have HC503_5 := Aside0.mk hl503_5; clear hi503_5 hl503_5; replace p503 := eq_true p503; replace q503 := eq_true q503
         go_wp2_with (first | ((with_reducible refine gate_dst (N := 4) rfl ?_); (try (refine gate_guard (by rfl) ?_; dsimp only)); refine box_event ?hg (N := 4) ?hd (cs := #[.int .u64 0, .int .u64 0, .int .u64 0, .int .u64 0, .slice none 0 0, .slice none 0 0]) (t := 26) ?hr ?_; (case hd => rfl); (case hg => rfl); (case hr => first | (go_simp; done) | (go_simp; rfl)); intro gb504 hg w16 hbox hb; have n0_ := Aside0.mk (below_step bl_ hb); have n1_ := Aside0.mk (hbox); have n2_ := Aside0.mk (bsz_ hg : w.heap.size ≤ gb504); have n3_ := Aside0.mk (bsz_ hg : w.heap.size ≤ gb504); clear HB; have HB := n0_; have BK504 := n1_; have GW504 := n2_; have GE504 := n3_; clear n0_ n1_ n2_ n3_; clear hb hbox hg; obtain ⟨hcz17_0, hcz17_1, hcz17_2, hcz17_3, hcz17_4, hcz17_5, hfz17_0, hfz17_1, hfz17_2, hfz17_3, hfz17_4, hfz17_5⟩ := blk6_ BK504.out) | ((with_reducible refine gate_callee (f := 22) rfl ?_); refine goesL_ (some 13) rfl rfl Try.func22 (by kernel_rfl) rfl #[.slice A503_4 ((rd_T26 l0 x7_1).f4).length c503_4] rfl sa_ ?_; (with_reducible refine (conductorlaw09_Few.calls k1 _ _ ((rd_T26 l0 x7_1).f4) true _ ?side1 ?side2 A5.out).mono ?_); (case side1 => exact Kd.C_below HR503_4.out bl_); (case side2 => exact HC503_4.out); rintro e w18 ⟨rfl, hb⟩; refine ⟨_, rfl, ?_⟩; have n0_ := Aside0.mk (blk_below (g := gb504) (o := .cells #[.int .u64 ((rd_T26 l0 x7_1).f0), .int .u64 ((rd_T26 l0 x7_1).f1), .int .u64 ((rd_T26 l0 x7_1).f2), .int .u64 ((rd_T26 l0 x7_1).f3), .slice A503_4 ((rd_T26 l0 x7_1).f4).length c503_4, .slice A503_5 ((rd_T26 l0 x7_1).f5).length c503_5] 26 (0, 0)) (by (with_reducible repeat (first | refine blk_drewN ?_ _ | refine blk_drew ?_ | refine blk_alloc ?_ _)); refine blk_put (cs := #[.int .u64 ((rd_T26 l0 x7_1).f0), .int .u64 ((rd_T26 l0 x7_1).f1), .int .u64 ((rd_T26 l0 x7_1).f2), .int .u64 ((rd_T26 l0 x7_1).f3), .slice A503_4 ((rd_T26 l0 x7_1).f4).length c503_4, .slice none 0 0]) ?_ 5 _ rfl; refine blk_put (cs := #[.int .u64 ((rd_T26 l0 x7_1).f0), .int .u64 ((rd_T26 l0 x7_1).f1), .int .u64 ((rd_T26 l0 x7_1).f2), .int .u64 ((rd_T26 l0 x7_1).f3), .slice none 0 0, .slice none 0 0]) ?_ 4 _ rfl; refine blk_put (cs := #[.int .u64 ((rd_T26 l0 x7_1).f0), .int .u64 ((rd_T26 l0 x7_1).f1), .int .u64 ((rd_T26 l0 x7_1).f2), .int .u64 0, .slice none 0 0, .slice none 0 0]) ?_ 3 _ rfl; refine blk_put (cs := #[.int .u64 ((rd_T26 l0 x7_1).f0), .int .u64 ((rd_T26 l0 x7_1).f1), .int .u64 0, .int .u64 0, .slice none 0 0, .slice none 0 0]) ?_ 2 _ rfl; refine blk_put (cs := #[.int .u64 ((rd_T26 l0 x7_1).f0), .int .u64 0, .int .u64 0, .int .u64 0, .slice none 0 0, .slice none 0 0]) ?_ 1 _ rfl; refine blk_put (cs := #[.int .u64 0, .int .u64 0, .int .u64 0, .int .u64 0, .slice none 0 0, .slice none 0 0]) ?_ 0 _ rfl; exact BK504.out) hb); have n1_ := Aside0.mk (below_step bl_ hb); clear BK504; clear HB; have BK504 := n0_; have HB := n1_; clear n0_ n1_; (try clear hb); (try clear hb2); (try clear hk); (try clear hi); obtain ⟨hcz19_0, hcz19_1, hcz19_2, hcz19_3, hcz19_4, hcz19_5, hfz19_0, hfz19_1, hfz19_2, hfz19_3, hfz19_4, hfz19_5⟩ := blk6_ BK504.out) | (go_at_call 22; (with_reducible refine (conductorlaw09_Few.calls k1 _ _ ((rd_T26 l0 x7_1).f5) true _ ?side1 ?side2 A7.out).mono ?_); (case side1 => exact (Kd.C_below HR503_5.out HB.out)); (case side2 => exact HC503_5.out); rintro e w20 ⟨rfl, hb⟩; have n0_ := Aside0.mk (blk_below (g := gb504) (o := .cells #[.int .u64 ((rd_T26 l0 x7_1).f0), .int .u64 ((rd_T26 l0 x7_1).f1), .int .u64 ((rd_T26 l0 x7_1).f2), .int .u64 ((rd_T26 l0 x7_1).f3), .slice A503_4 ((rd_T26 l0 x7_1).f4).length c503_4, .slice A503_5 ((rd_T26 l0 x7_1).f5).length c503_5] 26 (0, 0)) (by (with_reducible repeat (first | refine blk_drewN ?_ _ | refine blk_drew ?_ | refine blk_alloc ?_ _)); exact BK504.out) hb); have n1_ := Aside0.mk (below_step bl_ hb); clear BK504; clear HB; have BK504 := n0_; have HB := n1_; clear n0_ n1_; (try clear hb); (try clear hb2); (try clear hk); (try clear hi); obtain ⟨hcz21_0, hcz21_1, hcz21_2, hcz21_3, hcz21_4, hcz21_5, hfz21_0, hfz21_1, hfz21_2, hfz21_3, hfz21_4, hfz21_5⟩ := blk6_ BK504.out))
         go_roundg k1
         case measure => have := HK1.out; omega
         case rel => exact ⟨(wrap64 (x7_1 + 1)), (by first | rfl | (simp; done) | (simp [*]; done)), H', ⟨by have := HK1.out; omega⟩, ⟨bl_⟩⟩
       ·replace c8 := Bool.eq_false_iff.mpr c8
        subst c8
        have H1 : (some false) = some r := by rw [if_neg (show ¬ (false = true) by decide)] at H; exact H
        clear H; have H := H1; clear H1; obtain rfl := Option.some.inj H
        have p503 : 0 ≤ (x7_1 : Int) := od_
        have q503 : x7_1 < (l0.length : Int) := od_
        obtain ⟨ad503, A503_4, c503_4, A503_5, c503_5, e503, hx503_0, hx503_1, hx503_2, hx503_3, hx503_4, hx503_5, hl503_4, hi503_4, hl503_5, hi503_5⟩ := at_T26 HR0.out x7_1 p503 q503; cases e503
        replace hx503_0 := up_ HB.out hx503_0
        replace hx503_1 := up_ HB.out hx503_1
        replace hx503_2 := up_ HB.out hx503_2
        replace hx503_3 := up_ HB.out hx503_3
        replace hx503_4 := up_ HB.out hx503_4
        replace hx503_5 := up_ HB.out hx503_5
        have HR503_4 := Aside0.mk hi503_4; have HC503_4 := Aside0.mk hl503_4; clear hi503_4 hl503_4; have HR503_5 := Aside0.mk hi503_5; have HC503_5 := Aside0.mk hl503_5; clear hi503_5 hl503_5; replace p503 := eq_true p503; replace q503 := eq_true q503
        go_wp2_with (first | ((with_reducible refine gate_dst (N := 4) rfl ?_); (try (refine gate_guard (by rfl) ?_; dsimp only)); refine box_event ?hg (N := 4) ?hd (cs := #[.int .u64 0, .int .u64 0, .int .u64 0, .int .u64 0, .slice none 0 0, .slice none 0 0]) (t := 26) ?hr ?_; (case hd => rfl); (case hg => rfl); (case hr => first | (go_simp; done) | (go_simp; rfl)); intro gb504 hg w22 hbox hb; have n0_ := Aside0.mk (below_step bl_ hb); have n1_ := Aside0.mk (hbox); have n2_ := Aside0.mk (bsz_ hg : w.heap.size ≤ gb504); have n3_ := Aside0.mk (bsz_ hg : w.heap.size ≤ gb504); clear HB; have HB := n0_; have BK504 := n1_; have GW504 := n2_; have GE504 := n3_; clear n0_ n1_ n2_ n3_; clear hb hbox hg; obtain ⟨hcz23_0, hcz23_1, hcz23_2, hcz23_3, hcz23_4, hcz23_5, hfz23_0, hfz23_1, hfz23_2, hfz23_3, hfz23_4, hfz23_5⟩ := blk6_ BK504.out) | ((with_reducible refine gate_callee (f := 22) rfl ?_); refine goesL_ (some 13) rfl rfl Try.func22 (by kernel_rfl) rfl #[.slice A503_4 ((rd_T26 l0 x7_1).f4).length c503_4] rfl sa_ ?_; (with_reducible refine (conductorlaw09_Few.calls k1 _ _ ((rd_T26 l0 x7_1).f4) true _ ?side1 ?side2 A5.out).mono ?_); (case side1 => exact Kd.C_below HR503_4.out bl_); (case side2 => exact HC503_4.out); rintro e w24 ⟨rfl, hb⟩; refine ⟨_, rfl, ?_⟩; have n0_ := Aside0.mk (blk_below (g := gb504) (o := .cells #[.int .u64 ((rd_T26 l0 x7_1).f0), .int .u64 ((rd_T26 l0 x7_1).f1), .int .u64 ((rd_T26 l0 x7_1).f2), .int .u64 ((rd_T26 l0 x7_1).f3), .slice A503_4 ((rd_T26 l0 x7_1).f4).length c503_4, .slice A503_5 ((rd_T26 l0 x7_1).f5).length c503_5] 26 (0, 0)) (by (with_reducible repeat (first | refine blk_drewN ?_ _ | refine blk_drew ?_ | refine blk_alloc ?_ _)); refine blk_put (cs := #[.int .u64 ((rd_T26 l0 x7_1).f0), .int .u64 ((rd_T26 l0 x7_1).f1), .int .u64 ((rd_T26 l0 x7_1).f2), .int .u64 ((rd_T26 l0 x7_1).f3), .slice A503_4 ((rd_T26 l0 x7_1).f4).length c503_4, .slice none 0 0]) ?_ 5 _ rfl; refine blk_put (cs := #[.int .u64 ((rd_T26 l0 x7_1).f0), .int .u64 ((rd_T26 l0 x7_1).f1), .int .u64 ((rd_T26 l0 x7_1).f2), .int .u64 ((rd_T26 l0 x7_1).f3), .slice none 0 0, .slice none 0 0]) ?_ 4 _ rfl; refine blk_put (cs := #[.int .u64 ((rd_T26 l0 x7_1).f0), .int .u64 ((rd_T26 l0 x7_1).f1), .int .u64 ((rd_T26 l0 x7_1).f2), .int .u64 0, .slice none 0 0, .slice none 0 0]) ?_ 3 _ rfl; refine blk_put (cs := #[.int .u64 ((rd_T26 l0 x7_1).f0), .int .u64 ((rd_T26 l0 x7_1).f1), .int .u64 0, .int .u64 0, .slice none 0 0, .slice none 0 0]) ?_ 2 _ rfl; refine blk_put (cs := #[.int .u64 ((rd_T26 l0 x7_1).f0), .int .u64 0, .int .u64 0, .int .u64 0, .slice none 0 0, .slice none 0 0]) ?_ 1 _ rfl; refine blk_put (cs := #[.int .u64 0, .int .u64 0, .int .u64 0, .int .u64 0, .slice none 0 0, .slice none 0 0]) ?_ 0 _ rfl; exact BK504.out) hb); have n1_ := Aside0.mk (below_step bl_ hb); clear BK504; clear HB; have BK504 := n0_; have HB := n1_; clear n0_ n1_; (try clear hb); (try clear hb2); (try clear hk); (try clear hi); obtain ⟨hcz25_0, hcz25_1, hcz25_2, hcz25_3, hcz25_4, hcz25_5, hfz25_0, hfz25_1, hfz25_2, hfz25_3, hfz25_4, hfz25_5⟩ := blk6_ BK504.out) | (go_at_call 22; (with_reducible refine (conductorlaw09_Few.calls k1 _ _ ((rd_T26 l0 x7_1).f5) false _ ?side1 ?side2 A7.out).mono ?_); (case side1 => exact (Kd.C_below HR503_5.out HB.out)); (case side2 => exact HC503_5.out); rintro e w26 ⟨rfl, hb⟩; have n0_ := Aside0.mk (blk_below (g := gb504) (o := .cells #[.int .u64 ((rd_T26 l0 x7_1).f0), .int .u64 ((rd_T26 l0 x7_1).f1), .int .u64 ((rd_T26 l0 x7_1).f2), .int .u64 ((rd_T26 l0 x7_1).f3), .slice A503_4 ((rd_T26 l0 x7_1).f4).length c503_4, .slice A503_5 ((rd_T26 l0 x7_1).f5).length c503_5] 26 (0, 0)) (by (with_reducible repeat (first | refine blk_drewN ?_ _ | refine blk_drew ?_ | refine blk_alloc ?_ _)); exact BK504.out) hb); have n1_ := Aside0.mk (below_step bl_ hb); clear BK504; clear HB; have BK504 := n0_; have HB := n1_; clear n0_ n1_; (try clear hb); (try clear hb2); (try clear hk); (try clear hi)))
        go_ret
        exact ⟨by first | rfl | (simp [errW_none, errW_some] <;> rfl) | (simp [*, errW_none, errW_some] <;> rfl), bl_⟩
      ·replace c6 := Bool.eq_false_iff.mpr c6
       subst c6
       have H1 : (some false) = some r := by rw [if_neg (show ¬ (false = true) by decide)] at H; exact H
       clear H; have H := H1; clear H1; obtain rfl := Option.some.inj H
       have p503 : 0 ≤ (x7_1 : Int) := od_
       have q503 : x7_1 < (l0.length : Int) := od_
       obtain ⟨ad503, A503_4, c503_4, A503_5, c503_5, e503, hx503_0, hx503_1, hx503_2, hx503_3, hx503_4, hx503_5, hl503_4, hi503_4, hl503_5, hi503_5⟩ := at_T26 HR0.out x7_1 p503 q503; cases e503
       replace hx503_0 := up_ HB.out hx503_0
       replace hx503_1 := up_ HB.out hx503_1
       replace hx503_2 := up_ HB.out hx503_2
       replace hx503_3 := up_ HB.out hx503_3
       replace hx503_4 := up_ HB.out hx503_4
       replace hx503_5 := up_ HB.out hx503_5
       have HR503_4 := Aside0.mk hi503_4; have HC503_4 := Aside0.mk hl503_4; clear hi503_4 hl503_4; have HR503_5 := Aside0.mk hi503_5; have HC503_5 := Aside0.mk hl503_5; clear hi503_5 hl503_5; replace p503 := eq_true p503; replace q503 := eq_true q503
       go_wp2_with (first | ((with_reducible refine gate_dst (N := 4) rfl ?_); (try (refine gate_guard (by rfl) ?_; dsimp only)); refine box_event ?hg (N := 4) ?hd (cs := #[.int .u64 0, .int .u64 0, .int .u64 0, .int .u64 0, .slice none 0 0, .slice none 0 0]) (t := 26) ?hr ?_; (case hd => rfl); (case hg => rfl); (case hr => first | (go_simp; done) | (go_simp; rfl)); intro gb504 hg w27 hbox hb; have n0_ := Aside0.mk (below_step bl_ hb); have n1_ := Aside0.mk (hbox); have n2_ := Aside0.mk (bsz_ hg : w.heap.size ≤ gb504); have n3_ := Aside0.mk (bsz_ hg : w.heap.size ≤ gb504); clear HB; have HB := n0_; have BK504 := n1_; have GW504 := n2_; have GE504 := n3_; clear n0_ n1_ n2_ n3_; clear hb hbox hg; obtain ⟨hcz28_0, hcz28_1, hcz28_2, hcz28_3, hcz28_4, hcz28_5, hfz28_0, hfz28_1, hfz28_2, hfz28_3, hfz28_4, hfz28_5⟩ := blk6_ BK504.out) | ((with_reducible refine gate_callee (f := 22) rfl ?_); refine goesL_ (some 13) rfl rfl Try.func22 (by kernel_rfl) rfl #[.slice A503_4 ((rd_T26 l0 x7_1).f4).length c503_4] rfl sa_ ?_; (with_reducible refine (conductorlaw09_Few.calls k1 _ _ ((rd_T26 l0 x7_1).f4) false _ ?side1 ?side2 A5.out).mono ?_); (case side1 => exact Kd.C_below HR503_4.out bl_); (case side2 => exact HC503_4.out); rintro e w29 ⟨rfl, hb⟩; refine ⟨_, rfl, ?_⟩; have n0_ := Aside0.mk (blk_below (g := gb504) (o := .cells #[.int .u64 ((rd_T26 l0 x7_1).f0), .int .u64 ((rd_T26 l0 x7_1).f1), .int .u64 ((rd_T26 l0 x7_1).f2), .int .u64 ((rd_T26 l0 x7_1).f3), .slice A503_4 ((rd_T26 l0 x7_1).f4).length c503_4, .slice A503_5 ((rd_T26 l0 x7_1).f5).length c503_5] 26 (0, 0)) (by (with_reducible repeat (first | refine blk_drewN ?_ _ | refine blk_drew ?_ | refine blk_alloc ?_ _)); refine blk_put (cs := #[.int .u64 ((rd_T26 l0 x7_1).f0), .int .u64 ((rd_T26 l0 x7_1).f1), .int .u64 ((rd_T26 l0 x7_1).f2), .int .u64 ((rd_T26 l0 x7_1).f3), .slice A503_4 ((rd_T26 l0 x7_1).f4).length c503_4, .slice none 0 0]) ?_ 5 _ rfl; refine blk_put (cs := #[.int .u64 ((rd_T26 l0 x7_1).f0), .int .u64 ((rd_T26 l0 x7_1).f1), .int .u64 ((rd_T26 l0 x7_1).f2), .int .u64 ((rd_T26 l0 x7_1).f3), .slice none 0 0, .slice none 0 0]) ?_ 4 _ rfl; refine blk_put (cs := #[.int .u64 ((rd_T26 l0 x7_1).f0), .int .u64 ((rd_T26 l0 x7_1).f1), .int .u64 ((rd_T26 l0 x7_1).f2), .int .u64 0, .slice none 0 0, .slice none 0 0]) ?_ 3 _ rfl; refine blk_put (cs := #[.int .u64 ((rd_T26 l0 x7_1).f0), .int .u64 ((rd_T26 l0 x7_1).f1), .int .u64 0, .int .u64 0, .slice none 0 0, .slice none 0 0]) ?_ 2 _ rfl; refine blk_put (cs := #[.int .u64 ((rd_T26 l0 x7_1).f0), .int .u64 0, .int .u64 0, .int .u64 0, .slice none 0 0, .slice none 0 0]) ?_ 1 _ rfl; refine blk_put (cs := #[.int .u64 0, .int .u64 0, .int .u64 0, .int .u64 0, .slice none 0 0, .slice none 0 0]) ?_ 0 _ rfl; exact BK504.out) hb); have n1_ := Aside0.mk (below_step bl_ hb); clear BK504; clear HB; have BK504 := n0_; have HB := n1_; clear n0_ n1_; (try clear hb); (try clear hb2); (try clear hk); (try clear hi)))
       go_ret
       exact ⟨by first | rfl | (simp [errW_none, errW_some] <;> rfl) | (simp [*, errW_none, errW_some] <;> rfl), bl_⟩
     ·rw [if_neg c4] at H
      exact absurd H (by simp)
    ·rw [if_neg c3] at H
     exact absurd H (by simp)
   ·rw [if_neg c2] at H
    have c2b0 : decide (x7_1 < (l0.length : Int)) = false := decide_eq_false c2
    clear c2; obtain rfl := Option.some.inj H
    go_wp2
    go_ret
    exact ⟨by first | rfl | (simp [errW_none, errW_some] <;> rfl) | (simp [*, errW_none, errW_some] <;> rfl), bl_⟩
def api_Span_58.f (l0 : List S41) : Option (List S41) := if l0.length < 4398046511104 then some l0 else none
set_option maxHeartbeats 1000000 in
theorem api_Span_58.calls (A0 : Option Addr) (c0 : Nat) (l0 : List S41) (r : List S41) (w : World) (hr0 : Kd.C k41 w A0 l0.length l0) (hc0 : l0.length ≤ c0) (h : api_Span_58.f l0 = some r) :
  Calls Try.prog 58 #[.slice A0 l0.length c0] w fun e w' => ∃ v0_ : Value, e = .returned (v0_) ∧ Kd.R k41 41 w' w.heap.size (fun _ => True) v0_ r ∧ Below w.heap.size w w' := by
 unfold api_Span_58.f at h
 by_cases hl : l0.length < 4398046511104
 ·rw [if_pos hl] at h
  obtain rfl := Option.some.inj h; have HL := Aside0.mk hl; clear h hl
  cases A0 with
  | none =>
   have hn : l0 = [] := by
    cases l0 with
    | nil => rfl
    | cons x t => have := hr0.2.2 (by simp); obtain ⟨ad, h1, _⟩ := this; cases h1
   subst hn; have HR := Aside0.mk hr0; clear hr0
   have heq := fun W => Lib.run_eql_slice_nil (P := Try.prog) W 24 41 (none : Option Addr) 0 c0 0 0 Try.underlying24
   go_enter Try.func58, Try.ntmps58
   go_wp2
   go_ret
   exact ⟨_, rfl, Kd.R_nil _ _ _ _ _, Below.refl _ _⟩
  | some ad =>
   have HR := Aside0.mk hr0; have HC := Aside0.mk hc0
   have heq := fun W => Lib.run_eql_slice_nil (P := Try.prog) W 24 41 (some ad) l0.length c0 0 0 Try.underlying24
   clear hr0 hc0
   go_enter Try.func58, Try.ntmps58
   go_wp2_with (first
    | ((with_reducible refine gate_dst (N := 5) rfl ?_); refine Kd.R_lit k41 _ 41 ?hg (N := 5) ?hd (xs := ([] : List S41)) (inner := []) (ok := fun _ => True) (okp := fun _ => True) ?hr ?hp (fun _ hk => hk) trivial (Below.refl w.heap.size w) (Nat.le_refl _) (by simp) ?_; (case hd => rfl); (case hg => rfl); (case hr => first | (go_simp; done) | (go_simp; rfl)); (case hp => exact Reps.none _ _); intro v1 w1 ho1 hb1 hg_ hnew_; clear hg_ hnew_; have HO1 := Aside0.mk ho1; have HB1 := Aside0.mk hb1; clear ho1 hb1)
    | ((with_reducible refine gate_builtin (b := .append) (xs := #[.tmp 5, .tmp 6]) rfl ?_); at_builtin; refine Kd.R_append_rows k41 (Rr := k41.K w1) (w0 := w) w.heap.size rfl (.tmp 5) (.tmp 6) 24 41 (.agg #[(.string ⟨#[]⟩), (.string ⟨#[]⟩)]) 32 rfl Try.underlying24 info41 rfl (by decide) (by omega) v1 [] l0 _ _ _ (fun _ => True) (fun _ => False) rfl rfl ?aO ?aR (fun x cs hh => (k41_open hh) ▸ k41_mkM _ _ _ x) (fun _ h => h.elim) ?aF ?aB ?aS ?aL ?_; (case aR => exact (Kd.C_below HR.out HB1.out)); (case aF => exact (fun _ _ => trivial)); (case aO => exact HO1.out); (case aB => exact HB1.out); (case aS => exact HB1.out.size); (case aL => have := HL.out; simp only [List.length_nil]; omega); intro v2 w2 ho2 hb2 hg_ hnew_; clear hg_ hnew_; have HO2 := Aside0.mk ho2; have HB2 := Aside0.mk hb2; clear ho2 hb2))
   go_ret
   exact ⟨_, rfl, HO2.out, HB2.out⟩
 ·rw [if_neg hl] at h; cases h
def ssi_own.f (a0_0 : Int) (a0_1 : Int) (a0_2 : Int) (a0_3 : Int) (l0_4 : List (S41)) (l0_5 : List (S41)) : Option (Int × Int × Int × Int × (List (S41)) × (List (S41))) := (api_Span_58.f l0_4).bind fun t560 => ((api_Span_58.f l0_5).bind fun t563 => (some (a0_0, a0_1, a0_2, a0_3, t560, t563)))
def ssi_own.T1 : Bool × List (List Nat × List Nat) := (true, [([], []), ([0], [0]), ([1], [1]), ([], []), ([3], [3]), ([4, 2], [4]), ([0, 1, 2, 3, 4], []), ([6, 2, 5, 0, 1, 2, 3, 4], [2, 6]), ([0, 1, 2, 3, 4, 5, 6, 7], []), ([8, 5, 7, 0, 1, 2, 3, 4, 5, 6, 7], [5, 8])])
def ssi_own.B1 : List Nat := [0, 1, 3, 0, 8, 31, 31, 127, 255, 511]
theorem ssi_own.tab1 : rtab .any (opsOf Try.f57 1) = ssi_own.T1 := by kernel_rfl
theorem ssi_own.bits1 : waitsOk ssi_own.T1.2 ssi_own.B1 = true := by kernel_rfl
set_option maxHeartbeats 8000000 in
set_option maxRecDepth 100000 in
theorem ssi_own.calls (a0_0 : Int) (a0_1 : Int) (a0_2 : Int) (a0_3 : Int) (A0_4 : Option Addr) (c0_4 : Nat) (l0_4 : List (S41)) (A0_5 : Option Addr) (c0_5 : Nat) (l0_5 : List (S41)) (r1 : Int) (r2 : Int) (r3 : Int) (r4 : Int) (r5 : List (S41)) (r6 : List (S41)) (w : World) (hr0_4 : Kd.C k41 w A0_4 l0_4.length l0_4) (hc0_4 : l0_4.length ≤ c0_4) (hr0_5 : Kd.C k41 w A0_5 l0_5.length l0_5) (hc0_5 : l0_5.length ≤ c0_5) (h : ssi_own.f a0_0 a0_1 a0_2 a0_3 l0_4 l0_5 = some (r1, r2, r3, r4, r5, r6)) :
  Calls Try.prog 57 #[.agg #[.int .u64 a0_0, .int .u64 a0_1, .int .u64 a0_2, .int .u64 a0_3, .slice A0_4 l0_4.length c0_4, .slice A0_5 l0_5.length c0_5]] w fun e w' => ∃ v4_ v5_ : Value, e = .returned (.agg #[.int .u64 r1, .int .u64 r2, .int .u64 r3, .int .u64 r4, v4_, v5_]) ∧ Kd.R k41 41 w' w.heap.size (fun k_ => some k_ ≠ (v5_ : Value).ownBlock) v4_ r5 ∧ Kd.R k41 41 w' w.heap.size (fun k_ => some k_ ≠ (v4_ : Value).ownBlock) v5_ r6 ∧ Below w.heap.size w w' := by
 have hu26 := Try.underlying26
 have HR0_4 := Aside0.mk hr0_4; have HC0_4 := Aside0.mk hc0_4; clear hr0_4 hc0_4; have HR0_5 := Aside0.mk hr0_5; have HC0_5 := Aside0.mk hc0_5; clear hr0_5 hc0_5
 have HB := Aside0.mk (Below.refl w.heap.size w)
 have H : ((api_Span_58.f l0_4).bind fun t560 => ((api_Span_58.f l0_5).bind fun t563 => (some (a0_0, a0_1, a0_2, a0_3, t560, t563)))) = some (r1, r2, r3, r4, r5, r6) := h
 clear h; replace H := Option.bind_eq_some_iff.mp H; obtain ⟨t560, A20, H⟩ := H
 replace H : ((api_Span_58.f l0_5).bind fun t563 => (some (a0_0, a0_1, a0_2, a0_3, t560, t563))) = some (r1, r2, r3, r4, r5, r6) := H
 have A2 := Aside0.mk A20; clear A20; replace H := Option.bind_eq_some_iff.mp H; obtain ⟨t563, A30, H⟩ := H
 replace H : (some (a0_0, a0_1, a0_2, a0_3, t560, t563)) = some (r1, r2, r3, r4, r5, r6) := H
 have A3 := Aside0.mk A30; clear A30
 simp only [Option.some.injEq, Prod.mk.injEq] at H
 obtain ⟨rfl, rfl, rfl, rfl, rfl, rfl⟩ := H
 go_enter Try.func57, Try.ntmps57
 try go_wp2_with (first | ((with_reducible refine gate_dst (N := 1) rfl ?_); refine box_event ?hg (N := 1) ?hd (cs := #[.int .u64 a0_0, .int .u64 a0_1, .int .u64 a0_2, .int .u64 a0_3, .slice A0_4 l0_4.length c0_4, .slice A0_5 l0_5.length c0_5]) (t := 26) ?hr ?_; (case hd => rfl); (case hg => rfl); (case hr => first | (go_simp; done) | (go_simp; rfl)); intro gb558 hg w4 hbox hb; have n0_ := Aside0.mk (below_step bl_ hb); have n1_ := Aside0.mk (hbox); have n2_ := Aside0.mk (bsz_ hg : w.heap.size ≤ gb558); have n3_ := Aside0.mk (bsz_ hg : w.heap.size ≤ gb558); clear HB; have HB := n0_; have BK558 := n1_; have GW558 := n2_; have GE558 := n3_; clear n0_ n1_ n2_ n3_; clear hb hbox hg) | ((with_reducible refine gate_dst (N := 2) rfl ?_); refine box_event ?hg (N := 2) ?hd (cs := #[.int .u64 0, .int .u64 0, .int .u64 0, .int .u64 0, .slice none 0 0, .slice none 0 0]) (t := 26) ?hr ?_; (case hd => rfl); (case hg => rfl); (case hr => first | (go_simp; done) | (go_simp; rfl)); intro gb559 hg w5 hbox hb; have n0_ := Aside0.mk (blk_below (g := gb558) (o := .cells #[.int .u64 a0_0, .int .u64 a0_1, .int .u64 a0_2, .int .u64 a0_3, .slice A0_4 l0_4.length c0_4, .slice A0_5 l0_5.length c0_5] 26 (0, 0)) (by (with_reducible repeat (first | refine blk_drewN ?_ _ | refine blk_drew ?_ | refine blk_alloc ?_ _)); exact BK558.out) hb); have n1_ := Aside0.mk (below_step bl_ hb); have n2_ := Aside0.mk (hbox); have n3_ := Aside0.mk (bsz_ hg : w.heap.size ≤ gb559); have n4_ := Aside0.mk (bsz_ hg : w.heap.size ≤ gb559); have n5_ := Aside0.mk ((by rw [hg]; exact Nat.ne_of_lt (blk_lt (g := gb558) (o := .cells #[.int .u64 a0_0, .int .u64 a0_1, .int .u64 a0_2, .int .u64 a0_3, .slice A0_4 l0_4.length c0_4, .slice A0_5 l0_5.length c0_5] 26 (0, 0)) (by (with_reducible repeat (first | refine blk_drewN ?_ _ | refine blk_drew ?_ | refine blk_alloc ?_ _)); exact BK558.out)) : gb558 ≠ gb559)); have n6_ := Aside0.mk ((by rw [hg]; exact Nat.ne_of_gt (blk_lt (g := gb558) (o := .cells #[.int .u64 a0_0, .int .u64 a0_1, .int .u64 a0_2, .int .u64 a0_3, .slice A0_4 l0_4.length c0_4, .slice A0_5 l0_5.length c0_5] 26 (0, 0)) (by (with_reducible repeat (first | refine blk_drewN ?_ _ | refine blk_drew ?_ | refine blk_alloc ?_ _)); exact BK558.out)) : gb559 ≠ gb558)); clear BK558; clear HB; have BK558 := n0_; have HB := n1_; have BK559 := n2_; have GW559 := n3_; have GE559 := n4_; have NB558_559 := n5_; have NB559_558 := n6_; clear n0_ n1_ n2_ n3_ n4_ n5_ n6_; clear hb hbox hg))
 have n0_ := Aside0.mk (blk_drew BK558.out)
 have n1_ := Aside0.mk (blk_drew BK559.out)
 have n2_ := Aside0.mk (below_drew1 HB.out)
 clear BK558; clear BK559; clear HB; have BK558 := n0_; have BK559 := n1_; have HB := n2_; clear n0_ n1_ n2_
 refine start_ (n := 10) (S := fun w' => w'.cell? ⟨gb558, 0, none⟩ = some (.int .u64 a0_0) ∧ w'.cell? ⟨gb558, 1, none⟩ = some (.int .u64 a0_1) ∧ w'.cell? ⟨gb558, 2, none⟩ = some (.int .u64 a0_2) ∧ w'.cell? ⟨gb558, 3, none⟩ = some (.int .u64 a0_3) ∧ w'.cell? ⟨gb558, 4, none⟩ = some (.slice A0_4 l0_4.length c0_4) ∧ w'.cell? ⟨gb558, 5, none⟩ = some (.slice A0_5 l0_5.length c0_5)) (ds := [7, 9]) (fst_ 10 0) (by kernel_rfl) rfl rfl ⟨(blk_cell BK558.out 0).trans rfl, (blk_cell BK558.out 1).trans rfl, (blk_cell BK558.out 2).trans rfl, (blk_cell BK558.out 3).trans rfl, (blk_cell BK558.out 4).trans rfl, (blk_cell BK558.out 5).trans rfl⟩ (fun hHeld => ?_); refine with_tabW ssi_own.tab1 ssi_own.bits1 (fun HT_ HW_ => ?_)
 generalize w5.drew = w6 at BK558 BK559 HB hHeld ⊢
 (refine pk_ (v := ?_) (a' := ?_) HT_.out rfl rfl (by kernel_rfl) (fun _ _ _ h => h) (Or.inl ⟨by rfl, ?_⟩) ?_ ?_; rotate_left; (· intro w'; go_simp; with_reducible rfl); rotate_left; (· simp only [Act.put, List.setIfInBounds_toArray, List.set_cons_zero, List.set_cons_succ, i64_w, i32_w]; rfl))
 refine pure_ (i := 3) (N := some 6) (v := ?_) (a' := ?_) #[true, false, false, true, false, false, false, false, false, false] rfl rfl (any_of HT_.out (by kernel_rfl)) (fun _ _ _ h => h) (Or.inl ⟨by rfl, ?_⟩) ?_ ?_
 rotate_left
 ·intro w'
  go_simp
  with_reducible rfl
 rotate_left
 ·simp only [Act.put, List.setIfInBounds_toArray, List.set_cons_zero, List.set_cons_succ, i64_w, i32_w]
  rfl
 refine take_ (i := 1) (N := some 4) (v := ?_) (a' := ?_) #[true, true, false, true, false, false, false, false, false, false] rfl rfl (take_ofW HT_.out HW_.out (by kernel_rfl)) (fun _ _ _ h => h) (Or.inl ⟨by rfl, ?_⟩) hHeld ?_ ?_
 rotate_left
 ·rintro w' ⟨s0, s1, s2, s3, s4, s5⟩
  go_simp
  with_reducible rfl
 rotate_left
 ·simp only [Act.put, List.setIfInBounds_toArray, List.set_cons_zero, List.set_cons_succ, i64_w, i32_w]
  rfl
 refine take_ (i := 4) (N := some 7) (v := ?_) (a' := ?_) #[true, true, false, true, true, false, false, false, false, false] rfl rfl (take_ofW HT_.out HW_.out (by kernel_rfl)) (fun _ _ _ h => h) (Or.inl ⟨by rfl, ?_⟩) hHeld ?_ ?_
 rotate_left
 ·rintro w' ⟨s0, s1, s2, s3, s4, s5⟩
  go_simp
  with_reducible rfl
 rotate_left
 ·simp only [Act.put, List.setIfInBounds_toArray, List.set_cons_zero, List.set_cons_succ, i64_w, i32_w]
  rfl
 refine one_ (i := 2) (N := some 5) (fst_ 10 5) rfl rfl (one_of HT_.out (by kernel_rfl)) (by decide) (fun K hK => ?_)
 refine goes_ Try.func58 (by kernel_rfl) rfl #[.slice A0_4 l0_4.length c0_4] (by rfl) rfl rfl sa_ ?_
 with_reducible refine (api_Span_58.calls _ _ l0_4 t560 _ ?side1 ?side2 A2.out).mono ?_
 (case side1 => exact (Kd.C_below HR0_4.out HB.out))
 (case side2 => exact HC0_4.out)
 rintro e w7 ⟨v561, rfl, ho0, hb⟩
 refine ⟨_, rfl, ?_⟩
 have n0_ := Aside0.mk (Kd.R_lower ho0 (below_size bl_))
 have n1_ := Aside0.mk (blk_below (g := gb558) (o := .cells #[.int .u64 a0_0, .int .u64 a0_1, .int .u64 a0_2, .int .u64 a0_3, .slice A0_4 l0_4.length c0_4, .slice A0_5 l0_5.length c0_5] 26 (0, 0)) (by (with_reducible repeat (first | refine blk_drewN ?_ _ | refine blk_drew ?_ | refine blk_alloc ?_ _)); exact BK558.out) hb)
 have n2_ := Aside0.mk (blk_below (g := gb559) (o := .cells #[.int .u64 0, .int .u64 0, .int .u64 0, .int .u64 0, .slice none 0 0, .slice none 0 0] 26 (0, 0)) (by (with_reducible repeat (first | refine blk_drewN ?_ _ | refine blk_drew ?_ | refine blk_alloc ?_ _)); exact BK559.out) hb)
 have n3_ := Aside0.mk (below_step bl_ hb)
 clear BK558; clear BK559; clear HB; have HO562 := n0_; have BK558 := n1_; have BK559 := n2_; have HB := n3_; clear n0_ n1_ n2_ n3_
 (try clear hb)
 (try clear hb2)
 (try clear hk)
 (try clear hi)
 (try clear ho0)
 refine hK.out _ _ ⟨(blk_cell BK558.out 0).trans rfl, (blk_cell BK558.out 1).trans rfl, (blk_cell BK558.out 2).trans rfl, (blk_cell BK558.out 3).trans rfl, (blk_cell BK558.out 4).trans rfl, (blk_cell BK558.out 5).trans rfl⟩ (fun hHeld => ?_)
 clear hK K; refine norm_ (a' := ?_) ?_ ?_; rotate_left
 ·show Act.put _ (some 5) _ = _
  simp only [Act.put, List.setIfInBounds_toArray, List.set_cons_zero, List.set_cons_succ, i64_w, i32_w]
  rfl
 refine pure_ (i := 6) (N := some 9) (v := ?_) (a' := ?_) #[true, true, true, true, true, false, true, false, false, false] rfl rfl (any_of HT_.out (by kernel_rfl)) (fun _ _ _ h => h) (Or.inl ⟨by rfl, ?_⟩) ?_ ?_
 rotate_left
 ·intro w'
  go_simp
  with_reducible rfl
 rotate_left
 ·simp only [Act.put, List.setIfInBounds_toArray, List.set_cons_zero, List.set_cons_succ, i64_w, i32_w]
  rfl
 refine one_ (i := 5) (N := some 8) (fst_ 10 7) rfl rfl (one_of HT_.out (by kernel_rfl)) (by decide) (fun K hK => ?_)
 refine goes_ Try.func58 (by kernel_rfl) rfl #[.slice A0_5 l0_5.length c0_5] (by rfl) rfl rfl sa_ ?_
 with_reducible refine (api_Span_58.calls _ _ l0_5 t563 _ ?side1 ?side2 A3.out).mono ?_
 (case side1 => exact (Kd.C_below HR0_5.out HB.out))
 (case side2 => exact HC0_5.out)
 rintro e w8 ⟨v564, rfl, ho0, hb⟩
 refine ⟨_, rfl, ?_⟩
 have n0_ := Aside0.mk (Kd.R_elder' (by exact HO562.out) (Kd.R_base ho0) hb)
 have n1_ := Aside0.mk (Kd.R_lower (Kd.R_new' ho0 (Kd.R_lt (by exact HO562.out))) (below_size bl_))
 have n2_ := Aside0.mk (blk_below (g := gb558) (o := .cells #[.int .u64 a0_0, .int .u64 a0_1, .int .u64 a0_2, .int .u64 a0_3, .slice A0_4 l0_4.length c0_4, .slice A0_5 l0_5.length c0_5] 26 (0, 0)) (by (with_reducible repeat (first | refine blk_drewN ?_ _ | refine blk_drew ?_ | refine blk_alloc ?_ _)); exact BK558.out) hb)
 have n3_ := Aside0.mk (blk_below (g := gb559) (o := .cells #[.int .u64 0, .int .u64 0, .int .u64 0, .int .u64 0, .slice none 0 0, .slice none 0 0] 26 (0, 0)) (by (with_reducible repeat (first | refine blk_drewN ?_ _ | refine blk_drew ?_ | refine blk_alloc ?_ _)); exact BK559.out) hb)
 have n4_ := Aside0.mk (below_step bl_ hb)
 clear HO562; clear BK558; clear BK559; clear HB; have HO562 := n0_; have HO565 := n1_; have BK558 := n2_; have BK559 := n3_; have HB := n4_; clear n0_ n1_ n2_ n3_ n4_
 (try clear hb)
 (try clear hb2)
 (try clear hk)
 (try clear hi)
 (try clear ho0)
 obtain ⟨Ao9, co9, eo9⟩ := Kd.R_slice HO562.out
 (first | subst eo9 | (injection eo9 with f1_ f2_ f3_; have f4_ := f1_.symm; have f5_ := f3_.symm; clear f1_ f2_ f3_; subst f4_; subst f5_))
 obtain ⟨Ao11, co11, eo11⟩ := Kd.R_slice HO565.out
 (first | subst eo11 | (injection eo11 with f1_ f2_ f3_; have f4_ := f1_.symm; have f5_ := f3_.symm; clear f1_ f2_ f3_; subst f4_; subst f5_))
 refine hK.out _ _ ⟨(blk_cell BK558.out 0).trans rfl, (blk_cell BK558.out 1).trans rfl, (blk_cell BK558.out 2).trans rfl, (blk_cell BK558.out 3).trans rfl, (blk_cell BK558.out 4).trans rfl, (blk_cell BK558.out 5).trans rfl⟩ (fun hHeld => ?_)
 clear hK K; refine norm_ (a' := ?_) ?_ ?_; rotate_left
 ·show Act.put _ (some 8) _ = _
  simp only [Act.put, List.setIfInBounds_toArray, List.set_cons_zero, List.set_cons_succ, i64_w, i32_w]
  rfl
 refine last_ (i := 7) (N := none) (fst_ 10 8) rfl rfl (one_of HT_.out (by kernel_rfl)) (by decide) (fun K hK => ?_)
 have hs10 : w8.cell? ⟨gb558, 4, none⟩ = some (.slice A0_4 l0_4.length c0_4) := (blk_cell BK558.out 4).trans rfl
 have hfs10 := blk_frozen BK558.out 4
 have hns10_1 := NB559_558.out
 have hms10_1 := NB558_559.out
 refine skip_ (w1 := ?_) (by rfl) rfl ?_ ?_
 rotate_left
 ·go_simp
  rfl
 refine hK.out _ _ ?_
 clear hK K
 (refine pk_ (v := ?_) (a' := ?_) HT_.out rfl rfl (by kernel_rfl) (fun _ _ _ h => h) (Or.inl ⟨by rfl, ?_⟩) ?_ ?_; rotate_left; (· intro w'; go_simp; with_reducible rfl); rotate_left; (· simp only [Act.put, List.setIfInBounds_toArray, List.set_cons_zero, List.set_cons_succ, i64_w, i32_w]; rfl))
 refine last_ (i := 9) (N := none) (fst_ 10 10) rfl rfl (one_of HT_.out (by kernel_rfl)) (by decide) (fun K hK => ?_)
 have hs12 : w8.cell? ⟨gb558, 5, none⟩ = some (.slice A0_5 l0_5.length c0_5) := (blk_cell BK558.out 5).trans rfl
 have hfs12 := blk_frozen BK558.out 5
 have hns12_1 := NB559_558.out
 have hms12_1 := NB558_559.out
 refine skip_ (w1 := ?_) (by rfl) rfl ?_ ?_
 rotate_left
 ·go_simp
  rfl
 refine hK.out _ _ ?_
 clear hK K
 refine done_ (done_of HT_.out (by kernel_rfl)) ?_
 have hnb13 := NB558_559.out
 have hnc13 := NB559_558.out
 obtain ⟨hcz14_0, hcz14_1, hcz14_2, hcz14_3, hcz14_4, hcz14_5, hfz14_0, hfz14_1, hfz14_2, hfz14_3, hfz14_4, hfz14_5⟩ := blk6_ BK558.out; obtain ⟨hcz15_0, hcz15_1, hcz15_2, hcz15_3, hcz15_4, hcz15_5, hfz15_0, hfz15_1, hfz15_2, hfz15_3, hfz15_4, hfz15_5⟩ := blk6_ BK559.out
 try go_wp2
 refine bodyPost_ret (results_cell_row rfl _ _ gb559 26 #[.int .u64 a0_0, .int .u64 a0_1, .int .u64 a0_2, .int .u64 a0_3, .slice Ao9 t560.length co9, .slice Ao11 t563.length co11] (0, 0) _ rfl (by (with_reducible repeat (first | refine blk_drewN ?_ _ | refine blk_drew ?_ | refine blk_alloc ?_ _)); refine blk_put (cs := #[.int .u64 a0_0, .int .u64 a0_1, .int .u64 a0_2, .int .u64 a0_3, .slice Ao9 t560.length co9, .slice none 0 0]) ?_ 5 _ rfl; refine blk_put (cs := #[.int .u64 a0_0, .int .u64 a0_1, .int .u64 a0_2, .int .u64 a0_3, .slice none 0 0, .slice none 0 0]) ?_ 4 _ rfl; refine blk_put (cs := #[.int .u64 a0_0, .int .u64 a0_1, .int .u64 a0_2, .int .u64 0, .slice none 0 0, .slice none 0 0]) ?_ 3 _ rfl; refine blk_put (cs := #[.int .u64 a0_0, .int .u64 a0_1, .int .u64 0, .int .u64 0, .slice none 0 0, .slice none 0 0]) ?_ 2 _ rfl; refine blk_put (cs := #[.int .u64 a0_0, .int .u64 0, .int .u64 0, .int .u64 0, .slice none 0 0, .slice none 0 0]) ?_ 1 _ rfl; refine blk_put (cs := #[.int .u64 0, .int .u64 0, .int .u64 0, .int .u64 0, .slice none 0 0, .slice none 0 0]) ?_ 0 _ rfl; (with_reducible repeat (first | refine blk_drewN ?_ _ | refine blk_drew ?_ | refine blk_alloc ?_ _)); refine blk_far ?_ NB559_558.out _; (with_reducible repeat (first | refine blk_drewN ?_ _ | refine blk_drew ?_ | refine blk_alloc ?_ _)); refine blk_far ?_ NB559_558.out _; (with_reducible repeat (first | refine blk_drewN ?_ _ | refine blk_drew ?_ | refine blk_alloc ?_ _)); exact BK559.out) Try.underlying26 rfl (by kernel_rfl)) rfl ?_
 exact ⟨_, _, by first | rfl | (simp [errW_none, errW_some] <;> rfl) | (simp [*, errW_none, errW_some] <;> rfl), by exact Kd.R_mono (Kd.R_far (p := ⟨gb559, 5, none⟩) (Kd.R_far (p := ⟨gb559, 4, none⟩) (Kd.R_far (p := ⟨gb559, 3, none⟩) (Kd.R_far (p := ⟨gb559, 2, none⟩) (Kd.R_far (p := ⟨gb559, 1, none⟩) (Kd.R_far (p := ⟨gb559, 0, none⟩) (Kd.R_far (p := ⟨gb558, 5, none⟩) (Kd.R_far (p := ⟨gb558, 4, none⟩) (Kd.R_types (Kd.R_types HO562.out BK558.out (by decide)) BK559.out (by decide)) (fun _ hk => hk.1.2) (.slice Ao9 t560.length co9)) (fun _ hk => hk.1.2) (.slice Ao11 t563.length co11)) (fun _ hk => hk.2) (.int .u64 a0_0)) (fun _ hk => hk.2) (.int .u64 a0_1)) (fun _ hk => hk.2) (.int .u64 a0_2)) (fun _ hk => hk.2) (.int .u64 a0_3)) (fun _ hk => hk.2) (.slice Ao9 t560.length co9)) (fun _ hk => hk.2) (.slice Ao11 t563.length co11)) (fun _ hk => hk.1.1.2), by exact Kd.R_mono (Kd.R_far (p := ⟨gb559, 5, none⟩) (Kd.R_far (p := ⟨gb559, 4, none⟩) (Kd.R_far (p := ⟨gb559, 3, none⟩) (Kd.R_far (p := ⟨gb559, 2, none⟩) (Kd.R_far (p := ⟨gb559, 1, none⟩) (Kd.R_far (p := ⟨gb559, 0, none⟩) (Kd.R_far (p := ⟨gb558, 5, none⟩) (Kd.R_far (p := ⟨gb558, 4, none⟩) (Kd.R_types (Kd.R_types HO565.out BK558.out (by decide)) BK559.out (by decide)) (fun _ hk => hk.1.2) (.slice Ao9 t560.length co9)) (fun _ hk => hk.1.2) (.slice Ao11 t563.length co11)) (fun _ hk => hk.2) (.int .u64 a0_0)) (fun _ hk => hk.2) (.int .u64 a0_1)) (fun _ hk => hk.2) (.int .u64 a0_2)) (fun _ hk => hk.2) (.int .u64 a0_3)) (fun _ hk => hk.2) (.slice Ao9 t560.length co9)) (fun _ hk => hk.2) (.slice Ao11 t563.length co11)) (fun _ hk => hk.1.1.2), bl_⟩
end Go.Proofs.Ytjefihcbhdennaa.S
