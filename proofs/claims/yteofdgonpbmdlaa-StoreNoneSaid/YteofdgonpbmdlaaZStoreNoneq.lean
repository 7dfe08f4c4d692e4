/- Texts of this session, merged for the law StoreNone: C23, C24, C25, C26, TB, TC, TH, TK, TL, TF. No condition. -/
import Derived.Test.YteofdgonpbmdlaaZStoreNoneo
import Derived.Test.YteofdgonpbmdlaaZStoreNonep
import Derived.Lib.MinMaxS
import Derived.Maps.OwnSet
import Derived.Lib.SlBytesConst
import Derived.Deep.RegionHeld3
set_option linter.unusedVariables false
set_option linter.unusedSimpArgs false
namespace Go.Proofs.Yteofdgonpbmdlaa.C
open Go.RowKit Go.Proofs.YteofdgonpbmdlaaW.PrintWords Go.Proofs.YteofdgonpbmdlaaW.PrintLast Go.Proofs.YteofdgonpbmdlaaW.PrintMore
attribute [local go_sem] max2_int min2_int max_two min_two max_three min_three max_four min_four   -- for this text's walks alone
set_option linter.unusedVariables false
set_option linter.unusedSimpArgs false
mutual
def conductorlaw07_ChainFew.j0 : Nat → List (S28) → Int → Int → Bool → Option (Bool)
 | 0, _, _, _, _ => none
 | k + 1, x0, x1, x2, x27 => if x27 = true then ((conductorlaw07_live.f k).bind fun t352 => (some t352)) else ((chain_Trim.f k x0 x1).bind fun t353 => (conductorlaw07_ChainFew.l0 k x0 x1 x2 t353 0 t353 (t353.length : Int) 0))
def conductorlaw07_ChainFew.l0 : Nat → List (S28) → Int → Int → List (S28) → Int → List (S28) → Int → Int → Option (Bool)
 | 0, _, _, _, _, _, _, _, _ => none
 | k + 1, x0, x1, x2, x7, x8, x32, x33, x34 => if x34 < x33 then (if 0 ≤ x34 then (if x34 < (x32.length : Int) then (if ((rd_T28 x32 x34).f0) ≤ x1 then (if (rd_T28 x32 x34).f1 = true then (some false) else (conductorlaw07_ChainFew.l0 k x0 x1 x2 x7 (wrap64 (x8 + 1)) x32 x33 (wrap64 (x34 + 1)))) else (conductorlaw07_ChainFew.l0 k x0 x1 x2 x7 x8 x32 x33 (wrap64 (x34 + 1)))) else (none)) else (none)) else (if x8 ≤ 1 then ((chain_Trim.f k x0 x2).bind fun t358 => ((chain_Trim.f k t358 x1).bind fun t361 => ((conductorref07_Same.f k t361 x7).bind fun t364 => (if t364 = true then ((chain_Trim.f k x7 x1).bind fun t365 => ((conductorref07_Same.f k t365 x7).bind fun t368 => (if t368 = true then ((chain_Size.f k x7).bind fun t369 => ((chain_Size.f k x0).bind fun t370 => (some (decide (t369 ≤ t370))))) else (some false)))) else (some false))))) else (some false))
end
def conductorlaw07_ChainFew.f (k : Nat) (l0 : List (S28)) (a1 : Int) (a2 : Int) : Option (Bool) := (conductorlaw07_live.f k).bind fun t349 => (if t349 = true then ((conductorlaw07_few.f k l0).bind fun t350 => (if t350 = true then ((chain_Right.f k l0).bind fun t351 => (if t351 = true then (conductorlaw07_ChainFew.j0 k l0 a1 a2 (decide (a2 > a1))) else (conductorlaw07_ChainFew.j0 k l0 a1 a2 true))) else (conductorlaw07_ChainFew.j0 k l0 a1 a2 true))) else (conductorlaw07_ChainFew.j0 k l0 a1 a2 true))
theorem conductorlaw07_ChainFew.mono_l : ∀ k, (∀ y0 y1 y2 y3, LeO (conductorlaw07_ChainFew.j0 k y0 y1 y2 y3) (conductorlaw07_ChainFew.j0 (k + 1) y0 y1 y2 y3)) ∧ (∀ y0 y1 y2 y3 y4 y5 y6 y7, LeO (conductorlaw07_ChainFew.l0 k y0 y1 y2 y3 y4 y5 y6 y7) (conductorlaw07_ChainFew.l0 (k + 1) y0 y1 y2 y3 y4 y5 y6 y7))
 | 0 => ⟨fun _ _ _ _ r h => by simp [conductorlaw07_ChainFew.j0] at h, fun _ _ _ _ _ _ _ _ r h => by simp [conductorlaw07_ChainFew.l0] at h⟩
 | k + 1 => by
  obtain ⟨ih0, ih1⟩ := conductorlaw07_ChainFew.mono_l k
  refine ⟨?_, ?_⟩
  ·intro y0 y1 y2 y3
   unfold conductorlaw07_ChainFew.j0
   repeat' first
   | (with_reducible exact ih0 _ _ _ _)
   | (with_reducible exact ih1 _ _ _ _ _ _ _ _)
   | (with_reducible exact chain_Right.mono _ _)
   | (with_reducible exact chain_Size.mono _ _)
   | (with_reducible exact chain_Trim.mono _ _ _)
   | (with_reducible exact conductorlaw07_few.mono _ _)
   | (with_reducible exact conductorlaw07_live.mono _)
   | (with_reducible exact conductorref07_Same.mono _ _ _)
   | (with_reducible exact LeO.refl _)
   | (with_reducible exact LeO.none _)
   | (with_reducible refine LeO.ite ?_ ?_)
   | (with_reducible refine LeO.bind ?_ (fun _ => ?_))
   | exact ih0 _ _ _ _
   | exact ih1 _ _ _ _ _ _ _ _
   | exact chain_Right.mono _ _
   | exact chain_Size.mono _ _
   | exact chain_Trim.mono _ _ _
   | exact conductorlaw07_few.mono _ _
   | exact conductorlaw07_live.mono _
   | exact conductorref07_Same.mono _ _ _
   | exact LeO.none _
   | refine LeO.ite ?_ ?_
   | refine LeO.bind ?_ (fun _ => ?_)
  ·intro y0 y1 y2 y3 y4 y5 y6 y7
   unfold conductorlaw07_ChainFew.l0
   repeat' first
   | (with_reducible exact ih0 _ _ _ _)
   | (with_reducible exact ih1 _ _ _ _ _ _ _ _)
   | (with_reducible exact chain_Right.mono _ _)
   | (with_reducible exact chain_Size.mono _ _)
   | (with_reducible exact chain_Trim.mono _ _ _)
   | (with_reducible exact conductorlaw07_few.mono _ _)
   | (with_reducible exact conductorlaw07_live.mono _)
   | (with_reducible exact conductorref07_Same.mono _ _ _)
   | (with_reducible exact LeO.refl _)
   | (with_reducible exact LeO.none _)
   | (with_reducible refine LeO.ite ?_ ?_)
   | (with_reducible refine LeO.bind ?_ (fun _ => ?_))
   | exact ih0 _ _ _ _
   | exact ih1 _ _ _ _ _ _ _ _
   | exact chain_Right.mono _ _
   | exact chain_Size.mono _ _
   | exact chain_Trim.mono _ _ _
   | exact conductorlaw07_few.mono _ _
   | exact conductorlaw07_live.mono _
   | exact conductorref07_Same.mono _ _ _
   | exact LeO.none _
   | refine LeO.ite ?_ ?_
   | refine LeO.bind ?_ (fun _ => ?_)
theorem conductorlaw07_ChainFew.mono : ∀ a0 a1 a2 k, LeO (conductorlaw07_ChainFew.f k a0 a1 a2) (conductorlaw07_ChainFew.f (k + 1) a0 a1 a2) := by
 intro a0 a1 a2 k
 obtain ⟨ih0, ih1⟩ := conductorlaw07_ChainFew.mono_l k
 unfold conductorlaw07_ChainFew.f
 repeat' first
   | (with_reducible exact ih0 _ _ _ _)
   | (with_reducible exact ih1 _ _ _ _ _ _ _ _)
   | (with_reducible exact chain_Right.mono _ _)
   | (with_reducible exact chain_Size.mono _ _)
   | (with_reducible exact chain_Trim.mono _ _ _)
   | (with_reducible exact conductorlaw07_few.mono _ _)
   | (with_reducible exact conductorlaw07_live.mono _)
   | (with_reducible exact conductorref07_Same.mono _ _ _)
   | (with_reducible exact LeO.refl _)
   | (with_reducible exact LeO.none _)
   | (with_reducible refine LeO.ite ?_ ?_)
   | (with_reducible refine LeO.bind ?_ (fun _ => ?_))
   | exact ih0 _ _ _ _
   | exact ih1 _ _ _ _ _ _ _ _
   | exact chain_Right.mono _ _
   | exact chain_Size.mono _ _
   | exact chain_Trim.mono _ _ _
   | exact conductorlaw07_few.mono _ _
   | exact conductorlaw07_live.mono _
   | exact conductorref07_Same.mono _ _ _
   | exact LeO.none _
   | refine LeO.ite ?_ ?_
   | refine LeO.bind ?_ (fun _ => ?_)
def conductorref07_Size.l0 : Nat → Int → List (S28) → Int → Int → Option (Int)
 | 0, _, _, _, _ => none
 | k + 1, x3, x6, x7, x8 => if x8 < x7 then (if 0 ≤ x8 then (if x8 < (x6.length : Int) then (conductorref07_Size.l0 k (wrap64 (x3 + (((rd_T28 x6 x8).f2).length : Int))) x6 x7 (wrap64 (x8 + 1))) else (none)) else (none)) else (some x3)
def conductorref07_Size.f (k : Nat) (l0 : List (S28)) : Option (Int) := conductorref07_Size.l0 k 0 l0 (l0.length : Int) 0
theorem conductorref07_Size.mono_l : ∀ k, (∀ y0 y1 y2 y3, LeO (conductorref07_Size.l0 k y0 y1 y2 y3) (conductorref07_Size.l0 (k + 1) y0 y1 y2 y3))
 | 0 => fun _ _ _ _ r h => by simp [conductorref07_Size.l0] at h
 | k + 1 => by
  have ih0 := conductorref07_Size.mono_l k
  ·intro y0 y1 y2 y3
   unfold conductorref07_Size.l0
   repeat' first
   | (with_reducible exact ih0 _ _ _ _)
   | (with_reducible exact LeO.refl _)
   | (with_reducible exact LeO.none _)
   | (with_reducible refine LeO.ite ?_ ?_)
   | (with_reducible refine LeO.bind ?_ (fun _ => ?_))
   | exact ih0 _ _ _ _
   | exact LeO.none _
   | refine LeO.ite ?_ ?_
   | refine LeO.bind ?_ (fun _ => ?_)
theorem conductorref07_Size.mono : ∀ a0 k, LeO (conductorref07_Size.f k a0) (conductorref07_Size.f (k + 1) a0) := by
 intro a0 k
 have ih0 := conductorref07_Size.mono_l k
 unfold conductorref07_Size.f
 repeat' first
   | (with_reducible exact ih0 _ _ _ _)
   | (with_reducible exact LeO.refl _)
   | (with_reducible exact LeO.none _)
   | (with_reducible refine LeO.ite ?_ ?_)
   | (with_reducible refine LeO.bind ?_ (fun _ => ?_))
   | exact ih0 _ _ _ _
   | exact LeO.none _
   | refine LeO.ite ?_ ?_
   | refine LeO.bind ?_ (fun _ => ?_)
def bytes_Equal.f (l0 : List Int) (l1 : List Int) : Option (Bool) := some ((strOfNums l0).toList == (strOfNums l1).toList)
def chain_Same.l0 : Nat → List (S28) → List (S28) → Int → Int → Option (Bool)
 | 0, _, _, _, _ => none
 | k + 1, x0, x1, x12, x13 => if x13 < x12 then (if 0 ≤ x13 then (if x13 < (x0.length : Int) then (if x13 < (x1.length : Int) then (if ((rd_T28 x0 x13).f0) = ((rd_T28 x1 x13).f0) then (if (((rd_T28 x0 x13).f1) != ((rd_T28 x1 x13).f1)) = true then (some false) else ((bytes_Equal.f ((rd_T28 x0 x13).f2) ((rd_T28 x1 x13).f2)).bind fun t379 => (if t379 = true then (chain_Same.l0 k x0 x1 x12 (wrap64 (x13 + 1))) else (some false)))) else (some false)) else (none)) else (none)) else (none)) else (some true)
def chain_Same.f (k : Nat) (l0 : List (S28)) (l1 : List (S28)) : Option (Bool) := if (l0.length : Int) = (l1.length : Int) then (chain_Same.l0 k l0 l1 (l0.length : Int) 0) else (some false)
theorem chain_Same.mono_l : ∀ k, (∀ y0 y1 y2 y3, LeO (chain_Same.l0 k y0 y1 y2 y3) (chain_Same.l0 (k + 1) y0 y1 y2 y3))
 | 0 => fun _ _ _ _ r h => by simp [chain_Same.l0] at h
 | k + 1 => by
  have ih0 := chain_Same.mono_l k
  ·intro y0 y1 y2 y3
   unfold chain_Same.l0
   repeat' first
   | (with_reducible exact ih0 _ _ _ _)
   | (with_reducible exact LeO.refl _)
   | (with_reducible exact LeO.none _)
   | (with_reducible refine LeO.ite ?_ ?_)
   | (with_reducible refine LeO.bind ?_ (fun _ => ?_))
   | exact ih0 _ _ _ _
   | exact LeO.none _
   | refine LeO.ite ?_ ?_
   | refine LeO.bind ?_ (fun _ => ?_)
theorem chain_Same.mono : ∀ a0 a1 k, LeO (chain_Same.f k a0 a1) (chain_Same.f (k + 1) a0 a1) := by
 intro a0 a1 k
 have ih0 := chain_Same.mono_l k
 unfold chain_Same.f
 repeat' first
   | (with_reducible exact ih0 _ _ _ _)
   | (with_reducible exact LeO.refl _)
   | (with_reducible exact LeO.none _)
   | (with_reducible refine LeO.ite ?_ ?_)
   | (with_reducible refine LeO.bind ?_ (fun _ => ?_))
   | exact ih0 _ _ _ _
   | exact LeO.none _
   | refine LeO.ite ?_ ?_
   | refine LeO.bind ?_ (fun _ => ?_)
def conductorlaw07_ChainRights.j0 : Nat → List (S28) → List (S28) → Bool → Option (Bool)
 | 0, _, _, _ => none
 | k + 1, x0, x1, x16 => if x16 = true then ((conductorlaw07_live.f k).bind fun t383 => (some t383)) else ((chain_Right.f k x0).bind fun t384 => ((conductorref07_Right.f k x0).bind fun t385 => (if (t384 == t385) = true then ((chain_Size.f k x0).bind fun t386 => ((conductorref07_Size.f k x0).bind fun t387 => (if t386 = t387 then ((chain_Same.f k x0 x1).bind fun t388 => ((conductorref07_Same.f k x0 x1).bind fun t389 => (some (t388 == t389)))) else (some false)))) else (some false))))
def conductorlaw07_ChainRights.f (k : Nat) (l0 : List (S28)) (l1 : List (S28)) : Option (Bool) := (conductorlaw07_live.f k).bind fun t380 => (if t380 = true then ((conductorlaw07_few.f k l0).bind fun t381 => (if t381 = true then ((conductorlaw07_few.f k l1).bind fun t382 => (conductorlaw07_ChainRights.j0 k l0 l1 (!t382))) else (conductorlaw07_ChainRights.j0 k l0 l1 true))) else (conductorlaw07_ChainRights.j0 k l0 l1 true))
theorem conductorlaw07_ChainRights.mono_l : ∀ k, (∀ y0 y1 y2, LeO (conductorlaw07_ChainRights.j0 k y0 y1 y2) (conductorlaw07_ChainRights.j0 (k + 1) y0 y1 y2))
 | 0 => fun _ _ _ r h => by simp [conductorlaw07_ChainRights.j0] at h
 | k + 1 => by
  have ih0 := conductorlaw07_ChainRights.mono_l k
  ·intro y0 y1 y2
   unfold conductorlaw07_ChainRights.j0
   repeat' first
   | (with_reducible exact ih0 _ _ _)
   | (with_reducible exact chain_Right.mono _ _)
   | (with_reducible exact chain_Same.mono _ _ _)
   | (with_reducible exact chain_Size.mono _ _)
   | (with_reducible exact conductorlaw07_few.mono _ _)
   | (with_reducible exact conductorlaw07_live.mono _)
   | (with_reducible exact conductorref07_Right.mono _ _)
   | (with_reducible exact conductorref07_Same.mono _ _ _)
   | (with_reducible exact conductorref07_Size.mono _ _)
   | (with_reducible exact LeO.refl _)
   | (with_reducible exact LeO.none _)
   | (with_reducible refine LeO.ite ?_ ?_)
   | (with_reducible refine LeO.bind ?_ (fun _ => ?_))
   | exact ih0 _ _ _
   | exact chain_Right.mono _ _
   | exact chain_Same.mono _ _ _
   | exact chain_Size.mono _ _
   | exact conductorlaw07_few.mono _ _
   | exact conductorlaw07_live.mono _
   | exact conductorref07_Right.mono _ _
   | exact conductorref07_Same.mono _ _ _
   | exact conductorref07_Size.mono _ _
   | exact LeO.none _
   | refine LeO.ite ?_ ?_
   | refine LeO.bind ?_ (fun _ => ?_)
theorem conductorlaw07_ChainRights.mono : ∀ a0 a1 k, LeO (conductorlaw07_ChainRights.f k a0 a1) (conductorlaw07_ChainRights.f (k + 1) a0 a1) := by
 intro a0 a1 k
 have ih0 := conductorlaw07_ChainRights.mono_l k
 unfold conductorlaw07_ChainRights.f
 repeat' first
   | (with_reducible exact ih0 _ _ _)
   | (with_reducible exact chain_Right.mono _ _)
   | (with_reducible exact chain_Same.mono _ _ _)
   | (with_reducible exact chain_Size.mono _ _)
   | (with_reducible exact conductorlaw07_few.mono _ _)
   | (with_reducible exact conductorlaw07_live.mono _)
   | (with_reducible exact conductorref07_Right.mono _ _)
   | (with_reducible exact conductorref07_Same.mono _ _ _)
   | (with_reducible exact conductorref07_Size.mono _ _)
   | (with_reducible exact LeO.refl _)
   | (with_reducible exact LeO.none _)
   | (with_reducible refine LeO.ite ?_ ?_)
   | (with_reducible refine LeO.bind ?_ (fun _ => ?_))
   | exact ih0 _ _ _
   | exact chain_Right.mono _ _
   | exact chain_Same.mono _ _ _
   | exact chain_Size.mono _ _
   | exact conductorlaw07_few.mono _ _
   | exact conductorlaw07_live.mono _
   | exact conductorref07_Right.mono _ _
   | exact conductorref07_Same.mono _ _ _
   | exact conductorref07_Size.mono _ _
   | exact LeO.none _
   | refine LeO.ite ?_ ?_
   | refine LeO.bind ?_ (fun _ => ?_)
end Go.Proofs.Yteofdgonpbmdlaa.C
namespace Go.Proofs.Yteofdgonpbmdlaa.C
open Go.RowKit Go.Maps Go.Proofs.YteofdgonpbmdlaaW.PrintWords Go.Proofs.YteofdgonpbmdlaaW.PrintLast Go.Proofs.YteofdgonpbmdlaaW.PrintMore
attribute [local go_sem] max2_int min2_int max_two min_two max_three min_three max_four min_four
/-- A chain, as it lies beside a store's own blocks. -/
def ChF (W : World) (B : Nat → Prop) (p mb : Nat) (kv : Value) (A : Option Addr) (l : List S28) : Prop := Kd.F k28 W (fun q => B q ∧ q ≠ p ∧ q ≠ mb ∧ some q ≠ kv.ownBlock) A l.length l
set_option maxHeartbeats 1000000 in
theorem store_chain.calls {W : World} {base p : Nat} {B : Nat → Prop} {s : SS} {kv : Value} {mb n : Nat} {D : DataW Value} (h : Aside0 (StoreAt W base B p s kv mb n D)) (key : ByteArray) (hk : Aside0 (key.size ≤ maxLen)) :
    Calls Try.prog 72 #[.pointer (some ⟨p, 0, none⟩), .string key] W fun e w' => (∃ A c, e = .returned (.slice A (s.ch key).length c) ∧ (s.ch key).length ≤ c ∧ ChF W B p mb kv A (s.ch key)) ∧ w' = W := by
  have h9 : W.cell? ⟨p, 9, none⟩ = some (.map (some mb)) := (blk_cell h.out.cells 9).trans rfl
  obtain ⟨A, c, hrun, hl, hF⟩ := h.out.look key hk.out
  have HL := Aside0.mk hl
  have HF := Aside0.mk hF
  clear hl hF
  go_enter Try.func72, Try.ntmps72
  go_wp2_with (go_at_call 70; refine (store_is.calls h).mono ?_; rintro e w1 ⟨rfl, rfl⟩)
  go_ret
  exact ⟨⟨A, c, rfl, HL.out, HF.out⟩, rfl⟩
set_option maxHeartbeats 1000000 in
theorem store_Now.calls {W : World} {base p : Nat} {B : Nat → Prop} {s : SS} {kv : Value} {mb n : Nat} {D : DataW Value} (h : Aside0 (StoreAt W base B p s kv mb n D)) :
    Calls Try.prog 44 #[.pointer (some ⟨p, 0, none⟩)] W fun e w' => e = .returned (.int .u64 s.now) ∧ w' = W := by
  have h7 : W.cell? ⟨p, 7, none⟩ = some (.int .u64 s.now) := (blk_cell h.out.cells 7).trans rfl
  go_enter Try.func44, Try.ntmps44
  go_wp2_with (go_at_call 70; refine (store_is.calls h).mono ?_; rintro e w1 ⟨rfl, rfl⟩)
  go_ret
  exact ⟨rfl, rfl⟩
theorem ChF.C {W : World} {B : Nat → Prop} {p mb : Nat} {kv : Value} {A : Option Addr} {l : List S28} (h : ChF W B p mb kv A l) : Kd.C k28 W A l.length l := Kd.F_now h
set_option maxHeartbeats 1000000 in
theorem store_Read.calls {W : World} {base p : Nat} {B : Nat → Prop} {s : SS} {kv : Value} {mb n : Nat} {D : DataW Value} (h : Aside0 (StoreAt W base B p s kv mb n D)) (key : ByteArray) (hk : Aside0 (key.size ≤ maxLen)) (at_ : Int) (r1 : List Int) (r2 : Bool) (hg : Aside0 (chain_Get.f (s.ch key) at_ = some (r1, r2))) :
    Calls Try.prog 43 #[.pointer (some ⟨p, 0, none⟩), .string key, .int .u64 at_] W fun e w' => ∃ v0_ : Value, e = .returned (.tuple #[v0_, .bool r2]) ∧ Kd.R (Kd.int .u8) 5 w' W.heap.size (fun _ => True) v0_ r1 ∧ Below W.heap.size W w' := by
  go_enter Try.func43, Try.ntmps43
  go_wp2_with (first
    | (go_at_call 72; refine (store_chain.calls h key hk).mono ?_; rintro e w1 ⟨⟨A, c, rfl, hl, hF⟩, rfl⟩; have HL := Aside0.mk hl; have HF := Aside0.mk hF; clear hl hF)
    | (go_at_call 22; (with_reducible refine (chain_Get.calls _ _ (s.ch key) at_ r1 r2 _ ?s1 ?s2 hg.out).mono ?_); (case s1 => exact HF.out.C); (case s2 => exact HL.out); rintro e w2 ⟨v, rfl, ho, hb⟩; have HO := Aside0.mk ho; have HB := Aside0.mk hb; clear ho hb))
  go_ret2
  exact ⟨_, rfl, HO.out, HB.out⟩
set_option maxHeartbeats 1000000 in
theorem store_Latest.calls {W : World} {base p : Nat} {B : Nat → Prop} {s : SS} {kv : Value} {mb n : Nat} {D : DataW Value} (h : Aside0 (StoreAt W base B p s kv mb n D)) (key : ByteArray) (hk : Aside0 (key.size ≤ maxLen)) (r : Int) (hg : Aside0 (chain_Last.f (s.ch key) = some r)) :
    Calls Try.prog 62 #[.pointer (some ⟨p, 0, none⟩), .string key] W fun e w' => e = .returned (.int .u64 r) ∧ Below W.heap.size W w' := by
  go_enter Try.func62, Try.ntmps62
  go_wp2_with (first
    | (go_at_call 72; refine (store_chain.calls h key hk).mono ?_; rintro e w1 ⟨⟨A, c, rfl, hl, hF⟩, rfl⟩; have HL := Aside0.mk hl; have HF := Aside0.mk hF; clear hl hF)
    | (go_at_call 26; (with_reducible refine (chain_Last.calls _ _ (s.ch key) r _ ?s1 ?s2 hg.out).mono ?_); (case s1 => exact HF.out.C); (case s2 => exact HL.out); rintro e w2 ⟨rfl, hd⟩; have HB := Aside0.mk hd.below; clear hd))
  go_ret
  exact ⟨rfl, HB.out⟩
theorem store_cells {W : World} {base p : Nat} {B : Nat → Prop} {s : SS} {kv : Value} {mb n : Nat} {D : DataW Value} (h : StoreAt W base B p s kv mb n D) :
    W.cell? ⟨p, 10, none⟩ = some (.int .i64 s.n0) ∧ W.cell? ⟨p, 11, none⟩ = some (.int .i64 s.n1) ∧ W.cell? ⟨p, 12, none⟩ = some (.int .i64 s.n2) :=
  ⟨(blk_cell h.cells 10).trans rfl, (blk_cell h.cells 11).trans rfl, (blk_cell h.cells 12).trans rfl⟩
set_option maxHeartbeats 1000000 in
theorem store_Count.calls {W : World} {base p : Nat} {B : Nat → Prop} {s : SS} {kv : Value} {mb n : Nat} {D : DataW Value} (h : Aside0 (StoreAt W base B p s kv mb n D)) :
    Calls Try.prog 48 #[.pointer (some ⟨p, 0, none⟩)] W fun e w' => e = .returned (.agg #[.int .i64 s.n0, .int .i64 s.n1, .int .i64 s.n2]) ∧ Below W.heap.size W w' := by
  have HB := Aside0.mk (Below.refl W.heap.size W)
  go_enter Try.func48, Try.ntmps48
  go_wp2_with (first
    | ((with_reducible refine gate_dst (N := 2) rfl ?_); refine box_event ?hg (N := 2) ?hd (cs := #[.int .i64 0, .int .i64 0, .int .i64 0]) (t := 72) ?hr ?_; (case hd => rfl); (case hg => rfl); (case hr => first | (go_simp; done) | (go_simp; rfl)); intro g hg w1 hbox hb; have HS := Aside0.mk (h.out.below hb); have GE := Aside0.mk (show W.heap.size ≤ g by rw [hg]; exact Nat.le_refl _); clear HB; have HB := Aside0.mk hb; have BK := Aside0.mk hbox; obtain ⟨h0, h1, h2⟩ := store_cells HS.out; have c0 := (blk_cell hbox 0).trans (show _ = some (Value.int .i64 0) from rfl); have c1 := (blk_cell hbox 1).trans (show _ = some (Value.int .i64 0) from rfl); have c2 := (blk_cell hbox 2).trans (show _ = some (Value.int .i64 0) from rfl); have f0 := blk_frozen hbox 0; have f1 := blk_frozen hbox 1; have f2 := blk_frozen hbox 2; clear hbox hb hg)
    | (go_at_call 70; refine (store_is.calls HS).mono ?_; rintro e w2 ⟨rfl, rfl⟩))
  exact bodyPost_ret (v := .agg #[.int .i64 s.n0, .int .i64 s.n1, .int .i64 s.n2]) (by simp [results, Try.results48, go_sem, c0, c1, c2]) rfl ⟨rfl, below_set (below_set (below_set HB.out GE.out) GE.out) GE.out⟩
end Go.Proofs.Yteofdgonpbmdlaa.C
namespace Go.Proofs.Yteofdgonpbmdlaa.C
open Go.RowKit Go.Maps Go.Proofs.YteofdgonpbmdlaaW.PrintWords Go.Proofs.YteofdgonpbmdlaaW.PrintLast Go.Proofs.YteofdgonpbmdlaaW.PrintMore
attribute [local go_sem] max2_int min2_int max_two min_two max_three min_three max_four min_four str_leq str_gtr str_geq
def ks (l : List ByteArray) (i : Int) : ByteArray := rdOf ByteArray.empty l i
set_option maxHeartbeats 1000000 in
/-- The closure: is the key at i not ahead of x? -/
theorem search1_calls (A : Option Addr) (c : Nat) (l : List ByteArray) (x : ByteArray) (i : Int) (h0 : 0 ≤ i) (h1 : i < l.length) (q1 q2 : Nat) (w : World) (hr : Aside0 (Kd.string.C w A l.length l)) (hq1 : w.cell? ⟨q1, 0, none⟩ = some (.slice A l.length c)) (hq2 : w.cell? ⟨q2, 0, none⟩ = some (.string x)) :
    Calls Try.prog 88 #[.int .i64 i, .pointer (some ⟨q1, 0, none⟩), .pointer (some ⟨q2, 0, none⟩)] w fun e w' => e = .returned (.bool (!(Op.bytesLess (ks l i).toList x.toList))) ∧ Below w.heap.size w w' := by
  obtain ⟨ad, e, hx⟩ := Kd.at_string hr.out i h0 h1
  subst e
  have hx' : w.cell? (ad.add i.toNat) = some (.string (ks l i)) := hx
  clear hx
  have h0' := eq_true h0
  have h1' := eq_true h1
  go_enter Try.func88, Try.ntmps88
  go_wp2
  go_quiet (fail)
  go_wp2
  go_ret
  exact ⟨rfl, pw_below_drewN (Below.refl _ _) _⟩
def srch (l : List ByteArray) (x : ByteArray) : Nat → Nat → Nat → Nat
  | 0, i, _ => i
  | k + 1, i, j => if i < j then (if Op.bytesLess (ks l ((i + j) / 2 : Nat)).toList x.toList = true then srch l x k ((i + j) / 2 + 1) j else srch l x k i ((i + j) / 2)) else i
def srchF (l : List ByteArray) (x : ByteArray) : Nat := srch l x l.length 0 l.length
set_option maxHeartbeats 2000000 in
theorem search_calls (A : Option Addr) (c : Nat) (l : List ByteArray) (x : ByteArray) (q1 q2 : Nat) (w : World) (hr : Kd.string.C w A l.length l) (hq1 : w.cell? ⟨q1, 0, none⟩ = some (.slice A l.length c)) (hq2 : w.cell? ⟨q2, 0, none⟩ = some (.string x)) (hl : l.length ≤ 281474976710656) :
    Calls Try.prog 87 #[.int .i64 l.length, .func (.func 88) #[] #[.pointer (some ⟨q1, 0, none⟩), .pointer (some ⟨q2, 0, none⟩)]] w fun e w' => e = .returned (.int .i64 (srchF l x : Nat)) ∧ Below w.heap.size w w' := by
  have HR := Aside0.mk hr
  have HQ1 := Aside0.mk hq1
  have HQ2 := Aside0.mk hq2
  have HL := Aside0.mk hl
  clear hr hq1 hq2 hl
  go_enter Try.func87, Try.ntmps87
  go_wp2
  go_loopw [5, 6] (fun lo hi wr => ∃ (k i j : Nat), lo = .int .i64 i ∧ hi = .int .i64 j ∧ i ≤ j ∧ j ≤ l.length ∧ j - i ≤ k ∧ Aside0 (srch l x k i j = srchF l x) ∧ Aside0 (Below w.heap.size w wr)) (fun lo hi _ => (intOf hi - intOf lo).toNat)
  case atStart => exact ⟨l.length, 0, l.length, rfl, rfl, Nat.zero_le _, Nat.le_refl _, by omega, ⟨rfl⟩, ⟨Below.refl _ _⟩⟩
  case round =>
    obtain ⟨k, i, j, rfl, rfl, hij, hj, hk, HU, HB⟩ := hrel
    have HQ1' : Aside0 (wr.cell? ⟨q1, 0, none⟩ = some (.slice A l.length c)) := ⟨pw_cell_below HB.out HQ1.out⟩
    have HQ2' : Aside0 (wr.cell? ⟨q2, 0, none⟩ = some (.string x)) := ⟨pw_cell_below HB.out HQ2.out⟩
    have HR' := Aside0.mk (Kd.C_below HR.out HB.out)
    have hl := HL.out
    by_cases hlt : i < j
    · obtain ⟨k, rfl⟩ : ∃ k', k = k' + 1 := ⟨k - 1, by omega⟩
      obtain ⟨m, hm, hm1, hm2⟩ : ∃ m : Nat, (i + j) / 2 = m ∧ i ≤ m ∧ m < j := ⟨(i + j) / 2, rfl, by omega, by omega⟩
      have HU' := HU.out
      simp only [srch, if_pos hlt, hm] at HU'
      have hmi : ((i : Int) + (j : Int)) / 2 = (m : Int) := by omega
      have hm3 : m < l.length := by omega
      clear HU
      cases ht : Op.bytesLess (ks l (m : Nat)).toList x.toList with
      | true =>
        rw [ht, if_pos rfl] at HU'
        have HU := Aside0.mk HU'
        clear HU'
        go_wp2_with (go_at_call 88; refine (search1_calls A c l x _ (by omega) (by omega) q1 q2 _ HR' HQ1'.out HQ2'.out).mono ?_; rintro e w1 ⟨rfl, hb1⟩)
        go_roundw
        case measure => simp [intOf]; omega
        case rel => exact ⟨k, m + 1, j, by go_num, rfl, by omega, hj, by omega, HU, ⟨HB.out.trans (hb1.mono HB.out.size)⟩⟩
      | false =>
        rw [ht, if_neg (by decide)] at HU'
        have HU := Aside0.mk HU'
        clear HU'
        go_wp2_with (go_at_call 88; refine (search1_calls A c l x _ (by omega) (by omega) q1 q2 _ HR' HQ1'.out HQ2'.out).mono ?_; rintro e w1 ⟨rfl, hb1⟩)
        go_roundw
        case measure => simp [intOf]; omega
        case rel => exact ⟨k, i, m, rfl, rfl, hm1, by omega, by omega, HU, ⟨HB.out.trans (hb1.mono HB.out.size)⟩⟩
    · have hd : ∀ k, srch l x k i j = i := by
        intro k
        cases k with
        | zero => rfl
        | succ k => simp only [srch]; rw [if_neg hlt]
      have HU2 := Aside0.mk ((hd k).symm.trans HU.out)
      clear HU hd
      go_wp2
      go_ret
      exact ⟨congrArg (fun z : Nat => Ending.returned (.int .i64 z)) HU2.out, HB.out⟩
set_option maxHeartbeats 2000000 in
theorem searchStrings_calls (A : Option Addr) (c : Nat) (l : List ByteArray) (x : ByteArray) (w : World) (hr : Kd.string.C w A l.length l) (hl : l.length ≤ 281474976710656) :
    Calls Try.prog 71 #[.slice A l.length c, .string x] w fun e w' => e = .returned (.int .i64 (srchF l x : Nat)) ∧ Below w.heap.size w w' := by
  have HR := Aside0.mk hr
  have HL := Aside0.mk hl
  have HB := Aside0.mk (Below.refl w.heap.size w)
  clear hr hl
  go_enter Try.func71, Try.ntmps71
  go_wp2_with (first
    | ((with_reducible refine gate_dst (N := 2) rfl ?_); refine box_event ?hg (N := 2) ?hd (cs := #[.slice A l.length c]) (t := 75) ?hr ?_; (case hd => rfl); (case hg => rfl); (case hr => first | (go_simp; done) | (go_simp; rfl)); intro q1 hg w1 hbox hb; have h1_ := Aside0.mk (Kd.C_below HR.out hb); clear HR HB; have HR := h1_; have HB := Aside0.mk hb; have BK1 := Aside0.mk hbox; clear h1_ hbox hb hg)
    | ((with_reducible refine gate_dst (N := 3) rfl ?_); refine box_event ?hg (N := 3) ?hd (cs := #[.string x]) (t := 9) ?hr ?_; (case hd => rfl); (case hg => rfl); (case hr => first | (go_simp; done) | (go_simp; rfl)); intro q2 hg w2 hbox hb; have h1_ := Aside0.mk (Kd.C_below HR.out hb); have h2_ := Aside0.mk (below_step HB.out hb); have h3_ := Aside0.mk (blk_below BK1.out hb); clear HR HB BK1; have HR := h1_; have HB := h2_; have BK1 := h3_; have BK2 := Aside0.mk hbox; clear h1_ h2_ h3_ hbox hb hg; have hq1 := (blk_cell BK1.out 0).trans (show _ = some (Value.slice A l.length c) from rfl); have hq2 := (blk_cell BK2.out 0).trans (show _ = some (Value.string x) from rfl))
    | (go_at_call 87; refine (search_calls A c l x q1 q2 _ HR.out hq1 hq2 HL.out).mono ?_; rintro e w3 ⟨rfl, hb⟩; have h1_ := Aside0.mk (below_step HB.out hb); clear HB hb; have HB := h1_; clear h1_))
  go_ret
  exact ⟨rfl, HB.out⟩
end Go.Proofs.Yteofdgonpbmdlaa.C
namespace Go.Proofs.Yteofdgonpbmdlaa.C
open Go.RowKit Go.Maps Go.Proofs.YteofdgonpbmdlaaW.PrintWords Go.Proofs.YteofdgonpbmdlaaW.PrintLast Go.Proofs.YteofdgonpbmdlaaW.PrintMore
attribute [local go_sem] max2_int min2_int max2_str min2_str str_leq str_gtr str_geq max_two min_two max_three min_three max_four min_four
theorem info102 : (Try.prog.info? 102).map (fun i => (i.zero, i.size, i.bytes)) = some (some (.agg #[(.string ⟨#[]⟩), (.bool false), (.slice none 0 0)]), 3, 48) := by kernel_rfl
theorem StoreAt.lookW {W W' : World} {base p : Nat} {B : Nat → Prop} {s : SS} {kv : Value} {mb n : Nat} {D : DataW Value} (h : StoreAt W base B p s kv mb n D) (hb : Below W.heap.size W W') (key : ByteArray) (hk : key.size ≤ maxLen) {v : Value}
    (h1 : D.atKey (.string key.data.toList) (.held noCh) = .held v) : (Instr.lookup 89 (.map (some mb)) (.string key) false).run Try.prog W' = .ok v W' := by
  obtain ⟨u, ps, hrun, hv⟩ := (h.below hb).map.lookup (e := 22) law9 Try.underlying89 (zero22 W') (zd := .held noCh) (zp := []) rfl (key := .string key) (Go.WideMaps.keyOf_string_mk Try.underlying9 hk)
  rw [h1] at hv
  simp only [tok, Option.some.injEq, Prod.mk.injEq, DataW.held.injEq, and_true] at hv
  rw [hrun, hv.1]
/-- A key's entry in the map, in whatever later world. -/
theorem StoreAt.look2 {W : World} {base p : Nat} {B : Nat → Prop} {s : SS} {kv : Value} {mb n : Nat} {D : DataW Value} (h : StoreAt W base B p s kv mb n D) (key : ByteArray) (hk : key.size ≤ maxLen) :
    ∃ A c, (∀ m, (Instr.lookup 89 (.map (some mb)) (.string key) false).run Try.prog (W.drewN m) = .ok (.slice A (s.ch key).length c) (W.drewN m)) ∧ (s.ch key).length ≤ c ∧ Kd.F k28 W (fun q => B q ∧ q ≠ p ∧ q ≠ mb ∧ some q ≠ kv.ownBlock) A (s.ch key).length (s.ch key) := by
  obtain ⟨A, c, h1, h2, h3⟩ := h.chains key hk
  refine ⟨A, c, fun m => ?_, h2, h3⟩
  exact h.lookW (pw_below_drewN (Below.refl _ _) m) key hk h1
/-- Has a key nothing to go? -/
def goneC (c : List S28) : Bool := decide (c.length = 0) || (rd_T28 c ((c.length : Int) - 1)).f1
def comesL (ch : ByteArray → List S28) : List S102 → List S102
  | [] => []
  | x :: t => if (x.f1 && goneC (ch x.f0)) = true then comesL ch t else x :: comesL ch t
def comesN (ch : ByteArray → List S28) : List S102 → Int → Int → Int → Int × Int × Int
  | [], a, b, c => (a, b, c)
  | x :: t, a, b, c => if (x.f1 && goneC (ch x.f0)) = true then comesN ch t a b c else if (ch x.f0).length = 0 then comesN ch t (wrap64 (a + 1)) (wrap64 (b + 1)) (wrap64 (wrap64 (c + (x.f2.length : Int)) + (x.f0.size : Int))) else comesN ch t a (wrap64 (b + 1)) (wrap64 (c + (x.f2.length : Int)))
theorem drop_102 (l : List S102) (i : Nat) (h : i < l.length) : l.drop i = l.getD i z102 :: l.drop (i + 1) := by
  rw [List.drop_eq_getElem_cons h]
  congr 1
  simp [List.getD, List.getElem?_eq_getElem h]
set_option maxHeartbeats 8000000 in
theorem store_comes.calls {W : World} {base p : Nat} {B : Nat → Prop} {s : SS} {kv : Value} {mb n : Nat} {D : DataW Value} (h : Aside0 (StoreAt W base B p s kv mb n D)) (okA : Nat → Prop) (hokA : ∀ k, okA k → k < W.heap.size) (A : Option Addr) (c0 : Nat) (l : List S102) (hF : Aside0 (Kd.F k102 W okA A l.length l)) (hl : Aside0 (l.length ≤ 1000)) (hk : Aside0 (∀ x, x ∈ l → x.f0.size ≤ maxLen)) (hch : Aside0 (∀ key, (s.ch key).length ≤ 1000000)) :
    Calls Try.prog 82 #[.pointer (some ⟨p, 0, none⟩), .slice A l.length c0] W fun e w' => ∃ v0_ : Value, e = .returned (.tuple #[v0_, .agg #[.int .i64 (comesN s.ch l s.n0 s.n1 s.n2).1, .int .i64 (comesN s.ch l s.n0 s.n1 s.n2).2.1, .int .i64 (comesN s.ch l s.n0 s.n1 s.n2).2.2]]) ∧ Kd.N k102 102 w' W.heap.size (fun k_ => okA k_ ∨ W.heap.size ≤ k_) v0_ (comesL s.ch l) ∧ Below W.heap.size W w' := by
  go_enter Try.func82, Try.ntmps82
  go_wp2_with (first
    | ((with_reducible refine gate_dst (N := 5) rfl ?_); refine box_event ?hg (N := 5) ?hd (cs := #[.int .i64 0, .int .i64 0, .int .i64 0]) (t := 72) ?hr ?_; (case hd => rfl); (case hg => rfl); (case hr => first | (go_simp; done) | (go_simp; rfl)); intro g5 hg w1 hbox hb; have HB1 := Aside0.mk hb; have GE5 := Aside0.mk (show W.heap.size ≤ g5 by rw [hg]; exact Nat.le_refl _); have BK5 := Aside0.mk hbox; obtain ⟨h10, h11, h12⟩ := store_cells (h.out.below hb); clear hbox hb hg)
    | ((with_reducible refine gate_dst (N := 7) rfl ?_); refine box_event ?hg (N := 7) ?hd (cs := #[.int .i64 0, .int .i64 0, .int .i64 0]) (t := 72) ?hr ?_; (case hd => rfl); (case hg => rfl); (case hr => first | (go_simp; done) | (go_simp; rfl)); intro g7 hg w2 hbox hb; have GE7 := Aside0.mk (show W.heap.size ≤ g7 by rw [hg]; exact HB1.out.size); have N57 := Aside0.mk (show g5 ≠ g7 by have := blk_lt BK5.out; omega); have BK5_ := Aside0.mk (blk_below BK5.out hb); have HB2 := Aside0.mk (below_step HB1.out hb); have BK7 := Aside0.mk hbox; have f70 := blk_frozen hbox 0; have f71 := blk_frozen hbox 1; have f72 := blk_frozen hbox 2; have c70 := (blk_cell hbox 0).trans (show _ = some (Value.int .i64 0) from rfl); have c71 := (blk_cell hbox 1).trans (show _ = some (Value.int .i64 0) from rfl); have c72 := (blk_cell hbox 2).trans (show _ = some (Value.int .i64 0) from rfl); clear hbox hb hg HB1 BK5 h10 h11 h12; have BK5 := BK5_; clear BK5_)
    | ((with_reducible refine gate_store (t := 72) (p := 7) rfl ?_); refine store_event (t := 72) (p := 7) (v := ?vo1_) (w1 := ((w2.setCell ⟨g7, 0, none⟩ (.int .i64 s.n0)).setCell ⟨g7, 1, none⟩ (.int .i64 s.n1)).setCell ⟨g7, 2, none⟩ (.int .i64 s.n2)) ?hg ?ho ?hn ?hr ?_; (case ho => rfl); (case hg => rfl); (case hn => rfl); (case hr => first | (go_simp; done) | (go_simp; rfl)); intro w3 hw; have BK5_ := Aside0.mk (show w3.heap[g5]? = some (.cells #[.int .i64 0, .int .i64 0, .int .i64 0] 72 (0, 0)) by rw [hw]; exact blk_far (blk_far (blk_far BK5.out N57.out _) N57.out _) N57.out _); have BK7_ := Aside0.mk (show w3.heap[g7]? = some (.cells #[.int .i64 s.n0, .int .i64 s.n1, .int .i64 s.n2] 72 (0, 0)) by rw [hw]; exact blk_put (blk_put (blk_put BK7.out 0 _ rfl) 1 _ rfl) 2 _ rfl); have HB := Aside0.mk (show Below W.heap.size W w3 by rw [hw]; exact below_set (below_set (below_set HB2.out GE7.out) GE7.out) GE7.out); clear hw HB2 BK5 BK7 f70 f71 f72 c70 c71 c72; have BK5 := BK5_; have BK7 := BK7_; clear BK5_ BK7_))
  go_loopw [6, 17] (fun vo vi wr => ∃ (i : Nat) (xs : List S102) (a b c : Int), vi = .int .i64 i ∧ i ≤ l.length ∧ xs.length ≤ i ∧ Aside0 (xs ++ comesL s.ch (l.drop i) = comesL s.ch l) ∧ Aside0 (comesN s.ch (l.drop i) a b c = comesN s.ch l s.n0 s.n1 s.n2) ∧ Aside0 (Kd.N k102 102 wr W.heap.size (fun k_ => (okA k_ ∨ W.heap.size ≤ k_) ∧ k_ ≠ g5 ∧ k_ ≠ g7) vo xs) ∧ Aside0 (wr.heap[g5]? = some (.cells #[.int .i64 0, .int .i64 0, .int .i64 0] 72 (0, 0))) ∧ Aside0 (wr.heap[g7]? = some (.cells #[.int .i64 a, .int .i64 b, .int .i64 c] 72 (0, 0))) ∧ Aside0 (Below W.heap.size W wr)) (fun _ vi _ => l.length - (intOf vi).toNat)
  case atStart => exact ⟨0, [], s.n0, s.n1, s.n2, rfl, Nat.zero_le _, Nat.le_refl _, ⟨rfl⟩, ⟨rfl⟩, ⟨Kd.N_nil _ _ _ _ _⟩, BK5, BK7, HB⟩
  case round =>
    clear HB BK5 BK7
    obtain ⟨i, xs, a, b, c, rfl, hi1, hi2, HU, HV, HO, BK5, BK7, HB⟩ := hrel
    by_cases hlt : i < l.length
    · obtain ⟨ad, ce, rfl, hcl, hFK, hcc, hok⟩ := Kd.F_get hF.out z102 (i : Int) (by omega) (by omega)
      obtain ⟨x, hx⟩ : ∃ x, l.getD (i : Int).toNat z102 = x := ⟨_, rfl⟩
      rw [hx] at hFK
      obtain ⟨A2, c2, rfl, hl2, hg2⟩ := k102_openF hFK
      have hx0 : wr.cell? (ad.add (i * 3)) = some (.string x.f0) := pw_cell_below HB.out (hcc 0 _ rfl)
      have hx1 : wr.cell? ⟨(ad.add (i * 3)).block, (ad.add (i * 3)).off + 1, none⟩ = some (.bool x.f1) := by rw [← add_field _ _ 1 (by omega)]; exact pw_cell_below HB.out (hcc 1 _ rfl)
      have hx2 : wr.cell? ⟨(ad.add (i * 3)).block, (ad.add (i * 3)).off + 2, none⟩ = some (.slice A2 x.f2.length c2) := by rw [← add_field _ _ 2 (by omega)]; exact pw_cell_below HB.out (hcc 2 _ rfl)
      have HU' := HU.out
      have HV' := HV.out
      have hdr : l.drop i = x :: l.drop (i + 1) := by rw [drop_102 l i hlt, ← hx]; rfl
      rw [hdr] at HU' HV'
      have HU := Aside0.mk HU'
      have HV := Aside0.mk HV'
      have HG2 := Aside0.mk hg2
      have HL2 := Aside0.mk hl2
      have hmem : x ∈ l := List.mem_of_mem_drop (by rw [hdr]; exact List.mem_cons_self .. : x ∈ l.drop i)
      have hkx := Aside0.mk (hk.out x hmem)
      clear hcc hFK hcl hok HU' HV' hg2 hl2 hx hdr hmem
      go_wp2_with (first
        | ((with_reducible refine gate_dst (N := 9) rfl ?_); refine box_event ?hg (N := 9) ?hd (cs := #[.string ⟨#[]⟩, .bool false, .slice none 0 0]) (t := 102) ?hr ?_; (case hd => rfl); (case hg => rfl); (case hr => first | (go_simp; done) | (go_simp; rfl)); intro g9 hg w4 hbox hb; have GE9 := Aside0.mk (show W.heap.size ≤ g9 by rw [hg]; exact HB.out.size); have N59 := Aside0.mk (show g5 ≠ g9 by have := blk_lt BK5.out; omega); have N79 := Aside0.mk (show g7 ≠ g9 by have := blk_lt BK7.out; omega); have HO4 := Aside0.mk (Kd.N_below (Kd.N_elderB HO.out g9 (Nat.le_of_eq hg.symm)) hb); have BK54 := Aside0.mk (blk_below BK5.out hb); have BK74 := Aside0.mk (blk_below BK7.out hb); have HB4 := Aside0.mk (below_step HB.out hb); have BK94 := Aside0.mk hbox; have f90 := blk_frozen hbox 0; have f91 := blk_frozen hbox 1; have f92 := blk_frozen hbox 2; have c90 := (blk_cell hbox 0).trans (show _ = some (Value.string ⟨#[]⟩) from rfl); have c91 := (blk_cell hbox 1).trans (show _ = some (Value.bool false) from rfl); have c92 := (blk_cell hbox 2).trans (show _ = some (Value.slice none 0 0) from rfl); clear hbox hb hg HO BK5 BK7 HB)
        | ((with_reducible refine gate_store (t := 102) (p := 9) rfl ?_); refine store_event (t := 102) (p := 9) (v := ?vo2_) (w1 := ((w4.setCell ⟨g9, 0, none⟩ (.string x.f0)).setCell ⟨g9, 1, none⟩ (.bool x.f1)).setCell ⟨g9, 2, none⟩ (.slice A2 x.f2.length c2)) ?hg ?ho ?hn ?hr ?_; (case ho => rfl); (case hg => rfl); (case hn => rfl); (case hr => first | (go_simp; done) | (go_simp; rfl)); intro w5 hw; have HO := Aside0.mk (show Kd.N k102 102 w5 W.heap.size (fun k_ => ((okA k_ ∨ W.heap.size ≤ k_) ∧ k_ ≠ g5 ∧ k_ ≠ g7) ∧ k_ ≠ g9) u6 xs by rw [hw]; exact Kd.N_far (p := ⟨g9, 2, none⟩) (Kd.N_far (p := ⟨g9, 1, none⟩) (Kd.N_far (p := ⟨g9, 0, none⟩) HO4.out (fun _ hk => hk.2) _) (fun _ hk => hk.2) _) (fun _ hk => hk.2) _); have BK5 := Aside0.mk (show w5.heap[g5]? = some (.cells #[.int .i64 0, .int .i64 0, .int .i64 0] 72 (0, 0)) by rw [hw]; exact blk_far (blk_far (blk_far BK54.out N59.out _) N59.out _) N59.out _); have BK7 := Aside0.mk (show w5.heap[g7]? = some (.cells #[.int .i64 a, .int .i64 b, .int .i64 c] 72 (0, 0)) by rw [hw]; exact blk_far (blk_far (blk_far BK74.out N79.out _) N79.out _) N79.out _); have BK9 := Aside0.mk (show w5.heap[g9]? = some (.cells #[.string x.f0, .bool x.f1, .slice A2 x.f2.length c2] 102 (0, 0)) by rw [hw]; exact blk_put (blk_put (blk_put BK94.out 0 _ rfl) 1 _ rfl) 2 _ rfl); have HB := Aside0.mk (show Below W.heap.size W w5 by rw [hw]; exact below_set (below_set (below_set HB4.out GE9.out) GE9.out) GE9.out); clear f90 f91 f92 c90 c91 c92 BK54 BK74 BK94 HO4 HB4 hw; have d90 := (blk_cell BK9.out 0).trans (show _ = some (Value.string x.f0) from rfl); have d91 := (blk_cell BK9.out 1).trans (show _ = some (Value.bool x.f1) from rfl); have d92 := (blk_cell BK9.out 2).trans (show _ = some (Value.slice A2 x.f2.length c2) from rfl); have hS := h.out.below HB.out; have h9 : w5.cell? ⟨p, 9, none⟩ = some (.map (some mb)) := (blk_cell hS.cells 9).trans rfl; obtain ⟨Ac, cc, hrun, hcl, hcF⟩ := hS.look2 x.f0 hkx.out; have HCF := Aside0.mk hcF; have HCL := Aside0.mk hcl; clear hS hcF hcl))
      go_quiet (fail)
      have HO6 := Aside0.mk (Kd.N_drewN HO.out nq)
      have BK56 := Aside0.mk (show (w5.drewN nq).heap[g5]? = some (.cells #[.int .i64 0, .int .i64 0, .int .i64 0] 72 (0, 0)) from BK5.out)
      have BK76 := Aside0.mk (show (w5.drewN nq).heap[g7]? = some (.cells #[.int .i64 a, .int .i64 b, .int .i64 c] 72 (0, 0)) from BK7.out)
      have BK96 := Aside0.mk (show (w5.drewN nq).heap[g9]? = some (.cells #[.string x.f0, .bool x.f1, .slice A2 x.f2.length c2] 102 (0, 0)) from BK9.out)
      have HB6 := Aside0.mk (pw_below_drewN HB.out nq)
      have HC6 := Aside0.mk (Kd.F_drewN HCF.out nq)
      clear HO BK5 BK7 BK9 HB HCF d90 d91 d92 h9 hrun
      generalize w5.drewN nq = w6 at HO6 BK56 BK76 BK96 HB6 HC6 ⊢
      clear hx0 hx1 hx2
      have d90 := (blk_cell BK96.out 0).trans (show _ = some (Value.string x.f0) from rfl)
      have d91 := (blk_cell BK96.out 1).trans (show _ = some (Value.bool x.f1) from rfl)
      have d92 := (blk_cell BK96.out 2).trans (show _ = some (Value.slice A2 x.f2.length c2) from rfl)
      have e90 := blk_frozen BK96.out 0
      have e91 := blk_frozen BK96.out 1
      have e92 := blk_frozen BK96.out 2
      have d70 := (blk_cell BK76.out 0).trans (show _ = some (Value.int .i64 a) from rfl)
      have d71 := (blk_cell BK76.out 1).trans (show _ = some (Value.int .i64 b) from rfl)
      have d72 := (blk_cell BK76.out 2).trans (show _ = some (Value.int .i64 c) from rfl)
      have e70 := blk_frozen BK76.out 0
      have e71 := blk_frozen BK76.out 1
      have e72 := blk_frozen BK76.out 2
      have hi3 : i < 1000 := by have := hl.out; omega
      have hlb : (s.ch x.f0).length ≤ 1000000 := hch.out x.f0
      by_cases hlen : (s.ch x.f0).length = 0
      · cases hf : x.f1 with
        | true =>
          have hsk : (x.f1 && goneC (s.ch x.f0)) = true := by simp [hf, goneC, hlen]
          go_wp2
          go_roundw
          case measure => simp [intOf]; omega
          case rel => exact ⟨i + 1, xs, a, b, c, by go_num, by omega, by omega, ⟨by have h_ := HU.out; simp only [comesL] at h_; rw [if_pos hsk] at h_; exact h_⟩, ⟨by have h_ := HV.out; simp only [comesN] at h_; rw [if_pos hsk] at h_; exact h_⟩, ⟨Kd.N_mono HO6.out (fun _ hk => hk.1)⟩, BK56, BK76, HB6⟩
        | false =>
          have hsk : ¬ (x.f1 && goneC (s.ch x.f0)) = true := by simp [hf]
          go_wp2_with (first
            | ((with_reducible refine gate_builtin (b := .append) (xs := #[.tmp 44, .tmp 46]) rfl ?_); at_builtin; refine Kd.N_append k102 (w0 := W) W.heap.size rfl (.tmp 44) (.tmp 46) 53 102 (.agg #[(.string ⟨#[]⟩), (.bool false), (.slice none 0 0)]) 48 rfl Try.underlying53 info102 rfl (by decide) (by omega) u6 xs x [.string x.f0, .bool false, .slice A2 x.f2.length c2] (fun k_ => ((okA k_ ∨ W.heap.size ≤ k_) ∧ k_ ≠ g5 ∧ k_ ≠ g7) ∧ k_ ≠ g9) (fun k_ => okA k_ ∧ some k_ ≠ (u6 : Value).ownBlock) rfl rfl ?aP ?aK ?aF ?aO ?aB ?aS ?aL ?_; (case aP => have q_ := k102_mkF w6 (fun k_ => okA k_ ∧ some k_ ≠ (u6 : Value).ownBlock) x HL2.out (Kd.F_mono (Kd.F_below HG2.out HB6.out) (fun k_ hk => ⟨hk, fun e => by have := Kd.N_base HO6.out k_ e.symm; have := hokA k_ hk; omega⟩)); rw [hf] at q_; exact q_); (case aK => exact fun k_ hk => ⟨⟨⟨.inl hk.1, by have := hokA k_ hk.1; have := GE5.out; omega, by have := hokA k_ hk.1; have := GE7.out; omega⟩, by have := hokA k_ hk.1; have := GE9.out; omega⟩, hk.2⟩); (case aB => exact HB6.out); (case aF => exact (fun k_ hk => ⟨⟨.inr (Nat.le_trans HB6.out.size hk), by have := blk_lt BK56.out; omega, by have := blk_lt BK76.out; omega⟩, by have := blk_lt BK96.out; omega⟩)); (case aO => exact HO6.out); (case aS => exact HB6.out.size); (case aL => omega); intro v7 w7 ho7 hb7 hg_ hat_; have BK5_ := Aside0.mk (blk_grown BK56.out hg_ (Kd.N_away HO6.out (fun _ hk => hk.1.2.1))); have BK7_ := Aside0.mk (blk_grown BK76.out hg_ (Kd.N_away HO6.out (fun _ hk => hk.1.2.2))); have BK9_ := Aside0.mk (blk_grown BK96.out hg_ (Kd.N_away HO6.out (fun _ hk => hk.2))); clear hg_ hat_ HO6 BK56 BK76 BK96 HB6 d90 d91 d92 e90 e91 e92 d70 d71 d72 e70 e71 e72; have HO6 := Aside0.mk ho7; have HB6 := Aside0.mk hb7; have BK56 := BK5_; have BK76 := BK7_; have BK96 := BK9_; clear ho7 hb7 BK5_ BK7_ BK9_; have d90 := (blk_cell BK96.out 0).trans (show _ = some (Value.string x.f0) from rfl); have d91 := (blk_cell BK96.out 1).trans (show _ = some (Value.bool x.f1) from rfl); have d92 := (blk_cell BK96.out 2).trans (show _ = some (Value.slice A2 x.f2.length c2) from rfl); have e90 := blk_frozen BK96.out 0; have e91 := blk_frozen BK96.out 1; have e92 := blk_frozen BK96.out 2; have d70 := (blk_cell BK76.out 0).trans (show _ = some (Value.int .i64 (a)) from rfl); have d71 := (blk_cell BK76.out 1).trans (show _ = some (Value.int .i64 (b)) from rfl); have d72 := (blk_cell BK76.out 2).trans (show _ = some (Value.int .i64 (c)) from rfl); have e70 := blk_frozen BK76.out 0; have e71 := blk_frozen BK76.out 1; have e72 := blk_frozen BK76.out 2)
            | ((with_reducible refine gate_store (t := 3) (p := 51) rfl ?_); refine store_event (t := 3) (p := 51) (v := ?vo3_) (w1 := w7.setCell ⟨g7, 1, none⟩ (.int .i64 (wrap64 (b + 1)))) ?hg ?ho ?hn ?hr ?_; (case ho => rfl); (case hg => rfl); (case hn => rfl); (case hr => first | (go_simp; done) | (go_simp; rfl)); intro w8 hw; have HO_ := Aside0.mk (show Kd.N k102 102 w8 W.heap.size (fun k_ => ((okA k_ ∨ W.heap.size ≤ k_) ∧ k_ ≠ g5 ∧ k_ ≠ g7) ∧ k_ ≠ g9) v7 (xs ++ [x]) by rw [hw]; exact Kd.N_far (p := ⟨g7, 1, none⟩) HO6.out (fun _ hk => hk.1.2.2) _); have BK5_ := Aside0.mk (show w8.heap[g5]? = some (.cells #[.int .i64 0, .int .i64 0, .int .i64 0] 72 (0, 0)) by rw [hw]; exact blk_far BK56.out N57.out _); have BK7_ := Aside0.mk (show w8.heap[g7]? = some (.cells #[.int .i64 (a), .int .i64 (wrap64 (b + 1)), .int .i64 (c)] 72 (0, 0)) by rw [hw]; exact blk_put BK76.out 1 _ rfl); have BK9_ := Aside0.mk (show w8.heap[g9]? = some (.cells #[.string x.f0, .bool x.f1, .slice A2 x.f2.length c2] 102 (0, 0)) by rw [hw]; exact blk_far BK96.out N79.out.symm _); have HB_ := Aside0.mk (show Below W.heap.size W w8 by rw [hw]; exact below_set HB6.out GE7.out); clear hw HO6 BK56 BK76 BK96 HB6 d90 d91 d92 e90 e91 e92 d70 d71 d72 e70 e71 e72; have HO6 := HO_; have BK56 := BK5_; have BK76 := BK7_; have BK96 := BK9_; have HB6 := HB_; clear HO_ BK5_ BK7_ BK9_ HB_; have d90 := (blk_cell BK96.out 0).trans (show _ = some (Value.string x.f0) from rfl); have d91 := (blk_cell BK96.out 1).trans (show _ = some (Value.bool x.f1) from rfl); have d92 := (blk_cell BK96.out 2).trans (show _ = some (Value.slice A2 x.f2.length c2) from rfl); have e90 := blk_frozen BK96.out 0; have e91 := blk_frozen BK96.out 1; have e92 := blk_frozen BK96.out 2; have d70 := (blk_cell BK76.out 0).trans (show _ = some (Value.int .i64 (a)) from rfl); have d71 := (blk_cell BK76.out 1).trans (show _ = some (Value.int .i64 (wrap64 (b + 1))) from rfl); have d72 := (blk_cell BK76.out 2).trans (show _ = some (Value.int .i64 (c)) from rfl); have e70 := blk_frozen BK76.out 0; have e71 := blk_frozen BK76.out 1; have e72 := blk_frozen BK76.out 2)
            | ((with_reducible refine gate_store (t := 3) (p := 58) rfl ?_); refine store_event (t := 3) (p := 58) (v := ?vo4_) (w1 := w8.setCell ⟨g7, 2, none⟩ (.int .i64 (wrap64 (c + (x.f2.length : Int))))) ?hg ?ho ?hn ?hr ?_; (case ho => rfl); (case hg => rfl); (case hn => rfl); (case hr => first | (go_simp; done) | (go_simp; rfl)); intro w9 hw; have HO_ := Aside0.mk (show Kd.N k102 102 w9 W.heap.size (fun k_ => ((okA k_ ∨ W.heap.size ≤ k_) ∧ k_ ≠ g5 ∧ k_ ≠ g7) ∧ k_ ≠ g9) v7 (xs ++ [x]) by rw [hw]; exact Kd.N_far (p := ⟨g7, 2, none⟩) HO6.out (fun _ hk => hk.1.2.2) _); have BK5_ := Aside0.mk (show w9.heap[g5]? = some (.cells #[.int .i64 0, .int .i64 0, .int .i64 0] 72 (0, 0)) by rw [hw]; exact blk_far BK56.out N57.out _); have BK7_ := Aside0.mk (show w9.heap[g7]? = some (.cells #[.int .i64 (a), .int .i64 (wrap64 (b + 1)), .int .i64 (wrap64 (c + (x.f2.length : Int)))] 72 (0, 0)) by rw [hw]; exact blk_put BK76.out 2 _ rfl); have BK9_ := Aside0.mk (show w9.heap[g9]? = some (.cells #[.string x.f0, .bool x.f1, .slice A2 x.f2.length c2] 102 (0, 0)) by rw [hw]; exact blk_far BK96.out N79.out.symm _); have HB_ := Aside0.mk (show Below W.heap.size W w9 by rw [hw]; exact below_set HB6.out GE7.out); clear hw HO6 BK56 BK76 BK96 HB6 d90 d91 d92 e90 e91 e92 d70 d71 d72 e70 e71 e72; have HO6 := HO_; have BK56 := BK5_; have BK76 := BK7_; have BK96 := BK9_; have HB6 := HB_; clear HO_ BK5_ BK7_ BK9_ HB_; have d90 := (blk_cell BK96.out 0).trans (show _ = some (Value.string x.f0) from rfl); have d91 := (blk_cell BK96.out 1).trans (show _ = some (Value.bool x.f1) from rfl); have d92 := (blk_cell BK96.out 2).trans (show _ = some (Value.slice A2 x.f2.length c2) from rfl); have e90 := blk_frozen BK96.out 0; have e91 := blk_frozen BK96.out 1; have e92 := blk_frozen BK96.out 2; have d70 := (blk_cell BK76.out 0).trans (show _ = some (Value.int .i64 (a)) from rfl); have d71 := (blk_cell BK76.out 1).trans (show _ = some (Value.int .i64 (wrap64 (b + 1))) from rfl); have d72 := (blk_cell BK76.out 2).trans (show _ = some (Value.int .i64 (wrap64 (c + (x.f2.length : Int)))) from rfl); have e70 := blk_frozen BK76.out 0; have e71 := blk_frozen BK76.out 1; have e72 := blk_frozen BK76.out 2)
            | ((with_reducible refine gate_store (t := 3) (p := 65) rfl ?_); refine store_event (t := 3) (p := 65) (v := ?vo5_) (w1 := w9.setCell ⟨g7, 0, none⟩ (.int .i64 (wrap64 (a + 1)))) ?hg ?ho ?hn ?hr ?_; (case ho => rfl); (case hg => rfl); (case hn => rfl); (case hr => first | (go_simp; done) | (go_simp; rfl)); intro w10 hw; have HO_ := Aside0.mk (show Kd.N k102 102 w10 W.heap.size (fun k_ => ((okA k_ ∨ W.heap.size ≤ k_) ∧ k_ ≠ g5 ∧ k_ ≠ g7) ∧ k_ ≠ g9) v7 (xs ++ [x]) by rw [hw]; exact Kd.N_far (p := ⟨g7, 0, none⟩) HO6.out (fun _ hk => hk.1.2.2) _); have BK5_ := Aside0.mk (show w10.heap[g5]? = some (.cells #[.int .i64 0, .int .i64 0, .int .i64 0] 72 (0, 0)) by rw [hw]; exact blk_far BK56.out N57.out _); have BK7_ := Aside0.mk (show w10.heap[g7]? = some (.cells #[.int .i64 (wrap64 (a + 1)), .int .i64 (wrap64 (b + 1)), .int .i64 (wrap64 (c + (x.f2.length : Int)))] 72 (0, 0)) by rw [hw]; exact blk_put BK76.out 0 _ rfl); have BK9_ := Aside0.mk (show w10.heap[g9]? = some (.cells #[.string x.f0, .bool x.f1, .slice A2 x.f2.length c2] 102 (0, 0)) by rw [hw]; exact blk_far BK96.out N79.out.symm _); have HB_ := Aside0.mk (show Below W.heap.size W w10 by rw [hw]; exact below_set HB6.out GE7.out); clear hw HO6 BK56 BK76 BK96 HB6 d90 d91 d92 e90 e91 e92 d70 d71 d72 e70 e71 e72; have HO6 := HO_; have BK56 := BK5_; have BK76 := BK7_; have BK96 := BK9_; have HB6 := HB_; clear HO_ BK5_ BK7_ BK9_ HB_; have d90 := (blk_cell BK96.out 0).trans (show _ = some (Value.string x.f0) from rfl); have d91 := (blk_cell BK96.out 1).trans (show _ = some (Value.bool x.f1) from rfl); have d92 := (blk_cell BK96.out 2).trans (show _ = some (Value.slice A2 x.f2.length c2) from rfl); have e90 := blk_frozen BK96.out 0; have e91 := blk_frozen BK96.out 1; have e92 := blk_frozen BK96.out 2; have d70 := (blk_cell BK76.out 0).trans (show _ = some (Value.int .i64 (wrap64 (a + 1))) from rfl); have d71 := (blk_cell BK76.out 1).trans (show _ = some (Value.int .i64 (wrap64 (b + 1))) from rfl); have d72 := (blk_cell BK76.out 2).trans (show _ = some (Value.int .i64 (wrap64 (c + (x.f2.length : Int)))) from rfl); have e70 := blk_frozen BK76.out 0; have e71 := blk_frozen BK76.out 1; have e72 := blk_frozen BK76.out 2)
            | ((with_reducible refine gate_store (t := 3) (p := 72) rfl ?_); refine store_event (t := 3) (p := 72) (v := ?vo6_) (w1 := w10.setCell ⟨g7, 2, none⟩ (.int .i64 (wrap64 (wrap64 (c + (x.f2.length : Int)) + (x.f0.size : Int))))) ?hg ?ho ?hn ?hr ?_; (case ho => rfl); (case hg => rfl); (case hn => rfl); (case hr => first | (go_simp; done) | (go_simp; rfl)); intro w11 hw; have HO_ := Aside0.mk (show Kd.N k102 102 w11 W.heap.size (fun k_ => ((okA k_ ∨ W.heap.size ≤ k_) ∧ k_ ≠ g5 ∧ k_ ≠ g7) ∧ k_ ≠ g9) v7 (xs ++ [x]) by rw [hw]; exact Kd.N_far (p := ⟨g7, 2, none⟩) HO6.out (fun _ hk => hk.1.2.2) _); have BK5_ := Aside0.mk (show w11.heap[g5]? = some (.cells #[.int .i64 0, .int .i64 0, .int .i64 0] 72 (0, 0)) by rw [hw]; exact blk_far BK56.out N57.out _); have BK7_ := Aside0.mk (show w11.heap[g7]? = some (.cells #[.int .i64 (wrap64 (a + 1)), .int .i64 (wrap64 (b + 1)), .int .i64 (wrap64 (wrap64 (c + (x.f2.length : Int)) + (x.f0.size : Int)))] 72 (0, 0)) by rw [hw]; exact blk_put BK76.out 2 _ rfl); have BK9_ := Aside0.mk (show w11.heap[g9]? = some (.cells #[.string x.f0, .bool x.f1, .slice A2 x.f2.length c2] 102 (0, 0)) by rw [hw]; exact blk_far BK96.out N79.out.symm _); have HB_ := Aside0.mk (show Below W.heap.size W w11 by rw [hw]; exact below_set HB6.out GE7.out); clear hw HO6 BK56 BK76 BK96 HB6 d90 d91 d92 e90 e91 e92 d70 d71 d72 e70 e71 e72; have HO6 := HO_; have BK56 := BK5_; have BK76 := BK7_; have BK96 := BK9_; have HB6 := HB_; clear HO_ BK5_ BK7_ BK9_ HB_; have d90 := (blk_cell BK96.out 0).trans (show _ = some (Value.string x.f0) from rfl); have d91 := (blk_cell BK96.out 1).trans (show _ = some (Value.bool x.f1) from rfl); have d92 := (blk_cell BK96.out 2).trans (show _ = some (Value.slice A2 x.f2.length c2) from rfl); have e90 := blk_frozen BK96.out 0; have e91 := blk_frozen BK96.out 1; have e92 := blk_frozen BK96.out 2; have d70 := (blk_cell BK76.out 0).trans (show _ = some (Value.int .i64 (wrap64 (a + 1))) from rfl); have d71 := (blk_cell BK76.out 1).trans (show _ = some (Value.int .i64 (wrap64 (b + 1))) from rfl); have d72 := (blk_cell BK76.out 2).trans (show _ = some (Value.int .i64 (wrap64 (wrap64 (c + (x.f2.length : Int)) + (x.f0.size : Int)))) from rfl); have e70 := blk_frozen BK76.out 0; have e71 := blk_frozen BK76.out 1; have e72 := blk_frozen BK76.out 2))
          go_roundw
          case measure => simp [intOf]; omega
          case rel => exact ⟨i + 1, xs ++ [x], wrap64 (a + 1), wrap64 (b + 1), wrap64 (wrap64 (c + (x.f2.length : Int)) + (x.f0.size : Int)), by go_num, by omega, by simp; omega, ⟨by have h_ := HU.out; simp only [comesL] at h_; rw [if_neg hsk] at h_; simpa using h_⟩, ⟨by have h_ := HV.out; simp only [comesN] at h_; rw [if_neg hsk] at h_; rw [if_pos hlen] at h_; exact h_⟩, ⟨Kd.N_mono HO6.out (fun _ hk => hk.1)⟩, BK56, BK76, HB6⟩
      · cases hf : x.f1 with
        | false =>
          have hsk : ¬ (x.f1 && goneC (s.ch x.f0)) = true := by simp [hf]
          go_wp2_with (first
            | ((with_reducible refine gate_builtin (b := .append) (xs := #[.tmp 44, .tmp 46]) rfl ?_); at_builtin; refine Kd.N_append k102 (w0 := W) W.heap.size rfl (.tmp 44) (.tmp 46) 53 102 (.agg #[(.string ⟨#[]⟩), (.bool false), (.slice none 0 0)]) 48 rfl Try.underlying53 info102 rfl (by decide) (by omega) u6 xs x [.string x.f0, .bool false, .slice A2 x.f2.length c2] (fun k_ => ((okA k_ ∨ W.heap.size ≤ k_) ∧ k_ ≠ g5 ∧ k_ ≠ g7) ∧ k_ ≠ g9) (fun k_ => okA k_ ∧ some k_ ≠ (u6 : Value).ownBlock) rfl rfl ?aP ?aK ?aF ?aO ?aB ?aS ?aL ?_; (case aP => have q_ := k102_mkF w6 (fun k_ => okA k_ ∧ some k_ ≠ (u6 : Value).ownBlock) x HL2.out (Kd.F_mono (Kd.F_below HG2.out HB6.out) (fun k_ hk => ⟨hk, fun e => by have := Kd.N_base HO6.out k_ e.symm; have := hokA k_ hk; omega⟩)); rw [hf] at q_; exact q_); (case aK => exact fun k_ hk => ⟨⟨⟨.inl hk.1, by have := hokA k_ hk.1; have := GE5.out; omega, by have := hokA k_ hk.1; have := GE7.out; omega⟩, by have := hokA k_ hk.1; have := GE9.out; omega⟩, hk.2⟩); (case aB => exact HB6.out); (case aF => exact (fun k_ hk => ⟨⟨.inr (Nat.le_trans HB6.out.size hk), by have := blk_lt BK56.out; omega, by have := blk_lt BK76.out; omega⟩, by have := blk_lt BK96.out; omega⟩)); (case aO => exact HO6.out); (case aS => exact HB6.out.size); (case aL => omega); intro v7 w7 ho7 hb7 hg_ hat_; have BK5_ := Aside0.mk (blk_grown BK56.out hg_ (Kd.N_away HO6.out (fun _ hk => hk.1.2.1))); have BK7_ := Aside0.mk (blk_grown BK76.out hg_ (Kd.N_away HO6.out (fun _ hk => hk.1.2.2))); have BK9_ := Aside0.mk (blk_grown BK96.out hg_ (Kd.N_away HO6.out (fun _ hk => hk.2))); clear hg_ hat_ HO6 BK56 BK76 BK96 HB6 d90 d91 d92 e90 e91 e92 d70 d71 d72 e70 e71 e72; have HO6 := Aside0.mk ho7; have HB6 := Aside0.mk hb7; have BK56 := BK5_; have BK76 := BK7_; have BK96 := BK9_; clear ho7 hb7 BK5_ BK7_ BK9_; have d90 := (blk_cell BK96.out 0).trans (show _ = some (Value.string x.f0) from rfl); have d91 := (blk_cell BK96.out 1).trans (show _ = some (Value.bool x.f1) from rfl); have d92 := (blk_cell BK96.out 2).trans (show _ = some (Value.slice A2 x.f2.length c2) from rfl); have e90 := blk_frozen BK96.out 0; have e91 := blk_frozen BK96.out 1; have e92 := blk_frozen BK96.out 2; have d70 := (blk_cell BK76.out 0).trans (show _ = some (Value.int .i64 (a)) from rfl); have d71 := (blk_cell BK76.out 1).trans (show _ = some (Value.int .i64 (b)) from rfl); have d72 := (blk_cell BK76.out 2).trans (show _ = some (Value.int .i64 (c)) from rfl); have e70 := blk_frozen BK76.out 0; have e71 := blk_frozen BK76.out 1; have e72 := blk_frozen BK76.out 2)
            | ((with_reducible refine gate_store (t := 3) (p := 51) rfl ?_); refine store_event (t := 3) (p := 51) (v := ?vo7_) (w1 := w7.setCell ⟨g7, 1, none⟩ (.int .i64 (wrap64 (b + 1)))) ?hg ?ho ?hn ?hr ?_; (case ho => rfl); (case hg => rfl); (case hn => rfl); (case hr => first | (go_simp; done) | (go_simp; rfl)); intro w8 hw; have HO_ := Aside0.mk (show Kd.N k102 102 w8 W.heap.size (fun k_ => ((okA k_ ∨ W.heap.size ≤ k_) ∧ k_ ≠ g5 ∧ k_ ≠ g7) ∧ k_ ≠ g9) v7 (xs ++ [x]) by rw [hw]; exact Kd.N_far (p := ⟨g7, 1, none⟩) HO6.out (fun _ hk => hk.1.2.2) _); have BK5_ := Aside0.mk (show w8.heap[g5]? = some (.cells #[.int .i64 0, .int .i64 0, .int .i64 0] 72 (0, 0)) by rw [hw]; exact blk_far BK56.out N57.out _); have BK7_ := Aside0.mk (show w8.heap[g7]? = some (.cells #[.int .i64 (a), .int .i64 (wrap64 (b + 1)), .int .i64 (c)] 72 (0, 0)) by rw [hw]; exact blk_put BK76.out 1 _ rfl); have BK9_ := Aside0.mk (show w8.heap[g9]? = some (.cells #[.string x.f0, .bool x.f1, .slice A2 x.f2.length c2] 102 (0, 0)) by rw [hw]; exact blk_far BK96.out N79.out.symm _); have HB_ := Aside0.mk (show Below W.heap.size W w8 by rw [hw]; exact below_set HB6.out GE7.out); clear hw HO6 BK56 BK76 BK96 HB6 d90 d91 d92 e90 e91 e92 d70 d71 d72 e70 e71 e72; have HO6 := HO_; have BK56 := BK5_; have BK76 := BK7_; have BK96 := BK9_; have HB6 := HB_; clear HO_ BK5_ BK7_ BK9_ HB_; have d90 := (blk_cell BK96.out 0).trans (show _ = some (Value.string x.f0) from rfl); have d91 := (blk_cell BK96.out 1).trans (show _ = some (Value.bool x.f1) from rfl); have d92 := (blk_cell BK96.out 2).trans (show _ = some (Value.slice A2 x.f2.length c2) from rfl); have e90 := blk_frozen BK96.out 0; have e91 := blk_frozen BK96.out 1; have e92 := blk_frozen BK96.out 2; have d70 := (blk_cell BK76.out 0).trans (show _ = some (Value.int .i64 (a)) from rfl); have d71 := (blk_cell BK76.out 1).trans (show _ = some (Value.int .i64 (wrap64 (b + 1))) from rfl); have d72 := (blk_cell BK76.out 2).trans (show _ = some (Value.int .i64 (c)) from rfl); have e70 := blk_frozen BK76.out 0; have e71 := blk_frozen BK76.out 1; have e72 := blk_frozen BK76.out 2)
            | ((with_reducible refine gate_store (t := 3) (p := 58) rfl ?_); refine store_event (t := 3) (p := 58) (v := ?vo8_) (w1 := w8.setCell ⟨g7, 2, none⟩ (.int .i64 (wrap64 (c + (x.f2.length : Int))))) ?hg ?ho ?hn ?hr ?_; (case ho => rfl); (case hg => rfl); (case hn => rfl); (case hr => first | (go_simp; done) | (go_simp; rfl)); intro w9 hw; have HO_ := Aside0.mk (show Kd.N k102 102 w9 W.heap.size (fun k_ => ((okA k_ ∨ W.heap.size ≤ k_) ∧ k_ ≠ g5 ∧ k_ ≠ g7) ∧ k_ ≠ g9) v7 (xs ++ [x]) by rw [hw]; exact Kd.N_far (p := ⟨g7, 2, none⟩) HO6.out (fun _ hk => hk.1.2.2) _); have BK5_ := Aside0.mk (show w9.heap[g5]? = some (.cells #[.int .i64 0, .int .i64 0, .int .i64 0] 72 (0, 0)) by rw [hw]; exact blk_far BK56.out N57.out _); have BK7_ := Aside0.mk (show w9.heap[g7]? = some (.cells #[.int .i64 (a), .int .i64 (wrap64 (b + 1)), .int .i64 (wrap64 (c + (x.f2.length : Int)))] 72 (0, 0)) by rw [hw]; exact blk_put BK76.out 2 _ rfl); have BK9_ := Aside0.mk (show w9.heap[g9]? = some (.cells #[.string x.f0, .bool x.f1, .slice A2 x.f2.length c2] 102 (0, 0)) by rw [hw]; exact blk_far BK96.out N79.out.symm _); have HB_ := Aside0.mk (show Below W.heap.size W w9 by rw [hw]; exact below_set HB6.out GE7.out); clear hw HO6 BK56 BK76 BK96 HB6 d90 d91 d92 e90 e91 e92 d70 d71 d72 e70 e71 e72; have HO6 := HO_; have BK56 := BK5_; have BK76 := BK7_; have BK96 := BK9_; have HB6 := HB_; clear HO_ BK5_ BK7_ BK9_ HB_; have d90 := (blk_cell BK96.out 0).trans (show _ = some (Value.string x.f0) from rfl); have d91 := (blk_cell BK96.out 1).trans (show _ = some (Value.bool x.f1) from rfl); have d92 := (blk_cell BK96.out 2).trans (show _ = some (Value.slice A2 x.f2.length c2) from rfl); have e90 := blk_frozen BK96.out 0; have e91 := blk_frozen BK96.out 1; have e92 := blk_frozen BK96.out 2; have d70 := (blk_cell BK76.out 0).trans (show _ = some (Value.int .i64 (a)) from rfl); have d71 := (blk_cell BK76.out 1).trans (show _ = some (Value.int .i64 (wrap64 (b + 1))) from rfl); have d72 := (blk_cell BK76.out 2).trans (show _ = some (Value.int .i64 (wrap64 (c + (x.f2.length : Int)))) from rfl); have e70 := blk_frozen BK76.out 0; have e71 := blk_frozen BK76.out 1; have e72 := blk_frozen BK76.out 2))
          go_roundw
          case measure => simp [intOf]; omega
          case rel => exact ⟨i + 1, xs ++ [x], a, wrap64 (b + 1), wrap64 (c + (x.f2.length : Int)), by go_num, by omega, by simp; omega, ⟨by have h_ := HU.out; simp only [comesL] at h_; rw [if_neg hsk] at h_; simpa using h_⟩, ⟨by have h_ := HV.out; simp only [comesN] at h_; rw [if_neg hsk] at h_; rw [if_neg hlen] at h_; exact h_⟩, ⟨Kd.N_mono HO6.out (fun _ hk => hk.1)⟩, BK56, BK76, HB6⟩
        | true =>
          obtain ⟨adc, Ac2, cc2, rfl, _, hlast, _, _, _⟩ := at_T28 (Kd.F_now HC6.out) ((s.ch x.f0).length - 1 : Int) (by omega) (by omega)
          have e_ : ((s.ch x.f0).length - 1 : Int).toNat = (s.ch x.f0).length - 1 := by omega
          rw [e_] at hlast
          have hlz : (((s.ch x.f0).length : Int) == 0) = false := by simpa using hlen
          clear e_
          cases hgn : (rd_T28 (s.ch x.f0) ((s.ch x.f0).length - 1 : Int)).f1 with
          | true =>
            have hsk : (x.f1 && goneC (s.ch x.f0)) = true := by simp [hf, goneC, hgn]
            rw [hgn] at hlast
            go_wp2
            go_roundw
            case measure => simp [intOf]; omega
            case rel => exact ⟨i + 1, xs, a, b, c, by go_num, by omega, by omega, ⟨by have h_ := HU.out; simp only [comesL] at h_; rw [if_pos hsk] at h_; exact h_⟩, ⟨by have h_ := HV.out; simp only [comesN] at h_; rw [if_pos hsk] at h_; exact h_⟩, ⟨Kd.N_mono HO6.out (fun _ hk => hk.1)⟩, BK56, BK76, HB6⟩
          | false =>
            have hsk : ¬ (x.f1 && goneC (s.ch x.f0)) = true := by simp [hf, goneC, hgn, hlen]
            rw [hgn] at hlast
            go_wp2_with (first
              | ((with_reducible refine gate_builtin (b := .append) (xs := #[.tmp 44, .tmp 46]) rfl ?_); at_builtin; refine Kd.N_append k102 (w0 := W) W.heap.size rfl (.tmp 44) (.tmp 46) 53 102 (.agg #[(.string ⟨#[]⟩), (.bool false), (.slice none 0 0)]) 48 rfl Try.underlying53 info102 rfl (by decide) (by omega) u6 xs x [.string x.f0, .bool true, .slice A2 x.f2.length c2] (fun k_ => ((okA k_ ∨ W.heap.size ≤ k_) ∧ k_ ≠ g5 ∧ k_ ≠ g7) ∧ k_ ≠ g9) (fun k_ => okA k_ ∧ some k_ ≠ (u6 : Value).ownBlock) rfl rfl ?aP ?aK ?aF ?aO ?aB ?aS ?aL ?_; (case aP => have q_ := k102_mkF w6 (fun k_ => okA k_ ∧ some k_ ≠ (u6 : Value).ownBlock) x HL2.out (Kd.F_mono (Kd.F_below HG2.out HB6.out) (fun k_ hk => ⟨hk, fun e => by have := Kd.N_base HO6.out k_ e.symm; have := hokA k_ hk; omega⟩)); rw [hf] at q_; exact q_); (case aK => exact fun k_ hk => ⟨⟨⟨.inl hk.1, by have := hokA k_ hk.1; have := GE5.out; omega, by have := hokA k_ hk.1; have := GE7.out; omega⟩, by have := hokA k_ hk.1; have := GE9.out; omega⟩, hk.2⟩); (case aB => exact HB6.out); (case aF => exact (fun k_ hk => ⟨⟨.inr (Nat.le_trans HB6.out.size hk), by have := blk_lt BK56.out; omega, by have := blk_lt BK76.out; omega⟩, by have := blk_lt BK96.out; omega⟩)); (case aO => exact HO6.out); (case aS => exact HB6.out.size); (case aL => omega); intro v7 w7 ho7 hb7 hg_ hat_; have BK5_ := Aside0.mk (blk_grown BK56.out hg_ (Kd.N_away HO6.out (fun _ hk => hk.1.2.1))); have BK7_ := Aside0.mk (blk_grown BK76.out hg_ (Kd.N_away HO6.out (fun _ hk => hk.1.2.2))); have BK9_ := Aside0.mk (blk_grown BK96.out hg_ (Kd.N_away HO6.out (fun _ hk => hk.2))); clear hg_ hat_ HO6 BK56 BK76 BK96 HB6 d90 d91 d92 e90 e91 e92 d70 d71 d72 e70 e71 e72; have HO6 := Aside0.mk ho7; have HB6 := Aside0.mk hb7; have BK56 := BK5_; have BK76 := BK7_; have BK96 := BK9_; clear ho7 hb7 BK5_ BK7_ BK9_; have d90 := (blk_cell BK96.out 0).trans (show _ = some (Value.string x.f0) from rfl); have d91 := (blk_cell BK96.out 1).trans (show _ = some (Value.bool x.f1) from rfl); have d92 := (blk_cell BK96.out 2).trans (show _ = some (Value.slice A2 x.f2.length c2) from rfl); have e90 := blk_frozen BK96.out 0; have e91 := blk_frozen BK96.out 1; have e92 := blk_frozen BK96.out 2; have d70 := (blk_cell BK76.out 0).trans (show _ = some (Value.int .i64 (a)) from rfl); have d71 := (blk_cell BK76.out 1).trans (show _ = some (Value.int .i64 (b)) from rfl); have d72 := (blk_cell BK76.out 2).trans (show _ = some (Value.int .i64 (c)) from rfl); have e70 := blk_frozen BK76.out 0; have e71 := blk_frozen BK76.out 1; have e72 := blk_frozen BK76.out 2)
              | ((with_reducible refine gate_store (t := 3) (p := 51) rfl ?_); refine store_event (t := 3) (p := 51) (v := ?vo9_) (w1 := w7.setCell ⟨g7, 1, none⟩ (.int .i64 (wrap64 (b + 1)))) ?hg ?ho ?hn ?hr ?_; (case ho => rfl); (case hg => rfl); (case hn => rfl); (case hr => first | (go_simp; done) | (go_simp; rfl)); intro w8 hw; have HO_ := Aside0.mk (show Kd.N k102 102 w8 W.heap.size (fun k_ => ((okA k_ ∨ W.heap.size ≤ k_) ∧ k_ ≠ g5 ∧ k_ ≠ g7) ∧ k_ ≠ g9) v7 (xs ++ [x]) by rw [hw]; exact Kd.N_far (p := ⟨g7, 1, none⟩) HO6.out (fun _ hk => hk.1.2.2) _); have BK5_ := Aside0.mk (show w8.heap[g5]? = some (.cells #[.int .i64 0, .int .i64 0, .int .i64 0] 72 (0, 0)) by rw [hw]; exact blk_far BK56.out N57.out _); have BK7_ := Aside0.mk (show w8.heap[g7]? = some (.cells #[.int .i64 (a), .int .i64 (wrap64 (b + 1)), .int .i64 (c)] 72 (0, 0)) by rw [hw]; exact blk_put BK76.out 1 _ rfl); have BK9_ := Aside0.mk (show w8.heap[g9]? = some (.cells #[.string x.f0, .bool x.f1, .slice A2 x.f2.length c2] 102 (0, 0)) by rw [hw]; exact blk_far BK96.out N79.out.symm _); have HB_ := Aside0.mk (show Below W.heap.size W w8 by rw [hw]; exact below_set HB6.out GE7.out); clear hw HO6 BK56 BK76 BK96 HB6 d90 d91 d92 e90 e91 e92 d70 d71 d72 e70 e71 e72; have HO6 := HO_; have BK56 := BK5_; have BK76 := BK7_; have BK96 := BK9_; have HB6 := HB_; clear HO_ BK5_ BK7_ BK9_ HB_; have d90 := (blk_cell BK96.out 0).trans (show _ = some (Value.string x.f0) from rfl); have d91 := (blk_cell BK96.out 1).trans (show _ = some (Value.bool x.f1) from rfl); have d92 := (blk_cell BK96.out 2).trans (show _ = some (Value.slice A2 x.f2.length c2) from rfl); have e90 := blk_frozen BK96.out 0; have e91 := blk_frozen BK96.out 1; have e92 := blk_frozen BK96.out 2; have d70 := (blk_cell BK76.out 0).trans (show _ = some (Value.int .i64 (a)) from rfl); have d71 := (blk_cell BK76.out 1).trans (show _ = some (Value.int .i64 (wrap64 (b + 1))) from rfl); have d72 := (blk_cell BK76.out 2).trans (show _ = some (Value.int .i64 (c)) from rfl); have e70 := blk_frozen BK76.out 0; have e71 := blk_frozen BK76.out 1; have e72 := blk_frozen BK76.out 2)
              | ((with_reducible refine gate_store (t := 3) (p := 58) rfl ?_); refine store_event (t := 3) (p := 58) (v := ?vo10_) (w1 := w8.setCell ⟨g7, 2, none⟩ (.int .i64 (wrap64 (c + (x.f2.length : Int))))) ?hg ?ho ?hn ?hr ?_; (case ho => rfl); (case hg => rfl); (case hn => rfl); (case hr => first | (go_simp; done) | (go_simp; rfl)); intro w9 hw; have HO_ := Aside0.mk (show Kd.N k102 102 w9 W.heap.size (fun k_ => ((okA k_ ∨ W.heap.size ≤ k_) ∧ k_ ≠ g5 ∧ k_ ≠ g7) ∧ k_ ≠ g9) v7 (xs ++ [x]) by rw [hw]; exact Kd.N_far (p := ⟨g7, 2, none⟩) HO6.out (fun _ hk => hk.1.2.2) _); have BK5_ := Aside0.mk (show w9.heap[g5]? = some (.cells #[.int .i64 0, .int .i64 0, .int .i64 0] 72 (0, 0)) by rw [hw]; exact blk_far BK56.out N57.out _); have BK7_ := Aside0.mk (show w9.heap[g7]? = some (.cells #[.int .i64 (a), .int .i64 (wrap64 (b + 1)), .int .i64 (wrap64 (c + (x.f2.length : Int)))] 72 (0, 0)) by rw [hw]; exact blk_put BK76.out 2 _ rfl); have BK9_ := Aside0.mk (show w9.heap[g9]? = some (.cells #[.string x.f0, .bool x.f1, .slice A2 x.f2.length c2] 102 (0, 0)) by rw [hw]; exact blk_far BK96.out N79.out.symm _); have HB_ := Aside0.mk (show Below W.heap.size W w9 by rw [hw]; exact below_set HB6.out GE7.out); clear hw HO6 BK56 BK76 BK96 HB6 d90 d91 d92 e90 e91 e92 d70 d71 d72 e70 e71 e72; have HO6 := HO_; have BK56 := BK5_; have BK76 := BK7_; have BK96 := BK9_; have HB6 := HB_; clear HO_ BK5_ BK7_ BK9_ HB_; have d90 := (blk_cell BK96.out 0).trans (show _ = some (Value.string x.f0) from rfl); have d91 := (blk_cell BK96.out 1).trans (show _ = some (Value.bool x.f1) from rfl); have d92 := (blk_cell BK96.out 2).trans (show _ = some (Value.slice A2 x.f2.length c2) from rfl); have e90 := blk_frozen BK96.out 0; have e91 := blk_frozen BK96.out 1; have e92 := blk_frozen BK96.out 2; have d70 := (blk_cell BK76.out 0).trans (show _ = some (Value.int .i64 (a)) from rfl); have d71 := (blk_cell BK76.out 1).trans (show _ = some (Value.int .i64 (wrap64 (b + 1))) from rfl); have d72 := (blk_cell BK76.out 2).trans (show _ = some (Value.int .i64 (wrap64 (c + (x.f2.length : Int)))) from rfl); have e70 := blk_frozen BK76.out 0; have e71 := blk_frozen BK76.out 1; have e72 := blk_frozen BK76.out 2))
            go_roundw
            case measure => simp [intOf]; omega
            case rel => exact ⟨i + 1, xs ++ [x], a, wrap64 (b + 1), wrap64 (c + (x.f2.length : Int)), by go_num, by omega, by simp; omega, ⟨by have h_ := HU.out; simp only [comesL] at h_; rw [if_neg hsk] at h_; simpa using h_⟩, ⟨by have h_ := HV.out; simp only [comesN] at h_; rw [if_neg hsk] at h_; rw [if_neg hlen] at h_; exact h_⟩, ⟨Kd.N_mono HO6.out (fun _ hk => hk.1)⟩, BK56, BK76, HB6⟩
    · have hd : l.drop i = [] := List.drop_eq_nil_of_le (by omega)
      have h1_ := HU.out
      have h2_ := HV.out
      rw [hd] at h1_ h2_
      simp only [comesL, comesN, List.append_nil] at h1_ h2_
      have H1 := Aside0.mk h1_
      have H2 := Aside0.mk h2_
      clear hd h1_ h2_ HU HV
      have k50 := (blk_cell BK5.out 0).trans (show _ = some (Value.int .i64 0) from rfl)
      have k51 := (blk_cell BK5.out 1).trans (show _ = some (Value.int .i64 0) from rfl)
      have k52 := (blk_cell BK5.out 2).trans (show _ = some (Value.int .i64 0) from rfl)
      have k70 := (blk_cell BK7.out 0).trans (show _ = some (Value.int .i64 a) from rfl)
      have k71 := (blk_cell BK7.out 1).trans (show _ = some (Value.int .i64 b) from rfl)
      have k72 := (blk_cell BK7.out 2).trans (show _ = some (Value.int .i64 c) from rfl)
      have m50 := blk_frozen BK5.out 0
      have m51 := blk_frozen BK5.out 1
      have m52 := blk_frozen BK5.out 2
      go_wp2
      go_region
      have HO8 := Aside0.mk (Kd.N_drew (Kd.N_far (p := ⟨g5, 2, none⟩) (Kd.N_far (p := ⟨g5, 1, none⟩) (Kd.N_far (p := ⟨g5, 0, none⟩) HO.out (fun _ hk => hk.2.1) (.int .i64 a)) (fun _ hk => hk.2.1) (.int .i64 b)) (fun _ hk => hk.2.1) (.int .i64 c)))
      have BK8 := Aside0.mk (show (((wr.setCell ⟨g5, 0, none⟩ (.int .i64 a)).setCell ⟨g5, 1, none⟩ (.int .i64 b)).setCell ⟨g5, 2, none⟩ (.int .i64 c)).drew.heap[g5]? = some (.cells #[.int .i64 a, .int .i64 b, .int .i64 c] 72 (0, 0)) from blk_put (blk_put (blk_put BK5.out 0 _ rfl) 1 _ rfl) 2 _ rfl)
      have HB8 := Aside0.mk (below_drew1 (below_set (below_set (below_set (j := 0) (v := .int .i64 a) HB.out GE5.out) (j := 1) (v := .int .i64 b) GE5.out) (j := 2) (v := .int .i64 c) GE5.out))
      generalize (((wr.setCell ⟨g5, 0, none⟩ (.int .i64 a)).setCell ⟨g5, 1, none⟩ (.int .i64 b)).setCell ⟨g5, 2, none⟩ (.int .i64 c)).drew = w8 at HO8 BK8 HB8 ⊢
      clear k50 k51 k52 k70 k71 k72 m50 m51 m52
      have k80 := (blk_cell BK8.out 0).trans (show _ = some (Value.int .i64 a) from rfl)
      have k81 := (blk_cell BK8.out 1).trans (show _ = some (Value.int .i64 b) from rfl)
      have k82 := (blk_cell BK8.out 2).trans (show _ = some (Value.int .i64 c) from rfl)
      go_wp2
      rw [← H1.out, ← H2.out]
      exact bodyPost_ret (v := .tuple #[u6, .agg #[.int .i64 a, .int .i64 b, .int .i64 c]]) (by simp [results, Try.results82, go_sem, k80, k81, k82]) rfl ⟨_, rfl, Kd.N_mono HO8.out (fun _ hk => hk.1), HB8.out⟩
end Go.Proofs.Yteofdgonpbmdlaa.C
namespace Go.Proofs.Yteofdgonpbmdlaa.C
open Go.RowKit Go.Maps Go.Proofs.YteofdgonpbmdlaaW.PrintWords Go.Proofs.YteofdgonpbmdlaaW.PrintLast Go.Proofs.YteofdgonpbmdlaaW.PrintMore
/-- The blocks that a store's calls may write. -/
def Own (p mb : Nat) (kv : Value) (k : Nat) : Prop := k = p ∨ k = mb ∨ some k = kv.ownBlock
structure Turn (base : Nat) (S : Nat → Prop) (W W' : World) : Prop where
  below : Below base W W'
  keep : ∀ i, i < W.heap.size → ¬ S i → W'.heap[i]? = W.heap[i]?
theorem Turn.refl (base : Nat) (S : Nat → Prop) (W : World) : Turn base S W W := ⟨Below.refl _ _, fun _ _ _ => rfl⟩
theorem Turn.of_below {base : Nat} {W W' : World} (h : Below W.heap.size W W') (hb : base ≤ W.heap.size) (S : Nat → Prop) : Turn base S W W' := ⟨h.mono hb, fun i hi _ => h.block i hi⟩
theorem Turn.then_ {base : Nat} {S S' : Nat → Prop} {W W1 W2 : World} (h : Turn base S W W1) (k : Turn base S' W1 W2) (hs : ∀ k, S' k → S k ∨ W.heap.size ≤ k) : Turn base S W W2 :=
  ⟨h.below.trans k.below, fun i hi hn => (k.keep i (Nat.lt_of_lt_of_le hi h.below.size) (fun hk => (hs i hk).elim hn (fun _ => by omega))).trans (h.keep i hi hn)⟩
theorem Turn.mono {base : Nat} {S S' : Nat → Prop} {W W1 : World} (h : Turn base S W W1) (hs : ∀ k, S k → S' k) : Turn base S' W W1 := ⟨h.below, fun i hi hn => h.keep i hi (fun hk => hn (hs i hk))⟩
theorem Turn.set {base : Nat} {S : Nat → Prop} {W : World} (a : Addr) (u : Value) (hb : base ≤ a.block) (hs : S a.block) : Turn base S W (W.setCell a u) :=
  ⟨(Below.refl _ _).setCell hb u, fun i _ hn => Below.heap_setCell W a u i (fun e => hn (e ▸ hs))⟩
theorem Turn.grown {base : Nat} {S : Nat → Prop} {W W1 : World} {row : Option Nat} (h : W.grownBy W1 row) (hb : base ≤ W.heap.size) (hr : ∀ k, row = some k → base ≤ k ∧ S k) : Turn base S W W1 :=
  ⟨(Below.refl _ _).grown h hb (fun k hk => (hr k hk).1), fun i hi hn => h.block i hi (fun e => hn (hr i e.symm).2)⟩
section
variable {W W1 : World} {base p : Nat} {B B' : Nat → Prop} {s : SS} {kv : Value} {mb n : Nat} {D : DataW Value}
theorem KeysAt.mono {ok ok' : Nat → Prop} {keys : List ByteArray} (h : KeysAt W base ok kv keys) (hok : ∀ k, ok k → ok' k) : KeysAt W base ok' kv keys := h.imp (fun k => Kd.R_mono k hok) (fun ⟨e, a, h1, h2, h3⟩ => ⟨e, a, h1, hok _ h2, h3⟩)
theorem KeysAt.bound {ok : Nat → Prop} {keys : List ByteArray} (h : KeysAt W base ok kv keys) : KeysAt W base (fun k => ok k ∧ k < W.heap.size) kv keys := h.imp (fun k => Kd.R_mono (Kd.R_bound k) (fun _ hk => ⟨hk.1, hk.2.2.1⟩)) (fun ⟨e, a, h1, h2, h3⟩ => ⟨e, a, h1, ⟨h2, h3⟩, h3⟩)
theorem KeysAt.step {ok : Nat → Prop} {keys : List ByteArray} (h : KeysAt W base ok kv keys) (hs : W.heap.size ≤ W1.heap.size) (hm : ∀ k, ok k → k < W.heap.size → W1.heap[k]? = W.heap[k]?) : KeysAt W1 base ok kv keys := h.imp (fun k => Kd.R_step k hm) (fun ⟨e, a, h1, h2, h3⟩ => ⟨e, a, h1, h2, Nat.lt_of_lt_of_le h3 hs⟩)
theorem KeysAt.ownLt {ok : Nat → Prop} {keys : List ByteArray} (h : KeysAt W base ok kv keys) (k : Nat) (hk : kv.ownBlock = some k) : ok k ∧ k < W.heap.size := by
  rcases h with h | ⟨_, a, rfl, h2, h3⟩
  · exact ⟨h.1 k hk, own_lt h.2.choose_spec.1 k hk⟩
  · have e : a.block = k := by simpa [Value.ownBlock] using hk
    exact e ▸ ⟨h2, h3⟩
theorem StoreAt.p_lt (h : StoreAt W base B p s kv mb n D) : p < W.heap.size := blk_lt h.cells
theorem StoreAt.m_lt (h : StoreAt W base B p s kv mb n D) : mb < W.heap.size := h.map.lt
theorem StoreAt.own (h : StoreAt W base B p s kv mb n D) {k : Nat} (hk : Own p mb kv k) : base ≤ k ∧ B k ∧ k < W.heap.size := by
  rcases hk with rfl | rfl | e
  · exact ⟨h.bb _ h.bp, h.bp, h.p_lt⟩
  · exact ⟨h.bb _ h.bm, h.bm, h.m_lt⟩
  · have := h.keys.ownLt k e.symm
    exact ⟨h.bb _ this.1.1, this.1.1, this.2⟩
theorem StoreAt.base_le (h : StoreAt W base B p s kv mb n D) : base ≤ W.heap.size := Nat.le_trans (h.bb _ h.bp) (Nat.le_of_lt h.p_lt)
/-- The map's block alone. -/
theorem map_step (h : W.ownsMap Try.prog 9 tok mb n D) (hm : W1.heap[mb]? = W.heap[mb]?) : W1.ownsMap Try.prog 9 tok mb n D := by
  obtain ⟨es, clock, h1, h2⟩ := h
  exact ⟨es, clock, hm.trans h1, h2⟩
/-- Other blocks have turned. -/
theorem StoreAt.frame (h : StoreAt W base B p s kv mb n D) (hs : W.heap.size ≤ W1.heap.size) (hm : ∀ k, B k → k < W.heap.size → W1.heap[k]? = W.heap[k]?) : StoreAt W1 base B p s kv mb n D where
  cells := (hm p h.bp h.p_lt).trans h.cells
  keys := h.keys.step hs (fun k hk hl => hm k hk.1 hl)
  map := map_step h.map (hm mb h.bm h.m_lt)
  bb := h.bb
  bn := fun k hk => h.bn k (Nat.le_trans hs hk)
  bp := h.bp
  bm := h.bm
  pm := h.pm
  chains := fun key hk => by
    obtain ⟨A, c, h1, h2, h3⟩ := h.chains key hk
    exact ⟨A, c, h1, h2, Kd.F_step h3 (fun k hk hl => hm k hk.1 hl)⟩
/-- The blocks that it may lie in, told otherwise. -/
theorem StoreAt.rebase (h : StoreAt W base B p s kv mb n D) (hB : ∀ k, B k → k < W.heap.size → B' k) (bb : ∀ k, B' k → base ≤ k) (bn : ∀ k, W.heap.size ≤ k → B' k) : StoreAt W base B' p s kv mb n D where
  cells := h.cells
  keys := h.keys.bound.mono (fun k hk => ⟨hB k hk.1.1 hk.2, hk.1.2⟩)
  map := h.map
  bb := bb
  bn := bn
  bp := hB p h.bp h.p_lt
  bm := hB mb h.bm h.m_lt
  pm := h.pm
  chains := fun key hk => by
    obtain ⟨A, c, h1, h2, h3⟩ := h.chains key hk
    exact ⟨A, c, h1, h2, Kd.F_mono (Kd.F_bound h3) (fun k hk => ⟨hB k hk.1.1 hk.2, hk.1.2⟩)⟩
/-- Both. -/
theorem StoreAt.move (h : StoreAt W base B p s kv mb n D) (hs : W.heap.size ≤ W1.heap.size) (hm : ∀ k, B k → k < W.heap.size → W1.heap[k]? = W.heap[k]?) (hB : ∀ k, B k → k < W.heap.size → B' k) (bb : ∀ k, B' k → base ≤ k) (bn : ∀ k, W1.heap.size ≤ k → B' k) : StoreAt W1 base B' p s kv mb n D where
  cells := (hm p h.bp h.p_lt).trans h.cells
  keys := (h.keys.bound.step hs (fun k hk hl => hm k hk.1.1 hl)).mono (fun k hk => ⟨hB k hk.1.1 hk.2, hk.1.2⟩)
  map := map_step h.map (hm mb h.bm h.m_lt)
  bb := bb
  bn := bn
  bp := hB p h.bp h.p_lt
  bm := hB mb h.bm h.m_lt
  pm := h.pm
  chains := fun key hk => by
    obtain ⟨A, c, h1, h2, h3⟩ := h.chains key hk
    exact ⟨A, c, h1, h2, Kd.F_mono (Kd.F_step (Kd.F_bound h3) (fun k hk hl => hm k hk.1.1 hl)) (fun k hk => ⟨hB k hk.1.1 hk.2, hk.1.2⟩)⟩
/-- A cell of its block. -/
theorem StoreAt.put (h : StoreAt W base B p s kv mb n D) (j : Nat) (u : Value) (s' : SS) (e : (cellsOf s kv mb).setIfInBounds j u = cellsOf s' kv mb) (hk : s'.keys = s.keys) (hc : s'.ch = s.ch) : StoreAt (W.setCell ⟨p, j, none⟩ u) base B p s' kv mb n D where
  cells := blk_put h.cells j u e
  keys := by rw [hk]; exact h.keys.step (by simp [World.setCell]) (fun k hk _ => Below.heap_setCell W ⟨p, j, none⟩ u k hk.2.1)
  map := map_step h.map (Below.heap_setCell W ⟨p, j, none⟩ u mb h.pm.symm)
  bb := h.bb
  bn := fun k hk => h.bn k (by simpa [World.setCell] using hk)
  bp := h.bp
  bm := h.bm
  pm := h.pm
  chains := fun key hk => by
    rw [hc]
    obtain ⟨A, c, h1, h2, h3⟩ := h.chains key hk
    exact ⟨A, c, h1, h2, Kd.F_far h3 (fun k hk => hk.2.1) u⟩
/-- Its keys are another row. -/
theorem StoreAt.putKeys {v : Value} {keys' : List ByteArray} (h : StoreAt W base B' p s kv mb n D) (hB : ∀ k, B' k → B k) (hne : ∀ k, B' k → some k ≠ kv.ownBlock → some k ≠ v.ownBlock) (hv : KeysAt W base (fun q => B q ∧ q ≠ p ∧ q ≠ mb) v keys') (bn : ∀ k, W.heap.size ≤ k → B k) (bb : ∀ k, B k → base ≤ k) : StoreAt (W.setCell ⟨p, 8, none⟩ v) base B p { s with keys := keys' } v mb n D where
  cells := blk_put h.cells 8 v (by rfl)
  keys := hv.step (by simp [World.setCell]) (fun k hk _ => Below.heap_setCell W ⟨p, 8, none⟩ v k hk.2.1)
  map := map_step h.map (Below.heap_setCell W ⟨p, 8, none⟩ v mb h.pm.symm)
  bb := bb
  bn := fun k hk => bn k (by simpa [World.setCell] using hk)
  bp := hB p h.bp
  bm := hB mb h.bm
  pm := h.pm
  chains := fun key hk => by
    obtain ⟨A, c, h1, h2, h3⟩ := h.chains key hk
    exact ⟨A, c, h1, h2, Kd.F_mono (Kd.F_far (p := ⟨p, 8, none⟩) h3 (fun k hk => hk.2.1) v) (fun k hk => ⟨hB k hk.1, hk.2.1, hk.2.2.1, hne k hk.1 hk.2.2.2⟩)⟩
theorem lit_ne {k k' : ByteArray} (h : k' ≠ k) : (Lit.string k'.data.toList) ≠ Lit.string k.data.toList := fun e => h (by
  injection e with e
  cases k; cases k'
  congr 1
  exact Array.toList_inj.1 e)
/-- A key's chain is another. -/
theorem StoreAt.mapPut (h : StoreAt W base B p s kv mb n D) (key : ByteArray) {A : Option Addr} {c : Nat} {l : List S28} (hl : l.length ≤ c) (hF : Kd.F k28 W (fun q => B q ∧ q ≠ p ∧ q ≠ mb ∧ some q ≠ kv.ownBlock) A l.length l)
    (hm : W1.ownsMap Try.prog 9 tok mb (n + 1) (D.put (.string key.data.toList) (.held (.slice A l.length c)))) (hg : W.grownBy W1 (some mb)) : StoreAt W1 base B p { s with ch := fun q => if q = key then l else s.ch q } kv mb (n + 1) (D.put (.string key.data.toList) (.held (.slice A l.length c))) where
  cells := (hg.block p h.p_lt (fun e => h.pm (Option.some.inj e))).trans h.cells
  keys := h.keys.step hg.size (fun k hk hl => hg.block k hl (fun e => hk.2.2 (Option.some.inj e)))
  map := hm
  bb := h.bb
  bn := fun k hk => h.bn k (Nat.le_trans hg.size hk)
  bp := h.bp
  bm := h.bm
  pm := h.pm
  chains := fun q hq => by
    have hst : ∀ {A c l}, Kd.F k28 W (fun q => B q ∧ q ≠ p ∧ q ≠ mb ∧ some q ≠ kv.ownBlock) A c l → Kd.F k28 W1 (fun q => B q ∧ q ≠ p ∧ q ≠ mb ∧ some q ≠ kv.ownBlock) A c l := fun h3 => Kd.F_step h3 (fun k hk hl => hg.block k hl (fun e => hk.2.2.1 (Option.some.inj e)))
    by_cases e : q = key
    · subst e
      refine ⟨A, c, ?_, ?_, ?_⟩
      · dsimp only; rw [if_pos rfl]; exact atKey_put_same h.map.isMap (by trivial) _ _
      · dsimp only; rw [if_pos rfl]; exact hl
      · dsimp only; rw [if_pos rfl]; exact hst hF
    · obtain ⟨A', c', h1, h2, h3⟩ := h.chains q hq
      refine ⟨A', c', ?_, ?_, ?_⟩
      · dsimp only; rw [if_neg e, atKey_put_other (lit_ne e)]; exact h1
      · dsimp only; rw [if_neg e]; exact h2
      · dsimp only; rw [if_neg e]; exact hst h3
/-- A key is struck. -/
theorem StoreAt.mapDel (h : StoreAt W base B p s kv mb n D) (key : ByteArray)
    (hm : W1.ownsMap Try.prog 9 tok mb n (D.del (.string key.data.toList))) (hg : W.grownBy W1 (some mb)) : StoreAt W1 base B p { s with ch := fun q => if q = key then [] else s.ch q } kv mb n (D.del (.string key.data.toList)) where
  cells := (hg.block p h.p_lt (fun e => h.pm (Option.some.inj e))).trans h.cells
  keys := h.keys.step hg.size (fun k hk hl => hg.block k hl (fun e => hk.2.2 (Option.some.inj e)))
  map := hm
  bb := h.bb
  bn := fun k hk => h.bn k (Nat.le_trans hg.size hk)
  bp := h.bp
  bm := h.bm
  pm := h.pm
  chains := fun q hq => by
    have hst : ∀ {A c l}, Kd.F k28 W (fun q => B q ∧ q ≠ p ∧ q ≠ mb ∧ some q ≠ kv.ownBlock) A c l → Kd.F k28 W1 (fun q => B q ∧ q ≠ p ∧ q ≠ mb ∧ some q ≠ kv.ownBlock) A c l := fun h3 => Kd.F_step h3 (fun k hk hl => hg.block k hl (fun e => hk.2.2.1 (Option.some.inj e)))
    by_cases e : q = key
    · subst e
      refine ⟨none, 0, ?_, ?_, ?_⟩
      · dsimp only; rw [if_pos rfl]; exact atKey_del_same _
      · dsimp only; rw [if_pos rfl]; exact Nat.le_refl _
      · dsimp only; rw [if_pos rfl]; exact Kd.F_nil _ _ _
    · obtain ⟨A', c', h1, h2, h3⟩ := h.chains q hq
      refine ⟨A', c', ?_, ?_, ?_⟩
      · dsimp only; rw [if_neg e, atKey_del_other (lit_ne e)]; exact h1
      · dsimp only; rw [if_neg e]; exact h2
      · dsimp only; rw [if_neg e]; exact hst h3
end
theorem append_stub (w : World) (ty : TypeId) (a0 ad : Addr) (c : Nat) : (Builtin.append_ #[75, 75] ty #[.slice (some a0) 0 0, .slice (some ad) 1 c]).run Try.prog w = (Builtin.append_ #[75, 75] ty #[.slice none 0 0, .slice (some ad) 1 c]).run Try.prog w := by
  obtain ⟨i, hi, hz⟩ := Option.map_eq_some_iff.1 info9
  simp only [Prod.mk.injEq] at hz
  simp [Builtin.append_, run_underlying Try.underlying75, sizeOf, typeInfo, hi, Builtin.lenOf, Builtin.firstCells, hz, loadCells, loadCellsFrom, Builtin.nextslicecap]
theorem cut_stub (W : World) (A : Option Addr) (n c : Nat) : (Instr.slice 75 (.slice A n c) none (some (.int .i64 0)) (some (.int .i64 0))).run Try.prog W = .ok (.slice A 0 0) W := by
  obtain ⟨i, hi, hz⟩ := Option.map_eq_some_iff.1 info9
  simp only [Prod.mk.injEq] at hz
  simp [Instr.slice, Instr.sliceBounds, Instr.sliceBound, run_underlying Try.underlying75, sizeOf, typeInfo, hi, hz, Result.andThen, asInt]
  cases A <;> rfl
def LeftAt (N0 : Nat) (kv v : Value) (xs : List ByteArray) (W : World) : Prop := Kd.R Kd.string 9 W N0 (fun k => N0 ≤ k) v xs ∨ (xs = [] ∧ ∃ A, v = .slice A 0 0 ∧ v.ownBlock = kv.ownBlock)
theorem LeftAt.slice {N0 : Nat} {kv v : Value} {xs : List ByteArray} {W : World} (h : LeftAt N0 kv v xs W) : ∃ A c, v = .slice A xs.length c := by
  rcases h with h | ⟨rfl, A, rfl, _⟩
  · exact Kd.R_slice h
  · exact ⟨A, 0, rfl⟩
theorem LeftAt.step {N0 : Nat} {kv v : Value} {xs : List ByteArray} {W W1 : World} (h : LeftAt N0 kv v xs W) (hm : ∀ k, N0 ≤ k → k < W.heap.size → W1.heap[k]? = W.heap[k]?) : LeftAt N0 kv v xs W1 := h.imp (fun k => Kd.R_step k hm) id
theorem LeftAt.lt {N0 : Nat} {kv v : Value} {xs : List ByteArray} {W : World} (h : LeftAt N0 kv v xs W) (hkv : ∀ k, kv.ownBlock = some k → k < N0) (hN : N0 ≤ W.heap.size) (k : Nat) (hk : v.ownBlock = some k) : k < W.heap.size := by
  rcases h with h | ⟨rfl, A, rfl, e⟩
  · exact own_lt h.2.choose_spec.1 k hk
  · have := hkv k (e ▸ hk); omega
section
variable {ops : Array Oper} {o : Oper} {rest : List Oper} {a : Act} {Q : Exit → Act → World → Prop} {N0 : Nat} {W : World}
theorem left_append (kv : Value) (hkv : ∀ k, kv.ownBlock = some k → k < N0) (hgd : o.guard = none) (s x : Operand) (ho : o.op = .call { callee := .builtin .append, args := #[s, x], argTypes := #[75, 75] })
    (v : Value) (xs : List ByteArray) (key : ByteArray) (hs : a.eval s = v) (hx : a.eval x = .slice (some ⟨W.heap.size, 0, none⟩) 1 1) (HL : LeftAt N0 kv v xs W) (hN : N0 ≤ W.heap.size) (hl : xs.length ≤ 1000000)
    (h : ∀ v1 w1, LeftAt N0 kv v1 (xs ++ [key]) w1 → Below N0 W w1 → (∀ k, k < W.heap.size → (some k ≠ v.ownBlock ∨ k < N0) → w1.heap[k]? = W.heap[k]?) → (∀ k, v1.ownBlock = some k → (v.ownBlock = some k ∧ N0 ≤ k) ∨ W.heap.size ≤ k) → wpList Try.prog ops Q rest (a.put o.dst v1) w1) :
    wpList Try.prog ops Q (o :: rest) a (W.alloc (.cells [Value.string key].toArray 9)) := by
  rcases HL with HR | ⟨rfl, A, rfl, e⟩
  · have hbase : ∀ k, v.ownBlock = some k → N0 ≤ k := HR.1
    refine Kd.R_append Kd.string (w0 := W) N0 hgd s x 75 9 (.string ⟨#[]⟩) 16 ho Try.underlying75 info9 rfl (by decide) (by omega) v xs key [.string key] (fun k => N0 ≤ k) (fun _ => False) hs hx rfl (fun _ h => h.elim) (fun k hk => Nat.le_trans hN hk) HR (Below.refl N0 W) hN (by omega) ?_
    intro v1 w1 h1 hb hg hat
    refine h v1 w1 (.inl h1) hb (fun k hk hne => hg.block k hk (fun e => hne.elim (fun q => q e) (fun hlt => by have := hbase k e.symm; omega))) (fun k hk => ?_)
    rcases hat with e | ⟨b, e, hb⟩
    · exact .inl ⟨e ▸ hk, hbase k (e ▸ hk)⟩
    · rw [e] at hk; injection hk with hk; subst hk; exact .inr hb
  · cases A with
    | none =>
      refine Kd.R_append Kd.string (w0 := W) N0 hgd s x 75 9 (.string ⟨#[]⟩) 16 ho Try.underlying75 info9 rfl (by decide) (by omega) (.slice none 0 0) [] key [.string key] (fun k => N0 ≤ k) (fun _ => False) hs hx rfl (fun _ h => h.elim) (fun k hk => Nat.le_trans hN hk) (Kd.R_nil _ _ _ _ _) (Below.refl N0 W) hN (by decide) ?_
      intro v1 w1 h1 hb hg hat
      refine h v1 w1 (.inl h1) hb (fun k hk _ => hg.block k hk (by simp [Value.ownBlock])) (fun k hk => ?_)
      rcases hat with e | ⟨b, e, hb⟩
      · rw [e] at hk; simp [Value.ownBlock] at hk
      · rw [e] at hk; injection hk with hk; subst hk; exact .inr hb
    | some a0 =>
      obtain ⟨i, hi, hz⟩ := Option.map_eq_some_iff.1 info9
      simp only [Prod.mk.injEq] at hz
      refine wpList_plain hgd fun K hK => ?_
      obtain ⟨v1, w1, hrun, hown, hg, _, hat⟩ := run_append_own_at (P := Try.prog) (W.alloc (.cells [Value.string key].toArray 9)) N0 75 o.type 9 i (.string ⟨#[]⟩) 1 16 Try.underlying75 hi hz.1 hz.2.1 hz.2.2 rfl (by omega) (.slice none 0 0) 0 [] (own_nil _ _ _ _) ⟨W.heap.size, 0, none⟩ 1 1 [.string key] rfl
        (by simpa using World.news_of_block (cs := [Value.string key].toArray) (t := 9) (fr := (0, 0)) (heap_alloc_new W (.cells [Value.string key].toArray 9))) (fun u hu => by rw [List.mem_singleton.1 hu]; rfl) (by decide) (by decide) (by simp; omega)
      unfold Oper.wp
      simp [execOp, ho, resolve, invoke, builtin, hs, hx, append_stub, hrun, Result.andThen]
      have hown' : Kd.R Kd.string 9 w1 N0 (fun k => N0 ≤ k) v1 [key] := Kd.R_of_own (enc := Value.string) (xs := [key]) hown (own_base hown)
      refine hK _ _ (h v1 w1 (.inl hown') (((Below.refl N0 W).alloc hN _).grown hg (by simp; omega) (by simp [Value.ownBlock])) (fun k hk _ => (hg.block k (by simp; omega) (by simp [Value.ownBlock])).trans (Below.heap_alloc W _ k hk)) (fun k hk => ?_))
      rcases hat with e | e
      · rw [e] at hk; simp [Value.ownBlock] at hk
      · rw [e] at hk; injection hk with hk; subst hk; exact .inr (by simp)
end
/-- Where a store lies while another row of keys is made: away from that row, but for its own keys. -/
def Bm (B : Nat → Prop) (kv v : Value) (k : Nat) : Prop := B k ∧ (some k ≠ v.ownBlock ∨ some k = kv.ownBlock)
section
variable {W W1 : World} {base p N0 : Nat} {B : Nat → Prop} {s : SS} {kv v v1 : Value} {mb n : Nat} {D : DataW Value}
theorem StoreAt.left (h : StoreAt W base (Bm B kv v) p s kv mb n D) (hkv : ∀ k, kv.ownBlock = some k → k < N0) (hs : W.heap.size ≤ W1.heap.size) (hm : ∀ k, k < W.heap.size → (some k ≠ v.ownBlock ∨ k < N0) → W1.heap[k]? = W.heap[k]?)
    (hat : ∀ k, v1.ownBlock = some k → (v.ownBlock = some k ∧ N0 ≤ k) ∨ W.heap.size ≤ k) (hlt : ∀ k, v1.ownBlock = some k → k < W1.heap.size) (bn : ∀ k, W.heap.size ≤ k → B k) (bb : ∀ k, B k → base ≤ k) : StoreAt W1 base (Bm B kv v1) p s kv mb n D := by
  refine StoreAt.move h hs (fun k hk hl => hm k hl (hk.2.imp id (fun e => hkv k e.symm))) (fun k hk hl => ⟨hk.1, ?_⟩) (fun k hk => bb k hk.1) (fun k hk => ⟨bn k (Nat.le_trans hs hk), .inl (fun e => by have := hlt k e.symm; omega)⟩)
  by_cases e : some k = kv.ownBlock
  · exact .inr e
  · refine .inl (fun e1 => ?_)
    rcases hat k e1.symm with ⟨e2, _⟩ | h2
    · exact hk.2.elim (fun q => q e2.symm) e
    · omega
theorem StoreAt.toLeft (h : StoreAt W base B p s kv mb n D) (hv : v.ownBlock = kv.ownBlock) : StoreAt W base (Bm B kv v) p s kv mb n D :=
  h.rebase (fun k hk _ => ⟨hk, by rw [hv]; exact (Decidable.em _).symm⟩) (fun k hk => h.bb k hk.1) (fun k hk => ⟨h.bn k hk, by rw [hv]; exact (Decidable.em _).symm⟩)
theorem LeftAt.keys {xs : List ByteArray} (h : LeftAt W.heap.size kv v xs W1) (hkv : ∀ k, kv.ownBlock = some k → k < W.heap.size) (hN : W.heap.size ≤ W1.heap.size) (hS : StoreAt W base B p s kv mb n D) : KeysAt W1 base (fun q => B q ∧ q ≠ p ∧ q ≠ mb) v xs := by
  rcases h with h | ⟨rfl, A, rfl, e⟩
  · exact .inl (Kd.R_lower (Kd.R_mono h (fun k hk => ⟨hS.bn k hk, fun e => by have := hS.p_lt; omega, fun e => by have := hS.m_lt; omega⟩)) hS.base_le)
  · cases A with
    | none => exact .inl (Kd.R_nil _ _ _ _ _)
    | some a =>
      have := hS.keys.ownLt a.block (e ▸ rfl)
      exact .inr ⟨rfl, a, rfl, this.1, Nat.lt_of_lt_of_le this.2 hN⟩
end
end Go.Proofs.Yteofdgonpbmdlaa.C
namespace Go.Proofs.Yteofdgonpbmdlaa.C
open Go.RowKit Go.Maps Go.Proofs.YteofdgonpbmdlaaW.PrintWords Go.Proofs.YteofdgonpbmdlaaW.PrintLast Go.Proofs.YteofdgonpbmdlaaW.PrintMore
attribute [local go_sem] max2_int min2_int max2_str min2_str str_leq str_gtr str_geq max_two min_two max_three min_three max_four min_four
theorem info62 : (Try.prog.info? 62).map (fun i => (i.zero, i.size, i.bytes)) = some (some (.agg #[(.string ⟨#[]⟩), (.slice none 0 0)]), 2, 40) := by kernel_rfl
/-- Does a scan end ahead of this key? -/
def ends (hi k : ByteArray) : Bool := (hi.toList != []) && !(Op.bytesLess k.toList hi.toList)
def scanL (gf : ByteArray → List Int × Bool) (hi : ByteArray) : List ByteArray → List S62
  | [] => []
  | k :: t => if ends hi k = true then [] else if (gf k).2 = true then ⟨k, (gf k).1⟩ :: scanL gf hi t else scanL gf hi t
theorem srch_le (l : List ByteArray) (x : ByteArray) : ∀ k i j, i ≤ j → srch l x k i j ≤ j
  | 0, i, j, h => h
  | k + 1, i, j, h => by
    simp only [srch]
    by_cases hlt : i < j
    · rw [if_pos hlt]
      by_cases hb : Op.bytesLess (ks l ((i + j) / 2 : Nat)).toList x.toList = true
      · rw [if_pos hb]; exact srch_le l x k _ _ (by omega)
      · rw [if_neg hb]; exact Nat.le_trans (srch_le l x k _ _ (by omega)) (by omega)
    · rw [if_neg hlt]; exact h
theorem srchF_le (l : List ByteArray) (x : ByteArray) : srchF l x ≤ l.length := srch_le l x _ _ _ (Nat.zero_le _)
theorem drop_ks (l : List ByteArray) (i : Nat) (h : i < l.length) : l.drop i = ks l (i : Nat) :: l.drop (i + 1) := by
  rw [List.drop_eq_getElem_cons h]
  congr 1
  simp [ks, rdOf, List.getD, List.getElem?_eq_getElem h]
set_option maxHeartbeats 4000000 in
theorem store_Scan.calls {W : World} {base p : Nat} {B : Nat → Prop} {s : SS} {kv : Value} {mb n : Nat} {D : DataW Value} (h : Aside0 (StoreAt W base B p s kv mb n D)) (hl : Aside0 (s.keys.length ≤ 1000000)) (hk : Aside0 (∀ key, key ∈ s.keys → key.size ≤ maxLen))
    (lo hi : ByteArray) (at_ : Int) (gf : ByteArray → List Int × Bool) (hg : Aside0 (∀ key, key ∈ s.keys → chain_Get.f (s.ch key) at_ = some (gf key))) :
    Calls Try.prog 42 #[.pointer (some ⟨p, 0, none⟩), .string lo, .string hi, .int .u64 at_] W fun e w' => ∃ v0_ : Value, e = .returned (v0_) ∧ Kd.N k62 62 w' W.heap.size (fun k_ => W.heap.size ≤ k_) v0_ (scanL gf hi (s.keys.drop (srchF s.keys lo))) ∧ Below W.heap.size W w' := by
  have h8 : W.cell? ⟨p, 8, none⟩ = some kv := (blk_cell h.out.cells 8).trans rfl
  obtain ⟨A, c, ekv, hl_, hc_⟩ := h.out.keys.row
  rw [ekv] at h8
  have HC := Aside0.mk hc_
  have HL := Aside0.mk hl_
  clear hl_ hc_
  obtain ⟨i9, hi9, hz9⟩ := Option.map_eq_some_iff.1 info9
  simp only [Prod.mk.injEq] at hz9
  have hcut := cut_from 75 9 .i64 Try.underlying75 hi9 1 hz9.2.1 A s.keys.length c (srchF s.keys lo : Nat) (by omega) (by have := srchF_le s.keys lo; omega)
  have HD := Aside0.mk (Kd.C_drop HC.out (srchF_le s.keys lo) HL.out)
  have hle := Aside0.mk (srchF_le s.keys lo)
  simp only [Int.toNat_natCast, Kd.sz] at hcut HD
  obtain ⟨m, hm⟩ : ∃ m, srchF s.keys lo = m := ⟨_, rfl⟩
  rw [hm] at hcut HD hle ⊢
  obtain ⟨rest, hrest⟩ : ∃ rest, s.keys.drop m = rest := ⟨_, rfl⟩
  have hrl : s.keys.length - m = rest.length := by rw [← hrest, List.length_drop]
  rw [hrest] at HD ⊢
  obtain ⟨A', hA'⟩ : ∃ A', (if c = m then A else A.map (·.add (m * 1))) = A' := ⟨_, rfl⟩
  have HD' : Aside0 (Kd.string.C W A' rest.length rest) := by rw [← hA']; exact HD
  rw [hA', hrl] at hcut
  clear HD
  have hsub : Aside0 (∀ key, key ∈ rest → key ∈ s.keys) := ⟨fun key hk => List.mem_of_mem_drop (by rw [hrest]; exact hk)⟩
  have hr1 : Aside0 (rest.length ≤ 1000000) := ⟨by have := hl.out; omega⟩
  go_enter Try.func42, Try.ntmps42
  go_wp2_with (go_at_call 70; refine (store_is.calls h).mono ?_; rintro e w1 ⟨rfl, e1⟩; replace e1 := e1.symm; subst e1)
  go_region_held3 (fun w' => w'.cell? ⟨p, 8, none⟩ = some (.slice A s.keys.length c) ∧ Below W.heap.size W w') (first | exact ⟨h8, below_drew1 (Below.refl _ _)⟩ | exact ⟨pw_cell_below hb2 (And.left (b := Below W.heap.size W _) (by assumption)), below_step (And.right (a := World.cell? _ ⟨p, 8, none⟩ = some (.slice A s.keys.length c)) (by assumption)) hb2⟩) (first | (go_at_call 71; refine (searchStrings_calls A c s.keys lo _ (Kd.C_below HC.out (And.right (a := World.cell? _ ⟨p, 8, none⟩ = some (.slice A s.keys.length c)) (by assumption))) (by have := hl.out; omega)).mono ?_; rintro e w2 ⟨rfl, hb2⟩))
  rename_i hH
  have HB := Aside0.mk hH.2
  clear hH hb2
  clear hcut hA' hrl h8 hi9 hz9 hm hrest ekv
  go_wp2
  go_loopw [9, 29] (fun vo vi wr => ∃ (i : Nat) (xs : List S62), vi = .int .i64 i ∧ i ≤ rest.length ∧ xs.length ≤ i ∧ Aside0 (xs ++ scanL gf hi (rest.drop i) = scanL gf hi rest) ∧ Aside0 (Kd.N k62 62 wr W.heap.size (fun k_ => W.heap.size ≤ k_) vo xs) ∧ Aside0 (Below W.heap.size W wr)) (fun _ vi _ => rest.length - (intOf vi).toNat)
  case atStart => exact ⟨0, [], rfl, Nat.zero_le _, Nat.le_refl _, ⟨rfl⟩, ⟨Kd.N_nil _ _ _ _ _⟩, ⟨HB.out⟩⟩
  case round =>
    clear HB
    obtain ⟨i, xs, rfl, hi1, hi2, HU, HO, HB⟩ := hrel
    by_cases hlt : i < rest.length
    · obtain ⟨ad, e, hx⟩ := Kd.at_string HD'.out (i : Int) (by omega) (by omega)
      subst e
      have hx' := pw_cell_below HB.out hx
      clear hx
      obtain ⟨key, hkey⟩ : ∃ key, ks rest (i : Nat) = key := ⟨_, rfl⟩
      have hU := HU.out
      rw [drop_ks rest i hlt, hkey] at hU
      have hmem : key ∈ rest := by
        have : key ∈ rest.drop i := by rw [drop_ks rest i hlt, hkey]; exact List.mem_cons_self ..
        exact List.mem_of_mem_drop this
      have hgk := Aside0.mk (hg.out key (hsub.out key hmem))
      have hkk := Aside0.mk (hk.out key (hsub.out key hmem))
      have hx2 : wr.cell? (ad.add i) = some (.string key) := by rw [← hkey]; exact hx'
      simp only [scanL] at hU
      have HU' := Aside0.mk hU
      clear hmem hx' hU hkey
      have hS := Aside0.mk (h.out.below HB.out)
      obtain ⟨b, isb, hgf⟩ : ∃ b isb, gf key = (b, isb) := ⟨_, _, rfl⟩
      have hgk2 : Aside0 (chain_Get.f (s.ch key) at_ = some (b, isb)) := ⟨by rw [← hgf]; exact hgk.out⟩
      clear hgk
      have hi3 : i < 1000000 := by have := hr1.out; omega
      cases hz : hi.toList.isEmpty with
      | true =>
        have he : ends hi key = false := by simp [ends, List.isEmpty_iff.1 hz]
        cases isb with
        | true =>
          go_wp2_with (first | (go_at_call 43; refine (store_Read.calls hS key hkk at_ b true hgk2).mono ?_; rintro e w2 ⟨v, rfl, ho, hbl⟩; obtain ⟨Ao, co, eo⟩ := Kd.R_slice ho; subst eo; have HOb := Aside0.mk (Kd.R_lower (Kd.R_mono (Kd.R_newM (M := fun k_ => W.heap.size ≤ k_) ho HB.out.size (fun _ h_ => h_)) (ok' := fun k_ => W.heap.size ≤ k_) (fun _ h_ => h_.1)) HB.out.size); have HO2 := Aside0.mk (Kd.N_below HO.out hbl); have HB2 := Aside0.mk (below_step HB.out hbl); clear ho hbl HO HB) | ((with_reducible refine gate_builtin (b := .append) (xs := #[.tmp 48, .tmp 52]) rfl ?_); at_builtin; refine Kd.N_append k62 (w0 := W) W.heap.size rfl (.tmp 48) (.tmp 52) 56 62 (.agg #[(.string ⟨#[]⟩), (.slice none 0 0)]) 40 rfl Try.underlying56 info62 rfl (by decide) (by omega) u9 xs (⟨key, b⟩ : S62) [.string key, .slice Ao b.length co] (fun k_ => W.heap.size ≤ k_) (fun k_ => (W.heap.size ≤ k_) ∧ some k_ ≠ (u9 : Value).ownBlock) rfl rfl ?aP (fun _ hk => hk) ?aF ?aO ?aB ?aS ?aL ?_; (case aP => exact k62_mkF w2 _ (⟨key, b⟩ : S62) (Kd.R_reads' HOb.out).2.1 (Kd.R_F (Kd.R_apart' HOb.out (Kd.N_typed HO2.out) (by decide)))); (case aB => exact HB2.out); (case aF => exact (fun k_ hk => Nat.le_trans HB2.out.size hk)); (case aO => exact HO2.out); (case aS => exact HB2.out.size); (case aL => have := hr1.out; omega); intro v3 w3 ho3 hb3 hg_ hat_; clear hg_ hat_; have HO3 := Aside0.mk ho3; have HB3 := Aside0.mk hb3; clear ho3 hb3))
          go_roundw
          case measure => simp [intOf]; omega
          case rel => exact ⟨i + 1, xs ++ [⟨key, b⟩], by go_num, by omega, by simp; omega, ⟨by have h_ := HU'.out; rw [he, hgf] at h_; simpa using h_⟩, ⟨HO3.out⟩, ⟨HB3.out⟩⟩
        | false =>
          go_wp2_with (first | (go_at_call 43; refine (store_Read.calls hS key hkk at_ b false hgk2).mono ?_; rintro e w2 ⟨v, rfl, ho, hbl⟩; obtain ⟨Ao, co, eo⟩ := Kd.R_slice ho; subst eo; have HOb := Aside0.mk (Kd.R_lower (Kd.R_mono (Kd.R_newM (M := fun k_ => W.heap.size ≤ k_) ho HB.out.size (fun _ h_ => h_)) (ok' := fun k_ => W.heap.size ≤ k_) (fun _ h_ => h_.1)) HB.out.size); have HO2 := Aside0.mk (Kd.N_below HO.out hbl); have HB2 := Aside0.mk (below_step HB.out hbl); clear ho hbl HO HB))
          go_roundw
          case measure => simp [intOf]; omega
          case rel => exact ⟨i + 1, xs, by go_num, by omega, by omega, ⟨by have h_ := HU'.out; rw [he, hgf] at h_; simpa using h_⟩, ⟨HO2.out⟩, ⟨HB2.out⟩⟩
      | false =>
        cases hb : Op.bytesLess key.toList hi.toList with
        | true =>
          have he : ends hi key = false := by simp [ends, hb]
          cases isb with
          | true =>
            go_wp2_with (first | (go_at_call 43; refine (store_Read.calls hS key hkk at_ b true hgk2).mono ?_; rintro e w2 ⟨v, rfl, ho, hbl⟩; obtain ⟨Ao, co, eo⟩ := Kd.R_slice ho; subst eo; have HOb := Aside0.mk (Kd.R_lower (Kd.R_mono (Kd.R_newM (M := fun k_ => W.heap.size ≤ k_) ho HB.out.size (fun _ h_ => h_)) (ok' := fun k_ => W.heap.size ≤ k_) (fun _ h_ => h_.1)) HB.out.size); have HO2 := Aside0.mk (Kd.N_below HO.out hbl); have HB2 := Aside0.mk (below_step HB.out hbl); clear ho hbl HO HB) | ((with_reducible refine gate_builtin (b := .append) (xs := #[.tmp 48, .tmp 52]) rfl ?_); at_builtin; refine Kd.N_append k62 (w0 := W) W.heap.size rfl (.tmp 48) (.tmp 52) 56 62 (.agg #[(.string ⟨#[]⟩), (.slice none 0 0)]) 40 rfl Try.underlying56 info62 rfl (by decide) (by omega) u9 xs (⟨key, b⟩ : S62) [.string key, .slice Ao b.length co] (fun k_ => W.heap.size ≤ k_) (fun k_ => (W.heap.size ≤ k_) ∧ some k_ ≠ (u9 : Value).ownBlock) rfl rfl ?aP (fun _ hk => hk) ?aF ?aO ?aB ?aS ?aL ?_; (case aP => exact k62_mkF w2 _ (⟨key, b⟩ : S62) (Kd.R_reads' HOb.out).2.1 (Kd.R_F (Kd.R_apart' HOb.out (Kd.N_typed HO2.out) (by decide)))); (case aB => exact HB2.out); (case aF => exact (fun k_ hk => Nat.le_trans HB2.out.size hk)); (case aO => exact HO2.out); (case aS => exact HB2.out.size); (case aL => have := hr1.out; omega); intro v3 w3 ho3 hb3 hg_ hat_; clear hg_ hat_; have HO3 := Aside0.mk ho3; have HB3 := Aside0.mk hb3; clear ho3 hb3))
            go_roundw
            case measure => simp [intOf]; omega
            case rel => exact ⟨i + 1, xs ++ [⟨key, b⟩], by go_num, by omega, by simp; omega, ⟨by have h_ := HU'.out; rw [he, hgf] at h_; simpa using h_⟩, ⟨HO3.out⟩, ⟨HB3.out⟩⟩
          | false =>
            go_wp2_with (first | (go_at_call 43; refine (store_Read.calls hS key hkk at_ b false hgk2).mono ?_; rintro e w2 ⟨v, rfl, ho, hbl⟩; obtain ⟨Ao, co, eo⟩ := Kd.R_slice ho; subst eo; have HOb := Aside0.mk (Kd.R_lower (Kd.R_mono (Kd.R_newM (M := fun k_ => W.heap.size ≤ k_) ho HB.out.size (fun _ h_ => h_)) (ok' := fun k_ => W.heap.size ≤ k_) (fun _ h_ => h_.1)) HB.out.size); have HO2 := Aside0.mk (Kd.N_below HO.out hbl); have HB2 := Aside0.mk (below_step HB.out hbl); clear ho hbl HO HB))
            go_roundw
            case measure => simp [intOf]; omega
            case rel => exact ⟨i + 1, xs, by go_num, by omega, by omega, ⟨by have h_ := HU'.out; rw [he, hgf] at h_; simpa using h_⟩, ⟨HO2.out⟩, ⟨HB2.out⟩⟩
        | false =>
          have he : ends hi key = true := by
            simp only [ends, hb]
            cases hq : hi.toList with
            | nil => rw [hq] at hz; simp at hz
            | cons x t => rfl
          go_wp2
          go_ret
          have h_ := HU'.out
          rw [he, if_pos rfl, List.append_nil] at h_
          rw [← h_]
          exact ⟨_, rfl, HO.out, HB.out⟩
    · have hd : rest.drop i = [] := List.drop_eq_nil_of_le (by omega)
      have h_ := HU.out
      rw [hd] at h_
      have h2 : xs = scanL gf hi rest := by rw [← h_]; simp [scanL]
      clear hd h_ HU
      have H2 := Aside0.mk h2
      clear h2
      go_wp2
      go_ret
      rw [← H2.out]
      exact ⟨_, rfl, HO.out, HB.out⟩
end Go.Proofs.Yteofdgonpbmdlaa.C
