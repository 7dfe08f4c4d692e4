/- Texts of this session, merged for the law StoreDoes: TN, TQ, C31, PB. No condition. -/
import Derived.Test.YteofdgonpbmdlaaZStoreDoest
import Derived.Test.YteofdgonpbmdlaaZStoreDoesd
import Derived.Test.YteofdgonpbmdlaaZStoreDoesp
import Derived.Test.YteofdgonpbmdlaaZStoreDoesr
set_option linter.unusedVariables false
set_option linter.unusedSimpArgs false
namespace Go.Proofs.Yteofdgonpbmdlaa.C
open Go.RowKit Go.Maps Go.Shelf Go.Proofs.YteofdgonpbmdlaaW.PrintWords Go.Proofs.YteofdgonpbmdlaaW.PrintLast Go.Proofs.YteofdgonpbmdlaaW.PrintMore
def putL (cs : Array Value) : Nat → List Value → Array Value
  | _, [] => cs
  | o, v :: r => putL (cs.setIfInBounds o v) (o + 1) r
theorem heap_setCells {g : Nat} {t : TypeId} : ∀ (vs : List Value) (o : Nat) (cs : Array Value) (w : World), w.heap[g]? = some (.cells cs t (0, 0)) → (w.setCells g o vs).heap[g]? = some (.cells (putL cs o vs) t (0, 0))
  | [], _, _, _, h => h
  | v :: r, o, cs, w, h => heap_setCells r (o + 1) _ _ (blk_set h o v)
theorem grown_setCells {g : Nat} : ∀ (vs : List Value) (o : Nat) (w : World), w.grownBy (w.setCells g o vs) (some g)
  | [], _, _ => World.grownBy.refl _ _
  | v :: r, o, w => World.grownBy.trans (b := w.setCell ⟨g, o, none⟩ v) ⟨rfl, rfl, rfl, by simp [World.setCell], fun i _ hi => Below.heap_setCell w ⟨g, o, none⟩ v i (fun e => hi (by rw [e]))⟩ (grown_setCells r (o + 1) _)
theorem putL_size : ∀ (vs : List Value) (o : Nat) (cs : Array Value), (putL cs o vs).size = cs.size
  | [], _, _ => rfl
  | v :: r, o, cs => by rw [putL, putL_size r]; simp
theorem putL_toList : ∀ (vs : List Value) (o : Nat) (cs : Array Value), o + vs.length ≤ cs.size → (putL cs o vs).toList = cs.toList.take o ++ (vs ++ cs.toList.drop (o + vs.length))
  | [], o, cs, _ => by simp [putL]
  | v :: r, o, cs, h => by
    simp only [List.length_cons] at h
    rw [putL, putL_toList r (o + 1) _ (by simp; omega)]
    have hl : o < cs.toList.length := by simp; omega
    rw [Array.toList_setIfInBounds, List.take_succ_eq_append_getElem (by simpa using hl), List.getElem_set_self, List.take_set_of_le (Nat.le_refl _), List.drop_set_of_lt (by omega)]
    simp only [List.length_cons, List.append_assoc, List.cons_append, List.nil_append]
    congr 4
    omega
theorem drew_heap (W : World) : W.drew.heap = W.heap := rfl
theorem mapS_one (l : List ByteArray) : ∀ v ∈ l.map Value.string, v.oneCell' = true := by
  intro v hv
  obtain ⟨b, _, rfl⟩ := List.mem_map.1 hv
  rfl
theorem frozen_one {W : World} {g i : Nat} {cs : Array Value} {t : TypeId} (h : W.heap[g]? = some (.cells cs t (0, 0))) : W.frozen? ⟨g, i, none⟩ = false := blk_frozen h i
theorem shape_of {W : World} {g : Nat} {cs : Array Value} {t : TypeId} (h : W.heap[g]? = some (.cells cs t (0, 0))) : W.shape? g = some (t, cs.size) := by
  simp [World.shape?, h]
def insL (keys : List ByteArray) (i : Nat) (key : ByteArray) : List ByteArray := keys.take i ++ key :: keys.drop i
theorem insL_len (keys : List ByteArray) (i : Nat) (key : ByteArray) (hi : i ≤ keys.length) : (insL keys i key).length = keys.length + 1 := by simp [insL]; omega
theorem insert_one (W : World) (base : Nat) (ok : Nat → Prop) (kv : Value) (keys : List ByteArray) (hk : KeysAt W base ok kv keys) (vb : Nat) (key : ByteArray) (hvb : W.heap[vb]? = some (.cells #[.string key] 9 (0, 0))) (hne : some vb ≠ kv.ownBlock)
    (i : Nat) (hi : i ≤ keys.length) (hl : keys.length ≤ 1000000) (hb : base ≤ W.heap.size) (hf : ∀ k, W.heap.size ≤ k → ok k) :
    Calls Try.prog 84 #[kv, .int .i64 i, .slice (some ⟨vb, 0, none⟩) 1 1] W fun e w' => ∃ v, e = .returned v ∧ Kd.R Kd.string 9 w' base ok v (insL keys i key) ∧ W.grownBy w' kv.ownBlock ∧ (v.ownBlock = kv.ownBlock ∨ ∃ b, v.ownBlock = some b ∧ W.heap.size ≤ b) := by
  have hvs : ∀ j v, [Value.string key][j]? = some v → W.cell? ⟨vb, 0 + j, none⟩ = some v := fun j v hj => by
    rw [Nat.zero_add, blk_cell hvb]
    cases j with
    | zero => simpa using hj
    | succ j => simp at hj
  have h1v : ∀ v ∈ [Value.string key], v.oneCell' = true := mapS_one [key]
  -- a new row at the end
  have hend : ∀ (bs : Option Addr) (c : Nat), c < keys.length + 1 → keys.length ≤ c → (bs = none → keys.length = 0) → (∀ a, bs = some a → ∀ j v, (keys.map Value.string)[j]? = some v → W.cell? (a.add j) = some v) → i = keys.length → (kv = .slice bs keys.length c) →
      Calls Try.prog 84 #[kv, .int .i64 i, .slice (some ⟨vb, 0, none⟩) 1 1] W fun e w' => ∃ v, e = .returned v ∧ Kd.R Kd.string 9 w' base ok v (insL keys i key) ∧ W.grownBy w' kv.ownBlock ∧ (v.ownBlock = kv.ownBlock ∨ ∃ b, v.ownBlock = some b ∧ W.heap.size ≤ b) := by
    intro bs c hc hnc hnil hcs hie hkv
    subst hie hkv
    refine (Any2.slices_Insert_string_end_grow lays2_22 bs keys.length c vb 0 1 1 (keys.map Value.string) [Value.string key] W (by omega) hnc hc (by omega) (by simp) rfl hnil hcs hvs h1v).mono ?_
    rintro e w' ⟨rfl, rfl⟩
    have hge := grownCap_ge W (keys.length + 1) c 9
    have hcm := grownCap_le_maxLen W (keys.length + 1) c 9 (by simp only [maxLen]; omega)
    refine ⟨_, rfl, ?_, ⟨rfl, rfl, rfl, by simp, fun k hk _ => Below.heap_alloc W.drew _ k hk⟩, .inr ⟨W.heap.size, rfl, Nat.le_refl _⟩⟩
    refine Kd.R_of_own (enc := Value.string) ?_ (fun k hk => ?_)
    · refine ⟨by simp [encs], .inr ⟨W.heap.size, _, _, by rw [insL_len _ _ _ (Nat.le_refl _)]; rfl, hb, heap_alloc_new W.drew _, by rw [insL_len _ _ _ (Nat.le_refl _)]; exact hge, hcm, ?_, ?_⟩⟩
      · have hz1 : (Value.string ⟨#[]⟩).cells.size = 1 := rfl
        simp only [Array.size_append, List.size_toArray, size_zeroCells, hz1, List.length_append, List.length_map, List.length_cons, List.length_nil]
        show keys.length + (0 + 1) + (grownCap W (keys.length + 1) c 9 - (keys.length + 1)) * 1 = grownCap W (keys.length + 1) c 9 * 1
        omega
      · rw [insL_len _ _ _ (Nat.le_refl _)]
        simp only [Array.toList_append, encs, insL, List.take_length, List.drop_length, List.map_append, List.map_cons, List.map_nil]
        rw [List.take_left' (by simp)]
    · simp only [Value.ownBlock, Option.some.injEq] at hk
      exact hf k (by omega)
  rcases hk with hR | ⟨rfl, a, rfl, _, _⟩
  · have hown := Kd.own_of_R hR
    obtain ⟨hcl, hcase⟩ := hown
    rcases hcase with ⟨rfl, h0⟩ | ⟨g, cap, cur, rfl, hg, hh, hnc, hcm, hcs, htk⟩
    · have hkn : keys = [] := List.eq_nil_of_length_eq_zero h0
      subst hkn
      exact hend none 0 (by simp) (by simp) (fun _ => rfl) (fun a ha => by cases ha) (by simpa using hi) rfl
    · simp only [encs, Nat.mul_one] at htk hcs hcl
      have hcell : ∀ j v, (keys.map Value.string)[j]? = some v → W.cell? ⟨g, 0 + j, none⟩ = some v := fun j v hj => by
        rw [Nat.zero_add, blk_cell hh, ← hj, ← htk, List.getElem?_take, Array.getElem?_toList]
        have : j < keys.length := by
          have := (List.getElem?_eq_some_iff.1 hj).1
          simpa using this
        rw [if_pos this]
      have hcur : cur.toList = keys.map Value.string ++ cur.toList.drop keys.length := by rw [← htk, List.take_append_drop]
      have hgne : vb ≠ g := fun e => hne (by rw [e]; rfl)
      by_cases hroom : keys.length + 1 ≤ cap
      · -- in place
        have hin : ∀ (W1 : World) (cs1 : Array Value), W1.heap[g]? = some (.cells cs1 9 (0, 0)) → cs1.size = cap → (∃ R, cs1.toList = (insL keys i key).map Value.string ++ R) → W.grownBy W1 (some g) →
            ∃ v, Ending.returned (.slice (some ⟨g, 0, none⟩) (keys.length + 1) cap) = .returned v ∧ Kd.R Kd.string 9 W1 base ok v (insL keys i key) ∧ W.grownBy W1 (Value.slice (some ⟨g, 0, none⟩) keys.length cap).ownBlock ∧ (v.ownBlock = (Value.slice (some ⟨g, 0, none⟩) keys.length cap).ownBlock ∨ ∃ b, v.ownBlock = some b ∧ W.heap.size ≤ b) := by
          intro W1 cs1 h1 hs1 ⟨R, hR1⟩ hg1
          refine ⟨_, rfl, Kd.R_of_own (enc := Value.string) ⟨by simp [encs], .inr ⟨g, cap, cs1, by rw [insL_len _ _ _ hi], hg, h1, by rw [insL_len _ _ _ hi]; exact hroom, hcm, by rw [hs1, Nat.mul_one], ?_⟩⟩ (fun k hk => hR.1 k hk), hg1, .inl rfl⟩
          rw [hR1, List.take_left' (by simp)]
          rfl
        by_cases hie : i = keys.length
        · subst hie
          refine (Any2.slices_Insert_string_end_room lays2_22 g 0 keys.length cap vb 0 1 1 [Value.string key] W (by omega) hroom (by simpa only [maxLen] using hcm) rfl (fun j hj => ?_) (fun j _ => frozen_one hh) hvs h1v).mono ?_
          · rw [blk_cell hh, Array.getElem?_eq_getElem (by omega)]; rfl
          · rintro e w' ⟨rfl, rfl⟩
            refine hin _ _ (heap_setCells [Value.string key] (0 + keys.length) cur W hh) (by rw [putL_size, hcs]) ⟨cur.toList.drop (0 + keys.length + [Value.string key].length), ?_⟩ (grown_setCells [Value.string key] (0 + keys.length) W)
            rw [putL_toList _ _ _ (by simp; omega), Nat.zero_add, htk]
            simp only [insL, List.take_length, List.drop_length, List.map_append, List.map_cons, List.map_nil, List.append_assoc]
        · have hlt : i < keys.length := by omega
          refine (Any2.slices_Insert_string_shift lays2_22 g 0 keys.length cap i vb 0 1 1 (keys.map Value.string) [Value.string key] W hlt (by omega) hroom (by simpa only [maxLen] using hcm) hgne (by simp) rfl hcell (fun j hj => ?_) (fun j _ => frozen_one hh) hvs (mapS_one keys) h1v 9 9 _ _ (shape_of hvb) (shape_of hh) (by omega) (frozen_one hvb) (frozen_one hvb)).mono ?_
          · rw [blk_cell hh, Array.getElem?_eq_getElem (by omega)]; rfl
          · rintro e w' ⟨rfl, rfl⟩
            have hd : W.drew.heap[g]? = some (.cells cur 9 (0, 0)) := hh
            have hl1 : (0 + (i + 1)) + ((keys.map Value.string).drop i).length ≤ cur.size := by simp; omega
            refine hin _ _ (heap_setCells [Value.string key] (0 + i) _ _ (heap_setCells ((keys.map Value.string).drop i) (0 + (i + 1)) cur W.drew hd)) (by rw [putL_size, putL_size, hcs]) ⟨cur.toList.drop (keys.length + 1), ?_⟩ (World.grownBy.trans (World.grownBy.trans (b := W.drew) ⟨rfl, rfl, rfl, Nat.le_refl _, fun _ _ _ => rfl⟩ (grown_setCells _ _ _)) (grown_setCells _ _ _))
            rw [putL_toList _ _ _ (by rw [putL_size]; simp; omega), putL_toList _ _ _ hl1]
            have hcl2 : cur.toList.length = cap := by simpa using hcs
            have e1 : (cur.toList.take (0 + (i + 1)) ++ ((keys.map Value.string).drop i ++ cur.toList.drop (0 + (i + 1) + ((keys.map Value.string).drop i).length))).take (0 + i) = (keys.take i).map Value.string := by
              rw [List.take_append_of_le_length (by simp; omega), List.take_take, Nat.min_eq_left (by omega), hcur, List.take_append_of_le_length (by simp; omega)]
              simp
            have e2 : (cur.toList.take (0 + (i + 1)) ++ ((keys.map Value.string).drop i ++ cur.toList.drop (0 + (i + 1) + ((keys.map Value.string).drop i).length))).drop (0 + i + [Value.string key].length) = (keys.map Value.string).drop i ++ cur.toList.drop (keys.length + 1) := by
              rw [List.drop_left' (by simp; omega)]
              congr 2
              simp
              omega
            rw [e1, e2]
            simp [insL, List.map_drop]
      · by_cases hie : i = keys.length
        · exact hend (some ⟨g, 0, none⟩) cap (by omega) hnc (fun h => by cases h) (fun a ha j v hj => by injection ha with ha; subst ha; rw [Addr.add_lit]; exact hcell j v hj) hie rfl
        · have hlt : i < keys.length := by omega
          refine (Any2.slices_Insert_string_grow lays2_22 g 0 keys.length cap i vb 0 1 1 (keys.map Value.string) [Value.string key] W hlt (by omega) hnc (by omega) (by omega) (by simp) rfl hcell hvs (mapS_one keys) h1v).mono ?_
          rintro e w' ⟨rfl, rfl⟩
          have hge := grownCap_ge W (keys.length + 1) cap 9
          have hgm := grownCap_le_maxLen W (keys.length + 1) cap 9 (by simp only [maxLen]; omega)
          obtain ⟨G, hG⟩ : ∃ G, grownCap W (keys.length + 1) cap 9 = G := ⟨_, rfl⟩
          rw [hG] at hge hgm
          have hG2 : grownCap W (keys.length + 1) cap (lays2_22_ren.t 9) = G := hG
          rw [hG2]
          have hz1 : (Value.string ⟨#[]⟩).cells.size = 1 := rfl
          obtain ⟨C0, hC0⟩ : ∃ C0, (((keys.map Value.string).take i).toArray ++ Builtin.zeroCells (Value.string ⟨#[]⟩).cells (keys.length + 1 - i) ++ Builtin.zeroCells (Value.string ⟨#[]⟩).cells (G - (keys.length + 1))) = C0 := ⟨_, rfl⟩
          rw [hC0]
          have hC0s : C0.size = G := by
            rw [← hC0]
            simp only [Array.size_append, List.size_toArray, size_zeroCells, hz1, List.length_take, List.length_map]
            omega
          have hC0t : C0.toList.take i = (keys.take i).map Value.string := by
            rw [← hC0]
            simp only [Array.toList_append, List.append_assoc]
            rw [List.take_left' (by simp; omega), List.map_take]
          have hnew : (W.alloc (.cells C0 (lays2_22_ren.t 9))).drew.heap[W.heap.size]? = some (.cells C0 9 (0, 0)) := heap_alloc_new W _
          have h2 := heap_setCells [Value.string key] i C0 _ hnew
          have h2' : (((W.alloc (.cells C0 (lays2_22_ren.t 9))).drew.setCells W.heap.size i [Value.string key]).drew).heap[W.heap.size]? = some (.cells (putL C0 i [Value.string key]) 9 (0, 0)) := h2
          have h3 := heap_setCells ((keys.map Value.string).drop i) (i + 1) _ _ h2'
          have hgr : W.grownBy ((((W.alloc (.cells C0 (lays2_22_ren.t 9))).drew.setCells W.heap.size i [Value.string key]).drew).setCells W.heap.size (i + 1) ((keys.map Value.string).drop i)) (some g) := by
            have q1 := grown_setCells (g := W.heap.size) [Value.string key] i (W.alloc (.cells C0 (lays2_22_ren.t 9))).drew
            have q2 := grown_setCells (g := W.heap.size) ((keys.map Value.string).drop i) (i + 1) ((W.alloc (.cells C0 (lays2_22_ren.t 9))).drew.setCells W.heap.size i [Value.string key]).drew
            have sz1 : ((W.alloc (.cells C0 (lays2_22_ren.t 9))).drew).heap.size = W.heap.size + 1 := by simp
            refine ⟨q2.os.trans q1.os, q2.tape.trans q1.tape, q2.output.trans q1.output, ?_, fun k hk _ => ?_⟩
            · have := q1.size; have := q2.size; rw [sz1] at *; simp only [drew_heap] at *; omega
            · have s1 := q1.size
              rw [sz1] at s1
              rw [q2.block k (by simp only [drew_heap]; omega) (fun e => by injection e with e; omega)]
              simp only [drew_heap]
              rw [q1.block k (by rw [sz1]; omega) (fun e => by injection e with e; omega)]
              exact Below.heap_alloc W _ k hk
          refine ⟨_, rfl, Kd.R_of_own (enc := Value.string) ⟨by simp [encs], .inr ⟨W.heap.size, G, _, by rw [insL_len _ _ _ hi], hb, h3, by rw [insL_len _ _ _ hi]; exact hge, hgm, by rw [putL_size, putL_size, hC0s, Nat.mul_one], ?_⟩⟩ (fun k hk => hf k (by simp only [Value.ownBlock, Option.some.injEq] at hk; omega)), hgr, .inr ⟨_, rfl, Nat.le_refl _⟩⟩
          have hC0l : C0.toList.length = G := by simpa using hC0s
          rw [putL_toList _ _ _ (by rw [putL_size]; simp; omega), putL_toList _ _ _ (by simp; omega), hC0t]
          have e1 : ((keys.take i).map Value.string ++ ([Value.string key] ++ C0.toList.drop (i + [Value.string key].length))).take (i + 1) = (keys.take i).map Value.string ++ [Value.string key] := by
            rw [← List.append_assoc, List.take_left' (by simp; omega)]
          rw [e1, ← List.append_assoc, List.take_left' (by rw [insL_len _ _ _ hi]; simp; omega)]
          simp [insL, encs, List.map_drop]
  · exact hend (some a) 0 (by simp) (by simp) (fun _ => rfl) (fun a' _ j v hj => by simp at hj) (by simpa using hi) rfl
end Go.Proofs.Yteofdgonpbmdlaa.C
namespace Go.Proofs.Yteofdgonpbmdlaa.C
open Go.RowKit Go.Maps Go.Proofs.YteofdgonpbmdlaaW.PrintWords Go.Proofs.YteofdgonpbmdlaaW.PrintLast Go.Proofs.YteofdgonpbmdlaaW.PrintMore
def fitsB (s : SS) (N : Int × Int × Int) : Bool := decide (N.1 ≤ s.l0) && decide (N.2.1 ≤ s.l1) && decide (N.2.2 ≤ s.l2)
def sizesOf (s : SS) (l : List S102) : Int × Int × Int := comesN s.ch l s.n0 s.n1 s.n2
/-- The store that a commit comes to: as it is, or collected. -/
def comS1 (s : SS) (l : List S102) (tf : ByteArray → List S28) (zf : ByteArray → Int) : SS := if fitsB s (sizesOf s l) = true then s else colS s tf zf
/-- The keys behind writes: what has got its first version is new. -/
def insK (pf : ByteArray → List S28) : List S102 → List ByteArray → List ByteArray
  | [], K => K
  | x :: t, K => insK pf t (if (pf x.f0).length = 1 then insL K (srchF K x.f0) x.f0 else K)
theorem insK_snoc (pf : ByteArray → List S28) (x : S102) : ∀ (l : List S102) (K : List ByteArray), insK pf (l ++ [x]) K = (if (pf x.f0).length = 1 then insL (insK pf l K) (srchF (insK pf l K) x.f0) x.f0 else insK pf l K)
  | [], _ => rfl
  | y :: t, K => insK_snoc pf x t _
theorem insK_le (pf : ByteArray → List S28) : ∀ (l : List S102) (K : List ByteArray), (insK pf l K).length ≤ K.length + l.length
  | [], K => by simp [insK]
  | x :: t, K => by
    have := insK_le pf t (if (pf x.f0).length = 1 then insL K (srchF K x.f0) x.f0 else K)
    have h2 : (if (pf x.f0).length = 1 then insL K (srchF K x.f0) x.f0 else K).length ≤ K.length + 1 := by
      split
      · rw [insL_len _ _ _ (srchF_le _ _)]; exact Nat.le_refl _
      · omega
    simp only [insK, List.length_cons]
    omega
/-- Behind the first writes of a list. -/
def midP (s : SS) (pf : ByteArray → List S28) (L : List S102) : SS := { s with now := s.now + 1, keys := insK pf L s.keys, ch := colCh (L.map (·.f0)) pf s.ch }
def putS (s : SS) (pf : ByteArray → List S28) (L : List S102) (N : Int × Int × Int) : SS := { midP s pf L with n0 := N.1, n1 := N.2.1, n2 := N.2.2 }
/-- What a commit tells, and the store behind it. -/
def comR (s : SS) (l : List S102) (ce : Int) (tf : ByteArray → List S28) (zf : ByteArray → Int) (pf : ByteArray → List S28) : Int × Int × SS :=
  if ce ≠ 0 then (0, ce, s) else if l.length = 0 then (s.now, 0, s) else if s.last ≤ s.now then (0, 5, s) else
  if fitsB (comS1 s l tf zf) (sizesOf (comS1 s l tf zf) l) = true then (s.now + 1, 0, putS (comS1 s l tf zf) pf (comesL (comS1 s l tf zf).ch l) (sizesOf (comS1 s l tf zf) l)) else (0, 5, comS1 s l tf zf)
def ComPost (W : World) (base : Nat) (B : Nat → Prop) (p : Nat) (kv : Value) (mb n : Nat) (r : Int × Int × SS) (m : Nat) (e : Ending) (w' : World) : Prop :=
  e = .returned (.tuple #[.int .u64 r.1, .int .i64 r.2.1]) ∧ ∃ kv' n' D', StoreAt w' base B p r.2.2 kv' mb n' D' ∧ n' ≤ n + m ∧ Turn base (Own p mb kv) W w' ∧ (∀ k, kv'.ownBlock = some k → kv.ownBlock = some k ∨ W.heap.size ≤ k)
section
variable {W : World} {base p : Nat} {B : Nat → Prop} {s : SS} {kv : Value} {mb n : Nat} {D : DataW Value}
theorem comes_calls (h : Aside0 (StoreAt W base B p s kv mb n D)) (okA : Nat → Prop) (hokA : ∀ k, okA k → k < W.heap.size) (A : Option Addr) (c0 : Nat) (l : List S102) (hF : Aside0 (Kd.F k102 W okA A l.length l)) (hl : Aside0 (l.length ≤ 1000)) (hk : Aside0 (∀ x, x ∈ l → x.f0.size ≤ maxLen)) (hch : Aside0 (∀ key, (s.ch key).length ≤ 1000000)) (L : List S102) (a b c : Int) (hL : Aside0 (comesL s.ch l = L)) (hN : Aside0 (sizesOf s l = (a, b, c))) :
    Calls Try.prog 82 #[.pointer (some ⟨p, 0, none⟩), .slice A l.length c0] W fun e w' => (∃ A1 c1, e = .returned (.tuple #[.slice A1 L.length c1, .agg #[.int .i64 a, .int .i64 b, .int .i64 c]]) ∧ L.length ≤ c1 ∧ Kd.F k102 w' (fun k_ => okA k_ ∨ W.heap.size ≤ k_) A1 L.length L) ∧ Below W.heap.size W w' := by
  refine (store_comes.calls h okA hokA A c0 l hF hl hk hch).mono ?_
  rintro e w' ⟨v, rfl, ho, hb⟩
  rw [hL.out] at ho
  obtain ⟨A1, c1, rfl⟩ := Kd.N_slice ho
  refine ⟨⟨A1, c1, ?_, (Kd.N_reads' ho).2.1, Kd.N_F ho⟩, hb⟩
  have hN' : comesN s.ch l s.n0 s.n1 s.n2 = (a, b, c) := hN.out
  rw [hN']
theorem fits_calls (h : Aside0 (StoreAt W base B p s kv mb n D)) (x0 x1 x2 : Int) (r : Bool) (hr : Aside0 (fitsB s (x0, x1, x2) = r)) :
    Calls Try.prog 83 #[.pointer (some ⟨p, 0, none⟩), .agg #[.int .i64 x0, .int .i64 x1, .int .i64 x2]] W fun e w' => e = .returned (.bool r) ∧ Below W.heap.size W w' := by
  refine (store_fits.calls h x0 x1 x2).mono ?_
  rintro e w' ⟨rfl, hb⟩
  exact ⟨by rw [← hr.out]; rfl, hb⟩
theorem collect_calls (h : Aside0 (StoreAt W base B p s kv mb n D)) (low : Int) (tf : ByteArray → List S28) (zf : ByteArray → Int)
    (hl : Aside0 (s.keys.length ≤ 100000)) (hk : Aside0 (∀ key, key ∈ s.keys → key.size ≤ maxLen)) (hnd : Aside0 s.keys.Nodup) (ht : Aside0 (∀ key, key ∈ s.keys → ∃ k, chain_Trim.f k (s.ch key) low = some (tf key))) (hz : Aside0 (∀ key, key ∈ s.keys → ∃ k, chain_Size.f k (tf key) = some (zf key)))
    (hn : Aside0 (n + s.keys.length < maxLen)) : Calls Try.prog 49 #[.pointer (some ⟨p, 0, none⟩), .int .u64 low] W fun e w' => (∃ r : Int, e = .returned (.int .i64 r)) ∧ ∃ kv' n' D', StoreAt w' base B p (colS s tf zf) kv' mb n' D' ∧ n' ≤ n + s.keys.length ∧ Turn base (Own p mb kv) W w' ∧ (∀ k, kv'.ownBlock = some k → kv.ownBlock = some k ∨ W.heap.size ≤ k) := by
  refine (store_Collect.calls h low tf zf hl hk hnd ht hz hn).mono ?_
  rintro e w' ⟨rfl, kv', n', D', h1, h2, h3, h4⟩
  exact ⟨⟨_, rfl⟩, kv', n', D', h1, h2, h3.mono (fun k hk => hk.elim .inl (fun e => .inr (.inl e))), h4⟩
end
end Go.Proofs.Yteofdgonpbmdlaa.C
namespace Go.Proofs.Yteofdgonpbmdlaa.C
open Go.RowKit Go.Proofs.YteofdgonpbmdlaaW.PrintWords Go.Proofs.YteofdgonpbmdlaaW.PrintLast Go.Proofs.YteofdgonpbmdlaaW.PrintMore
attribute [local go_sem] max2_int min2_int max2_str min2_str str_leq str_gtr str_geq max_two min_two max_three min_three max_four min_four
set_option linter.unusedVariables false
set_option linter.unusedSimpArgs false
mutual
def store_Check.l0 : Nat → List (S102) → List (S102) → Int → Int → Option (Int)
 | 0, _, _, _, _ => none
 | k + 1, x0, x5, x6, x7 => if x7 < x6 then (if 0 ≤ x7 then (if x7 < (x5.length : Int) then (if (((rd_T102 x5 x7).f0).size : Int) > 256 then (some 3) else (if (((rd_T102 x5 x7).f2).length : Int) > 4096 then (some 3) else (if ((rd_T102 x5 x7).f0).toList = ([] : List UInt8) then (some 1) else (if x7 > 0 then (if 0 ≤ (wrap64 (x7 - 1)) then (if (wrap64 (x7 - 1)) < (x0.length : Int) then (store_Check.j1 k x0 x5 x6 x7 (!(Op.bytesLess (((rd_T102 x0 (wrap64 (x7 - 1))).f0).toList) (((rd_T102 x5 x7).f0).toList))) ((rd_T102 x5 x7).f0) ((rd_T102 x5 x7).f1) ((rd_T102 x5 x7).f2)) else (none)) else (none)) else (store_Check.j1 k x0 x5 x6 x7 false ((rd_T102 x5 x7).f0) ((rd_T102 x5 x7).f1) ((rd_T102 x5 x7).f2)))))) else (none)) else (none)) else (some 0)
def store_Check.j1 : Nat → List (S102) → List (S102) → Int → Int → Bool → ByteArray → Bool → List Int → Option (Int)
 | 0, _, _, _, _, _, _, _, _ => none
 | k + 1, x0, x5, x6, x7, x22, x393000, x393001, x393002 => if x22 = true then (some 1) else (if x393001 = true then (if (x393002.length : Int) > 0 then (some 1) else (store_Check.l0 k x0 x5 x6 (wrap64 (x7 + 1)))) else (store_Check.l0 k x0 x5 x6 (wrap64 (x7 + 1))))
end
def store_Check.f (k : Nat) (l0 : List (S102)) : Option (Int) := store_Check.l0 k l0 l0 (l0.length : Int) 0
theorem store_Check.mono_l : ∀ k, (∀ y0 y1 y2 y3, LeO (store_Check.l0 k y0 y1 y2 y3) (store_Check.l0 (k + 1) y0 y1 y2 y3)) ∧ (∀ y0 y1 y2 y3 y4 y5 y6 y7, LeO (store_Check.j1 k y0 y1 y2 y3 y4 y5 y6 y7) (store_Check.j1 (k + 1) y0 y1 y2 y3 y4 y5 y6 y7))
 | 0 => ⟨fun _ _ _ _ r h => by simp [store_Check.l0] at h, fun _ _ _ _ _ _ _ _ r h => by simp [store_Check.j1] at h⟩
 | k + 1 => by
  obtain ⟨ih0, ih1⟩ := store_Check.mono_l k
  refine ⟨?_, ?_⟩
  ·intro y0 y1 y2 y3
   unfold store_Check.l0
   repeat' first
   | (with_reducible exact ih0 _ _ _ _)
   | (with_reducible exact ih1 _ _ _ _ _ _ _ _)
   | (with_reducible exact LeO.refl _)
   | (with_reducible exact LeO.none _)
   | (with_reducible refine LeO.ite ?_ ?_)
   | (with_reducible refine LeO.bind ?_ (fun _ => ?_))
   | exact ih0 _ _ _ _
   | exact ih1 _ _ _ _ _ _ _ _
   | exact LeO.none _
   | refine LeO.ite ?_ ?_
   | refine LeO.bind ?_ (fun _ => ?_)
  ·intro y0 y1 y2 y3 y4 y5 y6 y7
   unfold store_Check.j1
   repeat' first
   | (with_reducible exact ih0 _ _ _ _)
   | (with_reducible exact ih1 _ _ _ _ _ _ _ _)
   | (with_reducible exact LeO.refl _)
   | (with_reducible exact LeO.none _)
   | (with_reducible refine LeO.ite ?_ ?_)
   | (with_reducible refine LeO.bind ?_ (fun _ => ?_))
   | exact ih0 _ _ _ _
   | exact ih1 _ _ _ _ _ _ _ _
   | exact LeO.none _
   | refine LeO.ite ?_ ?_
   | refine LeO.bind ?_ (fun _ => ?_)
theorem store_Check.mono : ∀ a0 k, LeO (store_Check.f k a0) (store_Check.f (k + 1) a0) := by
 intro a0 k
 obtain ⟨ih0, ih1⟩ := store_Check.mono_l k
 unfold store_Check.f
 repeat' first
   | (with_reducible exact ih0 _ _ _ _)
   | (with_reducible exact ih1 _ _ _ _ _ _ _ _)
   | (with_reducible exact LeO.refl _)
   | (with_reducible exact LeO.none _)
   | (with_reducible refine LeO.ite ?_ ?_)
   | (with_reducible refine LeO.bind ?_ (fun _ => ?_))
   | exact ih0 _ _ _ _
   | exact ih1 _ _ _ _ _ _ _ _
   | exact LeO.none _
   | refine LeO.ite ?_ ?_
   | refine LeO.bind ?_ (fun _ => ?_)
set_option maxHeartbeats 8000000 in
set_option maxRecDepth 100000 in
theorem store_Check.calls (k : Nat) (A0 : Option Addr) (c0 : Nat) (l0 : List (S102)) (r : Int) (w : World) (hr0 : Kd.C k102 w A0 l0.length l0) (hc0 : l0.length ≤ c0) (h : store_Check.f k l0 = some r) :
  Calls Try.prog 55 #[.slice A0 l0.length c0] w fun e w' => e = .returned (.int .i64 r) ∧ Below w.heap.size w w' := by
 have hu102 := Try.underlying102
 have HR0 := Aside0.mk hr0; have HC0 := Aside0.mk hc0; clear hr0 hc0
 have HB := Aside0.mk (Below.refl w.heap.size w)
 have H : (store_Check.l0 k l0 l0 (l0.length : Int) 0) = some r := h
 clear h; have H' := Aside0.mk H; clear H
 go_enter Try.func55, Try.ntmps55
 go_wp2
 repeat (go_quiet (fail); try go_wp2)
 go_loopg [7] k (fun kq v7 w' => ∃ (x7_1 : Int), v7 = .int .i64 x7_1 ∧ Aside0 (store_Check.l0 kq l0 l0 (l0.length : Int) x7_1 = some r) ∧ Aside0 (kq ≤ k) ∧ Aside0 (Below w.heap.size w w'))
 case atStart => exact ⟨(0), (by first | rfl | (simp; done) | (simp [*]; done)), H', ⟨Nat.le_refl _⟩, ⟨bl_⟩⟩
 case round =>
  clear H'; obtain ⟨x7_1, rfl, HA, HK1, HB⟩ := hrel
  cases gk with
  | zero => exact absurd HA.out (by simp [store_Check.l0])
  | succ k1 =>
   have H := HA.out
   clear HA
   simp only [store_Check.l0] at H
   by_cases c2 : x7_1 < (l0.length : Int)
   ·rw [if_pos c2] at H
    have c2b0 : decide (x7_1 < (l0.length : Int)) = true := decide_eq_true c2
    clear c2
    by_cases c3 : 0 ≤ x7_1
    ·rw [if_pos c3] at H
     have c3b0 : decide (0 ≤ x7_1) = true := decide_eq_true c3
     clear c3
     by_cases c4 : x7_1 < (l0.length : Int)
     ·rw [if_pos c4] at H
      have c4b0 : decide (x7_1 < (l0.length : Int)) = true := decide_eq_true c4
      clear c4
      by_cases c5 : (((rd_T102 l0 x7_1).f0).size : Int) > 256
      ·rw [if_pos c5] at H
       have c5b0 : decide (256 < (((rd_T102 l0 x7_1).f0).size : Int)) = true := decide_eq_true c5
       have c5b1 : decide (256 < ((rd_T102 l0 x7_1).f0).size) = true := decide_eq_true (by omega)
       clear c5; obtain rfl := Option.some.inj H
       have p391 : 0 ≤ (x7_1 : Int) := od_
       have q391 : x7_1 < (l0.length : Int) := od_
       obtain ⟨ad391, A391_2, c391_2, e391, hx391_0, hx391_1, hx391_2, hl391_2, hi391_2⟩ := at_T102 HR0.out x7_1 p391 q391; cases e391
       replace hx391_0 := up_ HB.out hx391_0
       replace hx391_1 := up_ HB.out hx391_1
       replace hx391_2 := up_ HB.out hx391_2
       have HR391_2 := Aside0.mk hi391_2; have HC391_2 := Aside0.mk hl391_2; clear hi391_2 hl391_2; replace p391 := eq_true p391; replace q391 := eq_true q391
       go_wp2_with (first | ((with_reducible refine gate_dst (N := 4) rfl ?_); (try (refine gate_guard (by rfl) ?_; dsimp only)); refine box_event ?hg (N := 4) ?hd (cs := #[.string (⟨#[]⟩ : ByteArray), .bool false, .slice none 0 0]) (t := 102) ?hr ?_; (case hd => rfl); (case hg => rfl); (case hr => first | (go_simp; done) | (go_simp; rfl)); intro gb392 hg w6 hbox hb; have n0_ := Aside0.mk (below_step bl_ hb); have n1_ := Aside0.mk (hbox); have n2_ := Aside0.mk (bsz_ hg : w.heap.size ≤ gb392); have n3_ := Aside0.mk (bsz_ hg : w.heap.size ≤ gb392); clear HB; have HB := n0_; have BK392 := n1_; have GW392 := n2_; have GE392 := n3_; clear n0_ n1_ n2_ n3_; clear hb hbox hg; obtain ⟨hcz7_0, hcz7_1, hcz7_2, hfz7_0, hfz7_1, hfz7_2⟩ := blk3_ BK392.out))
       repeat (go_quiet (first | ((with_reducible refine gate_dst (N := 4) rfl ?_); (try (refine gate_guard (by rfl) ?_; dsimp only)); refine box_event ?hg (N := 4) ?hd (cs := #[.string (⟨#[]⟩ : ByteArray), .bool false, .slice none 0 0]) (t := 102) ?hr ?_; (case hd => rfl); (case hg => rfl); (case hr => first | (go_simp; done) | (go_simp; rfl)); intro gb392 hg w6 hbox hb; have n0_ := Aside0.mk (below_step bl_ hb); have n1_ := Aside0.mk (hbox); have n2_ := Aside0.mk (bsz_ hg : w.heap.size ≤ gb392); have n3_ := Aside0.mk (bsz_ hg : w.heap.size ≤ gb392); clear HB; have HB := n0_; have BK392 := n1_; have GW392 := n2_; have GE392 := n3_; clear n0_ n1_ n2_ n3_; clear hb hbox hg; obtain ⟨hcz7_0, hcz7_1, hcz7_2, hfz7_0, hfz7_1, hfz7_2⟩ := blk3_ BK392.out)); try go_wp2_with (first | ((with_reducible refine gate_dst (N := 4) rfl ?_); (try (refine gate_guard (by rfl) ?_; dsimp only)); refine box_event ?hg (N := 4) ?hd (cs := #[.string (⟨#[]⟩ : ByteArray), .bool false, .slice none 0 0]) (t := 102) ?hr ?_; (case hd => rfl); (case hg => rfl); (case hr => first | (go_simp; done) | (go_simp; rfl)); intro gb392 hg w6 hbox hb; have n0_ := Aside0.mk (below_step bl_ hb); have n1_ := Aside0.mk (hbox); have n2_ := Aside0.mk (bsz_ hg : w.heap.size ≤ gb392); have n3_ := Aside0.mk (bsz_ hg : w.heap.size ≤ gb392); clear HB; have HB := n0_; have BK392 := n1_; have GW392 := n2_; have GE392 := n3_; clear n0_ n1_ n2_ n3_; clear hb hbox hg; obtain ⟨hcz7_0, hcz7_1, hcz7_2, hfz7_0, hfz7_1, hfz7_2⟩ := blk3_ BK392.out)))
       go_ret
       exact ⟨by first | rfl | (simp [errW_none, errW_some] <;> rfl) | (simp [*, errW_none, errW_some] <;> rfl), bl_⟩
      ·rw [if_neg c5] at H
       have c5b0 : decide (256 < (((rd_T102 l0 x7_1).f0).size : Int)) = false := decide_eq_false c5
       have c5b1 : decide (256 < ((rd_T102 l0 x7_1).f0).size) = false := decide_eq_false (by omega)
       clear c5
       by_cases c8 : (((rd_T102 l0 x7_1).f2).length : Int) > 4096
       ·rw [if_pos c8] at H
        have c8b0 : decide (4096 < (((rd_T102 l0 x7_1).f2).length : Int)) = true := decide_eq_true c8
        have c8b1 : decide (4096 < ((rd_T102 l0 x7_1).f2).length) = true := decide_eq_true (by omega)
        clear c8; obtain rfl := Option.some.inj H
        have p391 : 0 ≤ (x7_1 : Int) := od_
        have q391 : x7_1 < (l0.length : Int) := od_
        obtain ⟨ad391, A391_2, c391_2, e391, hx391_0, hx391_1, hx391_2, hl391_2, hi391_2⟩ := at_T102 HR0.out x7_1 p391 q391; cases e391
        replace hx391_0 := up_ HB.out hx391_0
        replace hx391_1 := up_ HB.out hx391_1
        replace hx391_2 := up_ HB.out hx391_2
        have HR391_2 := Aside0.mk hi391_2; have HC391_2 := Aside0.mk hl391_2; clear hi391_2 hl391_2; replace p391 := eq_true p391; replace q391 := eq_true q391
        go_wp2_with (first | ((with_reducible refine gate_dst (N := 4) rfl ?_); (try (refine gate_guard (by rfl) ?_; dsimp only)); refine box_event ?hg (N := 4) ?hd (cs := #[.string (⟨#[]⟩ : ByteArray), .bool false, .slice none 0 0]) (t := 102) ?hr ?_; (case hd => rfl); (case hg => rfl); (case hr => first | (go_simp; done) | (go_simp; rfl)); intro gb392 hg w9 hbox hb; have n0_ := Aside0.mk (below_step bl_ hb); have n1_ := Aside0.mk (hbox); have n2_ := Aside0.mk (bsz_ hg : w.heap.size ≤ gb392); have n3_ := Aside0.mk (bsz_ hg : w.heap.size ≤ gb392); clear HB; have HB := n0_; have BK392 := n1_; have GW392 := n2_; have GE392 := n3_; clear n0_ n1_ n2_ n3_; clear hb hbox hg; obtain ⟨hcz10_0, hcz10_1, hcz10_2, hfz10_0, hfz10_1, hfz10_2⟩ := blk3_ BK392.out))
        repeat (go_quiet (first | ((with_reducible refine gate_dst (N := 4) rfl ?_); (try (refine gate_guard (by rfl) ?_; dsimp only)); refine box_event ?hg (N := 4) ?hd (cs := #[.string (⟨#[]⟩ : ByteArray), .bool false, .slice none 0 0]) (t := 102) ?hr ?_; (case hd => rfl); (case hg => rfl); (case hr => first | (go_simp; done) | (go_simp; rfl)); intro gb392 hg w9 hbox hb; have n0_ := Aside0.mk (below_step bl_ hb); have n1_ := Aside0.mk (hbox); have n2_ := Aside0.mk (bsz_ hg : w.heap.size ≤ gb392); have n3_ := Aside0.mk (bsz_ hg : w.heap.size ≤ gb392); clear HB; have HB := n0_; have BK392 := n1_; have GW392 := n2_; have GE392 := n3_; clear n0_ n1_ n2_ n3_; clear hb hbox hg; obtain ⟨hcz10_0, hcz10_1, hcz10_2, hfz10_0, hfz10_1, hfz10_2⟩ := blk3_ BK392.out)); try go_wp2_with (first | ((with_reducible refine gate_dst (N := 4) rfl ?_); (try (refine gate_guard (by rfl) ?_; dsimp only)); refine box_event ?hg (N := 4) ?hd (cs := #[.string (⟨#[]⟩ : ByteArray), .bool false, .slice none 0 0]) (t := 102) ?hr ?_; (case hd => rfl); (case hg => rfl); (case hr => first | (go_simp; done) | (go_simp; rfl)); intro gb392 hg w9 hbox hb; have n0_ := Aside0.mk (below_step bl_ hb); have n1_ := Aside0.mk (hbox); have n2_ := Aside0.mk (bsz_ hg : w.heap.size ≤ gb392); have n3_ := Aside0.mk (bsz_ hg : w.heap.size ≤ gb392); clear HB; have HB := n0_; have BK392 := n1_; have GW392 := n2_; have GE392 := n3_; clear n0_ n1_ n2_ n3_; clear hb hbox hg; obtain ⟨hcz10_0, hcz10_1, hcz10_2, hfz10_0, hfz10_1, hfz10_2⟩ := blk3_ BK392.out)))
        go_ret
        exact ⟨by first | rfl | (simp [errW_none, errW_some] <;> rfl) | (simp [*, errW_none, errW_some] <;> rfl), bl_⟩
       ·rw [if_neg c8] at H
        have c8b0 : decide (4096 < (((rd_T102 l0 x7_1).f2).length : Int)) = false := decide_eq_false c8
        have c8b1 : decide (4096 < ((rd_T102 l0 x7_1).f2).length) = false := decide_eq_false (by omega)
        clear c8
        by_cases c11 : ((rd_T102 l0 x7_1).f0).toList = ([] : List UInt8)
        ·rw [if_pos c11] at H
         have c11b0 : (((rd_T102 l0 x7_1).f0).toList == ([] : List UInt8)) = true := beq_iff_eq.mpr c11
         have c11b1 : (((rd_T102 l0 x7_1).f0).toList != ([] : List UInt8)) = false := bne_eq_false_iff_eq.mpr c11
         clear c11; obtain rfl := Option.some.inj H
         have p391 : 0 ≤ (x7_1 : Int) := od_
         have q391 : x7_1 < (l0.length : Int) := od_
         obtain ⟨ad391, A391_2, c391_2, e391, hx391_0, hx391_1, hx391_2, hl391_2, hi391_2⟩ := at_T102 HR0.out x7_1 p391 q391; cases e391
         replace hx391_0 := up_ HB.out hx391_0
         replace hx391_1 := up_ HB.out hx391_1
         replace hx391_2 := up_ HB.out hx391_2
         have HR391_2 := Aside0.mk hi391_2; have HC391_2 := Aside0.mk hl391_2; clear hi391_2 hl391_2; replace p391 := eq_true p391; replace q391 := eq_true q391
         go_wp2_with (first | ((with_reducible refine gate_dst (N := 4) rfl ?_); (try (refine gate_guard (by rfl) ?_; dsimp only)); refine box_event ?hg (N := 4) ?hd (cs := #[.string (⟨#[]⟩ : ByteArray), .bool false, .slice none 0 0]) (t := 102) ?hr ?_; (case hd => rfl); (case hg => rfl); (case hr => first | (go_simp; done) | (go_simp; rfl)); intro gb392 hg w12 hbox hb; have n0_ := Aside0.mk (below_step bl_ hb); have n1_ := Aside0.mk (hbox); have n2_ := Aside0.mk (bsz_ hg : w.heap.size ≤ gb392); have n3_ := Aside0.mk (bsz_ hg : w.heap.size ≤ gb392); clear HB; have HB := n0_; have BK392 := n1_; have GW392 := n2_; have GE392 := n3_; clear n0_ n1_ n2_ n3_; clear hb hbox hg; obtain ⟨hcz13_0, hcz13_1, hcz13_2, hfz13_0, hfz13_1, hfz13_2⟩ := blk3_ BK392.out))
         repeat (go_quiet (first | ((with_reducible refine gate_dst (N := 4) rfl ?_); (try (refine gate_guard (by rfl) ?_; dsimp only)); refine box_event ?hg (N := 4) ?hd (cs := #[.string (⟨#[]⟩ : ByteArray), .bool false, .slice none 0 0]) (t := 102) ?hr ?_; (case hd => rfl); (case hg => rfl); (case hr => first | (go_simp; done) | (go_simp; rfl)); intro gb392 hg w12 hbox hb; have n0_ := Aside0.mk (below_step bl_ hb); have n1_ := Aside0.mk (hbox); have n2_ := Aside0.mk (bsz_ hg : w.heap.size ≤ gb392); have n3_ := Aside0.mk (bsz_ hg : w.heap.size ≤ gb392); clear HB; have HB := n0_; have BK392 := n1_; have GW392 := n2_; have GE392 := n3_; clear n0_ n1_ n2_ n3_; clear hb hbox hg; obtain ⟨hcz13_0, hcz13_1, hcz13_2, hfz13_0, hfz13_1, hfz13_2⟩ := blk3_ BK392.out)); try go_wp2_with (first | ((with_reducible refine gate_dst (N := 4) rfl ?_); (try (refine gate_guard (by rfl) ?_; dsimp only)); refine box_event ?hg (N := 4) ?hd (cs := #[.string (⟨#[]⟩ : ByteArray), .bool false, .slice none 0 0]) (t := 102) ?hr ?_; (case hd => rfl); (case hg => rfl); (case hr => first | (go_simp; done) | (go_simp; rfl)); intro gb392 hg w12 hbox hb; have n0_ := Aside0.mk (below_step bl_ hb); have n1_ := Aside0.mk (hbox); have n2_ := Aside0.mk (bsz_ hg : w.heap.size ≤ gb392); have n3_ := Aside0.mk (bsz_ hg : w.heap.size ≤ gb392); clear HB; have HB := n0_; have BK392 := n1_; have GW392 := n2_; have GE392 := n3_; clear n0_ n1_ n2_ n3_; clear hb hbox hg; obtain ⟨hcz13_0, hcz13_1, hcz13_2, hfz13_0, hfz13_1, hfz13_2⟩ := blk3_ BK392.out)))
         go_ret
         exact ⟨by first | rfl | (simp [errW_none, errW_some] <;> rfl) | (simp [*, errW_none, errW_some] <;> rfl), bl_⟩
        ·rw [if_neg c11] at H
         have c11b0 : (((rd_T102 l0 x7_1).f0).toList == ([] : List UInt8)) = false := beq_eq_false_iff_ne.mpr c11
         have c11b1 : (((rd_T102 l0 x7_1).f0).toList != ([] : List UInt8)) = true := bne_iff_ne.mpr c11
         have HC14 := Aside0.mk H; clear H
         have p391 : 0 ≤ (x7_1 : Int) := od_
         have q391 : x7_1 < (l0.length : Int) := od_
         obtain ⟨ad391, A391_2, c391_2, e391, hx391_0, hx391_1, hx391_2, hl391_2, hi391_2⟩ := at_T102 HR0.out x7_1 p391 q391; cases e391
         replace hx391_0 := up_ HB.out hx391_0
         replace hx391_1 := up_ HB.out hx391_1
         replace hx391_2 := up_ HB.out hx391_2
         have HR391_2 := Aside0.mk hi391_2; have HC391_2 := Aside0.mk hl391_2; clear hi391_2 hl391_2; replace p391 := eq_true p391; replace q391 := eq_true q391
         go_upto_region 7 with (first | ((with_reducible refine gate_dst (N := 4) rfl ?_); (try (refine gate_guard (by rfl) ?_; dsimp only)); refine box_event ?hg (N := 4) ?hd (cs := #[.string (⟨#[]⟩ : ByteArray), .bool false, .slice none 0 0]) (t := 102) ?hr ?_; (case hd => rfl); (case hg => rfl); (case hr => first | (go_simp; done) | (go_simp; rfl)); intro gb392 hg w15 hbox hb; have n0_ := Aside0.mk (below_step bl_ hb); have n1_ := Aside0.mk (hbox); have n2_ := Aside0.mk (bsz_ hg : w.heap.size ≤ gb392); have n3_ := Aside0.mk (bsz_ hg : w.heap.size ≤ gb392); clear HB; have HB := n0_; have BK392 := n1_; have GW392 := n2_; have GE392 := n3_; clear n0_ n1_ n2_ n3_; clear hb hbox hg; obtain ⟨hcz16_0, hcz16_1, hcz16_2, hfz16_0, hfz16_1, hfz16_2⟩ := blk3_ BK392.out))
         repeat (go_quiet (first | ((with_reducible refine gate_dst (N := 4) rfl ?_); (try (refine gate_guard (by rfl) ?_; dsimp only)); refine box_event ?hg (N := 4) ?hd (cs := #[.string (⟨#[]⟩ : ByteArray), .bool false, .slice none 0 0]) (t := 102) ?hr ?_; (case hd => rfl); (case hg => rfl); (case hr => first | (go_simp; done) | (go_simp; rfl)); intro gb392 hg w15 hbox hb; have n0_ := Aside0.mk (below_step bl_ hb); have n1_ := Aside0.mk (hbox); have n2_ := Aside0.mk (bsz_ hg : w.heap.size ≤ gb392); have n3_ := Aside0.mk (bsz_ hg : w.heap.size ≤ gb392); clear HB; have HB := n0_; have BK392 := n1_; have GW392 := n2_; have GE392 := n3_; clear n0_ n1_ n2_ n3_; clear hb hbox hg; obtain ⟨hcz16_0, hcz16_1, hcz16_2, hfz16_0, hfz16_1, hfz16_2⟩ := blk3_ BK392.out)); go_upto_region 7 with (first | ((with_reducible refine gate_dst (N := 4) rfl ?_); (try (refine gate_guard (by rfl) ?_; dsimp only)); refine box_event ?hg (N := 4) ?hd (cs := #[.string (⟨#[]⟩ : ByteArray), .bool false, .slice none 0 0]) (t := 102) ?hr ?_; (case hd => rfl); (case hg => rfl); (case hr => first | (go_simp; done) | (go_simp; rfl)); intro gb392 hg w15 hbox hb; have n0_ := Aside0.mk (below_step bl_ hb); have n1_ := Aside0.mk (hbox); have n2_ := Aside0.mk (bsz_ hg : w.heap.size ≤ gb392); have n3_ := Aside0.mk (bsz_ hg : w.heap.size ≤ gb392); clear HB; have HB := n0_; have BK392 := n1_; have GW392 := n2_; have GE392 := n3_; clear n0_ n1_ n2_ n3_; clear hb hbox hg; obtain ⟨hcz16_0, hcz16_1, hcz16_2, hfz16_0, hfz16_1, hfz16_2⟩ := blk3_ BK392.out)))
         (try simp only [Act.put, List.setIfInBounds_toArray, List.set_cons_zero, List.set_cons_succ])
         go_cut [22] (fun v22 wc => ∃ (kq : Nat) (x22_13 : Bool), v22 = .bool x22_13 ∧ Aside0 (store_Check.j1 kq l0 l0 (l0.length : Int) x7_1 x22_13 ((rd_T102 l0 x7_1).f0) ((rd_T102 l0 x7_1).f1) ((rd_T102 l0 x7_1).f2) = some r) ∧ Aside0 (kq ≤ k1) ∧ Aside0 (wc.heap[gb392]? = some (.cells #[.string ((rd_T102 l0 x7_1).f0), .bool ((rd_T102 l0 x7_1).f1), (.slice A391_2 ((rd_T102 l0 x7_1).f2).length c391_2)] 102 (0, 0))) ∧ Aside0 (Below w.heap.size w wc))
         case first =>
          have H := HC14.out
          clear HC14
          by_cases c17 : x7_1 > 0
          ·rw [if_pos c17] at H
           have c17b0 : decide (0 < x7_1) = true := decide_eq_true c17
           clear c17
           (first | rw [c17b0] | (simp only [i64_w, i32_w]; rw [c17b0]) | skip)
           obtain ⟨ji18, hji18⟩ : ∃ j_ : Int, (wrap64 (x7_1 - 1)) = j_ := ⟨_, rfl⟩
           replace H : (if 0 ≤ (ji18) then (if (ji18) < (l0.length : Int) then (store_Check.j1 k1 l0 l0 (l0.length : Int) x7_1 (!(Op.bytesLess (((rd_T102 l0 (ji18)).f0).toList) (((rd_T102 l0 x7_1).f0).toList))) ((rd_T102 l0 x7_1).f0) ((rd_T102 l0 x7_1).f1) ((rd_T102 l0 x7_1).f2)) else (none)) else (none)) = some r := by first | (rw [hji18] at H; exact H) | (simp only [hji18] at H ⊢; exact H)
           have hji18w : (IntKind.i64.wrap (x7_1 - 1)) = ji18 := (i64_w _).trans hji18
           by_cases c19 : 0 ≤ (ji18)
           ·rw [if_pos c19] at H
            have c19b0 : decide (0 ≤ (ji18)) = true := decide_eq_true c19
            clear c19
            by_cases c20 : (ji18) < (l0.length : Int)
            ·rw [if_pos c20] at H
             have c20b0 : decide ((ji18) < (l0.length : Int)) = true := decide_eq_true c20
             clear c20; have H' := Aside0.mk H; clear H; obtain ⟨hcz21_0, hcz21_1, hcz21_2, hfz21_0, hfz21_1, hfz21_2⟩ := blk3_ BK392.out
             have p393 : 0 ≤ ((ji18) : Int) := od_
             have q393 : (ji18) < (l0.length : Int) := od_
             obtain ⟨ad393, A393_2, c393_2, e393, hx393_0, hx393_1, hx393_2, hl393_2, hi393_2⟩ := at_T102 HR0.out (ji18) p393 q393
             obtain rfl : ad391 = ad393 := (by injection e393)
             have hn393_0 : ad391.block ≠ gb392 := Nat.ne_of_lt (Nat.lt_of_lt_of_le (by have := World.block_lt_of_cell? _ _ hx393_0; first | rwa [add_block] at this | exact this) GW392.out)
             have hn393_1 : ad391.block ≠ gb392 := Nat.ne_of_lt (Nat.lt_of_lt_of_le (by have := World.block_lt_of_cell? _ _ hx393_0; first | rwa [add_block] at this | exact this) GW392.out)
             have hn393_2 : ad391.block ≠ gb392 := Nat.ne_of_lt (Nat.lt_of_lt_of_le (by have := World.block_lt_of_cell? _ _ hx393_0; first | rwa [add_block] at this | exact this) GW392.out)
             replace hx393_0 := up_ HB.out hx393_0
             replace hx393_1 := up_ HB.out hx393_1
             replace hx393_2 := up_ HB.out hx393_2
             have HR393_2 := Aside0.mk hi393_2; have HC393_2 := Aside0.mk hl393_2; clear hi393_2 hl393_2
             replace hx393_0 := (cell_far (p := ⟨gb392, 0, none⟩) (by first | (rw [add_block]; exact hn393_0) | (show (Addr.add _ _).block ≠ _; rw [add_block]; exact hn393_0) | exact hn393_0) (.string ((rd_T102 l0 x7_1).f0))).trans hx393_0
             replace hx393_1 := (cell_far (p := ⟨gb392, 0, none⟩) (by first | (rw [add_block]; exact hn393_0) | (show (Addr.add _ _).block ≠ _; rw [add_block]; exact hn393_0) | exact hn393_0) (.string ((rd_T102 l0 x7_1).f0))).trans hx393_1
             replace hx393_2 := (cell_far (p := ⟨gb392, 0, none⟩) (by first | (rw [add_block]; exact hn393_0) | (show (Addr.add _ _).block ≠ _; rw [add_block]; exact hn393_0) | exact hn393_0) (.string ((rd_T102 l0 x7_1).f0))).trans hx393_2
             replace hx393_0 := (cell_far (p := ⟨gb392, 1, none⟩) (by first | (rw [add_block]; exact hn393_1) | (show (Addr.add _ _).block ≠ _; rw [add_block]; exact hn393_1) | exact hn393_1) (.bool ((rd_T102 l0 x7_1).f1))).trans hx393_0
             replace hx393_1 := (cell_far (p := ⟨gb392, 1, none⟩) (by first | (rw [add_block]; exact hn393_1) | (show (Addr.add _ _).block ≠ _; rw [add_block]; exact hn393_1) | exact hn393_1) (.bool ((rd_T102 l0 x7_1).f1))).trans hx393_1
             replace hx393_2 := (cell_far (p := ⟨gb392, 1, none⟩) (by first | (rw [add_block]; exact hn393_1) | (show (Addr.add _ _).block ≠ _; rw [add_block]; exact hn393_1) | exact hn393_1) (.bool ((rd_T102 l0 x7_1).f1))).trans hx393_2
             replace hx393_0 := (cell_far (p := ⟨gb392, 2, none⟩) (by first | (rw [add_block]; exact hn393_2) | (show (Addr.add _ _).block ≠ _; rw [add_block]; exact hn393_2) | exact hn393_2) (.slice A391_2 ((rd_T102 l0 x7_1).f2).length c391_2)).trans hx393_0
             replace hx393_1 := (cell_far (p := ⟨gb392, 2, none⟩) (by first | (rw [add_block]; exact hn393_2) | (show (Addr.add _ _).block ≠ _; rw [add_block]; exact hn393_2) | exact hn393_2) (.slice A391_2 ((rd_T102 l0 x7_1).f2).length c391_2)).trans hx393_1
             replace hx393_2 := (cell_far (p := ⟨gb392, 2, none⟩) (by first | (rw [add_block]; exact hn393_2) | (show (Addr.add _ _).block ≠ _; rw [add_block]; exact hn393_2) | exact hn393_2) (.slice A391_2 ((rd_T102 l0 x7_1).f2).length c391_2)).trans hx393_2
             (try have hy393_0 := fun (n_ : Nat) => (show (((((w15.drewN n_).setCell ⟨gb392, 0, none⟩ (.string ((rd_T102 l0 x7_1).f0))).setCell ⟨gb392, 1, none⟩ (.bool ((rd_T102 l0 x7_1).f1))).setCell ⟨gb392, 2, none⟩ (.slice A391_2 ((rd_T102 l0 x7_1).f2).length c391_2))).cell? _ = some _ from hx393_0))
             (try have hy393_1 := fun (n_ : Nat) => (show (((((w15.drewN n_).setCell ⟨gb392, 0, none⟩ (.string ((rd_T102 l0 x7_1).f0))).setCell ⟨gb392, 1, none⟩ (.bool ((rd_T102 l0 x7_1).f1))).setCell ⟨gb392, 2, none⟩ (.slice A391_2 ((rd_T102 l0 x7_1).f2).length c391_2))).cell? _ = some _ from hx393_1))
             (try have hy393_2 := fun (n_ : Nat) => (show (((((w15.drewN n_).setCell ⟨gb392, 0, none⟩ (.string ((rd_T102 l0 x7_1).f0))).setCell ⟨gb392, 1, none⟩ (.bool ((rd_T102 l0 x7_1).f1))).setCell ⟨gb392, 2, none⟩ (.slice A391_2 ((rd_T102 l0 x7_1).f2).length c391_2))).cell? _ = some _ from hx393_2))
             clear hn393_0; clear hn393_1; clear hn393_2; replace p393 := eq_true p393; replace q393 := eq_true q393
             go_wp2
             repeat (go_quiet (fail); try go_wp2)
             go_meet
             case rel => exact ⟨_, (!(Op.bytesLess (((rd_T102 l0 (ji18)).f0).toList) (((rd_T102 l0 x7_1).f0).toList))), (by first | rfl | (simp; done) | (simp only [← hji18] <;> (first | rfl | simp)) | (simp [*]; done)), H', ⟨by have := HK1.out; first | omega | exact Nat.le_refl _⟩, ⟨by (with_reducible repeat (first | refine blk_drewN ?_ _ | refine blk_drew ?_ | refine blk_alloc ?_ _)); refine blk_put (cs := #[.string ((rd_T102 l0 x7_1).f0), .bool ((rd_T102 l0 x7_1).f1), .slice none 0 0]) ?_ 2 _ rfl; refine blk_put (cs := #[.string ((rd_T102 l0 x7_1).f0), .bool false, .slice none 0 0]) ?_ 1 _ rfl; refine blk_put (cs := #[.string (⟨#[]⟩ : ByteArray), .bool false, .slice none 0 0]) ?_ 0 _ rfl; exact BK392.out⟩, ⟨bl_⟩⟩
            ·rw [if_neg c20] at H
             exact absurd H (by simp)
           ·rw [if_neg c19] at H
            exact absurd H (by simp)
          ·rw [if_neg c17] at H
           have c17b0 : decide (0 < x7_1) = false := decide_eq_false c17
           clear c17
           (first | rw [c17b0] | (simp only [i64_w, i32_w]; rw [c17b0]) | skip)
           have H' := Aside0.mk H; clear H
           go_wp2
           repeat (go_quiet (fail); try go_wp2)
           go_meet
           case rel => exact ⟨_, (false), (by first | rfl | (simp; done) | (simp [*]; done)), H', ⟨by have := HK1.out; first | omega | exact Nat.le_refl _⟩, ⟨by (with_reducible repeat (first | refine blk_drewN ?_ _ | refine blk_drew ?_ | refine blk_alloc ?_ _)); refine blk_put (cs := #[.string ((rd_T102 l0 x7_1).f0), .bool ((rd_T102 l0 x7_1).f1), .slice none 0 0]) ?_ 2 _ rfl; refine blk_put (cs := #[.string ((rd_T102 l0 x7_1).f0), .bool false, .slice none 0 0]) ?_ 1 _ rfl; refine blk_put (cs := #[.string (⟨#[]⟩ : ByteArray), .bool false, .slice none 0 0]) ?_ 0 _ rfl; exact BK392.out⟩, ⟨bl_⟩⟩
         case rest =>
          clear HC14
          try clear c1
          try clear c2
          try clear c2b0
          try clear p2
          try clear c3
          try clear c3b0
          try clear p3
          try clear q3
          try clear hx3
          try clear c4
          try clear c4b0
          try clear c5
          try clear c5b0
          try clear c5b1
          try clear p6
          try clear c8
          try clear c8b0
          try clear c8b1
          try clear c11
          try clear c11b0
          try clear c11b1
          try clear c17
          try clear c17b0
          try clear c19
          try clear c19b0
          try clear c20
          try clear c20b0
          try clear hcz10_0
          try clear hcz10_1
          try clear hcz10_2
          try clear hcz13_0
          try clear hcz13_1
          try clear hcz13_2
          try clear hcz16_0
          try clear hcz16_1
          try clear hcz16_2
          try clear hcz21_0
          try clear hcz21_1
          try clear hcz21_2
          try clear hcz7_0
          try clear hcz7_1
          try clear hcz7_2
          try clear hfz10_0
          try clear hfz10_1
          try clear hfz10_2
          try clear hfz13_0
          try clear hfz13_1
          try clear hfz13_2
          try clear hfz16_0
          try clear hfz16_1
          try clear hfz16_2
          try clear hfz21_0
          try clear hfz21_1
          try clear hfz21_2
          try clear hfz7_0
          try clear hfz7_1
          try clear hfz7_2
          try clear hx391_0
          try clear hx391_1
          try clear hx391_2
          try clear hx393_0
          try clear hx393_1
          try clear hx393_2
          try clear p391
          try clear p393
          try clear q391
          try clear q393
          obtain ⟨kq, x22_13, rfl, HA, HJ13, BK392, HB⟩ := hcut
          cases kq with
          | zero => exact absurd HA.out (by simp [store_Check.j1])
          | succ kj13 =>
           have H := HA.out
           clear HA
           simp only [store_Check.j1] at H
           by_cases c22 : x22_13 = true
           ·subst c22
            have H1 : (some 1) = some r := by rw [if_pos rfl] at H; exact H
            clear H; have H := H1; clear H1; obtain rfl := Option.some.inj H
            go_wp2
            repeat (go_quiet (fail); try go_wp2)
            go_ret
            exact ⟨by first | rfl | (simp [errW_none, errW_some] <;> rfl) | (simp [*, errW_none, errW_some] <;> rfl), bl_⟩
           ·replace c22 := Bool.eq_false_iff.mpr c22
            subst c22
            have H1 : (if ((rd_T102 l0 x7_1).f1) = true then (if (((rd_T102 l0 x7_1).f2).length : Int) > 0 then (some 1) else (store_Check.l0 kj13 l0 l0 (l0.length : Int) (wrap64 (x7_1 + 1)))) else (store_Check.l0 kj13 l0 l0 (l0.length : Int) (wrap64 (x7_1 + 1)))) = some r := by rw [if_neg (show ¬ (false = true) by decide)] at H; exact H
            clear H; have H := H1; clear H1
            by_cases c23 : ((rd_T102 l0 x7_1).f1) = true
            ·rw [if_pos c23] at H
             have c23b0 : ((rd_T102 l0 x7_1).f1) = true := c23
             clear c23
             by_cases c24 : (((rd_T102 l0 x7_1).f2).length : Int) > 0
             ·rw [if_pos c24] at H
              have c24b0 : decide (0 < (((rd_T102 l0 x7_1).f2).length : Int)) = true := decide_eq_true c24
              have c24b1 : decide (0 < ((rd_T102 l0 x7_1).f2).length) = true := decide_eq_true (by omega)
              clear c24; obtain rfl := Option.some.inj H; obtain ⟨hcz25_0, hcz25_1, hcz25_2, hfz25_0, hfz25_1, hfz25_2⟩ := blk3_ BK392.out
              go_wp2
              repeat (go_quiet (fail); try go_wp2)
              go_ret
              exact ⟨by first | rfl | (simp [errW_none, errW_some] <;> rfl) | (simp [*, errW_none, errW_some] <;> rfl), bl_⟩
             ·rw [if_neg c24] at H
              have c24b0 : decide (0 < (((rd_T102 l0 x7_1).f2).length : Int)) = false := decide_eq_false c24
              have c24b1 : decide (0 < ((rd_T102 l0 x7_1).f2).length) = false := decide_eq_false (by omega)
              clear c24; have H' := Aside0.mk H; clear H; obtain ⟨hcz26_0, hcz26_1, hcz26_2, hfz26_0, hfz26_1, hfz26_2⟩ := blk3_ BK392.out
              go_wp2
              repeat (go_quiet (fail); try go_wp2)
              go_roundg kj13
              case measure => have := HK1.out; have := HJ13.out; omega
              case rel => exact ⟨(wrap64 (x7_1 + 1)), (by first | rfl | (simp; done) | (simp [*]; done)), H', ⟨by have := HK1.out; have := HJ13.out; omega⟩, ⟨bl_⟩⟩
            ·rw [if_neg c23] at H
             have c23b0 : ((rd_T102 l0 x7_1).f1) = false := by simpa using c23
             clear c23; have H' := Aside0.mk H; clear H; obtain ⟨hcz27_0, hcz27_1, hcz27_2, hfz27_0, hfz27_1, hfz27_2⟩ := blk3_ BK392.out
             go_wp2
             repeat (go_quiet (fail); try go_wp2)
             go_roundg kj13
             case measure => have := HK1.out; have := HJ13.out; omega
             case rel => exact ⟨(wrap64 (x7_1 + 1)), (by first | rfl | (simp; done) | (simp [*]; done)), H', ⟨by have := HK1.out; have := HJ13.out; omega⟩, ⟨bl_⟩⟩
     ·rw [if_neg c4] at H
      exact absurd H (by simp)
    ·rw [if_neg c3] at H
     exact absurd H (by simp)
   ·rw [if_neg c2] at H
    have c2b0 : decide (x7_1 < (l0.length : Int)) = false := decide_eq_false c2
    clear c2; obtain rfl := Option.some.inj H
    go_wp2
    repeat (go_quiet (fail); try go_wp2)
    go_ret
    exact ⟨by first | rfl | (simp [errW_none, errW_some] <;> rfl) | (simp [*, errW_none, errW_some] <;> rfl), bl_⟩
end Go.Proofs.Yteofdgonpbmdlaa.C
namespace Go.Proofs.Yteofdgonpbmdlaa.St
open Go.RowKit Go.Proofs.YteofdgonpbmdlaaW.PrintWords Go.Proofs.Yteofdgonpbmdlaa.C Go.Proofs.Yteofdgonpbmdlaa.Pure
theorem bl (a b : ByteArray) : Op.bytesLess a.toList b.toList = decide (a.toList < b.toList) := Proofs.bytesLess_eq _ _
theorem ltt {a b c : List UInt8} (h : a < b) (k : b < c) : a < c := List.lt_trans h k
theorem lti (a : List UInt8) : ¬ a < a := List.lt_irrefl a
theorem lt_tri (a b : List UInt8) : a < b ∨ a = b ∨ b < a := by
  by_cases h1 : a < b
  · exact .inl h1
  · by_cases h : b < a
    · exact .inr (.inr h)
    · exact .inr (.inl (List.le_antisymm (List.not_lt.1 h) (List.not_lt.1 h1)))
theorem key_inj {a b : ByteArray} (h : a.toList = b.toList) : a = b := by
  rw [Lib.toList_data, Lib.toList_data] at h
  cases a; cases b
  congr 1
  exact Array.toList_inj.1 h
def Sorted (l : List ByteArray) : Prop := l.Pairwise (fun a b => a.toList < b.toList)
theorem Sorted.nodup {l : List ByteArray} (h : Sorted l) : l.Nodup := by
  refine List.Pairwise.imp ?_ h
  intro a b hab e
  subst e
  exact lti _ hab
theorem Sorted.get {l : List ByteArray} (h : Sorted l) {i j : Nat} (hij : i < j) (hj : j < l.length) : (l[i]).toList < (l[j]).toList := List.pairwise_iff_getElem.1 h i j (by omega) hj hij
theorem ks_get (l : List ByteArray) (i : Nat) (hi : i < l.length) : ks l (i : Nat) = l[i] := by simp [ks, rdOf, List.getD, List.getElem?_eq_getElem hi]
theorem srch_spec (l : List ByteArray) (hs : Sorted l) (x : ByteArray) : ∀ k i j : Nat, i ≤ j → j ≤ l.length → j - i ≤ k → (∀ q (h : q < l.length), q < i → (l[q]).toList < x.toList) → (∀ q (h : q < l.length), j ≤ q → ¬ (l[q]).toList < x.toList) →
    ∀ q (h : q < l.length), q < srch l x k i j ↔ (l[q]).toList < x.toList
  | 0, i, j, hij, hj, hk, h1, h2, q, h => by
    simp only [srch]
    constructor
    · intro hq; exact h1 q h hq
    · intro hq
      rcases Nat.lt_or_ge q i with hh | hh
      · exact hh
      · exact absurd hq (h2 q h (by omega))
  | k + 1, i, j, hij, hj, hk, h1, h2, q, h => by
    simp only [srch]
    by_cases hlt : i < j
    · rw [if_pos hlt]
      have hm : (i + j) / 2 < l.length := by omega
      rw [ks_get l _ hm]
      simp only [bl, decide_eq_true_eq]
      by_cases hb : (l[(i + j) / 2]).toList < x.toList
      · rw [if_pos hb]
        refine srch_spec l hs x k _ j (by omega) hj (by omega) (fun q hq hlt2 => ?_) h2 q h
        rcases Nat.lt_or_ge q ((i + j) / 2) with h3 | h3
        · exact ltt (hs.get h3 hm) hb
        · have : q = (i + j) / 2 := by omega
          subst this; exact hb
      · rw [if_neg hb]
        refine srch_spec l hs x k i _ (by omega) (by omega) (by omega) h1 (fun q hq hge hc => ?_) q h
        rcases Nat.lt_or_ge ((i + j) / 2) q with h3 | h3
        · exact hb (ltt (hs.get h3 hq) hc)
        · have : q = (i + j) / 2 := by omega
          subst this; exact hb hc
    · rw [if_neg hlt]
      constructor
      · intro hq; exact h1 q h hq
      · intro hq
        rcases Nat.lt_or_ge q i with hh | hh
        · exact hh
        · exact absurd hq (h2 q h (by omega))
theorem srchF_spec {l : List ByteArray} (hs : Sorted l) (x : ByteArray) (q : Nat) (h : q < l.length) : q < srchF l x ↔ (l[q]).toList < x.toList :=
  srch_spec l hs x l.length 0 l.length (by omega) (by omega) (by omega) (fun q _ hq => by omega) (fun q h hq => by omega) q h
theorem take_srch {l : List ByteArray} (hs : Sorted l) (x : ByteArray) : ∀ k ∈ l.take (srchF l x), k.toList < x.toList := by
  intro k hk
  obtain ⟨i, hi, rfl⟩ := List.getElem_of_mem hk
  rw [List.length_take] at hi
  rw [List.getElem_take]
  exact (srchF_spec hs x i (by omega)).1 (by omega)
theorem drop_srch {l : List ByteArray} (hs : Sorted l) (x : ByteArray) : ∀ k ∈ l.drop (srchF l x), ¬ k.toList < x.toList := by
  intro k hk hc
  obtain ⟨i, hi, rfl⟩ := List.getElem_of_mem hk
  rw [List.getElem_drop] at hc
  rw [List.length_drop] at hi
  have := (srchF_spec hs x (srchF l x + i) (by omega)).2 hc
  omega
theorem insL_mem (l : List ByteArray) (i : Nat) (x q : ByteArray) : q ∈ insL l i x ↔ q = x ∨ q ∈ l := by
  unfold insL
  rw [List.mem_append, List.mem_cons]
  constructor
  · rintro (h | h | h)
    · exact .inr (List.mem_of_mem_take h)
    · exact .inl h
    · exact .inr (List.mem_of_mem_drop h)
  · rintro (h | h)
    · exact .inr (.inl h)
    · rw [← List.take_append_drop i l, List.mem_append] at h
      exact h.elim .inl (fun h => .inr (.inr h))
theorem insL_sorted {l : List ByteArray} (hs : Sorted l) (x : ByteArray) (hx : x ∉ l) : Sorted (insL l (srchF l x) x) := by
  unfold insL Sorted
  refine List.pairwise_append.2 ⟨hs.sublist (List.take_sublist _ _), List.pairwise_cons.2 ⟨fun y hy => ?_, hs.sublist (List.drop_sublist _ _)⟩, fun a ha b hb => ?_⟩
  · rcases lt_tri x.toList y.toList with h | h | h
    · exact h
    · exact absurd (List.mem_of_mem_drop hy) (by rw [← key_inj h]; exact hx)
    · exact absurd h (drop_srch hs x y hy)
  · have h1 := take_srch hs x a ha
    rcases List.mem_cons.1 hb with rfl | hb
    · exact h1
    · rw [← List.take_append_drop (srchF l x) l] at hs
      exact (List.pairwise_append.1 hs).2.2 a ha b hb
def chkL : Option ByteArray → List S102 → Int
  | _, [] => 0
  | p, x :: t => if x.f0.size > 256 then 3 else if x.f2.length > 4096 then 3 else if x.f0.toList = [] then 1 else if (match p with | none => false | some q => !(Op.bytesLess q.toList x.f0.toList)) = true then 1 else if x.f1 = true ∧ x.f2.length > 0 then 1 else chkL (some x.f0) t
theorem rd102 (l : List S102) (i : Nat) (h : i < l.length) : rd_T102 l (i : Int) = l[i] := by
  simp [rd_T102, List.getD_eq_getElem?_getD, h]
theorem chk_loop (l : List S102) (hl : l.length ≤ 1000) : ∀ (d i k : Nat), i + d = l.length → 2 * d < k → store_Check.l0 k l l l.length i = some (chkL (if i = 0 then none else some (l.getD (i - 1) z102).f0) (l.drop i)) := by
  intro d
  induction d with
  | zero =>
    intro i k hd hk
    obtain ⟨k, rfl⟩ : ∃ m, k = m + 1 := ⟨k - 1, by omega⟩
    simp only [store_Check.l0]
    rw [if_neg (by omega), List.drop_eq_nil_of_le (by omega)]; rfl
  | succ d ih =>
    intro i k hd hk
    obtain ⟨k, rfl⟩ : ∃ m, k = m + 2 := ⟨k - 2, by omega⟩
    have hi : i < l.length := by omega
    have hw : wrap64 ((i : Int) + 1) = ((i + 1 : Nat) : Int) := by unfold wrap64; omega
    have hih := ih (i + 1) k (by omega) (by omega)
    rw [if_neg (by omega), Nat.add_sub_cancel, show l.getD i z102 = l[i] by simp [List.getD, List.getElem?_eq_getElem hi]] at hih
    simp only [store_Check.l0, store_Check.j1]
    rw [if_pos (by omega), if_pos (by omega), if_pos (by omega), rd102 l i hi, List.drop_eq_getElem_cons hi, hw, hih]
    simp only [chkL]
    by_cases h1 : ((l[i]).f0.size : Int) > 256
    · rw [if_pos h1, if_pos (show (l[i]).f0.size > 256 by omega)]
    rw [if_neg h1, if_neg (show ¬ (l[i]).f0.size > 256 by omega)]
    by_cases h2 : ((l[i]).f2.length : Int) > 4096
    · rw [if_pos h2, if_pos (show (l[i]).f2.length > 4096 by omega)]
    rw [if_neg h2, if_neg (show ¬ (l[i]).f2.length > 4096 by omega)]
    by_cases h3 : (l[i]).f0.toList = []
    · rw [if_pos h3, if_pos h3]
    rw [if_neg h3, if_neg h3]
    by_cases h4 : i = 0
    · subst h4
      rw [if_neg (by omega), if_pos rfl]
      simp only [Bool.false_eq_true, if_false]
      by_cases h5 : (l[0]).f1 = true <;> by_cases h6 : ((l[0]).f2.length : Int) > 0
      · rw [if_pos h5, if_pos h6, if_pos ⟨h5, by omega⟩]
      · rw [if_pos h5, if_neg h6, if_neg (by omega)]
      · rw [if_neg h5, if_neg (fun h => h5 h.1)]
      · rw [if_neg h5, if_neg (fun h => h5 h.1)]
    · have hw2 : wrap64 ((i : Int) - 1) = ((i - 1 : Nat) : Int) := by unfold wrap64; omega
      rw [if_pos (by omega), hw2, if_pos (by omega), if_pos (by omega), rd102 l (i - 1) (by omega), if_neg h4, show l.getD (i - 1) z102 = l[i - 1] by simp [List.getD, List.getElem?_eq_getElem (show i - 1 < l.length by omega)]]
      simp only []
      by_cases h7 : (!(Op.bytesLess (l[i - 1]).f0.toList (l[i]).f0.toList)) = true
      · rw [if_pos h7, if_pos h7]
      rw [if_neg h7, if_neg h7]
      by_cases h5 : (l[i]).f1 = true <;> by_cases h6 : ((l[i]).f2.length : Int) > 0
      · rw [if_pos h5, if_pos h6, if_pos ⟨h5, by omega⟩]
      · rw [if_pos h5, if_neg h6, if_neg (by omega)]
      · rw [if_neg h5, if_neg (fun h => h5 h.1)]
      · rw [if_neg h5, if_neg (fun h => h5 h.1)]
theorem chk_ev (l : List S102) (hl : l.length ≤ 1000) : ∃ k, store_Check.f k l = some (chkL none l) := ⟨2 * l.length + 1, chk_loop l hl l.length 0 _ (by omega) (by omega)⟩
/-- Writes of which nothing is wrong. -/
structure WOk (l : List S102) : Prop where
  so : Sorted (l.map (·.f0))
  ks : ∀ x ∈ l, x.f0.size ≤ 256
  ne : ∀ x ∈ l, x.f0.toList ≠ []
  dl : ∀ x ∈ l, x.f2.length ≤ 4096
  go : ∀ x ∈ l, x.f1 = true → x.f2 = []
theorem chk_ok : ∀ (l : List S102) (p : Option ByteArray), chkL p l = 0 → WOk l ∧ ∀ q, p = some q → ∀ x ∈ l, q.toList < x.f0.toList
  | [], _, _ => ⟨⟨List.Pairwise.nil, by simp, by simp, by simp, by simp⟩, by simp⟩
  | x :: t, p, h => by
    simp only [chkL] at h
    by_cases h1 : x.f0.size > 256
    · rw [if_pos h1] at h; cases h
    rw [if_neg h1] at h
    by_cases h2 : x.f2.length > 4096
    · rw [if_pos h2] at h; cases h
    rw [if_neg h2] at h
    by_cases h3 : x.f0.toList = []
    · rw [if_pos h3] at h; cases h
    rw [if_neg h3] at h
    obtain ⟨bp, hbp⟩ : ∃ bp, (match p with | none => false | some q => !(Op.bytesLess q.toList x.f0.toList)) = bp := ⟨_, rfl⟩
    rw [hbp] at h
    cases bp with
    | true => rw [if_pos rfl] at h; cases h
    | false =>
    rw [if_neg (by decide)] at h
    by_cases h5 : x.f1 = true ∧ x.f2.length > 0
    · rw [if_pos h5] at h; cases h
    rw [if_neg h5] at h
    obtain ⟨ih, ih2⟩ := chk_ok t _ h
    have ih3 := ih2 _ rfl
    have hp : ∀ q, p = some q → q.toList < x.f0.toList := by
      rintro q rfl
      simp only [bl] at hbp
      simpa using hbp
    refine ⟨⟨?_, ?_, ?_, ?_, ?_⟩, fun q hq y hy => ?_⟩
    · refine List.pairwise_cons.2 ⟨fun k hk => ?_, ih.so⟩
      obtain ⟨y, hy, rfl⟩ := List.mem_map.1 hk
      exact ih3 y hy
    · exact List.forall_mem_cons.2 ⟨by omega, ih.ks⟩
    · exact List.forall_mem_cons.2 ⟨h3, ih.ne⟩
    · exact List.forall_mem_cons.2 ⟨by omega, ih.dl⟩
    · exact List.forall_mem_cons.2 ⟨fun hg => by
        have : ¬ x.f2.length > 0 := fun hl => h5 ⟨hg, hl⟩
        exact List.eq_nil_of_length_eq_zero (by omega), ih.go⟩
    · rcases List.mem_cons.1 hy with rfl | hy
      · exact hp q hq
      · exact ltt (hp q hq) (ih3 y hy)
theorem chk_wok {l : List S102} (h : chkL none l = 0) : WOk l := (chk_ok l none h).1
end Go.Proofs.Yteofdgonpbmdlaa.St
