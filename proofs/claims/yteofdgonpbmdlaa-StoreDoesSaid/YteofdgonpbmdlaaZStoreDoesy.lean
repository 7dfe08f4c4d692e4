/- Texts of this session, merged for the law StoreDoes: PE, PG, TE, PH, PureChainTrims, PureChainRights, C38, C42, TD, C30, C35, TU, TV, UB, UJ. No condition. -/
import Derived.Test.YteofdgonpbmdlaaZStoreDoesx
import Derived.Test.YteofdgonpbmdlaaZStoreDoesw
import Derived.Test.YteofdgonpbmdlaaZStoreDoesq
import Derived.Test.YteofdgonpbmdlaaZStoreDoesr
import Derived.Carry
import Derived.Test.YteofdgonpbmdlaaZStoreDoesp
import Derived.Test.YteofdgonpbmdlaaZStoreDoess
import Derived.Test.YteofdgonpbmdlaaZStoreDoesd
import Derived.Lib.SlBytesConst
import Derived.Laws.IdiomStrings
set_option linter.unusedVariables false
set_option linter.unusedSimpArgs false
namespace Go.Proofs.Yteofdgonpbmdlaa.St
open Go.RowKit Go.Proofs.YteofdgonpbmdlaaW.PrintWords Go.Proofs.Yteofdgonpbmdlaa.C Go.Proofs.Yteofdgonpbmdlaa.Pure
theorem getF_nil (a : Int) : getF [] a = ([], false) := by
  unfold getF
  rw [getV_neg (by simp; omega)]
def runP : SS → List S55 → SS
  | s, [] => s
  | s, o :: t => runP (opP s o).2 t
theorem runP_snoc (o : S55) : ∀ (l : List S55) (s : SS), runP s (l ++ [o]) = (opP (runP s l) o).2
  | [], _ => rfl
  | x :: t, s => runP_snoc o t _
theorem runP_step (s : SS) (l : List S55) (i : Nat) (hi : i < l.length) : runP s (l.take (i + 1)) = (opP (runP s (l.take i)) l[i]).2 := by
  rw [List.take_succ_eq_append_getElem hi, runP_snoc]
theorem Good.run : ∀ (l : List S55) {m : Nat} {s : SS}, Good m s → (∀ o ∈ l, FewOp o) → Good (m + l.length) (runP s l)
  | [], _, _, h, _ => h
  | o :: t, m, s, h, hf => by
    have := Good.run t (h.op (hf o (List.mem_cons_self ..))) (fun x hx => hf x (List.mem_cons_of_mem _ hx))
    exact this.mono (by simp; omega)
theorem Good.runTake {m : Nat} {s : SS} (h : Good m s) (l : List S55) (hf : ∀ o ∈ l, FewOp o) (i : Nat) : Good (m + i) (runP s (l.take i)) :=
  (Good.run _ h (fun o ho => hf o (List.mem_of_mem_take ho))).mono (by rw [List.length_take]; omega)
theorem sorted_ext : ∀ {a b : List ByteArray}, Sorted a → Sorted b → (∀ q, q ∈ a ↔ q ∈ b) → a = b
  | [], [], _, _, _ => rfl
  | [], y :: t, _, _, h => absurd ((h y).2 (List.mem_cons_self ..)) (by simp)
  | x :: t, [], _, _, h => absurd ((h x).1 (List.mem_cons_self ..)) (by simp)
  | x :: t, y :: u, ha, hb, h => by
    have ha' := List.pairwise_cons.1 ha
    have hb' := List.pairwise_cons.1 hb
    have e : x = y := by
      rcases List.mem_cons.1 ((h x).1 (List.mem_cons_self ..)) with e | hx
      · exact e
      · rcases List.mem_cons.1 ((h y).2 (List.mem_cons_self ..)) with e | hy
        · exact e.symm
        · exact absurd (ltt (ha'.1 y hy) (hb'.1 x hx)) (lti _)
    subst e
    congr 1
    refine sorted_ext ha'.2 hb'.2 (fun q => ?_)
    constructor
    · intro hq
      rcases List.mem_cons.1 ((h q).1 (List.mem_cons_of_mem _ hq)) with e | hq2
      · subst e; exact absurd (ha'.1 _ hq) (lti _)
      · exact hq2
    · intro hq
      rcases List.mem_cons.1 ((h q).2 (List.mem_cons_of_mem _ hq)) with e | hq2
      · subst e; exact absurd (hb'.1 _ hq) (lti _)
      · exact hq2
/-- Does a key lie in a stretch that ends at hi? -/
def under (hi k : ByteArray) : Bool := decide (hi.toList = []) || decide (k.toList < hi.toList)
theorem ends_under (hi k : ByteArray) : ends hi k = !under hi k := by
  unfold ends under
  rw [bl]
  by_cases h1 : hi.toList = [] <;> by_cases h2 : k.toList < hi.toList <;> simp [h1, h2]
theorem scanL_eq (gf : ByteArray → List Int × Bool) (hi : ByteArray) : ∀ ks : List ByteArray, Sorted ks → scanL gf hi ks = (ks.filter (fun k => under hi k && (gf k).2)).map (fun k => ⟨k, (gf k).1⟩)
  | [], _ => rfl
  | k :: t, hs => by
    have hs' := List.pairwise_cons.1 hs
    simp only [scanL, ends_under]
    rw [List.filter_cons]
    by_cases hu : under hi k = true
    · rw [if_neg (by simp [hu]), scanL_eq gf hi t hs'.2]
      by_cases hg : (gf k).2 = true
      · rw [if_pos hg, if_pos (by simp [hu, hg])]; rfl
      · rw [if_neg hg, if_neg (by simp [hu, hg])]
    · have hu' : under hi k = false := by simpa using hu
      rw [if_pos (by simp [hu']), if_neg (by simp [hu'])]
      have : ∀ y ∈ t, under hi y = false := fun y hy => by
        have hky := hs'.1 y hy
        unfold under at hu' ⊢
        simp only [Bool.or_eq_false_iff, decide_eq_false_iff_not] at hu' ⊢
        exact ⟨hu'.1, fun h => hu'.2 (ltt hky h)⟩
      rw [List.filter_eq_nil_iff.2 (fun y hy => by simp [this y hy])]
      rfl
theorem drop_filter {ks : List ByteArray} (hs : Sorted ks) (lo : ByteArray) : ks.drop (srchF ks lo) = ks.filter (fun k => !decide (k.toList < lo.toList)) := by
  conv => rhs; rw [← List.take_append_drop (srchF ks lo) ks]
  rw [List.filter_append, List.filter_eq_nil_iff.2 (fun k hk => by simpa using take_srch hs lo k hk), List.nil_append]
  exact (List.filter_eq_self.2 (fun k hk => by simpa using drop_srch hs lo k hk)).symm
/-- The keys that a scan has. -/
def scanK (s : SS) (lo hi : ByteArray) (a : Int) : List ByteArray := s.keys.filter (fun k => (!decide (k.toList < lo.toList)) && (under hi k && (getF (s.ch k) a).2))
theorem scanP_eq {s : SS} (hs : Sorted s.keys) (lo hi : ByteArray) (a : Int) : scanP s lo hi a = (scanK s lo hi a).map (fun k => ⟨k, (getF (s.ch k) a).1⟩) := by
  unfold scanP scanK
  have hd := drop_filter hs lo
  have hs2 : Sorted (s.keys.drop (srchF s.keys lo)) := hs.sublist (List.drop_sublist _ _)
  rw [scanL_eq _ hi _ hs2, hd, List.filter_filter]
  congr 1
  refine List.filter_congr (fun k _ => ?_)
  rw [Bool.and_comm]
theorem scanK_mem {m : Nat} {s : SS} (h : Good m s) (lo hi : ByteArray) (a : Int) (k : ByteArray) : k ∈ scanK s lo hi a ↔ ¬ k.toList < lo.toList ∧ under hi k = true ∧ (getF (s.ch k) a).2 = true := by
  unfold scanK
  rw [List.mem_filter]
  simp only [Bool.and_eq_true, Bool.not_eq_true', decide_eq_false_iff_not]
  constructor
  · rintro ⟨_, h1, h2, h3⟩; exact ⟨h1, h2, h3⟩
  · rintro ⟨h1, h2, h3⟩
    refine ⟨?_, h1, h2, h3⟩
    rw [h.me]
    intro e
    rw [e, getF_nil] at h3
    cases h3
theorem scanK_sorted {m : Nat} {s : SS} (h : Good m s) (lo hi : ByteArray) (a : Int) : Sorted (scanK s lo hi a) := h.so.sublist List.filter_sublist
theorem scan_eq {m m' : Nat} {s s' : SS} (h : Good m s) (h' : Good m' s') (lo hi : ByteArray) (a : Int) (he : ∀ key, getF (s.ch key) a = getF (s'.ch key) a) : scanP s lo hi a = scanP s' lo hi a := by
  have hk : scanK s lo hi a = scanK s' lo hi a := sorted_ext (scanK_sorted h lo hi a) (scanK_sorted h' lo hi a) (fun q => by rw [scanK_mem h, scanK_mem h', he q])
  rw [scanP_eq h.so, scanP_eq h'.so, hk]
  exact List.map_congr_left (fun k _ => by rw [he k])
theorem scan_len {m : Nat} {s : SS} (h : Good m s) (lo hi : ByteArray) (a : Int) : (scanP s lo hi a).length ≤ 20 * m := by
  rw [scanP_eq h.so, List.length_map]
  exact Nat.le_trans (List.length_filter_le _ _) h.kn
theorem same_loop (l : List S62) (hl : l.length ≤ 9223372036854775807) : ∀ (d i k : Nat), i + d = l.length → d < k → conductorref08_SamePairs.l0 k l l l.length i = some true := by
  intro d
  induction d with
  | zero =>
    intro i k hd hk
    obtain ⟨k, rfl⟩ : ∃ m, k = m + 1 := ⟨k - 1, by omega⟩
    simp only [conductorref08_SamePairs.l0]
    rw [if_neg (by omega)]
  | succ d ih =>
    intro i k hd hk
    obtain ⟨k, rfl⟩ : ∃ m, k = m + 1 := ⟨k - 1, by omega⟩
    have hi : i < l.length := by omega
    simp only [conductorref08_SamePairs.l0]
    rw [if_pos (by omega), if_pos (by omega), if_pos (by omega), if_pos (by omega), w1 hi hl]
    simp only [if_true]
    exact ih (i + 1) k (by omega) (by omega)
theorem same_refl (l : List S62) (hl : l.length ≤ 9223372036854775807) : ∃ k, conductorref08_SamePairs.f k l l = some true :=
  ⟨l.length + 1, by unfold conductorref08_SamePairs.f; rw [if_pos rfl]; exact same_loop l hl l.length 0 _ (by omega) (by omega)⟩
theorem equal_refl (l : List Int) : conductorref01_Equal.f l l = some true := eq_refl l
end Go.Proofs.Yteofdgonpbmdlaa.St
namespace Go.Proofs.Yteofdgonpbmdlaa.St
open Go.RowKit Go.Maps Go.Proofs.YteofdgonpbmdlaaW.PrintWords Go.Proofs.Yteofdgonpbmdlaa.C Go.Proofs.Yteofdgonpbmdlaa.Pure
def sumK {α : Type} (f : α → Nat) (l : List α) : Nat := (l.map f).sum
theorem sumK_nil {α : Type} (f : α → Nat) : sumK f [] = 0 := rfl
theorem sumK_cons {α : Type} (f : α → Nat) (x : α) (l : List α) : sumK f (x :: l) = f x + sumK f l := by simp [sumK]
theorem sumK_app {α : Type} (f : α → Nat) (a b : List α) : sumK f (a ++ b) = sumK f a + sumK f b := by simp [sumK]
theorem sumK_congr {α : Type} {f g : α → Nat} {l : List α} (h : ∀ x ∈ l, f x = g x) : sumK f l = sumK g l := by
  unfold sumK
  rw [List.map_congr_left h]
theorem sumK_le {α : Type} {f g : α → Nat} : ∀ {l : List α}, (∀ x ∈ l, f x ≤ g x) → sumK f l ≤ sumK g l
  | [], _ => Nat.le_refl _
  | x :: t, h => by
    rw [sumK_cons, sumK_cons]
    have h1 := h x (List.mem_cons_self ..)
    have h2 := sumK_le (fun y hy => h y (List.mem_cons_of_mem x hy)) (l := t)
    omega
theorem sumK_add {α : Type} (f g : α → Nat) : ∀ l : List α, sumK (fun x => f x + g x) l = sumK f l + sumK g l
  | [] => rfl
  | x :: t => by
    rw [sumK_cons, sumK_cons, sumK_cons, sumK_add f g t]
    omega
theorem sumK_filter {α : Type} (f g : α → Nat) (p : α → Bool) : ∀ l : List α, (∀ x ∈ l, f x ≤ g x) → sumK f (l.filter p) ≤ sumK g l
  | [], _ => Nat.le_refl _
  | x :: t, h => by
    have h1 := h x (List.mem_cons_self ..)
    have h2 := sumK_filter f g p t (fun y hy => h y (List.mem_cons_of_mem x hy))
    rw [List.filter_cons, sumK_cons]
    split
    · rw [sumK_cons]; omega
    · omega
theorem sumK_one {α : Type} (l : List α) : sumK (fun _ => 1) l = l.length := by
  induction l with
  | nil => rfl
  | cons x t ih => rw [sumK_cons, ih, List.length_cons]; omega
theorem sumK_zero {α : Type} {f : α → Nat} {l : List α} (h : ∀ x ∈ l, f x = 0) : sumK f l = 0 := by
  induction l with
  | nil => rfl
  | cons x t ih => rw [sumK_cons, h x (List.mem_cons_self ..), ih (fun y hy => h y (List.mem_cons_of_mem x hy))]
theorem sumK_indicator (q : ByteArray) (v : Nat) : ∀ l : List ByteArray, l.Nodup → q ∈ l → sumK (fun k => if q = k then v else 0) l = v
  | [], _, h => by cases h
  | k :: t, hn, h => by
    rw [List.nodup_cons] at hn
    rw [sumK_cons]
    by_cases e : q = k
    · subst e
      have hz : ∀ x ∈ t, (if q = x then v else 0) = 0 := fun x hx => by
        rw [if_neg]
        intro e
        exact hn.1 (by rw [e]; exact hx)
      rw [if_pos rfl, sumK_zero hz]
      omega
    · rw [if_neg e, sumK_indicator q v t hn.2 ((List.mem_cons.1 h).resolve_left e)]
      omega
theorem sumK_weigh (w : S102 → Nat) (K : List ByteArray) (hn : K.Nodup) : ∀ L : List S102, (∀ x ∈ L, x.f0 ∈ K) → sumK (fun k => sumK w (L.filter (fun x => decide (x.f0 = k)))) K = sumK w L
  | [], _ => by
    refine sumK_zero (fun x _ => rfl)
  | x :: t, h => by
    rw [sumK_cons, ← sumK_weigh w K hn t (fun y hy => h y (List.mem_cons_of_mem x hy)), ← sumK_indicator x.f0 (w x) K hn (h x (List.mem_cons_self ..)), ← sumK_add]
    refine sumK_congr (fun k _ => ?_)
    rw [List.filter_cons]
    by_cases e : x.f0 = k
    · rw [if_pos (by simp [e]), if_pos e, sumK_cons]
    · rw [if_neg (by simp [e]), if_neg e, Nat.zero_add]
theorem sumK_insL (f : ByteArray → Nat) (K : List ByteArray) (i : Nat) (q : ByteArray) : sumK f (insL K i q) = sumK f K + f q := by
  unfold insL
  have : sumK f K = sumK f (K.take i) + sumK f (K.drop i) := by rw [← sumK_app, List.take_append_drop]
  rw [sumK_app, sumK_cons, this]
  omega
theorem sumK_insK (f : ByteArray → Nat) (pf : ByteArray → List S28) : ∀ (L : List S102) (K : List ByteArray), sumK f (insK pf L K) = sumK f K + sumK (fun x : S102 => f x.f0) (L.filter (fun x => decide ((pf x.f0).length = 1)))
  | [], K => rfl
  | x :: t, K => by
    simp only [insK]
    rw [sumK_insK f pf t, List.filter_cons]
    by_cases h : (pf x.f0).length = 1
    · rw [if_pos h, if_pos (by simpa using h), sumK_insL, sumK_cons]
      omega
    · rw [if_neg h, if_neg (by simpa using h)]
theorem sumK_sub {f g : ByteArray → Nat} : ∀ {a b : List ByteArray}, a.Nodup → (∀ x ∈ a, x ∈ b) → (∀ x ∈ a, f x ≤ g x) → sumK f a ≤ sumK g b
  | [], b, _, _, _ => Nat.zero_le _
  | x :: t, b, hn, hs, hf => by
    rw [List.nodup_cons] at hn
    obtain ⟨b1, b2, rfl⟩ := List.append_of_mem (hs x (List.mem_cons_self ..))
    have h1 := hf x (List.mem_cons_self ..)
    have h2 := sumK_sub (f := f) (g := g) (a := t) (b := b1 ++ b2) hn.2 (fun y hy => by
      have hy2 := hs y (List.mem_cons_of_mem x hy)
      rw [List.mem_append, List.mem_cons] at hy2
      rw [List.mem_append]
      rcases hy2 with h | h | h
      · exact .inl h
      · exact absurd (h ▸ hy) hn.1
      · exact .inr h) (fun y hy => hf y (List.mem_cons_of_mem x hy))
    rw [sumK_app] at h2
    rw [sumK_cons, sumK_app, sumK_cons]
    omega
def vN (ch : ByteArray → List S28) (k : ByteArray) : Nat := (ch k).length
def bN (ch : ByteArray → List S28) (k : ByteArray) : Nat := k.size + dsz (ch k)
structure Sized (s : SS) : Prop where
  z0 : s.n0 = ((s.keys.length : Nat) : Int)
  z1 : s.n1 = ((sumK (vN s.ch) s.keys : Nat) : Int)
  z2 : s.n2 = ((sumK (bN s.ch) s.keys : Nat) : Int)
/-- The sizes lie in their limits, which are no greater than the greatest. -/
structure Fits (s : SS) : Prop where
  f0 : s.n0 ≤ s.l0
  f1 : s.n1 ≤ s.l1
  f2 : s.n2 ≤ s.l2
  g0 : s.l0 ≤ 1048576
  g1 : s.l1 ≤ 1048576
  g2 : s.l2 ≤ 1048576
theorem wr_add (a b : Nat) (h : a + b ≤ 1000000000) : wrap64 ((a : Int) + (b : Int)) = ((a + b : Nat) : Int) := by unfold wrap64; omega
theorem wr_one (a : Nat) (h : a + 1 ≤ 1000000000) : wrap64 ((a : Int) + 1) = ((a + 1 : Nat) : Int) := by unfold wrap64; omega
theorem tri {a b c a' b' c' : Nat} (h1 : a = a') (h2 : b = b') (h3 : c = c') : (((a : Nat) : Int), ((b : Nat) : Int), ((c : Nat) : Int)) = (((a' : Nat) : Int), ((b' : Nat) : Int), ((c' : Nat) : Int)) := by rw [h1, h2, h3]
theorem colN_sum (tf : ByteArray → List S28) (zf : ByteArray → Int) (hz : ∀ k, zf k = ((dsz (tf k) : Nat) : Int)) (M : Nat) (hM : M ≤ 1000000000) : ∀ (l : List ByteArray) (a b c : Nat), a + l.length ≤ M → b + sumK (vN tf) l ≤ M → c + sumK (bN tf) l ≤ M →
    colN tf zf l a b c = (((a + (l.filter (fun q => decide ((tf q).length ≠ 0))).length : Nat) : Int), ((b + sumK (vN tf) (l.filter (fun q => decide ((tf q).length ≠ 0))) : Nat) : Int), ((c + sumK (bN tf) (l.filter (fun q => decide ((tf q).length ≠ 0))) : Nat) : Int)) := by
  intro l
  induction l with
  | nil => intro a b c _ _ _; simp [colN, sumK_nil]
  | cons k t ih =>
    intro a b c h1 h2 h3
    rw [sumK_cons] at h2 h3
    rw [List.length_cons] at h1
    have hv : vN tf k = (tf k).length := rfl
    have hb : bN tf k = k.size + dsz (tf k) := rfl
    rw [List.filter_cons]
    by_cases h0 : (tf k).length = 0
    · rw [if_neg (by simp [h0])]
      simp only [colN, if_pos h0]
      exact ih a b c (by omega) (by omega) (by omega)
    · rw [if_pos (by simpa using h0)]
      simp only [colN, if_neg h0, hz]
      have b1 : a + 1 ≤ 1000000000 := by omega
      have b2 : b + (tf k).length ≤ 1000000000 := by omega
      have b3 : k.size + dsz (tf k) ≤ 1000000000 := by omega
      have b4 : c + (k.size + dsz (tf k)) ≤ 1000000000 := by omega
      have i1 := ih (a + 1) (b + (tf k).length) (c + (k.size + dsz (tf k))) (by omega) (by omega) (by omega)
      rw [wr_one a b1, wr_add b (tf k).length b2, wr_add k.size (dsz (tf k)) b3, wr_add c (k.size + dsz (tf k)) b4, i1]
      clear i1 ih
      rw [List.length_cons, sumK_cons, sumK_cons, hv, hb]
      exact tri (by omega) (by omega) (by omega)
theorem Sized.col {m : Nat} {s : SS} (hs : Sized s) (h : Good m s) (hf : Fits s) (low : Int) : Sized (colP s low) ∧ Fits (colP s low) := by
  have hz : ∀ k, zfP s low k = ((dsz (tfP s low k) : Nat) : Int) := fun _ => rfl
  have t1 : sumK (vN (tfP s low)) s.keys ≤ sumK (vN s.ch) s.keys := sumK_le (fun k _ => trim_len _ _)
  have t2 : sumK (bN (tfP s low)) s.keys ≤ sumK (bN s.ch) s.keys := sumK_le (fun k _ => by have := dsz_sub (trim_sub (s.ch k) low); show k.size + dsz (trimF (s.ch k) low) ≤ k.size + dsz (s.ch k); omega)
  have e0 := hs.z0
  have e1 := hs.z1
  have e2 := hs.z2
  obtain ⟨f0, f1, f2, g0, g1, g2⟩ := hf
  have hc := colN_sum (tfP s low) (zfP s low) hz 1000000000 (Nat.le_refl _) s.keys 0 0 0 (by omega) (by omega) (by omega)
  simp only [Nat.zero_add] at hc
  have hk := col_keys s low
  have hch := h.col_ch low
  have q0 : (colP s low).n0 = (((colP s low).keys.length : Nat) : Int) := by
    show (colN (tfP s low) (zfP s low) s.keys 0 0 0).1 = _
    exact (congrArg (·.1) hc).trans (by first | rfl | (rw [hk]; rfl))
  have q1 : (colP s low).n1 = ((sumK (vN (tfP s low)) (colP s low).keys : Nat) : Int) := by
    show (colN (tfP s low) (zfP s low) s.keys 0 0 0).2.1 = _
    exact (congrArg (·.2.1) hc).trans (by first | rfl | (rw [hk]; rfl))
  have q2 : (colP s low).n2 = ((sumK (bN (tfP s low)) (colP s low).keys : Nat) : Int) := by
    show (colN (tfP s low) (zfP s low) s.keys 0 0 0).2.2 = _
    exact (congrArg (·.2.2) hc).trans (by first | rfl | (rw [hk]; rfl))
  have hce : (colP s low).ch = tfP s low := hch
  have u0 : (colP s low).keys.length ≤ s.keys.length := by rw [hk]; exact List.length_filter_le _ _
  have u1 : sumK (vN (tfP s low)) (colP s low).keys ≤ sumK (vN s.ch) s.keys := by rw [hk]; exact sumK_filter _ _ _ _ (fun k _ => trim_len _ _)
  have u2 : sumK (bN (tfP s low)) (colP s low).keys ≤ sumK (bN s.ch) s.keys := by rw [hk]; exact sumK_filter _ _ _ _ (fun k _ => by have := dsz_sub (trim_sub (s.ch k) low); show k.size + dsz (trimF (s.ch k) low) ≤ k.size + dsz (s.ch k); omega)
  refine ⟨⟨q0, by rw [hce]; exact q1, by rw [hce]; exact q2⟩, ⟨?_, ?_, ?_, g0, g1, g2⟩⟩
  · show (colP s low).n0 ≤ s.l0; omega
  · show (colP s low).n1 ≤ s.l1; omega
  · show (colP s low).n2 ≤ s.l2; omega
theorem comesN_sum (ch : ByteArray → List S28) (M : Nat) (hM : M ≤ 1000000000) : ∀ (l : List S102) (a b c : Nat), a + l.length ≤ M → b + l.length ≤ M → c + sumK (fun x : S102 => x.f2.length + x.f0.size) l ≤ M →
    comesN ch l a b c = (((a + ((comesL ch l).filter (fun x => decide ((ch x.f0).length = 0))).length : Nat) : Int), ((b + (comesL ch l).length : Nat) : Int), ((c + (sumK (fun x : S102 => x.f2.length) (comesL ch l) + sumK (fun x : S102 => x.f0.size) ((comesL ch l).filter (fun x => decide ((ch x.f0).length = 0)))) : Nat) : Int)) := by
  intro l
  induction l with
  | nil => intro a b c _ _ _; simp [comesN, comesL, sumK_nil]
  | cons x t ih =>
    intro a b c h1 h2 h3
    rw [sumK_cons] at h3
    rw [List.length_cons] at h1 h2
    simp only [comesN, comesL]
    by_cases hg : (x.f1 && goneC (ch x.f0)) = true
    · rw [if_pos hg, if_pos hg]
      exact ih a b c (by omega) (by omega) (by omega)
    · rw [if_neg hg, if_neg hg, List.filter_cons, sumK_cons, List.length_cons]
      have b1 : a + 1 ≤ 1000000000 := by omega
      have b2 : b + 1 ≤ 1000000000 := by omega
      have b3 : c + x.f2.length ≤ 1000000000 := by omega
      have b4 : c + x.f2.length + x.f0.size ≤ 1000000000 := by omega
      have i1 := ih (a + 1) (b + 1) (c + x.f2.length + x.f0.size) (by omega) (by omega) (by omega)
      have i2 := ih a (b + 1) (c + x.f2.length) (by omega) (by omega) (by omega)
      by_cases h0 : (ch x.f0).length = 0
      · rw [if_pos h0, if_pos (by simpa using h0), wr_one a b1, wr_one b b2, wr_add c x.f2.length b3, wr_add (c + x.f2.length) x.f0.size b4, i1]
        clear i1 i2 ih
        rw [sumK_cons, List.length_cons]
        exact tri (by omega) (by omega) (by omega)
      · rw [if_neg h0, if_neg (by simpa using h0), wr_one b b2, wr_add c x.f2.length b3, i2]
        clear i1 i2 ih
        exact tri (by omega) (by omega) (by omega)
end Go.Proofs.Yteofdgonpbmdlaa.St
namespace Go.Proofs.Yteofdgonpbmdlaa.C
open Go.RowKit Go.Maps Go.Proofs.YteofdgonpbmdlaaW.PrintWords Go.Proofs.YteofdgonpbmdlaaW.PrintLast Go.Proofs.YteofdgonpbmdlaaW.PrintMore
attribute [local go_sem] max2_int min2_int max_two min_two max_three min_three max_four min_four
def Room (n : Int) : Prop := 1 ≤ n ∧ n ≤ 1048576
def noStore (l0 l1 l2 l3 l4 l5 last : Int) : SS := ⟨l0, l1, l2, l3, l4, l5, last, 0, [], fun _ => [], 0, 0, 0⟩
theorem storeAt_new (W : World) (base p mb : Nat) (l0 l1 l2 l3 l4 l5 last : Int) (hp : W.heap[p]? = some (.cells (cellsOf (noStore l0 l1 l2 l3 l4 l5 last) noCh mb) 91 (0, 0))) (hm : W.heap[mb]? = some (.map #[] 0)) (bp : base ≤ p) (bm : base ≤ mb) (hh : base ≤ W.heap.size) :
    StoreAt W base (fun k => base ≤ k) p (noStore l0 l1 l2 l3 l4 l5 last) noCh mb 0 (.map []) where
  cells := hp
  keys := .inl (Kd.R_nil _ _ _ _ _)
  map := by
    refine ⟨#[], 0, hm, ?_⟩
    obtain ⟨es, clock, h1, h2⟩ := World.ownsMap_made (H := Value) W Try.prog 9 tok
    have e : (W.alloc (.map #[] 0)).heap[W.heap.size]? = some (.map #[] 0) := heap_alloc_new _ _
    rw [e] at h1
    injection h1 with h1
    injection h1 with h1 h3
    subst h1 h3
    exact h2
  bb := fun _ hk => hk
  bn := fun _ hk => Nat.le_trans hh hk
  bp := bp
  bm := bm
  pm := fun e => by rw [e, hm] at hp; cases hp
  chains := fun key _ => ⟨none, 0, rfl, Nat.le_refl _, Kd.F_nil _ _ _⟩
def NewPost (w : World) (s : SS) (e : Ending) (w' : World) : Prop := (∃ p mb : Nat, e = .returned (.tuple #[.pointer (some ⟨p, 0, none⟩), .int .i64 0]) ∧ StoreAt w' w.heap.size (fun k => w.heap.size ≤ k) p s noCh mb 0 (.map [])) ∧ Below w.heap.size w w'
set_option maxRecDepth 100000 in
set_option maxHeartbeats 2000000 in
theorem store_New.good (l0 l1 l2 l3 l4 l5 last : Int) (w : World) (h0 : Room l0) (h1 : Room l1) (h2 : Room l2) (hl : last ≠ 0) :
    Calls Try.prog 52 #[.agg #[.int .i64 l0, .int .i64 l1, .int .i64 l2, .int .i64 l3, .int .i64 l4, .int .i64 l5, .int .u64 last]] w (NewPost w (noStore l0 l1 l2 l3 l4 l5 last)) := by
  have hmm := @run_makeMap Try.prog
  have i0 : ∀ w, (Instr.index 107 (.agg #[.int .i64 l0, .int .i64 l1, .int .i64 l2]) (.int .i64 0)).run Try.prog w = .ok (.int .i64 l0) w := fun _ => by kernel_rfl
  have i1 : ∀ w, (Instr.index 107 (.agg #[.int .i64 l0, .int .i64 l1, .int .i64 l2]) (.int .i64 1)).run Try.prog w = .ok (.int .i64 l1) w := fun _ => by kernel_rfl
  have i2 : ∀ w, (Instr.index 107 (.agg #[.int .i64 l0, .int .i64 l1, .int .i64 l2]) (.int .i64 2)).run Try.prog w = .ok (.int .i64 l2) w := fun _ => by kernel_rfl
  obtain ⟨a0, b0⟩ := h0
  obtain ⟨a1, b1⟩ := h1
  obtain ⟨a2, b2⟩ := h2
  have hlb : (last == 0) = false := by simpa using hl
  go_enter Try.func52, Try.ntmps52
  go_wp2
  go_loop [13] (fun i => ∃ k : Nat, k ≤ 3 ∧ i = .int .i64 k) (fun i => 3 - (intOf i).toNat)
  case atStart => exact ⟨0, by omega, rfl⟩
  case round =>
    obtain ⟨k, hk, rfl⟩ := hrel
    by_cases hlt : k < 3
    · obtain rfl | rfl | rfl : k = 0 ∨ k = 1 ∨ k = 2 := by omega
      all_goals
        go_wp2
        go_round
        case rel => first | exact ⟨1, by omega, by go_num⟩ | exact ⟨2, by omega, by go_num⟩ | exact ⟨3, by omega, by go_num⟩
        case measure => simp [intOf]
    · go_wp2
      go_ret2
      refine ⟨⟨w.heap.size + 1 + 1, w.heap.size + 1, by simp [World.alloc], ?_⟩, below_alloc (below_alloc (below_alloc (Below.refl _ _) _) _) _⟩
      have e1 : ∀ (w : World) (o : Obj), (w.alloc o).heap.size = w.heap.size + 1 := fun w o => by simp
      have e2 : ∀ (w : World) (o o' : Obj), ((w.alloc o).alloc o').heap[w.heap.size]? = some o := fun w o o' => (Below.heap_alloc _ _ _ (by simp)).trans (heap_alloc_new _ _)
      refine storeAt_new _ _ _ _ l0 l1 l2 l3 l4 l5 last ?_ ?_ (by omega) (by omega) (below_alloc (below_alloc (below_alloc (Below.refl _ _) _) _) _).size
      · rw [show w.heap.size + 1 + 1 = ((w.alloc (.cells #[.int .i64 l0, .int .i64 l1, .int .i64 l2, .int .i64 l3, .int .i64 l4, .int .i64 l5, .int .u64 last] 51)).alloc (.map #[] 0)).heap.size by rw [e1, e1]]
        exact heap_alloc_new _ _
      · rw [show w.heap.size + 1 = (w.alloc (.cells #[.int .i64 l0, .int .i64 l1, .int .i64 l2, .int .i64 l3, .int .i64 l4, .int .i64 l5, .int .u64 last] 51)).heap.size by rw [e1]]
        exact e2 _ _ _
end Go.Proofs.Yteofdgonpbmdlaa.C
namespace Go.Proofs.Yteofdgonpbmdlaa.St
open Go.RowKit Go.Maps Go.Proofs.YteofdgonpbmdlaaW.PrintWords Go.Proofs.Yteofdgonpbmdlaa.C Go.Proofs.Yteofdgonpbmdlaa.Pure
theorem dsz_vers (now : Int) (a : List S28) (b : List S102) : dsz (a ++ b.map (verOf now)) = dsz a + sumK (fun x : S102 => x.f2.length) b := by
  unfold dsz sumK
  rw [List.map_append, List.sum_append, List.map_map]
  rfl
theorem put_sums {m : Nat} {s1 : SS} (h : Good m s1) {L : List S102} (hn : (L.map (·.f0)).Nodup) :
    (insK (pfP s1 L) L s1.keys).length = s1.keys.length + (L.filter (fun x => decide ((s1.ch x.f0).length = 0))).length ∧
    sumK (vN (pfP s1 L)) (insK (pfP s1 L) L s1.keys) = sumK (vN s1.ch) s1.keys + L.length ∧
    sumK (bN (pfP s1 L)) (insK (pfP s1 L) L s1.keys) = sumK (bN s1.ch) s1.keys + (sumK (fun x : S102 => x.f2.length) L + sumK (fun x : S102 => x.f0.size) (L.filter (fun x => decide ((s1.ch x.f0).length = 0)))) := by
  obtain ⟨hso, hme⟩ := insK_all (pfP s1 L) L s1.keys h.so hn (pf_len h hn)
  have hnd := hso.nodup
  have hin : ∀ x ∈ L, x.f0 ∈ insK (pfP s1 L) L s1.keys := fun x hx => (hme _).2 (.inr (List.mem_map.2 ⟨x, hx, rfl⟩))
  have hfl : L.filter (fun x => decide ((pfP s1 L x.f0).length = 1)) = L.filter (fun x => decide ((s1.ch x.f0).length = 0)) := by
    refine List.filter_congr (fun x hx => ?_)
    rw [decide_eq_decide, pf_len h hn x hx, h.me, Classical.not_not, List.length_eq_zero_iff]
  have hz : ∀ x ∈ L.filter (fun x => decide ((s1.ch x.f0).length = 0)), s1.ch x.f0 = [] := fun x hx => by
    have := (List.mem_filter.1 hx).2
    exact List.length_eq_zero_iff.1 (of_decide_eq_true this)
  refine ⟨?_, ?_, ?_⟩
  · rw [← sumK_one, sumK_insK, sumK_one, hfl, sumK_one]
  · have e : sumK (vN (pfP s1 L)) (insK (pfP s1 L) L s1.keys) = sumK (fun k => vN s1.ch k + sumK (fun _ => 1) (L.filter (fun x => decide (x.f0 = k)))) (insK (pfP s1 L) L s1.keys) := by
      refine sumK_congr (fun k _ => ?_)
      rw [sumK_one]
      simp [vN, pfP]
    have e3 : sumK (fun x : S102 => vN s1.ch x.f0) (L.filter (fun x => decide ((s1.ch x.f0).length = 0))) = 0 := sumK_zero (fun x hx => by
      show (s1.ch x.f0).length = 0
      rw [hz x hx]
      rfl)
    rw [e, sumK_add, sumK_weigh (fun _ => 1) _ hnd L hin, sumK_one, sumK_insK, hfl, e3]
    rfl
  · have e : sumK (bN (pfP s1 L)) (insK (pfP s1 L) L s1.keys) = sumK (fun k => bN s1.ch k + sumK (fun x : S102 => x.f2.length) (L.filter (fun x => decide (x.f0 = k)))) (insK (pfP s1 L) L s1.keys) := by
      refine sumK_congr (fun k _ => ?_)
      show k.size + dsz (s1.ch k ++ (L.filter (fun x => decide (x.f0 = k))).map (verOf s1.now)) = k.size + dsz (s1.ch k) + _
      rw [dsz_vers, Nat.add_assoc]
    have e2 : sumK (fun x : S102 => bN s1.ch x.f0) (L.filter (fun x => decide ((s1.ch x.f0).length = 0))) = sumK (fun x : S102 => x.f0.size) (L.filter (fun x => decide ((s1.ch x.f0).length = 0))) := by
      refine sumK_congr (fun x hx => ?_)
      show x.f0.size + dsz (s1.ch x.f0) = x.f0.size
      rw [hz x hx]
      rfl
    rw [e, sumK_add, sumK_weigh _ _ hnd L hin, sumK_insK, hfl, e2, Nat.add_assoc, Nat.add_comm (sumK _ (L.filter _)) (sumK _ L)]
theorem sizes_true {m : Nat} {s1 : SS} (h : Good m s1) (hs : Sized s1) (hf : Fits s1) {l : List S102} (hl : l.length ≤ 20) (hk : ∀ x ∈ l, x.f0.size ≤ 300) (hd : ∀ x ∈ l, x.f2.length ≤ 5000) (hn : ((comesL s1.ch l).map (·.f0)).Nodup) :
    sizesOf s1 l = ((((insK (pfP s1 (comesL s1.ch l)) (comesL s1.ch l) s1.keys).length : Nat) : Int), ((sumK (vN (pfP s1 (comesL s1.ch l))) (insK (pfP s1 (comesL s1.ch l)) (comesL s1.ch l) s1.keys) : Nat) : Int), ((sumK (bN (pfP s1 (comesL s1.ch l))) (insK (pfP s1 (comesL s1.ch l)) (comesL s1.ch l) s1.keys) : Nat) : Int)) := by
  obtain ⟨e0, e1, e2⟩ := put_sums h hn
  obtain ⟨f0, f1, f2, g0, g1, g2⟩ := hf
  have z0 := hs.z0
  have z1 := hs.z1
  have z2 := hs.z2
  have hb : sumK (fun x : S102 => x.f2.length + x.f0.size) l ≤ 5300 * l.length := by
    have : sumK (fun x : S102 => x.f2.length + x.f0.size) l ≤ sumK (fun _ => 5300) l := sumK_le (fun x hx => by have := hk x hx; have := hd x hx; omega)
    have h2 : ∀ q : List S102, sumK (fun _ => 5300) q = 5300 * q.length := fun q => by
      induction q with
      | nil => rfl
      | cons x t ih => rw [sumK_cons, ih, List.length_cons]; omega
    rw [h2] at this
    exact this
  have b0 : s1.keys.length + l.length ≤ 1000000000 := by omega
  have b1 : sumK (vN s1.ch) s1.keys + l.length ≤ 1000000000 := by omega
  have b2 : sumK (bN s1.ch) s1.keys + sumK (fun x : S102 => x.f2.length + x.f0.size) l ≤ 1000000000 := by omega
  have hc := comesN_sum s1.ch 1000000000 (Nat.le_refl _) l s1.keys.length (sumK (vN s1.ch) s1.keys) (sumK (bN s1.ch) s1.keys) b0 b1 b2
  unfold sizesOf
  rw [z0, z1, z2, hc]
  exact tri e0.symm e1.symm e2.symm
theorem Sized.put {m : Nat} {s1 : SS} (h : Good m s1) (hs : Sized s1) (hf : Fits s1) {l : List S102} (hl : l.length ≤ 20) (hk : ∀ x ∈ l, x.f0.size ≤ 300) (hd : ∀ x ∈ l, x.f2.length ≤ 5000) (hn : ((comesL s1.ch l).map (·.f0)).Nodup) (hfit : fitsB s1 (sizesOf s1 l) = true) :
    Sized (putS s1 (pfP s1 (comesL s1.ch l)) (comesL s1.ch l) (sizesOf s1 l)) ∧ Fits (putS s1 (pfP s1 (comesL s1.ch l)) (comesL s1.ch l) (sizesOf s1 l)) := by
  have e := sizes_true h hs hf hl hk hd hn
  have hch : (putS s1 (pfP s1 (comesL s1.ch l)) (comesL s1.ch l) (sizesOf s1 l)).ch = pfP s1 (comesL s1.ch l) := pf_colCh s1 _
  have hb : ((sizesOf s1 l).1 ≤ s1.l0 ∧ (sizesOf s1 l).2.1 ≤ s1.l1) ∧ (sizesOf s1 l).2.2 ≤ s1.l2 := by
    simpa only [fitsB, Bool.and_eq_true, decide_eq_true_eq] using hfit
  refine ⟨⟨?_, ?_, ?_⟩, ⟨hb.1.1, hb.1.2, hb.2, hf.g0, hf.g1, hf.g2⟩⟩
  · exact congrArg (·.1) e
  · rw [hch]; exact congrArg (·.2.1) e
  · rw [hch]; exact congrArg (·.2.2) e
theorem Sized.coS {m : Nat} {s : SS} (h : Good m s) (hs : Sized s) (hf : Fits s) (l : List S102) (low : Int) : Sized (comS s l low) ∧ Fits (comS s l low) := by
  rcases comS_cases s l low with e | e <;> rw [e]
  · exact ⟨hs, hf⟩
  · exact hs.col h hf low
theorem Sized.com {m : Nat} {s : SS} (h : Good m s) (hs : Sized s) (hf : Fits s) {l : List S102} (hl : l.length ≤ 20) (hk : ∀ x ∈ l, x.f0.size ≤ 300) (hd : ∀ x ∈ l, x.f2.length ≤ 5000) (low : Int) : Sized (comP s l low).2.2 ∧ Fits (comP s l low).2.2 := by
  unfold comP comR
  split
  · exact ⟨hs, hf⟩
  rename_i h1
  split
  · exact ⟨hs, hf⟩
  split
  · exact ⟨hs, hf⟩
  have hw := chk_wok (Classical.not_not.1 h1)
  obtain ⟨hs1, hf1⟩ := hs.coS h hf l low
  split
  · rename_i hfit
    exact Sized.put (h.coS l low) hs1 hf1 hl hk hd ((hw.sub (comesL_sub (comS s l low).ch l)).so.nodup) hfit
  · exact ⟨hs1, hf1⟩
theorem Sized.op {m : Nat} {s : SS} (h : Good m s) (hs : Sized s) (hf : Fits s) {o : S55} (ho : FewOp o) : Sized (opP s o).2 ∧ Fits (opP s o).2 := by
  unfold opP
  split
  · exact hs.com h hf ho.len ho.key ho.dat o.f2
  split
  · exact hs.col h hf o.f2
  split
  · exact ⟨hs, hf⟩
  split <;> exact ⟨hs, hf⟩
theorem sized_new (l0 l1 l2 l3 l4 l5 last : Int) (h0 : Room l0) (h1 : Room l1) (h2 : Room l2) : Sized (noStore l0 l1 l2 l3 l4 l5 last) ∧ Fits (noStore l0 l1 l2 l3 l4 l5 last) :=
  ⟨⟨rfl, rfl, rfl⟩, ⟨by have := h0.1; show (0 : Int) ≤ l0; omega, by have := h1.1; show (0 : Int) ≤ l1; omega, by have := h2.1; show (0 : Int) ≤ l2; omega, h0.2, h1.2, h2.2⟩⟩
theorem com_lim (s : SS) (l : List S102) (low : Int) : (comP s l low).2.2.l0 = s.l0 ∧ (comP s l low).2.2.l1 = s.l1 ∧ (comP s l low).2.2.l2 = s.l2 ∧ (comP s l low).2.2.last = s.last := by
  have hc : (comS s l low).l0 = s.l0 ∧ (comS s l low).l1 = s.l1 ∧ (comS s l low).l2 = s.l2 ∧ (comS s l low).last = s.last := by
    rcases comS_cases s l low with e | e <;> rw [e] <;> exact ⟨rfl, rfl, rfl, rfl⟩
  unfold comP comR
  split
  · exact ⟨rfl, rfl, rfl, rfl⟩
  split
  · exact ⟨rfl, rfl, rfl, rfl⟩
  split
  · exact ⟨rfl, rfl, rfl, rfl⟩
  split <;> exact hc
theorem op_lim (s : SS) (o : S55) : (opP s o).2.l0 = s.l0 ∧ (opP s o).2.l1 = s.l1 ∧ (opP s o).2.l2 = s.l2 ∧ (opP s o).2.last = s.last := by
  unfold opP
  split
  · exact com_lim _ _ _
  split
  · exact ⟨rfl, rfl, rfl, rfl⟩
  split
  · exact ⟨rfl, rfl, rfl, rfl⟩
  split <;> exact ⟨rfl, rfl, rfl, rfl⟩
end Go.Proofs.Yteofdgonpbmdlaa.St
namespace Go.Proofs.Yteofdgonpbmdlaa.Pure
open Go.RowKit Go.Proofs.YteofdgonpbmdlaaW.PrintWords Go.Proofs.Yteofdgonpbmdlaa.C
theorem rTrim_loop (l : List S28) (hl : l.length ≤ 1000) (a : Int) : ∀ (d i : Nat) (acc : List S28) (k : Nat), i + d = l.length → acc.length + d ≤ 2000 → d < k → conductorref07_Trim.l0 k a acc l l.length i = some (acc ++ (l.drop i).filter fun v => decide (a < v.f0)) := by
  intro d
  induction d with
  | zero =>
    intro i acc k hd ha hk
    obtain ⟨k, rfl⟩ : ∃ m, k = m + 1 := ⟨k - 1, by omega⟩
    simp only [conductorref07_Trim.l0]
    rw [if_neg (by omega), List.drop_eq_nil_of_le (by omega)]; simp
  | succ d ih =>
    intro i acc k hd ha hk
    obtain ⟨k, rfl⟩ : ∃ m, k = m + 1 := ⟨k - 1, by omega⟩
    have hi : i < l.length := by omega
    simp only [conductorref07_Trim.l0]
    rw [if_pos (by omega), if_pos (by omega), if_pos (by omega), w1 hi (by omega), rd_nat l i hi, List.drop_eq_getElem_cons hi]
    by_cases h1 : l[i].f0 > a
    · rw [if_pos h1, if_pos (by omega), ih (i + 1) _ k (by omega) (by simp; omega) (by omega), List.filter_cons, if_pos (by simpa using h1), List.append_assoc]
      rfl
    · rw [if_neg h1, ih (i + 1) _ k (by omega) (by omega) (by omega), List.filter_cons, if_neg (by simpa using h1)]
theorem filter_upto {l : List S28} {a : Int} {n : Nat} (h : Upto l a n) : (l.filter fun v => decide (a < v.f0)) = l.drop n := by
  have e : l.filter (fun v => decide (a < v.f0)) = (l.take n).filter (fun v => decide (a < v.f0)) ++ (l.drop n).filter (fun v => decide (a < v.f0)) := by rw [← List.filter_append, List.take_append_drop]
  rw [e, List.filter_eq_nil_iff.2 (fun v hv => ?_), List.filter_eq_self.2 (fun v hv => ?_), List.nil_append]
  · simpa using h.drop_gt v hv
  · obtain ⟨i, hi, rfl⟩ := List.getElem_of_mem hv
    rw [List.getElem_take]
    have h2 := h.1
    have := h.2.1 i (by rw [List.length_take] at hi; omega) (by rw [List.length_take] at hi; omega)
    simp; omega
theorem rTrim_ev {l : List S28} {a : Int} (hl : l.length ≤ 1000) {n : Nat} (h : Upto l a n) : Ev (fun k => conductorref07_Trim.f k l a) (l.drop (tAt l n)) := by
  unfold conductorref07_Trim.f
  simp only [Option.bind_some]
  refine Ev.bind (rFind_ev l hl a h) ?_
  have hj1 : ∀ acc : List S28, acc.length ≤ 1000 → Ev (fun k => conductorref07_Trim.j1 k l a acc) (acc ++ l.drop n) := fun acc ha => by
    refine Ev.step (fun k => by simp only [conductorref07_Trim.j1]; rfl) ⟨l.length + 1, fun k hk => ?_⟩
    have := rTrim_loop l hl a l.length 0 acc k (by omega) (by omega) (by omega)
    rwa [List.drop_zero, filter_upto h] at this
  have hn := h.1
  by_cases h0 : 0 < n ∧ n ≤ l.length
  · simp only [fndV_pos h0, if_true]
    by_cases hg : l[n - 1].f1 = false
    · refine Ev.step (f := fun k => conductorref07_Trim.j1 k l a ([] ++ [(⟨l[n - 1].f0, l[n - 1].f1, l[n - 1].f2⟩ : S28)])) (fun k => by simp only [conductorref07_Trim.j0, hg, Bool.not_false, if_true]; rfl) ?_
      have := hj1 ([] ++ [(⟨l[n - 1].f0, l[n - 1].f1, l[n - 1].f2⟩ : S28)]) (by simp)
      have e : l.drop (tAt l n) = ([] ++ [(⟨l[n - 1].f0, l[n - 1].f1, l[n - 1].f2⟩ : S28)]) ++ l.drop n := by
        unfold tAt
        rw [dif_pos h0, if_pos hg, List.drop_eq_getElem_cons (by omega)]
        have : n - 1 + 1 = n := by omega
        rw [this]; rfl
      rw [e]; exact this
    · have hg' : l[n - 1].f1 = true := by simpa using hg
      refine Ev.step (f := fun k => conductorref07_Trim.j1 k l a []) (fun k => by simp only [conductorref07_Trim.j0, hg', Bool.not_true, Bool.false_eq_true, if_false]) ?_
      have e : l.drop (tAt l n) = [] ++ l.drop n := by
        unfold tAt
        rw [dif_pos h0, if_neg hg]; rfl
      rw [e]; exact hj1 [] (by simp)
  · simp only [fndV_neg h0, Bool.false_eq_true, if_false]
    refine Ev.step (f := fun k => conductorref07_Trim.j1 k l a []) (fun k => by simp only [conductorref07_Trim.j0, Bool.false_eq_true, if_false]) ?_
    have e : l.drop (tAt l n) = [] ++ l.drop n := by
      unfold tAt
      rw [dif_neg h0]; rfl
    rw [e]; exact hj1 [] (by simp)
theorem rSize_loop (l : List S28) (hl : l.length ≤ 9223372036854775807) : ∀ (d i : Nat) (x : Int) (k : Nat), i + d = l.length → d < k → conductorref07_Size.l0 k x l l.length i = some ((l.drop i).foldl (fun x v => wrap64 (x + (v.f2.length : Int))) x) := by
  intro d
  induction d with
  | zero =>
    intro i x k hd hk
    obtain ⟨k, rfl⟩ : ∃ m, k = m + 1 := ⟨k - 1, by omega⟩
    simp only [conductorref07_Size.l0]
    rw [if_neg (by omega), List.drop_eq_nil_of_le (by omega)]; rfl
  | succ d ih =>
    intro i x k hd hk
    obtain ⟨k, rfl⟩ : ∃ m, k = m + 1 := ⟨k - 1, by omega⟩
    have hi : i < l.length := by omega
    simp only [conductorref07_Size.l0]
    rw [if_pos (by omega), if_pos (by omega), if_pos (by omega), w1 hi hl, rd_nat l i hi, List.drop_eq_getElem_cons hi, ih (i + 1) _ k (by omega) (by omega)]
    rfl
theorem rSize_ev (l : List S28) (hl : l.length ≤ 9223372036854775807) : Ev (fun k => conductorref07_Size.f k l) (l.foldl (fun x v => wrap64 (x + (v.f2.length : Int))) 0) :=
  ⟨l.length + 1, fun k hk => rSize_loop l hl l.length 0 0 k (by omega) (by omega)⟩
end Go.Proofs.Yteofdgonpbmdlaa.Pure
namespace Go.Proofs.Yteofdgonpbmdlaa.C
open Go.RowKit Go.Proofs.YteofdgonpbmdlaaW.PrintWords Go.Proofs.YteofdgonpbmdlaaW.PrintLast Go.Proofs.YteofdgonpbmdlaaW.PrintMore
attribute [local go_sem] max2_int min2_int max2_str min2_str str_leq str_gtr str_geq max_two min_two max_three min_three max_four min_four
set_option linter.unusedVariables false
set_option linter.unusedSimpArgs false
mutual
def conductorref08_Check.l0 : Nat → ByteArray → List (S102) → Int → Int → Option (Int)
 | 0, _, _, _, _ => none
 | k + 1, x3, x6, x7, x8 => if x8 < x7 then (if 0 ≤ x8 then (if x8 < (x6.length : Int) then (if (((rd_T102 x6 x8).f0).size : Int) > 256 then (conductorref08_Check.j1 k x3 x6 x7 x8 true ((rd_T102 x6 x8).f0) ((rd_T102 x6 x8).f1) ((rd_T102 x6 x8).f2)) else (conductorref08_Check.j1 k x3 x6 x7 x8 (decide ((((rd_T102 x6 x8).f2).length : Int) > 4096)) ((rd_T102 x6 x8).f0) ((rd_T102 x6 x8).f1) ((rd_T102 x6 x8).f2))) else (none)) else (none)) else (some 0)
def conductorref08_Check.j1 : Nat → ByteArray → List (S102) → Int → Int → Bool → ByteArray → Bool → List Int → Option (Int)
 | 0, _, _, _, _, _, _, _, _ => none
 | k + 1, x3, x6, x7, x8, x21, x435000, x435001, x435002 => if x21 = true then (some 3) else (if ((Op.bytesLess x3.toList x435000.toList) = true) then (if x435001 = true then (if (x435002.length : Int) > 0 then (some 1) else (conductorref08_Check.l0 k x435000 x6 x7 (wrap64 (x8 + 1)))) else (conductorref08_Check.l0 k x435000 x6 x7 (wrap64 (x8 + 1)))) else (some 1))
end
def conductorref08_Check.f (k : Nat) (l0 : List (S102)) : Option (Int) := conductorref08_Check.l0 k (⟨#[]⟩ : ByteArray) l0 (l0.length : Int) 0
theorem conductorref08_Check.mono_l : ∀ k, (∀ y0 y1 y2 y3, LeO (conductorref08_Check.l0 k y0 y1 y2 y3) (conductorref08_Check.l0 (k + 1) y0 y1 y2 y3)) ∧ (∀ y0 y1 y2 y3 y4 y5 y6 y7, LeO (conductorref08_Check.j1 k y0 y1 y2 y3 y4 y5 y6 y7) (conductorref08_Check.j1 (k + 1) y0 y1 y2 y3 y4 y5 y6 y7))
 | 0 => ⟨fun _ _ _ _ r h => by simp [conductorref08_Check.l0] at h, fun _ _ _ _ _ _ _ _ r h => by simp [conductorref08_Check.j1] at h⟩
 | k + 1 => by
  obtain ⟨ih0, ih1⟩ := conductorref08_Check.mono_l k
  refine ⟨?_, ?_⟩
  ·intro y0 y1 y2 y3
   unfold conductorref08_Check.l0
   repeat' first
   | (with_reducible exact ih0 _ _ _ _)
   | (with_reducible exact ih1 _ _ _ _ _ _ _ _)
   | (with_reducible exact LeO.refl _)
   | (with_reducible exact LeO.none _)
   | (with_reducible refine LeO.ite ?_ ?_)
   | (with_reducible refine LeO.bind ?_ (fun _ => ?_))
   | exact ih0 _ _ _ _
   | exact ih1 _ _ _ _ _ _ _ _
   | exact LeO.none _
   | refine LeO.ite ?_ ?_
   | refine LeO.bind ?_ (fun _ => ?_)
  ·intro y0 y1 y2 y3 y4 y5 y6 y7
   unfold conductorref08_Check.j1
   repeat' first
   | (with_reducible exact ih0 _ _ _ _)
   | (with_reducible exact ih1 _ _ _ _ _ _ _ _)
   | (with_reducible exact LeO.refl _)
   | (with_reducible exact LeO.none _)
   | (with_reducible refine LeO.ite ?_ ?_)
   | (with_reducible refine LeO.bind ?_ (fun _ => ?_))
   | exact ih0 _ _ _ _
   | exact ih1 _ _ _ _ _ _ _ _
   | exact LeO.none _
   | refine LeO.ite ?_ ?_
   | refine LeO.bind ?_ (fun _ => ?_)
theorem conductorref08_Check.mono : ∀ a0 k, LeO (conductorref08_Check.f k a0) (conductorref08_Check.f (k + 1) a0) := by
 intro a0 k
 obtain ⟨ih0, ih1⟩ := conductorref08_Check.mono_l k
 unfold conductorref08_Check.f
 repeat' first
   | (with_reducible exact ih0 _ _ _ _)
   | (with_reducible exact ih1 _ _ _ _ _ _ _ _)
   | (with_reducible exact LeO.refl _)
   | (with_reducible exact LeO.none _)
   | (with_reducible refine LeO.ite ?_ ?_)
   | (with_reducible refine LeO.bind ?_ (fun _ => ?_))
   | exact ih0 _ _ _ _
   | exact ih1 _ _ _ _ _ _ _ _
   | exact LeO.none _
   | refine LeO.ite ?_ ?_
   | refine LeO.bind ?_ (fun _ => ?_)
set_option maxHeartbeats 8000000 in
set_option maxRecDepth 100000 in
theorem conductorref08_Check.calls (k : Nat) (A0 : Option Addr) (c0 : Nat) (l0 : List (S102)) (r : Int) (w : World) (hr0 : Kd.C k102 w A0 l0.length l0) (hc0 : l0.length ≤ c0) (h : conductorref08_Check.f k l0 = some r) :
  Calls Try.prog 56 #[.slice A0 l0.length c0] w fun e w' => e = .returned (.int .i64 r) ∧ Below w.heap.size w w' := by
 have hu102 := Try.underlying102
 have HR0 := Aside0.mk hr0; have HC0 := Aside0.mk hc0; clear hr0 hc0
 have HB := Aside0.mk (Below.refl w.heap.size w)
 have H : (conductorref08_Check.l0 k (⟨#[]⟩ : ByteArray) l0 (l0.length : Int) 0) = some r := h
 clear h; have H' := Aside0.mk H; clear H
 go_enter Try.func56, Try.ntmps56
 go_wp2
 go_loopg [3, 8] k (fun kq v3 v8 w' => ∃ (x3_1 : ByteArray) (x8_1 : Int), v3 = .string x3_1 ∧ v8 = .int .i64 x8_1 ∧ Aside0 (conductorref08_Check.l0 kq x3_1 l0 (l0.length : Int) x8_1 = some r) ∧ Aside0 (kq ≤ k) ∧ Aside0 (Below w.heap.size w w'))
 case atStart => exact ⟨((⟨#[]⟩ : ByteArray)), (0), (by first | rfl | (simp; done) | (simp [*]; done)), (by first | rfl | (simp; done) | (simp [*]; done)), H', ⟨Nat.le_refl _⟩, ⟨bl_⟩⟩
 case round =>
  clear H'; obtain ⟨x3_1, x8_1, rfl, rfl, HA, HK1, HB⟩ := hrel
  cases gk with
  | zero => exact absurd HA.out (by simp [conductorref08_Check.l0])
  | succ k1 =>
   have H := HA.out
   clear HA
   simp only [conductorref08_Check.l0] at H
   by_cases c2 : x8_1 < (l0.length : Int)
   ·rw [if_pos c2] at H
    have c2b0 : decide (x8_1 < (l0.length : Int)) = true := decide_eq_true c2
    clear c2
    by_cases c3 : 0 ≤ x8_1
    ·rw [if_pos c3] at H
     have c3b0 : decide (0 ≤ x8_1) = true := decide_eq_true c3
     clear c3
     by_cases c4 : x8_1 < (l0.length : Int)
     ·rw [if_pos c4] at H
      have c4b0 : decide (x8_1 < (l0.length : Int)) = true := decide_eq_true c4
      clear c4; have HC5 := Aside0.mk H; clear H
      have p433 : 0 ≤ (x8_1 : Int) := od_
      have q433 : x8_1 < (l0.length : Int) := od_
      obtain ⟨ad433, A433_2, c433_2, e433, hx433_0, hx433_1, hx433_2, hl433_2, hi433_2⟩ := at_T102 HR0.out x8_1 p433 q433; cases e433
      replace hx433_0 := up_ HB.out hx433_0
      replace hx433_1 := up_ HB.out hx433_1
      replace hx433_2 := up_ HB.out hx433_2
      have HR433_2 := Aside0.mk hi433_2; have HC433_2 := Aside0.mk hl433_2; clear hi433_2 hl433_2; replace p433 := eq_true p433; replace q433 := eq_true q433
      go_upto_region 5 with (first | ((with_reducible refine gate_dst (N := 5) rfl ?_); (try (refine gate_guard (by rfl) ?_; dsimp only)); refine box_event ?hg (N := 5) ?hd (cs := #[.string (⟨#[]⟩ : ByteArray), .bool false, .slice none 0 0]) (t := 102) ?hr ?_; (case hd => rfl); (case hg => rfl); (case hr => first | (go_simp; done) | (go_simp; rfl)); intro gb434 hg w6 hbox hb; have n0_ := Aside0.mk (below_step bl_ hb); have n1_ := Aside0.mk (hbox); have n2_ := Aside0.mk (bsz_ hg : w.heap.size ≤ gb434); have n3_ := Aside0.mk (bsz_ hg : w.heap.size ≤ gb434); clear HB; have HB := n0_; have BK434 := n1_; have GW434 := n2_; have GE434 := n3_; clear n0_ n1_ n2_ n3_; clear hb hbox hg; obtain ⟨hcz7_0, hcz7_1, hcz7_2, hfz7_0, hfz7_1, hfz7_2⟩ := blk3_ BK434.out))
      (try simp only [Act.put, List.setIfInBounds_toArray, List.set_cons_zero, List.set_cons_succ])
      go_cut [21] (fun v21 wc => ∃ (kq : Nat) (x21_4 : Bool), v21 = .bool x21_4 ∧ Aside0 (conductorref08_Check.j1 kq x3_1 l0 (l0.length : Int) x8_1 x21_4 ((rd_T102 l0 x8_1).f0) ((rd_T102 l0 x8_1).f1) ((rd_T102 l0 x8_1).f2) = some r) ∧ Aside0 (kq ≤ k1) ∧ Aside0 (wc.heap[gb434]? = some (.cells #[.string ((rd_T102 l0 x8_1).f0), .bool ((rd_T102 l0 x8_1).f1), (.slice A433_2 ((rd_T102 l0 x8_1).f2).length c433_2)] 102 (0, 0))) ∧ Aside0 (Below w.heap.size w wc))
      case first =>
       have H := HC5.out
       clear HC5
       by_cases c8 : (((rd_T102 l0 x8_1).f0).size : Int) > 256
       ·rw [if_pos c8] at H
        have c8b0 : decide (256 < (((rd_T102 l0 x8_1).f0).size : Int)) = true := decide_eq_true c8
        have c8b1 : decide (256 < ((rd_T102 l0 x8_1).f0).size) = true := decide_eq_true (by omega)
        clear c8
        (first | rw [c8b0] | (simp only [i64_w, i32_w]; rw [c8b0]) | skip)
        have H' := Aside0.mk H; clear H; obtain ⟨hcz9_0, hcz9_1, hcz9_2, hfz9_0, hfz9_1, hfz9_2⟩ := blk3_ BK434.out
        go_wp2
        go_meet
        case rel => exact ⟨_, (true), (by first | rfl | (simp; done) | (simp [*]; done)), H', ⟨by have := HK1.out; first | omega | exact Nat.le_refl _⟩, ⟨by (with_reducible repeat (first | refine blk_drewN ?_ _ | refine blk_drew ?_ | refine blk_alloc ?_ _)); refine blk_put (cs := #[.string ((rd_T102 l0 x8_1).f0), .bool ((rd_T102 l0 x8_1).f1), .slice none 0 0]) ?_ 2 _ rfl; refine blk_put (cs := #[.string ((rd_T102 l0 x8_1).f0), .bool false, .slice none 0 0]) ?_ 1 _ rfl; refine blk_put (cs := #[.string (⟨#[]⟩ : ByteArray), .bool false, .slice none 0 0]) ?_ 0 _ rfl; exact BK434.out⟩, ⟨bl_⟩⟩
       ·rw [if_neg c8] at H
        have c8b0 : decide (256 < (((rd_T102 l0 x8_1).f0).size : Int)) = false := decide_eq_false c8
        have c8b1 : decide (256 < ((rd_T102 l0 x8_1).f0).size) = false := decide_eq_false (by omega)
        clear c8
        (first | rw [c8b0] | (simp only [i64_w, i32_w]; rw [c8b0]) | skip)
        have H' := Aside0.mk H; clear H; obtain ⟨hcz10_0, hcz10_1, hcz10_2, hfz10_0, hfz10_1, hfz10_2⟩ := blk3_ BK434.out
        go_wp2
        go_meet
        case rel => exact ⟨_, (decide ((((rd_T102 l0 x8_1).f2).length : Int) > 4096)), (by first | rfl | (simp; done) | (simp [*]; done)), H', ⟨by have := HK1.out; first | omega | exact Nat.le_refl _⟩, ⟨by (with_reducible repeat (first | refine blk_drewN ?_ _ | refine blk_drew ?_ | refine blk_alloc ?_ _)); refine blk_put (cs := #[.string ((rd_T102 l0 x8_1).f0), .bool ((rd_T102 l0 x8_1).f1), .slice none 0 0]) ?_ 2 _ rfl; refine blk_put (cs := #[.string ((rd_T102 l0 x8_1).f0), .bool false, .slice none 0 0]) ?_ 1 _ rfl; refine blk_put (cs := #[.string (⟨#[]⟩ : ByteArray), .bool false, .slice none 0 0]) ?_ 0 _ rfl; exact BK434.out⟩, ⟨bl_⟩⟩
      case rest =>
       clear HC5
       try clear c2
       try clear c2b0
       try clear p2
       try clear c3
       try clear c3b0
       try clear c4
       try clear c4b0
       try clear p4
       try clear q4
       try clear hx4
       try clear c5
       try clear c8
       try clear c8b0
       try clear c8b1
       try clear hcz10_0
       try clear hcz10_1
       try clear hcz10_2
       try clear hcz7_0
       try clear hcz7_1
       try clear hcz7_2
       try clear hcz9_0
       try clear hcz9_1
       try clear hcz9_2
       try clear hfz10_0
       try clear hfz10_1
       try clear hfz10_2
       try clear hfz7_0
       try clear hfz7_1
       try clear hfz7_2
       try clear hfz9_0
       try clear hfz9_1
       try clear hfz9_2
       try clear hx433_0
       try clear hx433_1
       try clear hx433_2
       try clear p433
       try clear q433
       obtain ⟨kq, x21_4, rfl, HA, HJ4, BK434, HB⟩ := hcut
       cases kq with
       | zero => exact absurd HA.out (by simp [conductorref08_Check.j1])
       | succ kj4 =>
        have H := HA.out
        clear HA
        simp only [conductorref08_Check.j1] at H
        by_cases c11 : x21_4 = true
        ·subst c11
         have H1 : (some 3) = some r := by rw [if_pos rfl] at H; exact H
         clear H; have H := H1; clear H1; obtain rfl := Option.some.inj H
         go_wp2
         go_ret
         exact ⟨by first | rfl | (simp [errW_none, errW_some] <;> rfl) | (simp [*, errW_none, errW_some] <;> rfl), bl_⟩
        ·replace c11 := Bool.eq_false_iff.mpr c11
         subst c11
         have H1 : (if ((Op.bytesLess x3_1.toList ((rd_T102 l0 x8_1).f0).toList) = true) then (if ((rd_T102 l0 x8_1).f1) = true then (if (((rd_T102 l0 x8_1).f2).length : Int) > 0 then (some 1) else (conductorref08_Check.l0 kj4 ((rd_T102 l0 x8_1).f0) l0 (l0.length : Int) (wrap64 (x8_1 + 1)))) else (conductorref08_Check.l0 kj4 ((rd_T102 l0 x8_1).f0) l0 (l0.length : Int) (wrap64 (x8_1 + 1)))) else (some 1)) = some r := by rw [if_neg (show ¬ (false = true) by decide)] at H; exact H
         clear H; have H := H1; clear H1
         by_cases c12 : ((Op.bytesLess x3_1.toList ((rd_T102 l0 x8_1).f0).toList) = true)
         ·rw [if_pos c12] at H
          have c12b0 : (Op.bytesLess x3_1.toList ((rd_T102 l0 x8_1).f0).toList) = true := c12
          clear c12
          by_cases c13 : ((rd_T102 l0 x8_1).f1) = true
          ·rw [if_pos c13] at H
           have c13b0 : ((rd_T102 l0 x8_1).f1) = true := c13
           clear c13
           by_cases c14 : (((rd_T102 l0 x8_1).f2).length : Int) > 0
           ·rw [if_pos c14] at H
            have c14b0 : decide (0 < (((rd_T102 l0 x8_1).f2).length : Int)) = true := decide_eq_true c14
            have c14b1 : decide (0 < ((rd_T102 l0 x8_1).f2).length) = true := decide_eq_true (by omega)
            clear c14; obtain rfl := Option.some.inj H; obtain ⟨hcz15_0, hcz15_1, hcz15_2, hfz15_0, hfz15_1, hfz15_2⟩ := blk3_ BK434.out
            go_wp2
            go_ret
            exact ⟨by first | rfl | (simp [errW_none, errW_some] <;> rfl) | (simp [*, errW_none, errW_some] <;> rfl), bl_⟩
           ·rw [if_neg c14] at H
            have c14b0 : decide (0 < (((rd_T102 l0 x8_1).f2).length : Int)) = false := decide_eq_false c14
            have c14b1 : decide (0 < ((rd_T102 l0 x8_1).f2).length) = false := decide_eq_false (by omega)
            clear c14; have H' := Aside0.mk H; clear H; obtain ⟨hcz16_0, hcz16_1, hcz16_2, hfz16_0, hfz16_1, hfz16_2⟩ := blk3_ BK434.out
            go_wp2
            go_roundg kj4
            case measure => have := HK1.out; have := HJ4.out; omega
            case rel => exact ⟨(((rd_T102 l0 x8_1).f0)), (wrap64 (x8_1 + 1)), (by first | rfl | (simp; done) | (simp [*]; done)), (by first | rfl | (simp; done) | (simp [*]; done)), H', ⟨by have := HK1.out; have := HJ4.out; omega⟩, ⟨bl_⟩⟩
          ·rw [if_neg c13] at H
           have c13b0 : ((rd_T102 l0 x8_1).f1) = false := by simpa using c13
           clear c13; have H' := Aside0.mk H; clear H; obtain ⟨hcz17_0, hcz17_1, hcz17_2, hfz17_0, hfz17_1, hfz17_2⟩ := blk3_ BK434.out
           go_wp2
           go_roundg kj4
           case measure => have := HK1.out; have := HJ4.out; omega
           case rel => exact ⟨(((rd_T102 l0 x8_1).f0)), (wrap64 (x8_1 + 1)), (by first | rfl | (simp; done) | (simp [*]; done)), (by first | rfl | (simp; done) | (simp [*]; done)), H', ⟨by have := HK1.out; have := HJ4.out; omega⟩, ⟨bl_⟩⟩
         ·rw [if_neg c12] at H
          have c12b0 : (Op.bytesLess x3_1.toList ((rd_T102 l0 x8_1).f0).toList) = false := by simpa using c12
          clear c12; obtain rfl := Option.some.inj H; obtain ⟨hcz18_0, hcz18_1, hcz18_2, hfz18_0, hfz18_1, hfz18_2⟩ := blk3_ BK434.out
          go_wp2
          go_ret
          exact ⟨by first | rfl | (simp [errW_none, errW_some] <;> rfl) | (simp [*, errW_none, errW_some] <;> rfl), bl_⟩
     ·rw [if_neg c4] at H
      exact absurd H (by simp)
    ·rw [if_neg c3] at H
     exact absurd H (by simp)
   ·rw [if_neg c2] at H
    have c2b0 : decide (x8_1 < (l0.length : Int)) = false := decide_eq_false c2
    clear c2; obtain rfl := Option.some.inj H
    go_wp2
    go_ret
    exact ⟨by first | rfl | (simp [errW_none, errW_some] <;> rfl) | (simp [*, errW_none, errW_some] <;> rfl), bl_⟩
def conductorref02_Same.l0 : Nat → List ByteArray → List ByteArray → Int → Int → Option (Bool)
 | 0, _, _, _, _ => none
 | k + 1, x0, x1, x12, x13 => if x13 < x12 then (if 0 ≤ x13 then (if x13 < (x0.length : Int) then (if x13 < (x1.length : Int) then (if (rdOf ByteArray.empty x0 x13).toList = (rdOf ByteArray.empty x1 x13).toList then (conductorref02_Same.l0 k x0 x1 x12 (wrap64 (x13 + 1))) else (some false)) else (none)) else (none)) else (none)) else (some true)
def conductorref02_Same.f (k : Nat) (l0 : List ByteArray) (l1 : List ByteArray) : Option (Bool) := if (l0.length : Int) = (l1.length : Int) then (conductorref02_Same.l0 k l0 l1 (l0.length : Int) 0) else (some false)
theorem conductorref02_Same.mono_l : ∀ k, (∀ y0 y1 y2 y3, LeO (conductorref02_Same.l0 k y0 y1 y2 y3) (conductorref02_Same.l0 (k + 1) y0 y1 y2 y3))
 | 0 => fun _ _ _ _ r h => by simp [conductorref02_Same.l0] at h
 | k + 1 => by
  have ih0 := conductorref02_Same.mono_l k
  ·intro y0 y1 y2 y3
   unfold conductorref02_Same.l0
   repeat' first
   | (with_reducible exact ih0 _ _ _ _)
   | (with_reducible exact LeO.refl _)
   | (with_reducible exact LeO.none _)
   | (with_reducible refine LeO.ite ?_ ?_)
   | (with_reducible refine LeO.bind ?_ (fun _ => ?_))
   | exact ih0 _ _ _ _
   | exact LeO.none _
   | refine LeO.ite ?_ ?_
   | refine LeO.bind ?_ (fun _ => ?_)
theorem conductorref02_Same.mono : ∀ a0 a1 k, LeO (conductorref02_Same.f k a0 a1) (conductorref02_Same.f (k + 1) a0 a1) := by
 intro a0 a1 k
 have ih0 := conductorref02_Same.mono_l k
 unfold conductorref02_Same.f
 repeat' first
   | (with_reducible exact ih0 _ _ _ _)
   | (with_reducible exact LeO.refl _)
   | (with_reducible exact LeO.none _)
   | (with_reducible refine LeO.ite ?_ ?_)
   | (with_reducible refine LeO.bind ?_ (fun _ => ?_))
   | exact ih0 _ _ _ _
   | exact LeO.none _
   | refine LeO.ite ?_ ?_
   | refine LeO.bind ?_ (fun _ => ?_)
set_option maxHeartbeats 8000000 in
set_option maxRecDepth 100000 in
theorem conductorref02_Same.calls (k : Nat) (A0 : Option Addr) (c0 : Nat) (l0 : List ByteArray) (A1 : Option Addr) (c1 : Nat) (l1 : List ByteArray) (r : Bool) (w : World) (hr0 : Kd.C Kd.string w A0 l0.length l0) (hc0 : l0.length ≤ c0) (hr1 : Kd.C Kd.string w A1 l1.length l1) (hc1 : l1.length ≤ c1) (h : conductorref02_Same.f k l0 l1 = some r) :
  Calls Try.prog 57 #[.slice A0 l0.length c0, .slice A1 l1.length c1] w fun e w' => e = .returned (.bool r) ∧ Drawn0 w w' := by
 have HR0 := Aside0.mk hr0; have HC0 := Aside0.mk hc0; clear hr0 hc0; have HR1 := Aside0.mk hr1; have HC1 := Aside0.mk hc1; clear hr1 hc1
 have H : (if (l0.length : Int) = (l1.length : Int) then (conductorref02_Same.l0 k l0 l1 (l0.length : Int) 0) else (some false)) = some r := h
 clear h
 by_cases c3 : (l0.length : Int) = (l1.length : Int)
 ·rw [if_pos c3] at H
  have c3b0 : ((l0.length : Int) == (l1.length : Int)) = true := beq_iff_eq.mpr c3
  have c3b1 : ((l0.length : Int) != (l1.length : Int)) = false := bne_eq_false_iff_eq.mpr c3
  have c3b2 : (l0.length == l1.length) = true := by first | simpa using c3 | (simp at c3 ⊢; omega)
  clear c3; have H' := Aside0.mk H; clear H
  go_enter Try.func57, Try.ntmps57
  go_wp2
  repeat (go_quiet (fail); try go_wp2)
  go_loopg [13] k (fun kq v13 w' => ∃ (x13_1 : Int), v13 = .int .i64 x13_1 ∧ Aside0 (conductorref02_Same.l0 kq l0 l1 (l0.length : Int) x13_1 = some r) ∧ Aside0 (kq ≤ k) ∧ Drawn0 w w')
  case atStart => exact ⟨(0), (by first | rfl | (simp; done) | (simp [*]; done)), H', ⟨Nat.le_refl _⟩, by repeat (first | exact Drawn0.refl _ | apply Drawn0.step)⟩
  case round =>
   clear H'
   try clear c1
   try clear p2
   try clear c3
   try clear c3b0
   try clear c3b1
   try clear c3b2
   obtain ⟨x13_1, rfl, HA, HK1, ⟨m1, rfl⟩⟩ := hrel
   cases gk with
   | zero => exact absurd HA.out (by simp [conductorref02_Same.l0])
   | succ k1 =>
    have H := HA.out
    clear HA
    simp only [conductorref02_Same.l0] at H
    by_cases c4 : x13_1 < (l0.length : Int)
    ·rw [if_pos c4] at H
     have c4b0 : decide (x13_1 < (l0.length : Int)) = true := decide_eq_true c4
     clear c4
     by_cases c5 : 0 ≤ x13_1
     ·rw [if_pos c5] at H
      have c5b0 : decide (0 ≤ x13_1) = true := decide_eq_true c5
      clear c5
      by_cases c6 : x13_1 < (l0.length : Int)
      ·rw [if_pos c6] at H
       have c6b0 : decide (x13_1 < (l0.length : Int)) = true := decide_eq_true c6
       clear c6
       by_cases c7 : x13_1 < (l1.length : Int)
       ·rw [if_pos c7] at H
        have c7b0 : decide (x13_1 < (l1.length : Int)) = true := decide_eq_true c7
        clear c7
        by_cases c8 : (rdOf ByteArray.empty l0 x13_1).toList = (rdOf ByteArray.empty l1 x13_1).toList
        ·rw [if_pos c8] at H
         have c8b0 : ((rdOf ByteArray.empty l0 x13_1).toList == (rdOf ByteArray.empty l1 x13_1).toList) = true := beq_iff_eq.mpr c8
         have c8b1 : ((rdOf ByteArray.empty l0 x13_1).toList != (rdOf ByteArray.empty l1 x13_1).toList) = false := bne_eq_false_iff_eq.mpr c8
         clear c8; have H' := Aside0.mk H; clear H
         have p505 : 0 ≤ (x13_1 : Int) := od_
         have q505 : x13_1 < (l0.length : Int) := od_
         obtain ⟨ad505, e505, hx505_0⟩ := Kd.at_string HR0.out x13_1 p505 q505; cases e505; replace p505 := eq_true p505; replace q505 := eq_true q505
         have p506 : 0 ≤ (x13_1 : Int) := od_
         have q506 : x13_1 < (l1.length : Int) := od_
         obtain ⟨ad506, e506, hx506_0⟩ := Kd.at_string HR1.out x13_1 p506 q506; cases e506; replace p506 := eq_true p506; replace q506 := eq_true q506
         go_wp2
         repeat (go_quiet (fail); try go_wp2)
         go_roundg k1
         case measure => have := HK1.out; omega
         case rel => exact ⟨(wrap64 (x13_1 + 1)), (by first | rfl | (simp; done) | (simp [*]; done)), H', ⟨by have := HK1.out; omega⟩, by repeat (first | exact Drawn0.refl _ | apply Drawn0.step)⟩
        ·rw [if_neg c8] at H
         have c8b0 : ((rdOf ByteArray.empty l0 x13_1).toList == (rdOf ByteArray.empty l1 x13_1).toList) = false := beq_eq_false_iff_ne.mpr c8
         have c8b1 : ((rdOf ByteArray.empty l0 x13_1).toList != (rdOf ByteArray.empty l1 x13_1).toList) = true := bne_iff_ne.mpr c8
         obtain rfl := Option.some.inj H
         have p505 : 0 ≤ (x13_1 : Int) := od_
         have q505 : x13_1 < (l0.length : Int) := od_
         obtain ⟨ad505, e505, hx505_0⟩ := Kd.at_string HR0.out x13_1 p505 q505; cases e505; replace p505 := eq_true p505; replace q505 := eq_true q505
         have p506 : 0 ≤ (x13_1 : Int) := od_
         have q506 : x13_1 < (l1.length : Int) := od_
         obtain ⟨ad506, e506, hx506_0⟩ := Kd.at_string HR1.out x13_1 p506 q506; cases e506; replace p506 := eq_true p506; replace q506 := eq_true q506
         go_wp2
         repeat (go_quiet (fail); try go_wp2)
         go_ret
         exact ⟨by first | rfl | (simp; done) | (simp [*]; done), by repeat (first | exact Drawn0.refl _ | apply Drawn0.step)⟩
       ·rw [if_neg c7] at H
        exact absurd H (by simp)
      ·rw [if_neg c6] at H
       exact absurd H (by simp)
     ·rw [if_neg c5] at H
      exact absurd H (by simp)
    ·rw [if_neg c4] at H
     have c4b0 : decide (x13_1 < (l0.length : Int)) = false := decide_eq_false c4
     clear c4; obtain rfl := Option.some.inj H
     go_wp2
     repeat (go_quiet (fail); try go_wp2)
     go_ret
     exact ⟨by first | rfl | (simp; done) | (simp [*]; done), by repeat (first | exact Drawn0.refl _ | apply Drawn0.step)⟩
 ·rw [if_neg c3] at H
  have c3b0 : ((l0.length : Int) == (l1.length : Int)) = false := beq_eq_false_iff_ne.mpr c3
  have c3b1 : ((l0.length : Int) != (l1.length : Int)) = true := bne_iff_ne.mpr c3
  have c3b2 : (l0.length == l1.length) = false := by first | simpa using c3 | (simp at c3 ⊢; omega)
  obtain rfl := Option.some.inj H
  go_enter Try.func57, Try.ntmps57
  go_wp2
  repeat (go_quiet (fail); try go_wp2)
  go_ret
  exact ⟨by first | rfl | (simp; done) | (simp [*]; done), by repeat (first | exact Drawn0.refl _ | apply Drawn0.step)⟩
end Go.Proofs.Yteofdgonpbmdlaa.C
namespace Go.Proofs.Yteofdgonpbmdlaa.C
open Go.RowKit Go.Maps Go.Proofs.YteofdgonpbmdlaaW.PrintWords Go.Proofs.YteofdgonpbmdlaaW.PrintLast Go.Proofs.YteofdgonpbmdlaaW.PrintMore
attribute [local go_sem] max2_int min2_int max_two min_two max_three min_three max_four min_four
set_option maxHeartbeats 1000000 in
theorem clone_strings (A0 : Option Addr) (c0 : Nat) (l0 : List ByteArray) (w : World) (hr0 : Kd.C Kd.string w A0 l0.length l0) (hc0 : l0.length ≤ c0) (hl : l0.length < 8796093022208) :
    Calls Try.prog 74 #[.slice A0 l0.length c0] w fun e w' => ∃ v0_ : Value, e = .returned (v0_) ∧ Kd.R Kd.string 9 w' w.heap.size (fun _ => True) v0_ l0 ∧ Below w.heap.size w w' := by
  have HL := Aside0.mk hl
  clear hl
  cases A0 with
  | none =>
    have hn : l0 = [] := by
      cases l0 with
      | nil => rfl
      | cons x t => have := hr0.2.2 (by simp); obtain ⟨ad, h1, _⟩ := this; cases h1
    subst hn
    have HR := Aside0.mk hr0
    clear hr0
    have heq := fun W => Lib.run_eql_slice_nil (P := Try.prog) W 75 9 (none : Option Addr) 0 c0 0 0 Try.underlying75
    go_enter Try.func74, Try.ntmps74
    go_wp2
    go_ret
    exact ⟨_, rfl, Kd.R_nil _ _ _ _ _, Below.refl _ _⟩
  | some ad =>
    have HR := Aside0.mk hr0
    have HC := Aside0.mk hc0
    have heq := fun W => Lib.run_eql_slice_nil (P := Try.prog) W 75 9 (some ad) l0.length c0 0 0 Try.underlying75
    clear hr0 hc0
    go_enter Try.func74, Try.ntmps74
    go_wp2_with (first
      | ((with_reducible refine gate_dst (N := 5) rfl ?_); refine Kd.R_lit Kd.string _ 9 ?hg (N := 5) ?hd (xs := ([] : List ByteArray)) (inner := []) (ok := fun _ => True) (okp := fun _ => True) ?hr ?hp (fun _ hk => hk) trivial (Below.refl w.heap.size w) (Nat.le_refl _) (by simp) ?_; (case hd => rfl); (case hg => rfl); (case hr => first | (go_simp; done) | (go_simp; rfl)); (case hp => exact Reps.none _ _); intro v1 w1 ho1 hb1 hg_ hnew_; clear hg_ hnew_; have HO1 := Aside0.mk ho1; have HB1 := Aside0.mk hb1; clear ho1 hb1)
      | ((with_reducible refine gate_builtin (b := .append) (xs := #[.tmp 5, .tmp 6]) rfl ?_); at_builtin; refine Kd.R_append_rows Kd.string (w0 := w) w.heap.size rfl (.tmp 5) (.tmp 6) 75 9 (.string ⟨#[]⟩) 16 rfl Try.underlying75 info9 rfl (by decide) (by omega) v1 [] l0 _ _ _ (fun _ => True) (fun _ => False) rfl rfl ?aO ?aR (fun _ _ h => h) (fun _ h => h.elim) ?aF ?aB ?aS ?aL ?_; (case aR => exact (Kd.C_below HR.out HB1.out)); (case aF => exact (fun _ _ => trivial)); (case aO => exact HO1.out); (case aB => exact HB1.out); (case aS => exact HB1.out.size); (case aL => have := HL.out; simp only [List.length_nil]; omega); intro v2 w2 ho2 hb2 hg_ hnew_; clear hg_ hnew_; have HO2 := Aside0.mk ho2; have HB2 := Aside0.mk hb2; clear ho2 hb2))
    go_ret
    exact ⟨_, rfl, HO2.out, HB2.out⟩
set_option maxHeartbeats 1000000 in
theorem store_Keys.calls {W : World} {base p : Nat} {B : Nat → Prop} {s : SS} {kv : Value} {mb n : Nat} {D : DataW Value} (h : Aside0 (StoreAt W base B p s kv mb n D)) (hl : Aside0 (s.keys.length < 8796093022208)) :
    Calls Try.prog 50 #[.pointer (some ⟨p, 0, none⟩)] W fun e w' => ∃ v0_ : Value, e = .returned (v0_) ∧ Kd.R Kd.string 9 w' W.heap.size (fun _ => True) v0_ s.keys ∧ Below W.heap.size W w' := by
  have h8 : W.cell? ⟨p, 8, none⟩ = some kv := (blk_cell h.out.cells 8).trans rfl
  obtain ⟨A, c, ekv, hl_, hc_⟩ := h.out.keys.row
  rw [ekv] at h8
  have HC := Aside0.mk hc_
  have HL := Aside0.mk hl_
  clear hl_ hc_ ekv
  go_enter Try.func50, Try.ntmps50
  go_wp2_with (first
    | (go_at_call 70; refine (store_is.calls h).mono ?_; rintro e w1 ⟨rfl, rfl⟩)
    | (go_at_call 74; refine (clone_strings A c s.keys _ HC.out HL.out hl.out).mono ?_; rintro e w2 ⟨v, rfl, ho, hb⟩; have HO := Aside0.mk ho; have HB := Aside0.mk hb; clear ho hb))
  go_ret
  exact ⟨_, rfl, HO.out, HB.out⟩
end Go.Proofs.Yteofdgonpbmdlaa.C
namespace Go.Proofs.Yteofdgonpbmdlaa.C
open Go.RowKit Go.Proofs.YteofdgonpbmdlaaW.PrintWords Go.Proofs.YteofdgonpbmdlaaW.PrintLast Go.Proofs.YteofdgonpbmdlaaW.PrintMore
attribute [local go_sem] max2_int min2_int max2_str min2_str str_leq str_gtr str_geq max_two min_two max_three min_three max_four min_four
set_option linter.unusedVariables false
set_option linter.unusedSimpArgs false
def conductorlaw08_Big.f  : Option (Int × Int × Int × Int × Int × Int × Int) := some (1000, 10000, 1048576, 1000, 1000, 16, 1099511627776)
set_option maxHeartbeats 8000000 in
set_option maxRecDepth 100000 in
theorem conductorlaw08_Big.calls  (r1 : Int) (r2 : Int) (r3 : Int) (r4 : Int) (r5 : Int) (r6 : Int) (r7 : Int) (w : World) (h : conductorlaw08_Big.f  = some (r1, r2, r3, r4, r5, r6, r7)) :
  Calls Try.prog 40 #[] w fun e w' => e = .returned (.agg #[.int .i64 r1, .int .i64 r2, .int .i64 r3, .int .i64 r4, .int .i64 r5, .int .i64 r6, .int .u64 r7]) ∧ Below w.heap.size w w' := by
 have hu51 := Try.underlying51
 have HB := Aside0.mk (Below.refl w.heap.size w)
 have H : (some (1000, 10000, 1048576, 1000, 1000, 16, 1099511627776)) = some (r1, r2, r3, r4, r5, r6, r7) := h
 clear h
 simp only [Option.some.injEq, Prod.mk.injEq] at H
 obtain ⟨rfl, rfl, rfl, rfl, rfl, rfl, rfl⟩ := H
 go_enter Try.func40, Try.ntmps40
 go_wp2_with (first | ((with_reducible refine gate_dst (N := 0) rfl ?_); refine box_event ?hg (N := 0) ?hd (cs := #[.int .i64 0, .int .i64 0, .int .i64 0, .int .i64 0, .int .i64 0, .int .i64 0, .int .u64 0]) (t := 51) ?hr ?_; (case hd => rfl); (case hg => rfl); (case hr => first | (go_simp; done) | (go_simp; rfl)); intro gb390 hg w1 hbox hb; have n0_ := Aside0.mk (below_step bl_ hb); have n1_ := Aside0.mk (hbox); have n2_ := Aside0.mk (bsz_ hg : w.heap.size ≤ gb390); have n3_ := Aside0.mk (bsz_ hg : w.heap.size ≤ gb390); clear HB; have HB := n0_; have BK390 := n1_; have GW390 := n2_; have GE390 := n3_; clear n0_ n1_ n2_ n3_; clear hb hbox hg; have hcz2_0 : w1.cell? ⟨gb390, 0, none⟩ = some (.int .i64 0) := (blk_cell BK390.out 0).trans rfl; have hcz2_1 : w1.cell? ⟨gb390, 1, none⟩ = some (.int .i64 0) := (blk_cell BK390.out 1).trans rfl; have hcz2_2 : w1.cell? ⟨gb390, 2, none⟩ = some (.int .i64 0) := (blk_cell BK390.out 2).trans rfl; have hcz2_3 : w1.cell? ⟨gb390, 3, none⟩ = some (.int .i64 0) := (blk_cell BK390.out 3).trans rfl; have hcz2_4 : w1.cell? ⟨gb390, 4, none⟩ = some (.int .i64 0) := (blk_cell BK390.out 4).trans rfl; have hcz2_5 : w1.cell? ⟨gb390, 5, none⟩ = some (.int .i64 0) := (blk_cell BK390.out 5).trans rfl; have hcz2_6 : w1.cell? ⟨gb390, 6, none⟩ = some (.int .u64 0) := (blk_cell BK390.out 6).trans rfl; have hfz2_0 := blk_frozen BK390.out 0; have hfz2_1 := blk_frozen BK390.out 1; have hfz2_2 := blk_frozen BK390.out 2; have hfz2_3 := blk_frozen BK390.out 3; have hfz2_4 := blk_frozen BK390.out 4; have hfz2_5 := blk_frozen BK390.out 5; have hfz2_6 := blk_frozen BK390.out 6))
 refine bodyPost_ret (results_cell_row rfl _ _ gb390 51 #[.int .i64 1000, .int .i64 10000, .int .i64 1048576, .int .i64 1000, .int .i64 1000, .int .i64 16, .int .u64 1099511627776] (0, 0) _ rfl (by (with_reducible repeat (first | refine blk_drewN ?_ _ | refine blk_drew ?_ | refine blk_alloc ?_ _)); refine blk_put (cs := #[.int .i64 1000, .int .i64 10000, .int .i64 1048576, .int .i64 1000, .int .i64 1000, .int .i64 16, .int .u64 0]) ?_ 6 _ rfl; refine blk_put (cs := #[.int .i64 1000, .int .i64 10000, .int .i64 1048576, .int .i64 1000, .int .i64 1000, .int .i64 0, .int .u64 0]) ?_ 5 _ rfl; refine blk_put (cs := #[.int .i64 1000, .int .i64 10000, .int .i64 1048576, .int .i64 1000, .int .i64 0, .int .i64 0, .int .u64 0]) ?_ 4 _ rfl; refine blk_put (cs := #[.int .i64 1000, .int .i64 10000, .int .i64 1048576, .int .i64 0, .int .i64 0, .int .i64 0, .int .u64 0]) ?_ 3 _ rfl; refine blk_put (cs := #[.int .i64 1000, .int .i64 10000, .int .i64 0, .int .i64 0, .int .i64 0, .int .i64 0, .int .u64 0]) ?_ 2 _ rfl; refine blk_put (cs := #[.int .i64 1000, .int .i64 0, .int .i64 0, .int .i64 0, .int .i64 0, .int .i64 0, .int .u64 0]) ?_ 1 _ rfl; refine blk_put (cs := #[.int .i64 0, .int .i64 0, .int .i64 0, .int .i64 0, .int .i64 0, .int .i64 0, .int .u64 0]) ?_ 0 _ rfl; exact BK390.out) Try.underlying51 rfl (by kernel_rfl)) rfl ?_
 exact ⟨by first | rfl | (simp [errW_none, errW_some] <;> rfl) | (simp [*, errW_none, errW_some] <;> rfl), bl_⟩
-- NOT PRINTED: function 70 (store_Store_is)
-- NOT PRINTED: function 72 (store_Store_chain)
-- NOT PRINTED: function 43 (store_Store_Read)
-- NOT PRINTED: function 49 (store_Store_Collect)
-- NOT PRINTED: function 74 (slices_Clone_string_string)
-- NOT PRINTED: function 50 (store_Store_Keys)
-- NOT PRINTED: function 52 (store_New)
-- NOT PRINTED: function 42 (store_Store_Scan)
-- NOT PRINTED: function 62 (store_Store_Latest)
-- NOT PRINTED: function 41 (conductorlaw08_does)
-- NOT PRINTED: function 44 (store_Store_Now)
def conductorref08_room.f (a0 : Int) : Option (Bool) := if a0 ≥ 1 then (some (decide (a0 ≤ 1048576))) else (some false)
set_option maxHeartbeats 8000000 in
set_option maxRecDepth 100000 in
theorem conductorref08_room.calls (a0 : Int) (r : Bool) (w : World) (h : conductorref08_room.f a0 = some r) :
  Calls Try.prog 73 #[.int .i64 a0] w fun e w' => e = .returned (.bool r) ∧ Drawn0 w w' := by
 have H : (if a0 ≥ 1 then (some (decide (a0 ≤ 1048576))) else (some false)) = some r := h
 clear h
 by_cases c2 : a0 ≥ 1
 ·rw [if_pos c2] at H
  have c2b0 : decide (1 ≤ a0) = true := decide_eq_true c2
  clear c2; obtain rfl := Option.some.inj H
  go_enter Try.func73, Try.ntmps73
  go_wp2
  go_ret
  exact ⟨by first | rfl | (simp; done) | (simp [*]; done), by repeat (first | exact Drawn0.refl _ | apply Drawn0.step)⟩
 ·rw [if_neg c2] at H
  have c2b0 : decide (1 ≤ a0) = false := decide_eq_false c2
  clear c2; obtain rfl := Option.some.inj H
  go_enter Try.func73, Try.ntmps73
  go_wp2
  go_ret
  exact ⟨by first | rfl | (simp; done) | (simp [*]; done), by repeat (first | exact Drawn0.refl _ | apply Drawn0.step)⟩
def conductorref08_May.f (a0_0 : Int) (a0_1 : Int) (a0_2 : Int) (a0_3 : Int) (a0_4 : Int) (a0_5 : Int) (a0_6 : Int) : Option (Bool) := (conductorref08_room.f a0_0).bind fun t422 => (if t422 = true then ((conductorref08_room.f a0_1).bind fun t423 => (if t423 = true then ((conductorref08_room.f a0_2).bind fun t424 => (if t424 = true then (some (decide (a0_6 ≥ 1))) else (some false))) else (some false))) else (some false))
set_option maxHeartbeats 8000000 in
set_option maxRecDepth 100000 in
theorem conductorref08_May.calls (a0_0 : Int) (a0_1 : Int) (a0_2 : Int) (a0_3 : Int) (a0_4 : Int) (a0_5 : Int) (a0_6 : Int) (r : Bool) (w : World) (h : conductorref08_May.f a0_0 a0_1 a0_2 a0_3 a0_4 a0_5 a0_6 = some r) :
  Calls Try.prog 46 #[.agg #[.int .i64 a0_0, .int .i64 a0_1, .int .i64 a0_2, .int .i64 a0_3, .int .i64 a0_4, .int .i64 a0_5, .int .u64 a0_6]] w fun e w' => e = .returned (.bool r) ∧ Below w.heap.size w w' := by
 have hu51 := Try.underlying51
 have HB := Aside0.mk (Below.refl w.heap.size w)
 have H : ((conductorref08_room.f a0_0).bind fun t422 => (if t422 = true then ((conductorref08_room.f a0_1).bind fun t423 => (if t423 = true then ((conductorref08_room.f a0_2).bind fun t424 => (if t424 = true then (some (decide (a0_6 ≥ 1))) else (some false))) else (some false))) else (some false))) = some r := h
 clear h; replace H := Option.bind_eq_some_iff.mp H; obtain ⟨t422, A20, H⟩ := H
 replace H : (if t422 = true then ((conductorref08_room.f a0_1).bind fun t423 => (if t423 = true then ((conductorref08_room.f a0_2).bind fun t424 => (if t424 = true then (some (decide (a0_6 ≥ 1))) else (some false))) else (some false))) else (some false)) = some r := H
 have A2 := Aside0.mk A20; clear A20
 by_cases c3 : t422 = true
 ·subst c3
  have H1 : ((conductorref08_room.f a0_1).bind fun t423 => (if t423 = true then ((conductorref08_room.f a0_2).bind fun t424 => (if t424 = true then (some (decide (a0_6 ≥ 1))) else (some false))) else (some false))) = some r := by rw [if_pos rfl] at H; exact H
  clear H; have H := H1; clear H1; replace H := Option.bind_eq_some_iff.mp H; obtain ⟨t423, A40, H⟩ := H
  replace H : (if t423 = true then ((conductorref08_room.f a0_2).bind fun t424 => (if t424 = true then (some (decide (a0_6 ≥ 1))) else (some false))) else (some false)) = some r := H
  have A4 := Aside0.mk A40; clear A40
  by_cases c5 : t423 = true
  ·subst c5
   have H1 : ((conductorref08_room.f a0_2).bind fun t424 => (if t424 = true then (some (decide (a0_6 ≥ 1))) else (some false))) = some r := by rw [if_pos rfl] at H; exact H
   clear H; have H := H1; clear H1; replace H := Option.bind_eq_some_iff.mp H; obtain ⟨t424, A60, H⟩ := H
   replace H : (if t424 = true then (some (decide (a0_6 ≥ 1))) else (some false)) = some r := H
   have A6 := Aside0.mk A60; clear A60
   by_cases c7 : t424 = true
   ·subst c7
    have H1 : (some (decide (a0_6 ≥ 1))) = some r := by rw [if_pos rfl] at H; exact H
    clear H; have H := H1; clear H1; obtain rfl := Option.some.inj H
    go_enter Try.func46, Try.ntmps46
    go_wp2_with (first | ((with_reducible refine gate_dst (N := 1) rfl ?_); refine box_event ?hg (N := 1) ?hd (cs := #[.int .i64 a0_0, .int .i64 a0_1, .int .i64 a0_2, .int .i64 a0_3, .int .i64 a0_4, .int .i64 a0_5, .int .u64 a0_6]) (t := 51) ?hr ?_; (case hd => rfl); (case hg => rfl); (case hr => first | (go_simp; done) | (go_simp; rfl)); intro gb421 hg w8 hbox hb; have n0_ := Aside0.mk (below_step bl_ hb); have n1_ := Aside0.mk (hbox); have n2_ := Aside0.mk (bsz_ hg : w.heap.size ≤ gb421); have n3_ := Aside0.mk (bsz_ hg : w.heap.size ≤ gb421); clear HB; have HB := n0_; have BK421 := n1_; have GW421 := n2_; have GE421 := n3_; clear n0_ n1_ n2_ n3_; clear hb hbox hg; have hcz9_0 : w8.cell? ⟨gb421, 0, none⟩ = some (.int .i64 a0_0) := (blk_cell BK421.out 0).trans rfl; have hcz9_1 : w8.cell? ⟨gb421, 1, none⟩ = some (.int .i64 a0_1) := (blk_cell BK421.out 1).trans rfl; have hcz9_2 : w8.cell? ⟨gb421, 2, none⟩ = some (.int .i64 a0_2) := (blk_cell BK421.out 2).trans rfl; have hcz9_3 : w8.cell? ⟨gb421, 3, none⟩ = some (.int .i64 a0_3) := (blk_cell BK421.out 3).trans rfl; have hcz9_4 : w8.cell? ⟨gb421, 4, none⟩ = some (.int .i64 a0_4) := (blk_cell BK421.out 4).trans rfl; have hcz9_5 : w8.cell? ⟨gb421, 5, none⟩ = some (.int .i64 a0_5) := (blk_cell BK421.out 5).trans rfl; have hcz9_6 : w8.cell? ⟨gb421, 6, none⟩ = some (.int .u64 a0_6) := (blk_cell BK421.out 6).trans rfl; have hfz9_0 := blk_frozen BK421.out 0; have hfz9_1 := blk_frozen BK421.out 1; have hfz9_2 := blk_frozen BK421.out 2; have hfz9_3 := blk_frozen BK421.out 3; have hfz9_4 := blk_frozen BK421.out 4; have hfz9_5 := blk_frozen BK421.out 5; have hfz9_6 := blk_frozen BK421.out 6) | ((with_reducible refine gate_callee (f := 73) rfl ?_); refine goesL_ (some 5) rfl rfl Try.func73 (by kernel_rfl) rfl #[.int .i64 a0_0] rfl sa_ ?_; (with_reducible refine (conductorref08_room.calls a0_0 true _ A2.out).mono ?_); rintro e w' ⟨rfl, ⟨nd, rfl⟩⟩; refine ⟨_, rfl, ?_⟩) | (go_at_call 73; (with_reducible refine (conductorref08_room.calls a0_1 true _ A4.out).mono ?_); rintro e w' ⟨rfl, ⟨nd, rfl⟩⟩) | (go_at_call 73; (with_reducible refine (conductorref08_room.calls a0_2 true _ A6.out).mono ?_); rintro e w' ⟨rfl, ⟨nd, rfl⟩⟩))
    go_ret
    exact ⟨by first | rfl | (simp [errW_none, errW_some] <;> rfl) | (simp [*, errW_none, errW_some] <;> rfl), bl_⟩
   ·replace c7 := Bool.eq_false_iff.mpr c7
    subst c7
    have H1 : (some false) = some r := by rw [if_neg (show ¬ (false = true) by decide)] at H; exact H
    clear H; have H := H1; clear H1; obtain rfl := Option.some.inj H
    go_enter Try.func46, Try.ntmps46
    go_wp2_with (first | ((with_reducible refine gate_dst (N := 1) rfl ?_); refine box_event ?hg (N := 1) ?hd (cs := #[.int .i64 a0_0, .int .i64 a0_1, .int .i64 a0_2, .int .i64 a0_3, .int .i64 a0_4, .int .i64 a0_5, .int .u64 a0_6]) (t := 51) ?hr ?_; (case hd => rfl); (case hg => rfl); (case hr => first | (go_simp; done) | (go_simp; rfl)); intro gb421 hg w10 hbox hb; have n0_ := Aside0.mk (below_step bl_ hb); have n1_ := Aside0.mk (hbox); have n2_ := Aside0.mk (bsz_ hg : w.heap.size ≤ gb421); have n3_ := Aside0.mk (bsz_ hg : w.heap.size ≤ gb421); clear HB; have HB := n0_; have BK421 := n1_; have GW421 := n2_; have GE421 := n3_; clear n0_ n1_ n2_ n3_; clear hb hbox hg; have hcz11_0 : w10.cell? ⟨gb421, 0, none⟩ = some (.int .i64 a0_0) := (blk_cell BK421.out 0).trans rfl; have hcz11_1 : w10.cell? ⟨gb421, 1, none⟩ = some (.int .i64 a0_1) := (blk_cell BK421.out 1).trans rfl; have hcz11_2 : w10.cell? ⟨gb421, 2, none⟩ = some (.int .i64 a0_2) := (blk_cell BK421.out 2).trans rfl; have hcz11_3 : w10.cell? ⟨gb421, 3, none⟩ = some (.int .i64 a0_3) := (blk_cell BK421.out 3).trans rfl; have hcz11_4 : w10.cell? ⟨gb421, 4, none⟩ = some (.int .i64 a0_4) := (blk_cell BK421.out 4).trans rfl; have hcz11_5 : w10.cell? ⟨gb421, 5, none⟩ = some (.int .i64 a0_5) := (blk_cell BK421.out 5).trans rfl; have hcz11_6 : w10.cell? ⟨gb421, 6, none⟩ = some (.int .u64 a0_6) := (blk_cell BK421.out 6).trans rfl; have hfz11_0 := blk_frozen BK421.out 0; have hfz11_1 := blk_frozen BK421.out 1; have hfz11_2 := blk_frozen BK421.out 2; have hfz11_3 := blk_frozen BK421.out 3; have hfz11_4 := blk_frozen BK421.out 4; have hfz11_5 := blk_frozen BK421.out 5; have hfz11_6 := blk_frozen BK421.out 6) | ((with_reducible refine gate_callee (f := 73) rfl ?_); refine goesL_ (some 5) rfl rfl Try.func73 (by kernel_rfl) rfl #[.int .i64 a0_0] rfl sa_ ?_; (with_reducible refine (conductorref08_room.calls a0_0 true _ A2.out).mono ?_); rintro e w' ⟨rfl, ⟨nd, rfl⟩⟩; refine ⟨_, rfl, ?_⟩) | (go_at_call 73; (with_reducible refine (conductorref08_room.calls a0_1 true _ A4.out).mono ?_); rintro e w' ⟨rfl, ⟨nd, rfl⟩⟩) | (go_at_call 73; (with_reducible refine (conductorref08_room.calls a0_2 false _ A6.out).mono ?_); rintro e w' ⟨rfl, ⟨nd, rfl⟩⟩))
    go_ret
    exact ⟨by first | rfl | (simp [errW_none, errW_some] <;> rfl) | (simp [*, errW_none, errW_some] <;> rfl), bl_⟩
  ·replace c5 := Bool.eq_false_iff.mpr c5
   subst c5
   have H1 : (some false) = some r := by rw [if_neg (show ¬ (false = true) by decide)] at H; exact H
   clear H; have H := H1; clear H1; obtain rfl := Option.some.inj H
   go_enter Try.func46, Try.ntmps46
   go_wp2_with (first | ((with_reducible refine gate_dst (N := 1) rfl ?_); refine box_event ?hg (N := 1) ?hd (cs := #[.int .i64 a0_0, .int .i64 a0_1, .int .i64 a0_2, .int .i64 a0_3, .int .i64 a0_4, .int .i64 a0_5, .int .u64 a0_6]) (t := 51) ?hr ?_; (case hd => rfl); (case hg => rfl); (case hr => first | (go_simp; done) | (go_simp; rfl)); intro gb421 hg w12 hbox hb; have n0_ := Aside0.mk (below_step bl_ hb); have n1_ := Aside0.mk (hbox); have n2_ := Aside0.mk (bsz_ hg : w.heap.size ≤ gb421); have n3_ := Aside0.mk (bsz_ hg : w.heap.size ≤ gb421); clear HB; have HB := n0_; have BK421 := n1_; have GW421 := n2_; have GE421 := n3_; clear n0_ n1_ n2_ n3_; clear hb hbox hg; have hcz13_0 : w12.cell? ⟨gb421, 0, none⟩ = some (.int .i64 a0_0) := (blk_cell BK421.out 0).trans rfl; have hcz13_1 : w12.cell? ⟨gb421, 1, none⟩ = some (.int .i64 a0_1) := (blk_cell BK421.out 1).trans rfl; have hcz13_2 : w12.cell? ⟨gb421, 2, none⟩ = some (.int .i64 a0_2) := (blk_cell BK421.out 2).trans rfl; have hcz13_3 : w12.cell? ⟨gb421, 3, none⟩ = some (.int .i64 a0_3) := (blk_cell BK421.out 3).trans rfl; have hcz13_4 : w12.cell? ⟨gb421, 4, none⟩ = some (.int .i64 a0_4) := (blk_cell BK421.out 4).trans rfl; have hcz13_5 : w12.cell? ⟨gb421, 5, none⟩ = some (.int .i64 a0_5) := (blk_cell BK421.out 5).trans rfl; have hcz13_6 : w12.cell? ⟨gb421, 6, none⟩ = some (.int .u64 a0_6) := (blk_cell BK421.out 6).trans rfl; have hfz13_0 := blk_frozen BK421.out 0; have hfz13_1 := blk_frozen BK421.out 1; have hfz13_2 := blk_frozen BK421.out 2; have hfz13_3 := blk_frozen BK421.out 3; have hfz13_4 := blk_frozen BK421.out 4; have hfz13_5 := blk_frozen BK421.out 5; have hfz13_6 := blk_frozen BK421.out 6) | ((with_reducible refine gate_callee (f := 73) rfl ?_); refine goesL_ (some 5) rfl rfl Try.func73 (by kernel_rfl) rfl #[.int .i64 a0_0] rfl sa_ ?_; (with_reducible refine (conductorref08_room.calls a0_0 true _ A2.out).mono ?_); rintro e w' ⟨rfl, ⟨nd, rfl⟩⟩; refine ⟨_, rfl, ?_⟩) | (go_at_call 73; (with_reducible refine (conductorref08_room.calls a0_1 false _ A4.out).mono ?_); rintro e w' ⟨rfl, ⟨nd, rfl⟩⟩))
   go_ret
   exact ⟨by first | rfl | (simp [errW_none, errW_some] <;> rfl) | (simp [*, errW_none, errW_some] <;> rfl), bl_⟩
 ·replace c3 := Bool.eq_false_iff.mpr c3
  subst c3
  have H1 : (some false) = some r := by rw [if_neg (show ¬ (false = true) by decide)] at H; exact H
  clear H; have H := H1; clear H1; obtain rfl := Option.some.inj H
  go_enter Try.func46, Try.ntmps46
  go_wp2_with (first | ((with_reducible refine gate_dst (N := 1) rfl ?_); refine box_event ?hg (N := 1) ?hd (cs := #[.int .i64 a0_0, .int .i64 a0_1, .int .i64 a0_2, .int .i64 a0_3, .int .i64 a0_4, .int .i64 a0_5, .int .u64 a0_6]) (t := 51) ?hr ?_; (case hd => rfl); (case hg => rfl); (case hr => first | (go_simp; done) | (go_simp; rfl)); intro gb421 hg w14 hbox hb; have n0_ := Aside0.mk (below_step bl_ hb); have n1_ := Aside0.mk (hbox); have n2_ := Aside0.mk (bsz_ hg : w.heap.size ≤ gb421); have n3_ := Aside0.mk (bsz_ hg : w.heap.size ≤ gb421); clear HB; have HB := n0_; have BK421 := n1_; have GW421 := n2_; have GE421 := n3_; clear n0_ n1_ n2_ n3_; clear hb hbox hg; have hcz15_0 : w14.cell? ⟨gb421, 0, none⟩ = some (.int .i64 a0_0) := (blk_cell BK421.out 0).trans rfl; have hcz15_1 : w14.cell? ⟨gb421, 1, none⟩ = some (.int .i64 a0_1) := (blk_cell BK421.out 1).trans rfl; have hcz15_2 : w14.cell? ⟨gb421, 2, none⟩ = some (.int .i64 a0_2) := (blk_cell BK421.out 2).trans rfl; have hcz15_3 : w14.cell? ⟨gb421, 3, none⟩ = some (.int .i64 a0_3) := (blk_cell BK421.out 3).trans rfl; have hcz15_4 : w14.cell? ⟨gb421, 4, none⟩ = some (.int .i64 a0_4) := (blk_cell BK421.out 4).trans rfl; have hcz15_5 : w14.cell? ⟨gb421, 5, none⟩ = some (.int .i64 a0_5) := (blk_cell BK421.out 5).trans rfl; have hcz15_6 : w14.cell? ⟨gb421, 6, none⟩ = some (.int .u64 a0_6) := (blk_cell BK421.out 6).trans rfl; have hfz15_0 := blk_frozen BK421.out 0; have hfz15_1 := blk_frozen BK421.out 1; have hfz15_2 := blk_frozen BK421.out 2; have hfz15_3 := blk_frozen BK421.out 3; have hfz15_4 := blk_frozen BK421.out 4; have hfz15_5 := blk_frozen BK421.out 5; have hfz15_6 := blk_frozen BK421.out 6) | ((with_reducible refine gate_callee (f := 73) rfl ?_); refine goesL_ (some 5) rfl rfl Try.func73 (by kernel_rfl) rfl #[.int .i64 a0_0] rfl sa_ ?_; (with_reducible refine (conductorref08_room.calls a0_0 false _ A2.out).mono ?_); rintro e w' ⟨rfl, ⟨nd, rfl⟩⟩; refine ⟨_, rfl, ?_⟩))
  go_ret
  exact ⟨by first | rfl | (simp [errW_none, errW_some] <;> rfl) | (simp [*, errW_none, errW_some] <;> rfl), bl_⟩
end Go.Proofs.Yteofdgonpbmdlaa.C
namespace Go.Proofs.Yteofdgonpbmdlaa.St
open Go.RowKit Go.Maps Go.Proofs.YteofdgonpbmdlaaW.PrintWords Go.Proofs.YteofdgonpbmdlaaW.PrintLast Go.Proofs.YteofdgonpbmdlaaW.PrintMore Go.Proofs.Yteofdgonpbmdlaa.C Go.Proofs.Yteofdgonpbmdlaa.Pure
attribute [local go_sem] max2_int min2_int max2_str min2_str str_leq str_gtr str_geq max_two min_two max_three min_three max_four min_four
theorem good_new (l0 l1 l2 l3 l4 l5 last : Int) (h1 : 0 ≤ last) (h2 : last ≤ 18446744073709551615) : Good 0 (noStore l0 l1 l2 l3 l4 l5 last) where
  rg := fun _ => rfl
  ln := fun _ => Nat.le_refl _
  dl := fun _ v hv => by cases hv
  tm := fun _ v hv => by cases hv
  so := List.Pairwise.nil
  me := fun key => by simp [noStore]
  ks := fun key hk => by cases hk
  kn := Nat.le_refl _
  n0 := Int.le_refl _
  n1 := h1
  la := h2
section
variable {W : World} {base p : Nat} {B : Nat → Prop} {s : SS} {kv : Value} {mb n : Nat} {D : DataW Value}
theorem commit_P (h : Aside0 (StoreAt W base B p s kv mb n D)) {m : Nat} (g : Aside0 (Good m s)) (hm : Aside0 (m ≤ 800)) (l : List S102) (hl : Aside0 (l.length ≤ 20)) (hk : Aside0 (∀ x ∈ l, x.f0.size ≤ maxLen)) (low : Int) (okA : Nat → Prop) (hokA : Aside0 (∀ k, okA k → k < W.heap.size ∧ ¬ Own p mb kv k)) (A : Option Addr) (c0 : Nat) (hF : Aside0 (Kd.F k102 W okA A l.length l)) (hlc : Aside0 (l.length ≤ c0)) (hn : Aside0 (n + 20000 < maxLen)) :
    Calls Try.prog 61 #[.pointer (some ⟨p, 0, none⟩), .slice A l.length c0, .int .u64 low] W (ComPost W base B p kv mb n (comP s l low) 20000) := by
  refine (commit_calls h okA hokA A c0 l hF hlc low _ _ _ _ ⟨g.out.ask hm.out hl.out hk.out low⟩ ⟨by have := g.out.kn; have := hm.out; have := hl.out; have := hn.out; omega⟩).mono ?_
  rintro e w' ⟨h1, kv', n', D', h2, h3, h4⟩
  exact ⟨h1, kv', n', D', h2, by have := g.out.kn; have := hm.out; have := hl.out; omega, h4⟩
theorem collect_P (h : Aside0 (StoreAt W base B p s kv mb n D)) {m : Nat} (g : Aside0 (Good m s)) (hm : Aside0 (m ≤ 800)) (low : Int) (hn : Aside0 (n + 20000 < maxLen)) :
    Calls Try.prog 49 #[.pointer (some ⟨p, 0, none⟩), .int .u64 low] W fun e w' => e = .returned (.int .i64 (wentP s low)) ∧ ∃ kv' n' D', StoreAt w' base B p (colP s low) kv' mb n' D' ∧ n' ≤ n + 20000 ∧ Turn base (Own p mb kv) W w' ∧ (∀ k, kv'.ownBlock = some k → kv.ownBlock = some k ∨ W.heap.size ≤ k) := by
  have hkn := g.out.kn
  have hm' := hm.out
  have hn' := hn.out
  refine (store_Collect.calls h low (tfP s low) (zfP s low) ⟨by omega⟩ ⟨fun key hk => size256 (g.out.ks key hk)⟩ ⟨g.out.so.nodup⟩ ⟨fun key _ => g.out.trim hm.out key low⟩ ⟨fun key _ => g.out.size hm.out key low⟩ ⟨by omega⟩).mono ?_
  rintro e w' ⟨rfl, kv', n', D', h1, h2, h3, h4⟩
  exact ⟨rfl, kv', n', D', h1, by omega, h3.mono (fun k hk => hk.elim .inl (fun e => .inr (.inl e))), h4⟩
theorem read_P (h : Aside0 (StoreAt W base B p s kv mb n D)) {m : Nat} (g : Aside0 (Good m s)) (hm : Aside0 (m ≤ 800)) (key : ByteArray) (hk : Aside0 (key.size ≤ maxLen)) (a : Int) :
    Calls Try.prog 43 #[.pointer (some ⟨p, 0, none⟩), .string key, .int .u64 a] W fun e w' => (∃ A c, e = .returned (.tuple #[.slice A (getF (s.ch key) a).1.length c, .bool (getF (s.ch key) a).2]) ∧ (getF (s.ch key) a).1.length ≤ c ∧ Kd.F (Kd.int .u8) w' (fun k => W.heap.size ≤ k) A (getF (s.ch key) a).1.length (getF (s.ch key) a).1) ∧ Below W.heap.size W w' := by
  refine (store_Read.calls h key hk a _ _ ⟨g.out.get hm.out key a⟩).mono ?_
  rintro e w' ⟨v, rfl, ho, hb⟩
  obtain ⟨A, c, rfl⟩ := Kd.R_slice ho
  exact ⟨⟨A, c, rfl, (Kd.R_reads' ho).2.1, Kd.R_F (Kd.R_mono (Kd.R_bound ho) (fun k hk_ => hk_.2.1))⟩, hb⟩
end
def sBig : SS := noStore 1000 10000 1048576 1000 1000 16 1099511627776
def kA : ByteArray := ⟨#[97]⟩
def wA : List S102 := [⟨kA, false, [120]⟩]
def wB : List S102 := [⟨kA, true, []⟩]
def sA : SS := (comP sBig wA 0).2.2
def sB : SS := (comP sA wB 0).2.2
theorem big_good : Good 0 sBig := good_new _ _ _ _ _ _ _ (by decide) (by decide)
theorem exA : (comP sBig wA 0).1 = 1 ∧ (comP sBig wA 0).2.1 = 0 := by decide +kernel
theorem exB : (comP sA wB 0).1 = 2 ∧ (comP sA wB 0).2.1 = 0 := by decide +kernel
theorem exR1 : getF (sB.ch kA) 1 = ([120], true) := by decide +kernel
theorem exR2 : getF (sB.ch kA) 2 = ([], false) := by decide +kernel
theorem exC : wentP sB 2 = 2 := by decide +kernel
theorem exK : (colP sB 2).keys = [] := by decide +kernel
theorem sA_good : Good 1 sA := big_good.com (by decide) 0
theorem sB_good : Good 2 sB := sA_good.com (by decide) 0
theorem big_f : conductorlaw08_Big.f = some (1000, 10000, 1048576, 1000, 1000, 16, 1099511627776) := by kernel_rfl
theorem conv_x (w : World) : ∃ g cap w1, (convert 9 26 (.string ⟨#[120]⟩)).run Try.prog w = .ok (.slice (some ⟨g, 0, none⟩) 1 cap) w1 ∧ 1 ≤ cap ∧ w.heap.size ≤ g ∧ Below w.heap.size w w1 ∧ Kd.F (Kd.int .u8) w1 (fun k => k = g) (some ⟨g, 0, none⟩) 1 [120] := by
  have hr := run_bytes_of_string (P := Try.prog) w 9 26 5 ⟨#[120]⟩ Try.underlying9 Try.underlying26 Try.underlying5
  refine ⟨_, _, _, hr, grownCap_ge w 1 0 5, Nat.le_refl _, ((Below.refl _ w).drew).alloc (Nat.le_refl _) _, fun W' hW => ⟨rfl, by decide, fun _ => ⟨_, rfl, fun j q hj => ?_⟩⟩⟩
  have hb := hW w.heap.size rfl (by simp)
  have hn := heap_alloc_new w.drew (.cells (bytesRow ⟨#[120]⟩ (grownCap w 1 0 5)) 5 ((bytesRow ⟨#[120]⟩ (grownCap w 1 0 5)).size, (bytesRow ⟨#[120]⟩ (grownCap w 1 0 5)).size + 1))
  cases j with
  | succ j => simp at hj
  | zero =>
    simp only [List.getElem?_cons_zero, Option.some.injEq] at hj
    subst hj
    refine ⟨[.int .u8 120], rfl, rfl, fun i u hi => ?_⟩
    cases i with
    | succ i => simp at hi
    | zero =>
      simp only [List.getElem?_cons_zero, Option.some.injEq] at hi
      subst hi
      have := cell_of_row W' w.heap.size 0 _ _ _ (hb.trans hn)
      simp only [Nat.zero_mul, Nat.add_zero]
      rw [show (Addr.add ⟨w.heap.size, 0, none⟩ 0) = ⟨w.heap.size, 0, none⟩ from by simp [Addr.add]]
      rw [this]
      simp only [bytesRow]
      rw [Array.getElem?_append_left (by simp)]
      simp
set_option maxRecDepth 100000 in
set_option maxHeartbeats 4000000 in
theorem put_ax (w : World) : Calls Try.prog 68 #[.string ⟨#[97]⟩, .string ⟨#[120]⟩] w fun e w' => (∃ A c, e = .returned (.slice A wA.length c) ∧ wA.length ≤ c ∧ Kd.F k102 w' (fun k => w.heap.size ≤ k) A wA.length wA) ∧ Below w.heap.size w w' := by
  obtain ⟨g, cap, w1, hrun, hc, hg, hb, hF⟩ := conv_x w
  have HB := Aside0.mk hb
  have HF := Aside0.mk hF
  have HG := Aside0.mk hg
  have HC := Aside0.mk hc
  clear hb hF hg hc
  go_enter Try.func68, Try.ntmps68
  go_wp2_with ((with_reducible refine gate_dst (N := 9) rfl ?_); refine Kd.N_lit k102 (w0 := w) w.heap.size 102 ?hg (N' := 9) ?hd (xs := wA) (inner := [.string ⟨#[97]⟩, .bool false, .slice (some ⟨g, 0, none⟩) 1 cap]) (ok := fun k => w.heap.size ≤ k) (okp := fun k => w.heap.size ≤ k) ?hr ?hp (fun _ hk => hk) HB.out.size HB.out HB.out.size (by decide) ?_; (case hd => rfl); (case hg => rfl); (case hr => first | (go_simp; done) | (go_simp; rfl)); (case hp => exact (Reps.c3 (show Kd.FK k102 _ _ (⟨kA, false, [120]⟩ : S102) [.string ⟨#[97]⟩, .bool false, .slice (some ⟨g, 0, none⟩) 1 cap] from k102_mkF _ _ (⟨kA, false, [120]⟩ : S102) HC.out (Kd.F_mono HF.out (fun k hk => by rw [hk]; exact HG.out))) (Reps.none _ _))); intro v2 w2 ho hb2 hg2 hat2; obtain ⟨A, c, ev⟩ := Kd.N_slice ho; subst ev; have HO := Aside0.mk (Kd.N_F ho); have HL := Aside0.mk (Kd.N_reads' ho).2.1; have HB2 := Aside0.mk hb2; clear ho hb2 hg2 hat2)
  go_ret
  exact ⟨⟨A, c, rfl, HL.out, HO.out⟩, HB2.out⟩
theorem new_big (w : World) : Calls Try.prog 52 #[.agg #[.int .i64 1000, .int .i64 10000, .int .i64 1048576, .int .i64 1000, .int .i64 1000, .int .i64 16, .int .u64 1099511627776]] w fun e w' => (∃ p mb : Nat, e = .returned (.tuple #[.pointer (some ⟨p, 0, none⟩), .int .i64 0]) ∧ StoreAt w' w.heap.size (fun k => w.heap.size ≤ k) p sBig noCh mb 0 (.map [])) ∧ Below w.heap.size w w' :=
  store_New.good 1000 10000 1048576 1000 1000 16 1099511627776 w ⟨by decide, by decide⟩ ⟨by decide, by decide⟩ ⟨by decide, by decide⟩ (by decide)
theorem commit_ax {W : World} {base p : Nat} {B : Nat → Prop} {kv : Value} {mb n : Nat} {D : DataW Value} (h : Aside0 (StoreAt W base B p sBig kv mb n D)) (okA : Nat → Prop) (hokA : Aside0 (∀ k, okA k → k < W.heap.size ∧ ¬ Own p mb kv k)) (A : Option Addr) (c0 : Nat) (hF : Aside0 (Kd.F k102 W okA A wA.length wA)) (hlc : Aside0 (wA.length ≤ c0)) (hn : Aside0 (n ≤ 100)) :
    Calls Try.prog 61 #[.pointer (some ⟨p, 0, none⟩), .slice A wA.length c0, .int .u64 0] W fun e w' => e = .returned (.tuple #[.int .u64 1, .int .i64 0]) ∧ ∃ kv' n' D', StoreAt w' base B p sA kv' mb n' D' ∧ n' ≤ n + 20000 ∧ Turn base (Own p mb kv) W w' ∧ (∀ k, kv'.ownBlock = some k → kv.ownBlock = some k ∨ W.heap.size ≤ k) := by
  refine (commit_P h ⟨big_good⟩ ⟨by decide⟩ wA ⟨by decide⟩ ⟨fun x hx => by rw [List.mem_singleton.1 hx]; decide⟩ 0 okA hokA A c0 hF hlc ⟨by have := hn.out; simp only [maxLen]; omega⟩).mono ?_
  rintro e w' ⟨rfl, rest⟩
  exact ⟨by rw [exA.1, exA.2], rest⟩
theorem commit_bx {W : World} {base p : Nat} {B : Nat → Prop} {kv : Value} {mb n : Nat} {D : DataW Value} (h : Aside0 (StoreAt W base B p sA kv mb n D)) (okA : Nat → Prop) (hokA : Aside0 (∀ k, okA k → k < W.heap.size ∧ ¬ Own p mb kv k)) (A : Option Addr) (c0 : Nat) (hF : Aside0 (Kd.F k102 W okA A wB.length wB)) (hlc : Aside0 (wB.length ≤ c0)) (hn : Aside0 (n ≤ 100000)) :
    Calls Try.prog 61 #[.pointer (some ⟨p, 0, none⟩), .slice A wB.length c0, .int .u64 0] W fun e w' => e = .returned (.tuple #[.int .u64 2, .int .i64 0]) ∧ ∃ kv' n' D', StoreAt w' base B p sB kv' mb n' D' ∧ n' ≤ n + 20000 ∧ Turn base (Own p mb kv) W w' ∧ (∀ k, kv'.ownBlock = some k → kv.ownBlock = some k ∨ W.heap.size ≤ k) := by
  refine (commit_P h ⟨sA_good⟩ ⟨by decide⟩ wB ⟨by decide⟩ ⟨fun x hx => by rw [List.mem_singleton.1 hx]; decide⟩ 0 okA hokA A c0 hF hlc ⟨by have := hn.out; simp only [maxLen]; omega⟩).mono ?_
  rintro e w' ⟨rfl, rest⟩
  exact ⟨by rw [exB.1, exB.2], rest⟩
theorem read_1 {W : World} {base p : Nat} {B : Nat → Prop} {kv : Value} {mb n : Nat} {D : DataW Value} (h : Aside0 (StoreAt W base B p sB kv mb n D)) :
    Calls Try.prog 43 #[.pointer (some ⟨p, 0, none⟩), .string ⟨#[97]⟩, .int .u64 1] W fun e w' => (∃ A c, e = .returned (.tuple #[.slice A 1 c, .bool true]) ∧ 1 ≤ c ∧ Kd.F (Kd.int .u8) w' (fun k => W.heap.size ≤ k) A 1 [120]) ∧ Below W.heap.size W w' := by
  refine (read_P h ⟨sB_good⟩ ⟨by decide⟩ kA ⟨by decide⟩ 1).mono ?_
  rintro e w' ⟨⟨A, c, rfl, h1, h2⟩, hb⟩
  rw [exR1] at h1 h2 ⊢
  exact ⟨⟨A, c, rfl, h1, h2⟩, hb⟩
theorem read_2 {W : World} {base p : Nat} {B : Nat → Prop} {kv : Value} {mb n : Nat} {D : DataW Value} (h : Aside0 (StoreAt W base B p sB kv mb n D)) :
    Calls Try.prog 43 #[.pointer (some ⟨p, 0, none⟩), .string ⟨#[97]⟩, .int .u64 2] W fun e w' => (∃ A c, e = .returned (.tuple #[.slice A 0 c, .bool false])) ∧ Below W.heap.size W w' := by
  refine (read_P h ⟨sB_good⟩ ⟨by decide⟩ kA ⟨by decide⟩ 2).mono ?_
  rintro e w' ⟨⟨A, c, rfl, h1, h2⟩, hb⟩
  rw [exR2]
  exact ⟨⟨A, c, rfl⟩, hb⟩
theorem collect_x {W : World} {base p : Nat} {B : Nat → Prop} {kv : Value} {mb n : Nat} {D : DataW Value} (h : Aside0 (StoreAt W base B p sB kv mb n D)) (hn : Aside0 (n ≤ 1000000)) :
    Calls Try.prog 49 #[.pointer (some ⟨p, 0, none⟩), .int .u64 2] W fun e w' => e = .returned (.int .i64 2) ∧ ∃ kv' n' D', StoreAt w' base B p (colP sB 2) kv' mb n' D' ∧ n' ≤ n + 20000 ∧ Turn base (Own p mb kv) W w' := by
  refine (collect_P h ⟨sB_good⟩ ⟨by decide⟩ 2 ⟨by have := hn.out; simp only [maxLen]; omega⟩).mono ?_
  rintro e w' ⟨rfl, kv', n', D', h1, h2, h3, _⟩
  exact ⟨by rw [exC], kv', n', D', h1, h2, h3⟩
theorem keys_x {W : World} {base p : Nat} {B : Nat → Prop} {kv : Value} {mb n : Nat} {D : DataW Value} (h : Aside0 (StoreAt W base B p (colP sB 2) kv mb n D)) :
    Calls Try.prog 50 #[.pointer (some ⟨p, 0, none⟩)] W fun e w' => (∃ A c, e = .returned (.slice A 0 c)) ∧ Below W.heap.size W w' := by
  refine (store_Keys.calls h ⟨by rw [exK]; decide⟩).mono ?_
  rintro e w' ⟨v, rfl, ho, hb⟩
  obtain ⟨A, c, rfl⟩ := Kd.R_slice ho
  rw [exK]
  exact ⟨⟨A, c, rfl⟩, hb⟩
set_option maxRecDepth 100000 in
set_option maxHeartbeats 8000000 in
theorem live_calls (W : World) : Calls Try.prog 37 #[] W fun e w' => e = .returned (.bool true) ∧ Below W.heap.size W w' := by
  have hsn : strOfNums [120] = (⟨#[120]⟩ : ByteArray) := by decide +kernel
  go_enter Try.func37, Try.ntmps37
  go_wp2_with (first
    | (go_at_call 40; (with_reducible refine (conductorlaw08_Big.calls _ _ _ _ _ _ _ _ big_f).mono ?_); rintro e w1 ⟨rfl, hb⟩; have HB1 := Aside0.mk hb; clear hb)
    | (go_at_call 52; (with_reducible refine (new_big _).mono ?_); rintro e w2 ⟨⟨p, mb, rfl, hS⟩, hb⟩; have HS2 := Aside0.mk (show StoreAt w2 w1.heap.size _ p sBig noCh mb 0 (.map []) from hS); have HB2 := Aside0.mk (below_step HB1.out hb); have h12 := Aside0.mk HB1.out.size; clear hS hb)
    | (go_at_call 68; (refine (put_ax _).mono ?_); rintro e w3 ⟨⟨A1, c1, rfl, hl1, hF1⟩, hb⟩; have HF3 := Aside0.mk hF1; have HL3 := Aside0.mk hl1; have HB3 := Aside0.mk (below_step HB2.out hb); have HS3 := Aside0.mk (HS2.out.below hb); clear hF1 hl1 hb)
    | (go_at_call 61; (with_reducible refine (commit_ax HS3 (fun k => w2.heap.size ≤ k ∧ k < w3.heap.size) ?s0 A1 c1 ?s1 HL3 ⟨by decide⟩).mono ?_); (case s0 => exact ⟨fun k hk_ => ⟨hk_.2, fun ho => by have := (HS2.out.own ho).2.2; omega⟩⟩); (case s1 => exact ⟨Kd.F_bound HF3.out⟩); rintro e w4 ⟨rfl, kv4, n4, D4, hS, hn, hT, hK⟩; have HS4 := Aside0.mk hS; have hn4 := Aside0.mk hn; have HB4 := Aside0.mk ((Below.mono HB3.out (Nat.le_refl _)).trans (hT.below.mono h12.out)); clear hS hn hT hK HS3 HF3)
    | ((with_reducible refine gate_dst (N := 31) rfl ?_); refine Kd.N_lit k102 (w0 := w4) w4.heap.size 102 ?hg (N' := 31) ?hd (xs := wB) (inner := [.string ⟨#[97]⟩, .bool true, .slice none 0 0]) (ok := fun k => w4.heap.size ≤ k) (okp := fun k => w4.heap.size ≤ k) ?hr ?hp (fun _ hk => hk) (Nat.le_refl _) (Below.refl _ _) (Nat.le_refl _) (by decide) ?_; (case hd => rfl); (case hg => rfl); (case hr => first | (go_simp; done) | (go_simp; rfl)); (case hp => exact (Reps.c3 (show Kd.FK k102 _ _ (⟨kA, true, []⟩ : S102) [.string ⟨#[97]⟩, .bool true, .slice none 0 0] from k102_mkF _ _ (⟨kA, true, []⟩ : S102) (Nat.le_refl _) (Kd.F_nil _ _ _)) (Reps.none _ _))); intro v5 w5 ho hb2 hg2 hat2; obtain ⟨A5, c5, ev⟩ := Kd.N_slice ho; subst ev; have HF5 := Aside0.mk (Kd.N_F ho); have HL5 := Aside0.mk (Kd.N_reads' ho).2.1; have HS5 := Aside0.mk (HS4.out.below hb2); have HB5 := Aside0.mk (below_step HB4.out hb2); clear ho hb2 hg2 hat2)
    | (go_at_call 61; (with_reducible refine (commit_bx HS5 (fun k => w4.heap.size ≤ k ∧ k < w5.heap.size) ?s0 A5 c5 ?s1 HL5 ?s2).mono ?_); (case s0 => exact ⟨fun k hk_ => ⟨hk_.2, fun ho => by have := (HS4.out.own ho).2.2; omega⟩⟩); (case s1 => exact ⟨Kd.F_bound HF5.out⟩); (case s2 => exact ⟨by have := hn4.out; omega⟩); rintro e w6 ⟨rfl, kv6, n6, D6, hS, hn, hT, hK⟩; have HS6 := Aside0.mk hS; have hn6 := Aside0.mk hn; have HB6 := Aside0.mk (HB5.out.trans (hT.below.mono h12.out)); clear hS hn hT hK HS5 HF5 HS4)
    | (go_at_call 43; (with_reducible refine (read_1 HS6).mono ?_); rintro e w7 ⟨⟨A7, c7, rfl, hl7, hF7⟩, hb⟩; have HS7 := Aside0.mk (HS6.out.below hb); have HF7 := Aside0.mk hF7; have HB7 := Aside0.mk (below_step HB6.out hb); clear hb hF7 hl7)
    | (go_at_call 43; (with_reducible refine (read_2 HS7).mono ?_); rintro e w8 ⟨⟨A8, c8, rfl⟩, hb⟩; have HS8 := Aside0.mk (HS7.out.below hb); have hcv := Kd.C_string (P := Try.prog) (A := A7) (n := 1) (c := c7) Try.underlying26 Try.underlying5 Try.underlying9 (Kd.F_now (Kd.F_below HF7.out hb)); have HB8 := Aside0.mk (below_step HB7.out hb); clear hb)
    | (go_at_call 49; (with_reducible refine (collect_x HS8 ?s0).mono ?_); (case s0 => exact ⟨by have := hn4.out; have := hn6.out; omega⟩); rintro e w9 ⟨rfl, kv9, n9, D9, hS, hn, hT⟩; have HS9 := Aside0.mk hS; have HB9 := Aside0.mk (HB8.out.trans (hT.below.mono h12.out)); clear hS hn hT)
    | (go_at_call 50; (with_reducible refine (keys_x HS9).mono ?_); rintro e w10 ⟨⟨A10, c10, rfl⟩, hb⟩; have HB10 := Aside0.mk (below_step HB9.out hb); clear hb))
  go_ret
  exact ⟨rfl, HB10.out⟩
set_option maxRecDepth 100000 in
set_option maxHeartbeats 4000000 in
theorem new_bad (l0 l1 l2 l3 l4 l5 last : Int) (w : World) (h : ¬ (Room l0 ∧ Room l1 ∧ Room l2 ∧ last ≠ 0)) :
    Calls Try.prog 52 #[.agg #[.int .i64 l0, .int .i64 l1, .int .i64 l2, .int .i64 l3, .int .i64 l4, .int .i64 l5, .int .u64 last]] w fun e w' => e = .returned (.tuple #[.pointer none, .int .i64 1]) ∧ Below w.heap.size w w' := by
  have H := Aside0.mk h
  clear h
  have i0 : ∀ w, (Instr.index 107 (.agg #[.int .i64 l0, .int .i64 l1, .int .i64 l2]) (.int .i64 0)).run Try.prog w = .ok (.int .i64 l0) w := fun _ => by kernel_rfl
  have i1 : ∀ w, (Instr.index 107 (.agg #[.int .i64 l0, .int .i64 l1, .int .i64 l2]) (.int .i64 1)).run Try.prog w = .ok (.int .i64 l1) w := fun _ => by kernel_rfl
  have i2 : ∀ w, (Instr.index 107 (.agg #[.int .i64 l0, .int .i64 l1, .int .i64 l2]) (.int .i64 2)).run Try.prog w = .ok (.int .i64 l2) w := fun _ => by kernel_rfl
  go_enter Try.func52, Try.ntmps52
  go_wp2_with ((with_reducible refine gate_dst (N := 1) rfl ?_); refine box_event ?hg (N := 1) ?hd (cs := #[.int .i64 l0, .int .i64 l1, .int .i64 l2, .int .i64 l3, .int .i64 l4, .int .i64 l5, .int .u64 last]) (t := 51) ?hr ?_; (case hd => rfl); (case hg => rfl); (case hr => first | (go_simp; done) | (go_simp; rfl)); intro g1 hg w1 hbox hb; have HB1 := Aside0.mk hb; have j0 := (blk_cell hbox 0).trans (show _ = some (Value.int .i64 l0) from rfl); have j1 := (blk_cell hbox 1).trans (show _ = some (Value.int .i64 l1) from rfl); have j2 := (blk_cell hbox 2).trans (show _ = some (Value.int .i64 l2) from rfl); have j6 := (blk_cell hbox 6).trans (show _ = some (Value.int .u64 last) from rfl); clear hbox hb hg)
  go_loop [13] (fun i => ∃ k : Nat, k ≤ 3 ∧ i = .int .i64 k ∧ Aside0 ((0 < k → Room l0) ∧ (1 < k → Room l1) ∧ (2 < k → Room l2))) (fun i => 3 - (intOf i).toNat)
  case atStart => exact ⟨0, by omega, rfl, ⟨⟨fun h => absurd h (by omega), fun h => absurd h (by omega), fun h => absurd h (by omega)⟩⟩⟩
  case round =>
    obtain ⟨k, hk, rfl, HK⟩ := hrel
    by_cases hlt : k < 3
    · obtain rfl | rfl | rfl : k = 0 ∨ k = 1 ∨ k = 2 := by omega
      · by_cases hr : 1 ≤ l0 ∧ l0 ≤ 1048576
        · obtain ⟨a0, b0⟩ := hr
          go_wp2
          go_round
          case rel => exact ⟨1, by omega, by go_num, ⟨fun _ => ⟨a0, b0⟩, fun h => absurd h (by omega), fun h => absurd h (by omega)⟩⟩
          case measure => simp [intOf]
        · by_cases h1 : 1 ≤ l0
          · have h2 : ¬ l0 ≤ 1048576 := fun h2 => hr ⟨h1, h2⟩
            go_wp2
            go_ret2
            exact ⟨rfl, HB1.out⟩
          · go_wp2
            go_ret2
            exact ⟨rfl, HB1.out⟩
      · by_cases hr : 1 ≤ l1 ∧ l1 ≤ 1048576
        · obtain ⟨a0, b0⟩ := hr
          go_wp2
          go_round
          case rel => exact ⟨2, by omega, by go_num, ⟨fun _ => HK.out.1 (by omega), fun _ => ⟨a0, b0⟩, fun h => absurd h (by omega)⟩⟩
          case measure => simp [intOf]
        · by_cases h1 : 1 ≤ l1
          · have h2 : ¬ l1 ≤ 1048576 := fun h2 => hr ⟨h1, h2⟩
            go_wp2
            go_ret2
            exact ⟨rfl, HB1.out⟩
          · go_wp2
            go_ret2
            exact ⟨rfl, HB1.out⟩
      · by_cases hr : 1 ≤ l2 ∧ l2 ≤ 1048576
        · obtain ⟨a0, b0⟩ := hr
          go_wp2
          go_round
          case rel => exact ⟨3, by omega, by go_num, ⟨fun _ => HK.out.1 (by omega), fun _ => HK.out.2.1 (by omega), fun _ => ⟨a0, b0⟩⟩⟩
          case measure => simp [intOf]
        · by_cases h1 : 1 ≤ l2
          · have h2 : ¬ l2 ≤ 1048576 := fun h2 => hr ⟨h1, h2⟩
            go_wp2
            go_ret2
            exact ⟨rfl, HB1.out⟩
          · go_wp2
            go_ret2
            exact ⟨rfl, HB1.out⟩
    · have hk3 : k = 3 := by omega
      have hl : last = 0 := Classical.not_not.1 (fun hne => H.out ⟨HK.out.1 (by omega), HK.out.2.1 (by omega), HK.out.2.2 (by omega), hne⟩)
      have hlb : (last == 0) = true := by rw [hl]; rfl
      clear hl HK
      go_wp2
      go_ret2
      exact ⟨rfl, HB1.out⟩
end Go.Proofs.Yteofdgonpbmdlaa.St
namespace Go.Proofs.Yteofdgonpbmdlaa.St
open Go.RowKit Go.Maps Go.Proofs.YteofdgonpbmdlaaW.PrintWords Go.Proofs.YteofdgonpbmdlaaW.PrintLast Go.Proofs.YteofdgonpbmdlaaW.PrintMore Go.Proofs.Yteofdgonpbmdlaa.C Go.Proofs.Yteofdgonpbmdlaa.Pure
/-- A block that no call of the store writes. -/
def Free (p mb : Nat) (kv : Value) (W : World) (k : Nat) : Prop := k < W.heap.size ∧ ¬ Own p mb kv k
section
variable {α : Type} {d : Kd α} {W W' : World} {base p : Nat} {B : Nat → Prop} {s s' : SS} {kv kv' : Value} {mb n n' : Nat} {D D' : DataW Value} {A : Option Addr} {k : Nat} {xs : List α}
end
end Go.Proofs.Yteofdgonpbmdlaa.St
namespace Go.Proofs.Yteofdgonpbmdlaa.St
open Go.RowKit Go.Maps Go.Proofs.YteofdgonpbmdlaaW.PrintWords Go.Proofs.Yteofdgonpbmdlaa.C Go.Proofs.Yteofdgonpbmdlaa.Pure
structure Lim (m : Nat) (s0 s : SS) : Prop where
  good : Good m s
  sized : Sized s
  fits : Fits s
  l0 : s.l0 = s0.l0
  l1 : s.l1 = s0.l1
  l2 : s.l2 = s0.l2
  la : s.last = s0.last
theorem Lim.op {m : Nat} {s0 s : SS} (h : Lim m s0 s) {o : S55} (ho : FewOp o) : Lim (m + 1) s0 (opP s o).2 := by
  obtain ⟨a, b⟩ := Sized.op h.good h.sized h.fits ho
  obtain ⟨e0, e1, e2, e3⟩ := op_lim s o
  exact ⟨h.good.op ho, a, b, e0.trans h.l0, e1.trans h.l1, e2.trans h.l2, e3.trans h.la⟩
theorem Lim.run : ∀ (l : List S55) {m : Nat} {s0 s : SS}, Lim m s0 s → (∀ o ∈ l, FewOp o) → Lim (m + l.length) s0 (runP s l)
  | [], _, _, _, h, _ => h
  | o :: t, m, s0, s, h, hf => by
    have := Lim.run t (h.op (hf o (List.mem_cons_self ..))) (fun x hx => hf x (List.mem_cons_of_mem _ hx))
    rw [List.length_cons, show m + (t.length + 1) = m + 1 + t.length by omega]
    exact this
theorem Good.lim {m m' : Nat} {s0 s : SS} (h : Lim m s0 s) (hm : m ≤ m') : Lim m' s0 s := { h with good := h.good.mono hm }
theorem Lim.runTake {m : Nat} {s0 s : SS} (h : Lim m s0 s) (l : List S55) (hf : ∀ o ∈ l, FewOp o) (i : Nat) : Lim (m + i) s0 (runP s (l.take i)) :=
  Good.lim (Lim.run _ h (fun o ho => hf o (List.mem_of_mem_take ho))) (by rw [List.length_take]; omega)
theorem lim_new (q0 q1 q2 q3 q4 q5 q6 : Int) (h0 : Room q0) (h1 : Room q1) (h2 : Room q2) (h5 : 0 ≤ q6) (h6 : q6 ≤ 18446744073709551615) : Lim 0 (noStore q0 q1 q2 q3 q4 q5 q6) (noStore q0 q1 q2 q3 q4 q5 q6) :=
  ⟨good_new q0 q1 q2 q3 q4 q5 q6 h5 h6, (sized_new q0 q1 q2 q3 q4 q5 q6 h0 h1 h2).1, (sized_new q0 q1 q2 q3 q4 q5 q6 h0 h1 h2).2, rfl, rfl, rfl, rfl⟩
instance (n : Int) : Decidable (Room n) := inferInstanceAs (Decidable (1 ≤ n ∧ n ≤ 1048576))
theorem room_f (n : Int) : conductorref08_room.f n = some (decide (Room n)) := by
  unfold conductorref08_room.f
  by_cases h : n ≥ 1
  · rw [if_pos h]
    exact congrArg some (decide_eq_decide.2 ⟨fun k => ⟨h, k⟩, fun k => k.2⟩)
  · rw [if_neg h]
    exact congrArg some (decide_eq_false (p := Room n) (fun k => h k.1)).symm
theorem may_f (q0 q1 q2 q3 q4 q5 q6 : Int) (h6 : 0 ≤ q6) : conductorref08_May.f q0 q1 q2 q3 q4 q5 q6 = some (decide (Room q0 ∧ Room q1 ∧ Room q2 ∧ q6 ≠ 0)) := by
  unfold conductorref08_May.f
  simp only [room_f, Option.bind_some, decide_eq_true_eq]
  by_cases a : Room q0
  · by_cases b : Room q1
    · by_cases c : Room q2
      · simp only [a, b, c, if_true, true_and]
        congr 1
        rw [decide_eq_decide]
        omega
      · simp [a, b, c]
    · simp [a, b]
  · simp [a]
end Go.Proofs.Yteofdgonpbmdlaa.St
