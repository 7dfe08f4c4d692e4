/- Texts of this session, merged for the law StoreUnseen: PE, UB, PG, PH, UJ, PI, PJ, UO. No condition. -/
import Derived.Test.YteofdgonpbmdlaaZStoreUnseenv
import Derived.Test.YteofdgonpbmdlaaZStoreUnseent
import Derived.Test.YteofdgonpbmdlaaZStoreUnseenp
import Derived.Test.YteofdgonpbmdlaaZStoreUnseenu
set_option linter.unusedVariables false
set_option linter.unusedSimpArgs false
namespace Go.Proofs.Yteofdgonpbmdlaa.St
open Go.RowKit Go.Proofs.YteofdgonpbmdlaaW.PrintWords Go.Proofs.Yteofdgonpbmdlaa.C Go.Proofs.Yteofdgonpbmdlaa.Pure
theorem getF_nil (a : Int) : getF [] a = ([], false) := by
  unfold getF
  rw [getV_neg (by simp; omega)]
theorem com_now_le (s : SS) (l : List S102) (low : Int) : s.now ≤ (comP s l low).2.2.now := by
  unfold comP comR
  have h := comS_now s l low
  split
  · exact Int.le_refl _
  split
  · exact Int.le_refl _
  split
  · exact Int.le_refl _
  split
  · show s.now ≤ (comS s l low).now + 1
    omega
  · show s.now ≤ (comS s l low).now
    omega
theorem op_now_le (s : SS) (o : S55) : s.now ≤ (opP s o).2.now := by
  unfold opP
  split
  · exact com_now_le _ _ _
  split
  · exact Int.le_refl _
  split
  · exact Int.le_refl _
  split <;> exact Int.le_refl _
def runP : SS → List S55 → SS
  | s, [] => s
  | s, o :: t => runP (opP s o).2 t
theorem Good.run : ∀ (l : List S55) {m : Nat} {s : SS}, Good m s → (∀ o ∈ l, FewOp o) → Good (m + l.length) (runP s l)
  | [], _, _, h, _ => h
  | o :: t, m, s, h, hf => by
    have := Good.run t (h.op (hf o (List.mem_cons_self ..))) (fun x hx => hf x (List.mem_cons_of_mem _ hx))
    exact this.mono (by simp; omega)
theorem sorted_ext : ∀ {a b : List ByteArray}, Sorted a → Sorted b → (∀ q, q ∈ a ↔ q ∈ b) → a = b
  | [], [], _, _, _ => rfl
  | [], y :: t, _, _, h => absurd ((h y).2 (List.mem_cons_self ..)) (by simp)
  | x :: t, [], _, _, h => absurd ((h x).1 (List.mem_cons_self ..)) (by simp)
  | x :: t, y :: u, ha, hb, h => by
    have ha' := List.pairwise_cons.1 ha
    have hb' := List.pairwise_cons.1 hb
    have e : x = y := by
      rcases List.mem_cons.1 ((h x).1 (List.mem_cons_self ..)) with e | hx
      · exact e
      · rcases List.mem_cons.1 ((h y).2 (List.mem_cons_self ..)) with e | hy
        · exact e.symm
        · exact absurd (ltt (ha'.1 y hy) (hb'.1 x hx)) (lti _)
    subst e
    congr 1
    refine sorted_ext ha'.2 hb'.2 (fun q => ?_)
    constructor
    · intro hq
      rcases List.mem_cons.1 ((h q).1 (List.mem_cons_of_mem _ hq)) with e | hq2
      · subst e; exact absurd (ha'.1 _ hq) (lti _)
      · exact hq2
    · intro hq
      rcases List.mem_cons.1 ((h q).2 (List.mem_cons_of_mem _ hq)) with e | hq2
      · subst e; exact absurd (hb'.1 _ hq) (lti _)
      · exact hq2
/-- Does a key lie in a stretch that ends at hi? -/
def under (hi k : ByteArray) : Bool := decide (hi.toList = []) || decide (k.toList < hi.toList)
theorem ends_under (hi k : ByteArray) : ends hi k = !under hi k := by
  unfold ends under
  rw [bl]
  by_cases h1 : hi.toList = [] <;> by_cases h2 : k.toList < hi.toList <;> simp [h1, h2]
theorem scanL_eq (gf : ByteArray → List Int × Bool) (hi : ByteArray) : ∀ ks : List ByteArray, Sorted ks → scanL gf hi ks = (ks.filter (fun k => under hi k && (gf k).2)).map (fun k => ⟨k, (gf k).1⟩)
  | [], _ => rfl
  | k :: t, hs => by
    have hs' := List.pairwise_cons.1 hs
    simp only [scanL, ends_under]
    rw [List.filter_cons]
    by_cases hu : under hi k = true
    · rw [if_neg (by simp [hu]), scanL_eq gf hi t hs'.2]
      by_cases hg : (gf k).2 = true
      · rw [if_pos hg, if_pos (by simp [hu, hg])]; rfl
      · rw [if_neg hg, if_neg (by simp [hu, hg])]
    · have hu' : under hi k = false := by simpa using hu
      rw [if_pos (by simp [hu']), if_neg (by simp [hu'])]
      have : ∀ y ∈ t, under hi y = false := fun y hy => by
        have hky := hs'.1 y hy
        unfold under at hu' ⊢
        simp only [Bool.or_eq_false_iff, decide_eq_false_iff_not] at hu' ⊢
        exact ⟨hu'.1, fun h => hu'.2 (ltt hky h)⟩
      rw [List.filter_eq_nil_iff.2 (fun y hy => by simp [this y hy])]
      rfl
theorem drop_filter {ks : List ByteArray} (hs : Sorted ks) (lo : ByteArray) : ks.drop (srchF ks lo) = ks.filter (fun k => !decide (k.toList < lo.toList)) := by
  conv => rhs; rw [← List.take_append_drop (srchF ks lo) ks]
  rw [List.filter_append, List.filter_eq_nil_iff.2 (fun k hk => by simpa using take_srch hs lo k hk), List.nil_append]
  exact (List.filter_eq_self.2 (fun k hk => by simpa using drop_srch hs lo k hk)).symm
/-- The keys that a scan has. -/
def scanK (s : SS) (lo hi : ByteArray) (a : Int) : List ByteArray := s.keys.filter (fun k => (!decide (k.toList < lo.toList)) && (under hi k && (getF (s.ch k) a).2))
theorem scanP_eq {s : SS} (hs : Sorted s.keys) (lo hi : ByteArray) (a : Int) : scanP s lo hi a = (scanK s lo hi a).map (fun k => ⟨k, (getF (s.ch k) a).1⟩) := by
  unfold scanP scanK
  have hd := drop_filter hs lo
  have hs2 : Sorted (s.keys.drop (srchF s.keys lo)) := hs.sublist (List.drop_sublist _ _)
  rw [scanL_eq _ hi _ hs2, hd, List.filter_filter]
  congr 1
  refine List.filter_congr (fun k _ => ?_)
  rw [Bool.and_comm]
theorem scanK_mem {m : Nat} {s : SS} (h : Good m s) (lo hi : ByteArray) (a : Int) (k : ByteArray) : k ∈ scanK s lo hi a ↔ ¬ k.toList < lo.toList ∧ under hi k = true ∧ (getF (s.ch k) a).2 = true := by
  unfold scanK
  rw [List.mem_filter]
  simp only [Bool.and_eq_true, Bool.not_eq_true', decide_eq_false_iff_not]
  constructor
  · rintro ⟨_, h1, h2, h3⟩; exact ⟨h1, h2, h3⟩
  · rintro ⟨h1, h2, h3⟩
    refine ⟨?_, h1, h2, h3⟩
    rw [h.me]
    intro e
    rw [e, getF_nil] at h3
    cases h3
theorem scanK_sorted {m : Nat} {s : SS} (h : Good m s) (lo hi : ByteArray) (a : Int) : Sorted (scanK s lo hi a) := h.so.sublist List.filter_sublist
theorem scan_eq {m m' : Nat} {s s' : SS} (h : Good m s) (h' : Good m' s') (lo hi : ByteArray) (a : Int) (he : ∀ key, getF (s.ch key) a = getF (s'.ch key) a) : scanP s lo hi a = scanP s' lo hi a := by
  have hk : scanK s lo hi a = scanK s' lo hi a := sorted_ext (scanK_sorted h lo hi a) (scanK_sorted h' lo hi a) (fun q => by rw [scanK_mem h, scanK_mem h', he q])
  rw [scanP_eq h.so, scanP_eq h'.so, hk]
  exact List.map_congr_left (fun k _ => by rw [he k])
theorem scan_len {m : Nat} {s : SS} (h : Good m s) (lo hi : ByteArray) (a : Int) : (scanP s lo hi a).length ≤ 20 * m := by
  rw [scanP_eq h.so, List.length_map]
  exact Nat.le_trans (List.length_filter_le _ _) h.kn
theorem same_loop (l : List S62) (hl : l.length ≤ 9223372036854775807) : ∀ (d i k : Nat), i + d = l.length → d < k → conductorref08_SamePairs.l0 k l l l.length i = some true := by
  intro d
  induction d with
  | zero =>
    intro i k hd hk
    obtain ⟨k, rfl⟩ : ∃ m, k = m + 1 := ⟨k - 1, by omega⟩
    simp only [conductorref08_SamePairs.l0]
    rw [if_neg (by omega)]
  | succ d ih =>
    intro i k hd hk
    obtain ⟨k, rfl⟩ : ∃ m, k = m + 1 := ⟨k - 1, by omega⟩
    have hi : i < l.length := by omega
    simp only [conductorref08_SamePairs.l0]
    rw [if_pos (by omega), if_pos (by omega), if_pos (by omega), if_pos (by omega), w1 hi hl]
    simp only [if_true]
    exact ih (i + 1) k (by omega) (by omega)
theorem same_refl (l : List S62) (hl : l.length ≤ 9223372036854775807) : ∃ k, conductorref08_SamePairs.f k l l = some true :=
  ⟨l.length + 1, by unfold conductorref08_SamePairs.f; rw [if_pos rfl]; exact same_loop l hl l.length 0 _ (by omega) (by omega)⟩
theorem equal_refl (l : List Int) : conductorref01_Equal.f l l = some true := eq_refl l
end Go.Proofs.Yteofdgonpbmdlaa.St
namespace Go.Proofs.Yteofdgonpbmdlaa.St
open Go.RowKit Go.Maps Go.Proofs.YteofdgonpbmdlaaW.PrintWords Go.Proofs.YteofdgonpbmdlaaW.PrintLast Go.Proofs.YteofdgonpbmdlaaW.PrintMore Go.Proofs.Yteofdgonpbmdlaa.C Go.Proofs.Yteofdgonpbmdlaa.Pure
/-- A block that no call of the store writes. -/
def Free (p mb : Nat) (kv : Value) (W : World) (k : Nat) : Prop := k < W.heap.size ∧ ¬ Own p mb kv k
section
variable {α : Type} {d : Kd α} {W W' : World} {base p : Nat} {B : Nat → Prop} {s s' : SS} {kv kv' : Value} {mb n n' : Nat} {D D' : DataW Value} {A : Option Addr} {k : Nat} {xs : List α}
theorem F_free (h : Kd.F d W' (fun q => W.heap.size ≤ q) A k xs) (hS : StoreAt W base B p s kv mb n D) : Kd.F d W' (Free p mb kv W') A k xs :=
  Kd.F_mono (Kd.F_bound h) (fun q hq => ⟨hq.2, fun ho => by have := (hS.own ho).2.2; have := hq.1; omega⟩)
theorem scan_as (h : Aside0 (StoreAt W base B p s kv mb n D)) {m : Nat} (g : Aside0 (Good m s)) (hm : Aside0 (m ≤ 800)) (lo hi : ByteArray) (a : Int) (L : List S62) (hr : Aside0 (scanP s lo hi a = L)) :
    Calls Try.prog 42 #[.pointer (some ⟨p, 0, none⟩), .string lo, .string hi, .int .u64 a] W fun e w' => (∃ A c, e = .returned (.slice A L.length c) ∧ L.length ≤ c ∧ Kd.F k62 w' (Free p mb kv w') A L.length L) ∧ Below W.heap.size W w' := by
  refine (scan_P h g hm lo hi a).mono ?_
  rintro e w' ⟨⟨A, c, rfl, h1, h2⟩, hb⟩
  rw [hr.out] at h1 h2 ⊢
  exact ⟨⟨A, c, rfl, h1, F_free h2 h.out⟩, hb⟩
end
end Go.Proofs.Yteofdgonpbmdlaa.St
namespace Go.Proofs.Yteofdgonpbmdlaa.St
open Go.RowKit Go.Maps Go.Proofs.YteofdgonpbmdlaaW.PrintWords Go.Proofs.Yteofdgonpbmdlaa.C Go.Proofs.Yteofdgonpbmdlaa.Pure
def sumK {α : Type} (f : α → Nat) (l : List α) : Nat := (l.map f).sum
theorem sumK_nil {α : Type} (f : α → Nat) : sumK f [] = 0 := rfl
theorem sumK_cons {α : Type} (f : α → Nat) (x : α) (l : List α) : sumK f (x :: l) = f x + sumK f l := by simp [sumK]
theorem sumK_app {α : Type} (f : α → Nat) (a b : List α) : sumK f (a ++ b) = sumK f a + sumK f b := by simp [sumK]
theorem sumK_congr {α : Type} {f g : α → Nat} {l : List α} (h : ∀ x ∈ l, f x = g x) : sumK f l = sumK g l := by
  unfold sumK
  rw [List.map_congr_left h]
theorem sumK_le {α : Type} {f g : α → Nat} : ∀ {l : List α}, (∀ x ∈ l, f x ≤ g x) → sumK f l ≤ sumK g l
  | [], _ => Nat.le_refl _
  | x :: t, h => by
    rw [sumK_cons, sumK_cons]
    have h1 := h x (List.mem_cons_self ..)
    have h2 := sumK_le (fun y hy => h y (List.mem_cons_of_mem x hy)) (l := t)
    omega
theorem sumK_add {α : Type} (f g : α → Nat) : ∀ l : List α, sumK (fun x => f x + g x) l = sumK f l + sumK g l
  | [] => rfl
  | x :: t => by
    rw [sumK_cons, sumK_cons, sumK_cons, sumK_add f g t]
    omega
theorem sumK_filter {α : Type} (f g : α → Nat) (p : α → Bool) : ∀ l : List α, (∀ x ∈ l, f x ≤ g x) → sumK f (l.filter p) ≤ sumK g l
  | [], _ => Nat.le_refl _
  | x :: t, h => by
    have h1 := h x (List.mem_cons_self ..)
    have h2 := sumK_filter f g p t (fun y hy => h y (List.mem_cons_of_mem x hy))
    rw [List.filter_cons, sumK_cons]
    split
    · rw [sumK_cons]; omega
    · omega
theorem sumK_one {α : Type} (l : List α) : sumK (fun _ => 1) l = l.length := by
  induction l with
  | nil => rfl
  | cons x t ih => rw [sumK_cons, ih, List.length_cons]; omega
theorem sumK_zero {α : Type} {f : α → Nat} {l : List α} (h : ∀ x ∈ l, f x = 0) : sumK f l = 0 := by
  induction l with
  | nil => rfl
  | cons x t ih => rw [sumK_cons, h x (List.mem_cons_self ..), ih (fun y hy => h y (List.mem_cons_of_mem x hy))]
theorem sumK_indicator (q : ByteArray) (v : Nat) : ∀ l : List ByteArray, l.Nodup → q ∈ l → sumK (fun k => if q = k then v else 0) l = v
  | [], _, h => by cases h
  | k :: t, hn, h => by
    rw [List.nodup_cons] at hn
    rw [sumK_cons]
    by_cases e : q = k
    · subst e
      have hz : ∀ x ∈ t, (if q = x then v else 0) = 0 := fun x hx => by
        rw [if_neg]
        intro e
        exact hn.1 (by rw [e]; exact hx)
      rw [if_pos rfl, sumK_zero hz]
      omega
    · rw [if_neg e, sumK_indicator q v t hn.2 ((List.mem_cons.1 h).resolve_left e)]
      omega
theorem sumK_weigh (w : S102 → Nat) (K : List ByteArray) (hn : K.Nodup) : ∀ L : List S102, (∀ x ∈ L, x.f0 ∈ K) → sumK (fun k => sumK w (L.filter (fun x => decide (x.f0 = k)))) K = sumK w L
  | [], _ => by
    refine sumK_zero (fun x _ => rfl)
  | x :: t, h => by
    rw [sumK_cons, ← sumK_weigh w K hn t (fun y hy => h y (List.mem_cons_of_mem x hy)), ← sumK_indicator x.f0 (w x) K hn (h x (List.mem_cons_self ..)), ← sumK_add]
    refine sumK_congr (fun k _ => ?_)
    rw [List.filter_cons]
    by_cases e : x.f0 = k
    · rw [if_pos (by simp [e]), if_pos e, sumK_cons]
    · rw [if_neg (by simp [e]), if_neg e, Nat.zero_add]
theorem sumK_insL (f : ByteArray → Nat) (K : List ByteArray) (i : Nat) (q : ByteArray) : sumK f (insL K i q) = sumK f K + f q := by
  unfold insL
  have : sumK f K = sumK f (K.take i) + sumK f (K.drop i) := by rw [← sumK_app, List.take_append_drop]
  rw [sumK_app, sumK_cons, this]
  omega
theorem sumK_insK (f : ByteArray → Nat) (pf : ByteArray → List S28) : ∀ (L : List S102) (K : List ByteArray), sumK f (insK pf L K) = sumK f K + sumK (fun x : S102 => f x.f0) (L.filter (fun x => decide ((pf x.f0).length = 1)))
  | [], K => rfl
  | x :: t, K => by
    simp only [insK]
    rw [sumK_insK f pf t, List.filter_cons]
    by_cases h : (pf x.f0).length = 1
    · rw [if_pos h, if_pos (by simpa using h), sumK_insL, sumK_cons]
      omega
    · rw [if_neg h, if_neg (by simpa using h)]
theorem sumK_sub {f g : ByteArray → Nat} : ∀ {a b : List ByteArray}, a.Nodup → (∀ x ∈ a, x ∈ b) → (∀ x ∈ a, f x ≤ g x) → sumK f a ≤ sumK g b
  | [], b, _, _, _ => Nat.zero_le _
  | x :: t, b, hn, hs, hf => by
    rw [List.nodup_cons] at hn
    obtain ⟨b1, b2, rfl⟩ := List.append_of_mem (hs x (List.mem_cons_self ..))
    have h1 := hf x (List.mem_cons_self ..)
    have h2 := sumK_sub (f := f) (g := g) (a := t) (b := b1 ++ b2) hn.2 (fun y hy => by
      have hy2 := hs y (List.mem_cons_of_mem x hy)
      rw [List.mem_append, List.mem_cons] at hy2
      rw [List.mem_append]
      rcases hy2 with h | h | h
      · exact .inl h
      · exact absurd (h ▸ hy) hn.1
      · exact .inr h) (fun y hy => hf y (List.mem_cons_of_mem x hy))
    rw [sumK_app] at h2
    rw [sumK_cons, sumK_app, sumK_cons]
    omega
def vN (ch : ByteArray → List S28) (k : ByteArray) : Nat := (ch k).length
def bN (ch : ByteArray → List S28) (k : ByteArray) : Nat := k.size + dsz (ch k)
structure Sized (s : SS) : Prop where
  z0 : s.n0 = ((s.keys.length : Nat) : Int)
  z1 : s.n1 = ((sumK (vN s.ch) s.keys : Nat) : Int)
  z2 : s.n2 = ((sumK (bN s.ch) s.keys : Nat) : Int)
/-- The sizes lie in their limits, which are no greater than the greatest. -/
structure Fits (s : SS) : Prop where
  f0 : s.n0 ≤ s.l0
  f1 : s.n1 ≤ s.l1
  f2 : s.n2 ≤ s.l2
  g0 : s.l0 ≤ 1048576
  g1 : s.l1 ≤ 1048576
  g2 : s.l2 ≤ 1048576
theorem wr_add (a b : Nat) (h : a + b ≤ 1000000000) : wrap64 ((a : Int) + (b : Int)) = ((a + b : Nat) : Int) := by unfold wrap64; omega
theorem wr_one (a : Nat) (h : a + 1 ≤ 1000000000) : wrap64 ((a : Int) + 1) = ((a + 1 : Nat) : Int) := by unfold wrap64; omega
theorem tri {a b c a' b' c' : Nat} (h1 : a = a') (h2 : b = b') (h3 : c = c') : (((a : Nat) : Int), ((b : Nat) : Int), ((c : Nat) : Int)) = (((a' : Nat) : Int), ((b' : Nat) : Int), ((c' : Nat) : Int)) := by rw [h1, h2, h3]
theorem colN_sum (tf : ByteArray → List S28) (zf : ByteArray → Int) (hz : ∀ k, zf k = ((dsz (tf k) : Nat) : Int)) (M : Nat) (hM : M ≤ 1000000000) : ∀ (l : List ByteArray) (a b c : Nat), a + l.length ≤ M → b + sumK (vN tf) l ≤ M → c + sumK (bN tf) l ≤ M →
    colN tf zf l a b c = (((a + (l.filter (fun q => decide ((tf q).length ≠ 0))).length : Nat) : Int), ((b + sumK (vN tf) (l.filter (fun q => decide ((tf q).length ≠ 0))) : Nat) : Int), ((c + sumK (bN tf) (l.filter (fun q => decide ((tf q).length ≠ 0))) : Nat) : Int)) := by
  intro l
  induction l with
  | nil => intro a b c _ _ _; simp [colN, sumK_nil]
  | cons k t ih =>
    intro a b c h1 h2 h3
    rw [sumK_cons] at h2 h3
    rw [List.length_cons] at h1
    have hv : vN tf k = (tf k).length := rfl
    have hb : bN tf k = k.size + dsz (tf k) := rfl
    rw [List.filter_cons]
    by_cases h0 : (tf k).length = 0
    · rw [if_neg (by simp [h0])]
      simp only [colN, if_pos h0]
      exact ih a b c (by omega) (by omega) (by omega)
    · rw [if_pos (by simpa using h0)]
      simp only [colN, if_neg h0, hz]
      have b1 : a + 1 ≤ 1000000000 := by omega
      have b2 : b + (tf k).length ≤ 1000000000 := by omega
      have b3 : k.size + dsz (tf k) ≤ 1000000000 := by omega
      have b4 : c + (k.size + dsz (tf k)) ≤ 1000000000 := by omega
      have i1 := ih (a + 1) (b + (tf k).length) (c + (k.size + dsz (tf k))) (by omega) (by omega) (by omega)
      rw [wr_one a b1, wr_add b (tf k).length b2, wr_add k.size (dsz (tf k)) b3, wr_add c (k.size + dsz (tf k)) b4, i1]
      clear i1 ih
      rw [List.length_cons, sumK_cons, sumK_cons, hv, hb]
      exact tri (by omega) (by omega) (by omega)
theorem Sized.col {m : Nat} {s : SS} (hs : Sized s) (h : Good m s) (hf : Fits s) (low : Int) : Sized (colP s low) ∧ Fits (colP s low) := by
  have hz : ∀ k, zfP s low k = ((dsz (tfP s low k) : Nat) : Int) := fun _ => rfl
  have t1 : sumK (vN (tfP s low)) s.keys ≤ sumK (vN s.ch) s.keys := sumK_le (fun k _ => trim_len _ _)
  have t2 : sumK (bN (tfP s low)) s.keys ≤ sumK (bN s.ch) s.keys := sumK_le (fun k _ => by have := dsz_sub (trim_sub (s.ch k) low); show k.size + dsz (trimF (s.ch k) low) ≤ k.size + dsz (s.ch k); omega)
  have e0 := hs.z0
  have e1 := hs.z1
  have e2 := hs.z2
  obtain ⟨f0, f1, f2, g0, g1, g2⟩ := hf
  have hc := colN_sum (tfP s low) (zfP s low) hz 1000000000 (Nat.le_refl _) s.keys 0 0 0 (by omega) (by omega) (by omega)
  simp only [Nat.zero_add] at hc
  have hk := col_keys s low
  have hch := h.col_ch low
  have q0 : (colP s low).n0 = (((colP s low).keys.length : Nat) : Int) := by
    show (colN (tfP s low) (zfP s low) s.keys 0 0 0).1 = _
    exact (congrArg (·.1) hc).trans (by first | rfl | (rw [hk]; rfl))
  have q1 : (colP s low).n1 = ((sumK (vN (tfP s low)) (colP s low).keys : Nat) : Int) := by
    show (colN (tfP s low) (zfP s low) s.keys 0 0 0).2.1 = _
    exact (congrArg (·.2.1) hc).trans (by first | rfl | (rw [hk]; rfl))
  have q2 : (colP s low).n2 = ((sumK (bN (tfP s low)) (colP s low).keys : Nat) : Int) := by
    show (colN (tfP s low) (zfP s low) s.keys 0 0 0).2.2 = _
    exact (congrArg (·.2.2) hc).trans (by first | rfl | (rw [hk]; rfl))
  have hce : (colP s low).ch = tfP s low := hch
  have u0 : (colP s low).keys.length ≤ s.keys.length := by rw [hk]; exact List.length_filter_le _ _
  have u1 : sumK (vN (tfP s low)) (colP s low).keys ≤ sumK (vN s.ch) s.keys := by rw [hk]; exact sumK_filter _ _ _ _ (fun k _ => trim_len _ _)
  have u2 : sumK (bN (tfP s low)) (colP s low).keys ≤ sumK (bN s.ch) s.keys := by rw [hk]; exact sumK_filter _ _ _ _ (fun k _ => by have := dsz_sub (trim_sub (s.ch k) low); show k.size + dsz (trimF (s.ch k) low) ≤ k.size + dsz (s.ch k); omega)
  refine ⟨⟨q0, by rw [hce]; exact q1, by rw [hce]; exact q2⟩, ⟨?_, ?_, ?_, g0, g1, g2⟩⟩
  · show (colP s low).n0 ≤ s.l0; omega
  · show (colP s low).n1 ≤ s.l1; omega
  · show (colP s low).n2 ≤ s.l2; omega
theorem comesN_sum (ch : ByteArray → List S28) (M : Nat) (hM : M ≤ 1000000000) : ∀ (l : List S102) (a b c : Nat), a + l.length ≤ M → b + l.length ≤ M → c + sumK (fun x : S102 => x.f2.length + x.f0.size) l ≤ M →
    comesN ch l a b c = (((a + ((comesL ch l).filter (fun x => decide ((ch x.f0).length = 0))).length : Nat) : Int), ((b + (comesL ch l).length : Nat) : Int), ((c + (sumK (fun x : S102 => x.f2.length) (comesL ch l) + sumK (fun x : S102 => x.f0.size) ((comesL ch l).filter (fun x => decide ((ch x.f0).length = 0)))) : Nat) : Int)) := by
  intro l
  induction l with
  | nil => intro a b c _ _ _; simp [comesN, comesL, sumK_nil]
  | cons x t ih =>
    intro a b c h1 h2 h3
    rw [sumK_cons] at h3
    rw [List.length_cons] at h1 h2
    simp only [comesN, comesL]
    by_cases hg : (x.f1 && goneC (ch x.f0)) = true
    · rw [if_pos hg, if_pos hg]
      exact ih a b c (by omega) (by omega) (by omega)
    · rw [if_neg hg, if_neg hg, List.filter_cons, sumK_cons, List.length_cons]
      have b1 : a + 1 ≤ 1000000000 := by omega
      have b2 : b + 1 ≤ 1000000000 := by omega
      have b3 : c + x.f2.length ≤ 1000000000 := by omega
      have b4 : c + x.f2.length + x.f0.size ≤ 1000000000 := by omega
      have i1 := ih (a + 1) (b + 1) (c + x.f2.length + x.f0.size) (by omega) (by omega) (by omega)
      have i2 := ih a (b + 1) (c + x.f2.length) (by omega) (by omega) (by omega)
      by_cases h0 : (ch x.f0).length = 0
      · rw [if_pos h0, if_pos (by simpa using h0), wr_one a b1, wr_one b b2, wr_add c x.f2.length b3, wr_add (c + x.f2.length) x.f0.size b4, i1]
        clear i1 i2 ih
        rw [sumK_cons, List.length_cons]
        exact tri (by omega) (by omega) (by omega)
      · rw [if_neg h0, if_neg (by simpa using h0), wr_one b b2, wr_add c x.f2.length b3, i2]
        clear i1 i2 ih
        exact tri (by omega) (by omega) (by omega)
theorem dsz_vers (now : Int) (a : List S28) (b : List S102) : dsz (a ++ b.map (verOf now)) = dsz a + sumK (fun x : S102 => x.f2.length) b := by
  unfold dsz sumK
  rw [List.map_append, List.sum_append, List.map_map]
  rfl
theorem put_sums {m : Nat} {s1 : SS} (h : Good m s1) {L : List S102} (hn : (L.map (·.f0)).Nodup) :
    (insK (pfP s1 L) L s1.keys).length = s1.keys.length + (L.filter (fun x => decide ((s1.ch x.f0).length = 0))).length ∧
    sumK (vN (pfP s1 L)) (insK (pfP s1 L) L s1.keys) = sumK (vN s1.ch) s1.keys + L.length ∧
    sumK (bN (pfP s1 L)) (insK (pfP s1 L) L s1.keys) = sumK (bN s1.ch) s1.keys + (sumK (fun x : S102 => x.f2.length) L + sumK (fun x : S102 => x.f0.size) (L.filter (fun x => decide ((s1.ch x.f0).length = 0)))) := by
  obtain ⟨hso, hme⟩ := insK_all (pfP s1 L) L s1.keys h.so hn (pf_len h hn)
  have hnd := hso.nodup
  have hin : ∀ x ∈ L, x.f0 ∈ insK (pfP s1 L) L s1.keys := fun x hx => (hme _).2 (.inr (List.mem_map.2 ⟨x, hx, rfl⟩))
  have hfl : L.filter (fun x => decide ((pfP s1 L x.f0).length = 1)) = L.filter (fun x => decide ((s1.ch x.f0).length = 0)) := by
    refine List.filter_congr (fun x hx => ?_)
    rw [decide_eq_decide, pf_len h hn x hx, h.me, Classical.not_not, List.length_eq_zero_iff]
  have hz : ∀ x ∈ L.filter (fun x => decide ((s1.ch x.f0).length = 0)), s1.ch x.f0 = [] := fun x hx => by
    have := (List.mem_filter.1 hx).2
    exact List.length_eq_zero_iff.1 (of_decide_eq_true this)
  refine ⟨?_, ?_, ?_⟩
  · rw [← sumK_one, sumK_insK, sumK_one, hfl, sumK_one]
  · have e : sumK (vN (pfP s1 L)) (insK (pfP s1 L) L s1.keys) = sumK (fun k => vN s1.ch k + sumK (fun _ => 1) (L.filter (fun x => decide (x.f0 = k)))) (insK (pfP s1 L) L s1.keys) := by
      refine sumK_congr (fun k _ => ?_)
      rw [sumK_one]
      simp [vN, pfP]
    have e3 : sumK (fun x : S102 => vN s1.ch x.f0) (L.filter (fun x => decide ((s1.ch x.f0).length = 0))) = 0 := sumK_zero (fun x hx => by
      show (s1.ch x.f0).length = 0
      rw [hz x hx]
      rfl)
    rw [e, sumK_add, sumK_weigh (fun _ => 1) _ hnd L hin, sumK_one, sumK_insK, hfl, e3]
    rfl
  · have e : sumK (bN (pfP s1 L)) (insK (pfP s1 L) L s1.keys) = sumK (fun k => bN s1.ch k + sumK (fun x : S102 => x.f2.length) (L.filter (fun x => decide (x.f0 = k)))) (insK (pfP s1 L) L s1.keys) := by
      refine sumK_congr (fun k _ => ?_)
      show k.size + dsz (s1.ch k ++ (L.filter (fun x => decide (x.f0 = k))).map (verOf s1.now)) = k.size + dsz (s1.ch k) + _
      rw [dsz_vers, Nat.add_assoc]
    have e2 : sumK (fun x : S102 => bN s1.ch x.f0) (L.filter (fun x => decide ((s1.ch x.f0).length = 0))) = sumK (fun x : S102 => x.f0.size) (L.filter (fun x => decide ((s1.ch x.f0).length = 0))) := by
      refine sumK_congr (fun x hx => ?_)
      show x.f0.size + dsz (s1.ch x.f0) = x.f0.size
      rw [hz x hx]
      rfl
    rw [e, sumK_add, sumK_weigh _ _ hnd L hin, sumK_insK, hfl, e2, Nat.add_assoc, Nat.add_comm (sumK _ (L.filter _)) (sumK _ L)]
theorem sizes_true {m : Nat} {s1 : SS} (h : Good m s1) (hs : Sized s1) (hf : Fits s1) {l : List S102} (hl : l.length ≤ 20) (hk : ∀ x ∈ l, x.f0.size ≤ 300) (hd : ∀ x ∈ l, x.f2.length ≤ 5000) (hn : ((comesL s1.ch l).map (·.f0)).Nodup) :
    sizesOf s1 l = ((((insK (pfP s1 (comesL s1.ch l)) (comesL s1.ch l) s1.keys).length : Nat) : Int), ((sumK (vN (pfP s1 (comesL s1.ch l))) (insK (pfP s1 (comesL s1.ch l)) (comesL s1.ch l) s1.keys) : Nat) : Int), ((sumK (bN (pfP s1 (comesL s1.ch l))) (insK (pfP s1 (comesL s1.ch l)) (comesL s1.ch l) s1.keys) : Nat) : Int)) := by
  obtain ⟨e0, e1, e2⟩ := put_sums h hn
  obtain ⟨f0, f1, f2, g0, g1, g2⟩ := hf
  have z0 := hs.z0
  have z1 := hs.z1
  have z2 := hs.z2
  have hb : sumK (fun x : S102 => x.f2.length + x.f0.size) l ≤ 5300 * l.length := by
    have : sumK (fun x : S102 => x.f2.length + x.f0.size) l ≤ sumK (fun _ => 5300) l := sumK_le (fun x hx => by have := hk x hx; have := hd x hx; omega)
    have h2 : ∀ q : List S102, sumK (fun _ => 5300) q = 5300 * q.length := fun q => by
      induction q with
      | nil => rfl
      | cons x t ih => rw [sumK_cons, ih, List.length_cons]; omega
    rw [h2] at this
    exact this
  have b0 : s1.keys.length + l.length ≤ 1000000000 := by omega
  have b1 : sumK (vN s1.ch) s1.keys + l.length ≤ 1000000000 := by omega
  have b2 : sumK (bN s1.ch) s1.keys + sumK (fun x : S102 => x.f2.length + x.f0.size) l ≤ 1000000000 := by omega
  have hc := comesN_sum s1.ch 1000000000 (Nat.le_refl _) l s1.keys.length (sumK (vN s1.ch) s1.keys) (sumK (bN s1.ch) s1.keys) b0 b1 b2
  unfold sizesOf
  rw [z0, z1, z2, hc]
  exact tri e0.symm e1.symm e2.symm
theorem Sized.put {m : Nat} {s1 : SS} (h : Good m s1) (hs : Sized s1) (hf : Fits s1) {l : List S102} (hl : l.length ≤ 20) (hk : ∀ x ∈ l, x.f0.size ≤ 300) (hd : ∀ x ∈ l, x.f2.length ≤ 5000) (hn : ((comesL s1.ch l).map (·.f0)).Nodup) (hfit : fitsB s1 (sizesOf s1 l) = true) :
    Sized (putS s1 (pfP s1 (comesL s1.ch l)) (comesL s1.ch l) (sizesOf s1 l)) ∧ Fits (putS s1 (pfP s1 (comesL s1.ch l)) (comesL s1.ch l) (sizesOf s1 l)) := by
  have e := sizes_true h hs hf hl hk hd hn
  have hch : (putS s1 (pfP s1 (comesL s1.ch l)) (comesL s1.ch l) (sizesOf s1 l)).ch = pfP s1 (comesL s1.ch l) := pf_colCh s1 _
  have hb : ((sizesOf s1 l).1 ≤ s1.l0 ∧ (sizesOf s1 l).2.1 ≤ s1.l1) ∧ (sizesOf s1 l).2.2 ≤ s1.l2 := by
    simpa only [fitsB, Bool.and_eq_true, decide_eq_true_eq] using hfit
  refine ⟨⟨?_, ?_, ?_⟩, ⟨hb.1.1, hb.1.2, hb.2, hf.g0, hf.g1, hf.g2⟩⟩
  · exact congrArg (·.1) e
  · rw [hch]; exact congrArg (·.2.1) e
  · rw [hch]; exact congrArg (·.2.2) e
theorem Sized.coS {m : Nat} {s : SS} (h : Good m s) (hs : Sized s) (hf : Fits s) (l : List S102) (low : Int) : Sized (comS s l low) ∧ Fits (comS s l low) := by
  rcases comS_cases s l low with e | e <;> rw [e]
  · exact ⟨hs, hf⟩
  · exact hs.col h hf low
theorem Sized.com {m : Nat} {s : SS} (h : Good m s) (hs : Sized s) (hf : Fits s) {l : List S102} (hl : l.length ≤ 20) (hk : ∀ x ∈ l, x.f0.size ≤ 300) (hd : ∀ x ∈ l, x.f2.length ≤ 5000) (low : Int) : Sized (comP s l low).2.2 ∧ Fits (comP s l low).2.2 := by
  unfold comP comR
  split
  · exact ⟨hs, hf⟩
  rename_i h1
  split
  · exact ⟨hs, hf⟩
  split
  · exact ⟨hs, hf⟩
  have hw := chk_wok (Classical.not_not.1 h1)
  obtain ⟨hs1, hf1⟩ := hs.coS h hf l low
  split
  · rename_i hfit
    exact Sized.put (h.coS l low) hs1 hf1 hl hk hd ((hw.sub (comesL_sub (comS s l low).ch l)).so.nodup) hfit
  · exact ⟨hs1, hf1⟩
theorem Sized.op {m : Nat} {s : SS} (h : Good m s) (hs : Sized s) (hf : Fits s) {o : S55} (ho : FewOp o) : Sized (opP s o).2 ∧ Fits (opP s o).2 := by
  unfold opP
  split
  · exact hs.com h hf ho.len ho.key ho.dat o.f2
  split
  · exact hs.col h hf o.f2
  split
  · exact ⟨hs, hf⟩
  split <;> exact ⟨hs, hf⟩
theorem sized_new (l0 l1 l2 l3 l4 l5 last : Int) (h0 : Room l0) (h1 : Room l1) (h2 : Room l2) : Sized (noStore l0 l1 l2 l3 l4 l5 last) ∧ Fits (noStore l0 l1 l2 l3 l4 l5 last) :=
  ⟨⟨rfl, rfl, rfl⟩, ⟨by have := h0.1; show (0 : Int) ≤ l0; omega, by have := h1.1; show (0 : Int) ≤ l1; omega, by have := h2.1; show (0 : Int) ≤ l2; omega, h0.2, h1.2, h2.2⟩⟩
theorem com_lim (s : SS) (l : List S102) (low : Int) : (comP s l low).2.2.l0 = s.l0 ∧ (comP s l low).2.2.l1 = s.l1 ∧ (comP s l low).2.2.l2 = s.l2 ∧ (comP s l low).2.2.last = s.last := by
  have hc : (comS s l low).l0 = s.l0 ∧ (comS s l low).l1 = s.l1 ∧ (comS s l low).l2 = s.l2 ∧ (comS s l low).last = s.last := by
    rcases comS_cases s l low with e | e <;> rw [e] <;> exact ⟨rfl, rfl, rfl, rfl⟩
  unfold comP comR
  split
  · exact ⟨rfl, rfl, rfl, rfl⟩
  split
  · exact ⟨rfl, rfl, rfl, rfl⟩
  split
  · exact ⟨rfl, rfl, rfl, rfl⟩
  split <;> exact hc
theorem op_lim (s : SS) (o : S55) : (opP s o).2.l0 = s.l0 ∧ (opP s o).2.l1 = s.l1 ∧ (opP s o).2.l2 = s.l2 ∧ (opP s o).2.last = s.last := by
  unfold opP
  split
  · exact com_lim _ _ _
  split
  · exact ⟨rfl, rfl, rfl, rfl⟩
  split
  · exact ⟨rfl, rfl, rfl, rfl⟩
  split <;> exact ⟨rfl, rfl, rfl, rfl⟩
structure Lim (m : Nat) (s0 s : SS) : Prop where
  good : Good m s
  sized : Sized s
  fits : Fits s
  l0 : s.l0 = s0.l0
  l1 : s.l1 = s0.l1
  l2 : s.l2 = s0.l2
  la : s.last = s0.last
theorem Lim.op {m : Nat} {s0 s : SS} (h : Lim m s0 s) {o : S55} (ho : FewOp o) : Lim (m + 1) s0 (opP s o).2 := by
  obtain ⟨a, b⟩ := Sized.op h.good h.sized h.fits ho
  obtain ⟨e0, e1, e2, e3⟩ := op_lim s o
  exact ⟨h.good.op ho, a, b, e0.trans h.l0, e1.trans h.l1, e2.trans h.l2, e3.trans h.la⟩
theorem Lim.run : ∀ (l : List S55) {m : Nat} {s0 s : SS}, Lim m s0 s → (∀ o ∈ l, FewOp o) → Lim (m + l.length) s0 (runP s l)
  | [], _, _, _, h, _ => h
  | o :: t, m, s0, s, h, hf => by
    have := Lim.run t (h.op (hf o (List.mem_cons_self ..))) (fun x hx => hf x (List.mem_cons_of_mem _ hx))
    rw [List.length_cons, show m + (t.length + 1) = m + 1 + t.length by omega]
    exact this
theorem Good.lim {m m' : Nat} {s0 s : SS} (h : Lim m s0 s) (hm : m ≤ m') : Lim m' s0 s := { h with good := h.good.mono hm }
theorem lim_new (q0 q1 q2 q3 q4 q5 q6 : Int) (h0 : Room q0) (h1 : Room q1) (h2 : Room q2) (h5 : 0 ≤ q6) (h6 : q6 ≤ 18446744073709551615) : Lim 0 (noStore q0 q1 q2 q3 q4 q5 q6) (noStore q0 q1 q2 q3 q4 q5 q6) :=
  ⟨good_new q0 q1 q2 q3 q4 q5 q6 h5 h6, (sized_new q0 q1 q2 q3 q4 q5 q6 h0 h1 h2).1, (sized_new q0 q1 q2 q3 q4 q5 q6 h0 h1 h2).2, rfl, rfl, rfl, rfl⟩
instance (n : Int) : Decidable (Room n) := inferInstanceAs (Decidable (1 ≤ n ∧ n ≤ 1048576))
theorem room_f (n : Int) : conductorref08_room.f n = some (decide (Room n)) := by
  unfold conductorref08_room.f
  by_cases h : n ≥ 1
  · rw [if_pos h]
    exact congrArg some (decide_eq_decide.2 ⟨fun k => ⟨h, k⟩, fun k => k.2⟩)
  · rw [if_neg h]
    exact congrArg some (decide_eq_false (p := Room n) (fun k => h k.1)).symm
theorem may_f (q0 q1 q2 q3 q4 q5 q6 : Int) (h6 : 0 ≤ q6) : conductorref08_May.f q0 q1 q2 q3 q4 q5 q6 = some (decide (Room q0 ∧ Room q1 ∧ Room q2 ∧ q6 ≠ 0)) := by
  unfold conductorref08_May.f
  simp only [room_f, Option.bind_some, decide_eq_true_eq]
  by_cases a : Room q0
  · by_cases b : Room q1
    · by_cases c : Room q2
      · simp only [a, b, c, if_true, true_and]
        congr 1
        rw [decide_eq_decide]
        omega
      · simp [a, b, c]
    · simp [a, b]
  · simp [a]
theorem rd28' (l : List S28) (i : Nat) (h : i < l.length) : rd_T28 l (i : Int) = l[i] := by
  simp [rd_T28, List.getD_eq_getElem?_getD, h]
theorem goneC_drop (l : List S28) (t : Nat) (ht : t < l.length) : goneC (l.drop t) = goneC l := by
  unfold goneC
  have e1 : ((l.drop t).length : Int) - 1 = ((l.length - t - 1 : Nat) : Int) := by rw [List.length_drop]; omega
  have e2 : (l.length : Int) - 1 = ((l.length - 1 : Nat) : Int) := by omega
  rw [e1, e2, rd28' _ _ (by rw [List.length_drop]; omega), rd28' _ _ (by omega), List.getElem_drop]
  have e3 : (l.drop t).length ≠ 0 := by rw [List.length_drop]; omega
  have e4 : l.length ≠ 0 := by omega
  rw [decide_eq_false e3, decide_eq_false e4]
  congr 2
  congr 1
  omega
theorem goneC_trim {l : List S28} (hs : rgt 0 l = true) (a : Int) : goneC (trimF l a) = goneC l := by
  have hu := up_spec hs a
  have hle := tAt_le l (up l a)
  have hn := hu.1
  unfold trimF
  by_cases h : tAt l (up l a) < l.length
  · exact goneC_drop l _ h
  · rw [List.drop_eq_nil_of_le (by omega)]
    have e : up l a = l.length := by omega
    by_cases h0 : l.length = 0
    · rw [List.eq_nil_of_length_eq_zero h0]
    · have ht : tAt l l.length = l.length := by rw [e] at h hle; omega
      rw [tPos ⟨by omega, Nat.le_refl _⟩] at ht
      have hg : (l[l.length - 1]).f1 = true := by
        cases hx : (l[l.length - 1]).f1 with
        | true => rfl
        | false => rw [if_pos hx] at ht; omega
      unfold goneC
      have e2 : (l.length : Int) - 1 = ((l.length - 1 : Nat) : Int) := by omega
      rw [e2, rd28' _ _ (by omega), hg]
      simp
theorem trim_app {l : List S28} (hs : rgt 0 l = true) (v : S28) (h : ∀ x ∈ l, x.f0 < v.f0) (h0 : 0 < v.f0) (hg : v.f1 = true → v.f2 = []) {a : Int} (ha : a < v.f0) : trimF (l ++ [v]) a = trimF l a ++ [v] := by
  have h1 := up_spec hs a
  have hn := h1.1
  have hle := tAt_le l (up l a)
  have h2 : Upto (l ++ [v]) a (up l a) := by
    refine ⟨by simp; omega, fun j hj hlt => ?_, fun j hj hge => ?_⟩
    · rw [List.getElem_append_left (by omega)]; exact h1.2.1 j (by omega) hlt
    · by_cases hjl : j < l.length
      · rw [List.getElem_append_left hjl]; exact h1.2.2 j hjl hge
      · rw [List.getElem_append_right (by omega)]; simpa using ha
  have e : up (l ++ [v]) a = up l a := up_is (rgt_app hs v h h0 hg) h2
  have e2 : tAt (l ++ [v]) (up l a) = tAt l (up l a) := by
    by_cases hp : 0 < up l a
    · rw [tPos ⟨hp, by simp; omega⟩, tPos ⟨hp, hn⟩, List.getElem_append_left (by omega)]
    · unfold tAt
      rw [dif_neg (fun q => hp q.1), dif_neg (fun q => hp q.1)]
  unfold trimF
  rw [e, e2, List.drop_append_of_le_length (by omega)]
theorem comesL_congr {c1 c2 : ByteArray → List S28} (h : ∀ k, goneC (c1 k) = goneC (c2 k)) : ∀ l : List S102, comesL c1 l = comesL c2 l
  | [] => rfl
  | x :: t => by simp only [comesL, h, comesL_congr h t]
structure Uns (low : Int) (m : Nat) (s0 s x : SS) : Prop where
  ls : Lim m s0 s
  lx : Lim m s0 x
  now : s.now = x.now
  tr : ∀ key, trimF (s.ch key) low = trimF (x.ch key) low
theorem Uns.up {low low' : Int} {m : Nat} {s0 s x : SS} (h : Uns low m s0 s x) (hl : low ≤ low') : Uns low' m s0 s x :=
  { h with tr := fun key => by rw [← trim_trim (h.ls.good.rg key) hl, ← trim_trim (h.lx.good.rg key) hl, h.tr key] }
theorem Uns.get {low a : Int} {m : Nat} {s0 s x : SS} (h : Uns low m s0 s x) (hl : low ≤ a) (key : ByteArray) : getF (s.ch key) a = getF (x.ch key) a := by
  rw [← get_trimF (h.ls.good.rg key) hl, ← get_trimF (h.lx.good.rg key) hl, h.tr key]
theorem Uns.scan {low a : Int} {m : Nat} {s0 s x : SS} (h : Uns low m s0 s x) (hl : low ≤ a) (lo hi : ByteArray) : scanP s lo hi a = scanP x lo hi a :=
  scan_eq h.ls.good h.lx.good lo hi a (h.get hl)
theorem Uns.gone {low : Int} {m : Nat} {s0 s x : SS} (h : Uns low m s0 s x) (key : ByteArray) : goneC (s.ch key) = goneC (x.ch key) := by
  rw [← goneC_trim (h.ls.good.rg key) low, ← goneC_trim (h.lx.good.rg key) low, h.tr key]
/-- What a store collected would come to is no more than what it would come to as it is. -/
theorem col_sizes {m : Nat} {s0 s : SS} (h : Lim m s0 s) {l : List S102} (hl : l.length ≤ 20) (hk : ∀ x ∈ l, x.f0.size ≤ 300) (hd : ∀ x ∈ l, x.f2.length ≤ 5000) (hw : WOk l) (low : Int) (hfit : fitsB s (sizesOf s l) = true) : fitsB (colP s low) (sizesOf (colP s low) l) = true := by
  obtain ⟨hs1, hf1⟩ := h.sized.col h.good h.fits low
  have hg1 := h.good.col low
  have hch : ∀ k, (colP s low).ch k = trimF (s.ch k) low := fun k => by rw [h.good.col_ch]
  have hLe : comesL (colP s low).ch l = comesL s.ch l := comesL_congr (fun k => by rw [hch]; exact goneC_trim (h.good.rg k) low) l
  have hn : ((comesL s.ch l).map (·.f0)).Nodup := (hw.sub (comesL_sub s.ch l)).so.nodup
  have e := sizes_true h.good h.sized h.fits hl hk hd hn
  have e1 := sizes_true hg1 hs1 hf1 hl hk hd (by rw [hLe]; exact hn)
  rw [hLe] at e1
  obtain ⟨so, me⟩ := insK_all (pfP s (comesL s.ch l)) (comesL s.ch l) s.keys h.good.so hn (pf_len h.good hn)
  obtain ⟨so1, me1⟩ := insK_all (pfP (colP s low) (comesL s.ch l)) (comesL s.ch l) (colP s low).keys hg1.so hn (pf_len hg1 hn)
  have hsub : ∀ q ∈ insK (pfP (colP s low) (comesL s.ch l)) (comesL s.ch l) (colP s low).keys, q ∈ insK (pfP s (comesL s.ch l)) (comesL s.ch l) s.keys := fun q hq => by
    rw [me]
    rcases (me1 q).1 hq with e2 | e2
    · rw [col_keys] at e2
      exact .inl (List.mem_filter.1 e2).1
    · exact .inr e2
  have hv : ∀ k, pfP (colP s low) (comesL s.ch l) k = trimF (s.ch k) low ++ ((comesL s.ch l).filter (fun x => decide (x.f0 = k))).map (verOf s.now) := fun k => by
    unfold pfP
    rw [hch]
    rfl
  have i0 : (insK (pfP (colP s low) (comesL s.ch l)) (comesL s.ch l) (colP s low).keys).length ≤ (insK (pfP s (comesL s.ch l)) (comesL s.ch l) s.keys).length := by
    rw [← sumK_one, ← sumK_one]
    exact sumK_sub so1.nodup hsub (fun _ _ => Nat.le_refl _)
  have i1 : sumK (vN (pfP (colP s low) (comesL s.ch l))) (insK (pfP (colP s low) (comesL s.ch l)) (comesL s.ch l) (colP s low).keys) ≤ sumK (vN (pfP s (comesL s.ch l))) (insK (pfP s (comesL s.ch l)) (comesL s.ch l) s.keys) := by
    refine sumK_sub so1.nodup hsub (fun k _ => ?_)
    show (pfP (colP s low) (comesL s.ch l) k).length ≤ (pfP s (comesL s.ch l) k).length
    rw [hv, List.length_append]
    have := trim_len (s.ch k) low
    show _ ≤ (s.ch k ++ ((comesL s.ch l).filter (fun x => decide (x.f0 = k))).map (verOf s.now)).length
    rw [List.length_append]
    omega
  have i2 : sumK (bN (pfP (colP s low) (comesL s.ch l))) (insK (pfP (colP s low) (comesL s.ch l)) (comesL s.ch l) (colP s low).keys) ≤ sumK (bN (pfP s (comesL s.ch l))) (insK (pfP s (comesL s.ch l)) (comesL s.ch l) s.keys) := by
    refine sumK_sub so1.nodup hsub (fun k _ => ?_)
    show k.size + dsz (pfP (colP s low) (comesL s.ch l) k) ≤ k.size + dsz (s.ch k ++ ((comesL s.ch l).filter (fun x => decide (x.f0 = k))).map (verOf s.now))
    rw [hv, dsz_vers, dsz_vers]
    have := dsz_sub (trim_sub (s.ch k) low)
    omega
  have hb : ((sizesOf s l).1 ≤ s.l0 ∧ (sizesOf s l).2.1 ≤ s.l1) ∧ (sizesOf s l).2.2 ≤ s.l2 := by
    simpa only [fitsB, Bool.and_eq_true, decide_eq_true_eq] using hfit
  rw [e] at hb
  simp only [fitsB, Bool.and_eq_true, decide_eq_true_eq, e1]
  show ((_ ≤ s.l0 ∧ _ ≤ s.l1) ∧ _ ≤ s.l2)
  obtain ⟨⟨b0, b1⟩, b2⟩ := hb
  refine ⟨⟨?_, ?_⟩, ?_⟩
  · exact Int.le_trans (Int.ofNat_le.2 i0) b0
  · exact Int.le_trans (Int.ofNat_le.2 i1) b1
  · exact Int.le_trans (Int.ofNat_le.2 i2) b2
section
variable {low : Int} {m : Nat} {s0 s x : SS}
theorem Uns.colCh (h : Uns low m s0 s x) : (colP s low).ch = (colP x low).ch := by
  rw [h.ls.good.col_ch, h.lx.good.col_ch]
  exact funext h.tr
theorem Uns.colKeys (h : Uns low m s0 s x) : (colP s low).keys = (colP x low).keys :=
  sorted_ext (h.ls.good.col low).so (h.lx.good.col low).so (fun q => by rw [(h.ls.good.col low).me, (h.lx.good.col low).me, h.colCh])
theorem Uns.colFits (h : Uns low m s0 s x) (l : List S102) : fitsB (colP s low) (sizesOf (colP s low) l) = fitsB (colP x low) (sizesOf (colP x low) l) := by
  obtain ⟨hs, _⟩ := h.ls.sized.col h.ls.good h.ls.fits low
  obtain ⟨hx, _⟩ := h.lx.sized.col h.lx.good h.lx.fits low
  have e0 : (colP s low).n0 = (colP x low).n0 := by rw [hs.z0, hx.z0, h.colKeys]
  have e1 : (colP s low).n1 = (colP x low).n1 := by rw [hs.z1, hx.z1, h.colKeys, h.colCh]
  have e2 : (colP s low).n2 = (colP x low).n2 := by rw [hs.z2, hx.z2, h.colKeys, h.colCh]
  have f0 : (colP s low).l0 = (colP x low).l0 := h.ls.l0.trans h.lx.l0.symm
  have f1 : (colP s low).l1 = (colP x low).l1 := h.ls.l1.trans h.lx.l1.symm
  have f2 : (colP s low).l2 = (colP x low).l2 := h.ls.l2.trans h.lx.l2.symm
  unfold sizesOf fitsB
  rw [h.colCh, e0, e1, e2, f0, f1, f2]
theorem ok_col (h : Lim m s0 s) {l : List S102} (hl : l.length ≤ 20) (hk : ∀ x ∈ l, x.f0.size ≤ 300) (hd : ∀ x ∈ l, x.f2.length ≤ 5000) (hw : WOk l) (low : Int) :
    fitsB (comS s l low) (sizesOf (comS s l low) l) = fitsB (colP s low) (sizesOf (colP s low) l) := by
  by_cases hf : fitsB s (sizesOf s l) = true
  · have e : comS s l low = s := if_pos hf
    rw [e, hf, col_sizes h hl hk hd hw low hf]
  · have e : comS s l low = colP s low := if_neg hf
    rw [e]
theorem trim_coS (h : Good m s) (l : List S102) (low : Int) (k : ByteArray) : trimF ((comS s l low).ch k) low = trimF (s.ch k) low := by
  rcases comS_cases s l low with e | e <;> rw [e]
  rw [h.col_ch]
  exact trim_trim (h.rg k) (Int.le_refl low)
theorem gone_coS (h : Good m s) (l : List S102) (low : Int) (k : ByteArray) : goneC ((comS s l low).ch k) = goneC (s.ch k) := by
  rcases comS_cases s l low with e | e <;> rw [e]
  rw [h.col_ch]
  exact goneC_trim (h.rg k) low
theorem Uns.comL (h : Uns low m s0 s x) (l : List S102) : comL s l low = comL x l low :=
  comesL_congr (fun k => by rw [gone_coS h.ls.good, gone_coS h.lx.good, h.gone]) l
theorem trim_put (h : Good m s) {l : List S102} (hw : WOk l) (low : Int) (hlow : low ≤ s.now) (N : Int × Int × Int) (k : ByteArray) :
    trimF ((putS (comS s l low) (pfP (comS s l low) (comL s l low)) (comL s l low) N).ch k) low = trimF (s.ch k) low ++ ((comL s l low).filter (fun x => decide (x.f0 = k))).map (verOf s.now) := by
  have hch : (putS (comS s l low) (pfP (comS s l low) (comL s l low)) (comL s l low) N).ch = pfP (comS s l low) (comL s l low) := pf_colCh _ _
  rw [hch]
  have hw2 : WOk (comL s l low) := hw.sub (comesL_sub (comS s l low).ch l)
  have hg := h.coS l low
  have hnow := comS_now s l low
  have h0 := h.n0
  rw [← trim_coS h l low k]
  by_cases hk : k ∈ (comL s l low).map (·.f0)
  · obtain ⟨y, hy, rfl⟩ := List.mem_map.1 hk
    rw [pf_at hw2.so.nodup hy, filter_one _ hw2.so.nodup y hy, hnow]
    exact trim_app (hg.rg _) (verOf s.now y) (fun z hz => by have := hg.tm _ z hz; rw [hnow] at this; show z.f0 < s.now + 1; omega) (by show 0 < s.now + 1; omega) (hw2.go y hy) (by show low < s.now + 1; omega)
  · rw [pf_not hk]
    have : (comL s l low).filter (fun x => decide (x.f0 = k)) = [] := List.filter_eq_nil_iff.2 (fun y hy e => hk (List.mem_map.2 ⟨y, hy, of_decide_eq_true e⟩))
    rw [this]
    simp
theorem Uns.com (h : Uns low m s0 s x) {l : List S102} (hl : l.length ≤ 20) (hk : ∀ x ∈ l, x.f0.size ≤ 300) (hd : ∀ x ∈ l, x.f2.length ≤ 5000) (hlow : low ≤ s.now) :
    (comP s l low).1 = (comP x l low).1 ∧ (comP s l low).2.1 = (comP x l low).2.1 ∧ (comP s l low).2.2.now = (comP x l low).2.2.now ∧ ∀ key, trimF ((comP s l low).2.2.ch key) low = trimF ((comP x l low).2.2.ch key) low := by
  have hla : s.last = x.last := h.ls.la.trans h.lx.la.symm
  unfold comP comR
  by_cases h1 : chkL none l ≠ 0
  · rw [if_pos h1, if_pos h1]
    exact ⟨rfl, rfl, h.now, h.tr⟩
  rw [if_neg h1, if_neg h1]
  by_cases h2 : l.length = 0
  · rw [if_pos h2, if_pos h2]
    exact ⟨h.now, rfl, h.now, h.tr⟩
  rw [if_neg h2, if_neg h2, ← hla, ← h.now]
  by_cases h3 : s.last ≤ s.now
  · rw [if_pos h3, if_pos h3]
    exact ⟨rfl, rfl, h.now, h.tr⟩
  rw [if_neg h3, if_neg h3]
  have hw := chk_wok (Classical.not_not.1 h1)
  have e : fitsB (comS s l low) (sizesOf (comS s l low) l) = fitsB (comS x l low) (sizesOf (comS x l low) l) := by
    rw [ok_col h.ls hl hk hd hw, ok_col h.lx hl hk hd hw, h.colFits]
  show (if fitsB (comS s l low) (sizesOf (comS s l low) l) = true then _ else _ : Int × Int × SS).1 = (if fitsB (comS x l low) (sizesOf (comS x l low) l) = true then _ else _ : Int × Int × SS).1 ∧ (if fitsB (comS s l low) (sizesOf (comS s l low) l) = true then _ else _ : Int × Int × SS).2.1 = (if fitsB (comS x l low) (sizesOf (comS x l low) l) = true then _ else _ : Int × Int × SS).2.1 ∧ (if fitsB (comS s l low) (sizesOf (comS s l low) l) = true then _ else _ : Int × Int × SS).2.2.now = (if fitsB (comS x l low) (sizesOf (comS x l low) l) = true then _ else _ : Int × Int × SS).2.2.now ∧ ∀ key, trimF ((if fitsB (comS s l low) (sizesOf (comS s l low) l) = true then _ else _ : Int × Int × SS).2.2.ch key) low = trimF ((if fitsB (comS x l low) (sizesOf (comS x l low) l) = true then _ else _ : Int × Int × SS).2.2.ch key) low
  rw [← e]
  by_cases h4 : fitsB (comS s l low) (sizesOf (comS s l low) l) = true
  · rw [if_pos h4, if_pos h4]
    refine ⟨rfl, rfl, ?_, fun key => ?_⟩
    · show (comS s l low).now + 1 = (comS x l low).now + 1
      rw [comS_now, comS_now, h.now]
    · have e1 := trim_put h.ls.good hw low hlow (sizesOf (comS s l low) l) key
      have e2 := trim_put h.lx.good hw low (h.now ▸ hlow) (sizesOf (comS x l low) l) key
      refine e1.trans (Eq.trans ?_ e2.symm)
      rw [h.tr key, h.comL, h.now]
  · rw [if_neg h4, if_neg h4]
    refine ⟨rfl, rfl, ?_, fun key => ?_⟩
    · show (comS s l low).now = (comS x l low).now
      rw [comS_now, comS_now, h.now]
    · show trimF ((comS s l low).ch key) low = trimF ((comS x l low).ch key) low
      rw [trim_coS h.ls.good, trim_coS h.lx.good, h.tr key]
/-- Only the collected store collects. -/
theorem Uns.collect (h : Uns low m s0 s x) {o : S55} (ho : FewOp o) (h1 : o.f0 = 1) (hlow : o.f2 = low) : Uns low (m + 1) s0 (opP s o).2 x := by
  have e : (opP s o).2 = colP s low := by unfold opP; rw [if_neg (by omega), if_pos h1, hlow]
  have hl := h.ls.op ho
  rw [e] at hl ⊢
  refine ⟨hl, Good.lim h.lx (by omega), h.now, fun key => ?_⟩
  rw [h.ls.good.col_ch]
  exact (trim_trim (h.ls.good.rg key) (Int.le_refl low)).trans (h.tr key)
theorem Uns.op (h : Uns low m s0 s x) {o : S55} (ho : FewOp o) (h1 : o.f0 ≠ 1) (hlow : o.f2 = low) (hn : low ≤ s.now) (ha : low ≤ o.f3) :
    Uns low (m + 1) s0 (opP s o).2 (opP x o).2 ∧ (opP s o).1.e = (opP x o).1.e ∧ (opP s o).1.b = (opP x o).1.b ∧ (opP s o).1.is = (opP x o).1.is ∧ (opP s o).1.sc = (opP x o).1.sc ∧ (o.f0 ≠ 2 → (opP s o).1.n = (opP x o).1.n) := by
  have hls := h.ls.op ho
  have hlx := h.lx.op ho
  by_cases h0 : o.f0 = 0
  · simp only [opP, if_pos h0, hlow] at hls hlx ⊢
    obtain ⟨a, b, c, d⟩ := h.com ho.len ho.key ho.dat hn
    exact ⟨⟨hls, hlx, c, d⟩, b, trivial, trivial, trivial, fun _ => a⟩
  by_cases h2 : o.f0 = 2
  · simp only [opP, if_neg h0, if_neg h1, if_pos h2] at hls hlx ⊢
    exact ⟨⟨hls, hlx, h.now, h.tr⟩, trivial, by rw [h.get ha], by rw [h.get ha], trivial, fun e => absurd h2 e⟩
  by_cases h3 : o.f0 = 3
  · simp only [opP, if_neg h0, if_neg h1, if_neg h2, if_pos h3] at hls hlx ⊢
    exact ⟨⟨hls, hlx, h.now, h.tr⟩, trivial, trivial, trivial, h.scan ha _ _, fun _ => trivial⟩
  simp only [opP, if_neg h0, if_neg h1, if_neg h2, if_neg h3] at hls hlx ⊢
  exact ⟨⟨hls, hlx, h.now, h.tr⟩, trivial, trivial, trivial, trivial, fun _ => trivial⟩
end
end Go.Proofs.Yteofdgonpbmdlaa.St
namespace Go.Proofs.Yteofdgonpbmdlaa.St
open Go.RowKit Go.Maps Go.Proofs.YteofdgonpbmdlaaW.PrintWords Go.Proofs.YteofdgonpbmdlaaW.PrintLast Go.Proofs.YteofdgonpbmdlaaW.PrintMore Go.Proofs.Yteofdgonpbmdlaa.C Go.Proofs.Yteofdgonpbmdlaa.Pure
theorem _root_.Go.Proofs.Yteofdgonpbmdlaa.C.StoreAt.lowerOth {W : World} {base base' p : Nat} {B : Nat → Prop} {s : SS} {kv : Value} {mb n : Nat} {D : DataW Value} (h : StoreAt W base B p s kv mb n D) (hb : base' ≤ base) : StoreAt W base' B p s kv mb n D where
  cells := h.cells
  keys := h.keys.imp (fun q => Kd.R_lower q hb) (fun q => q)
  map := h.map
  bb := fun k hk => Nat.le_trans hb (h.bb k hk)
  bn := h.bn
  bp := h.bp
  bm := h.bm
  pm := h.pm
  chains := h.chains
/-- The blocks from base on that the other store does not own. -/
def Oth (base p mb : Nat) (kv : Value) (k : Nat) : Prop := base ≤ k ∧ ¬ Own p mb kv k
theorem oth_turn {W W' : World} {base p mb p2 mb2 n2 n' : Nat} {kv kv' kv2 : Value} {s2 s' : SS} {D2 D' : DataW Value} {B : Nat → Prop} (hx : StoreAt W base (Oth base p mb kv) p2 s2 kv2 mb2 n2 D2) (hT : Turn base (Own p mb kv) W W') (hK : ∀ q, kv'.ownBlock = some q → kv.ownBlock = some q ∨ W.heap.size ≤ q) (hS : StoreAt W' base B p s' kv' mb n' D') :
    StoreAt W' base (Oth base p mb kv') p2 s2 kv2 mb2 n2 D2 :=
  hx.move hT.below.size (fun k hk hl => hT.keep k hl hk.2) (fun k hk hl => ⟨hk.1, fun ho => by
    rcases ho with e | e | e
    · exact hk.2 (.inl e)
    · exact hk.2 (.inr (.inl e))
    · rcases hK k e.symm with e2 | e2
      · exact hk.2 (.inr (.inr e2.symm))
      · omega⟩) (fun k hk => hk.1) (fun k hk => ⟨Nat.le_trans hS.base_le hk, fun ho => by have := (hS.own ho).2.2; omega⟩)
theorem oth_new {W : World} {base p mb p2 mb2 n n2 b2 : Nat} {kv kv2 : Value} {s s2 : SS} {D D2 : DataW Value} {B : Nat → Prop} (hS : StoreAt W base B p s kv mb n D) (hx : StoreAt W b2 (fun k => b2 ≤ k) p2 s2 kv2 mb2 n2 D2) (hb : base ≤ b2) (ho : ∀ k, Own p mb kv k → k < b2) : StoreAt W base (Oth base p mb kv) p2 s2 kv2 mb2 n2 D2 :=
  (hx.lowerOth hb).rebase (fun k hk _ => ⟨Nat.le_trans hb hk, fun h => by have := ho k h; omega⟩) (fun _ hk => hk.1) (fun k hk => ⟨Nat.le_trans hS.base_le hk, fun h => by have := (hS.own h).2.2; omega⟩)
theorem oth_turn2 {W W' : World} {base p mb p2 mb2 n2 n' : Nat} {kv kv' kv2 : Value} {s2 s' : SS} {D2 D' : DataW Value} {B Q : Nat → Prop} (hQ : ∀ k, W.heap.size ≤ k → Q k) (hx : StoreAt W base (fun k => Oth base p mb kv k ∧ Q k) p2 s2 kv2 mb2 n2 D2) (hT : Turn base (Own p mb kv) W W') (hK : ∀ q, kv'.ownBlock = some q → kv.ownBlock = some q ∨ W.heap.size ≤ q) (hS : StoreAt W' base B p s' kv' mb n' D') :
    StoreAt W' base (fun k => Oth base p mb kv' k ∧ Q k) p2 s2 kv2 mb2 n2 D2 :=
  hx.move hT.below.size (fun k hk hl => hT.keep k hl hk.1.2) (fun k hk hl => ⟨⟨hk.1.1, fun ho => by
    rcases ho with e | e | e
    · exact hk.1.2 (.inl e)
    · exact hk.1.2 (.inr (.inl e))
    · rcases hK k e.symm with e2 | e2
      · exact hk.1.2 (.inr (.inr e2.symm))
      · omega⟩, hk.2⟩) (fun k hk => hk.1.1) (fun k hk => ⟨⟨Nat.le_trans hS.base_le hk, fun ho => by have := (hS.own ho).2.2; omega⟩, hQ k (Nat.le_trans hT.below.size hk)⟩)
theorem oth_ex {W W1 : World} {base p n g mb : Nat} {B : Nat → Prop} {s : SS} {kv : Value} {D : DataW Value} (h : StoreAt W base B p s kv mb n D) (hb : Below W.heap.size W W1) (h1 : W.heap.size ≤ g) (h2 : g < W1.heap.size) : StoreAt W1 base (fun k => B k ∧ k ≠ g) p s kv mb n D :=
  h.move hb.size (fun k _ hl => hb.block k hl) (fun k hk hl => ⟨hk, by omega⟩) (fun k hk => h.bb k hk.1) (fun k hk => ⟨h.bn k (Nat.le_trans hb.size hk), by omega⟩)
theorem oth_back {W : World} {base p n p2 mb2 mb : Nat} {B : Nat → Prop} {s : SS} {kv kv2 : Value} {D : DataW Value} (h : StoreAt W base B p s kv mb n D) (hB : ∀ k, B k → Oth base p2 mb2 kv2 k) : StoreAt W base (Oth base p2 mb2 kv2) p s kv mb n D :=
  h.rebase (fun k hk _ => hB k hk) (fun _ hk => hk.1) (fun k hk => hB k (h.bn k hk))
theorem same_told (n e : Int) (b : List Int) (is : Bool) (c : List S62) (hc : c.length ≤ 9223372036854775807) : ∃ k, conductorlaw08_same.f k n e b is c n e b is c = some true := by
  obtain ⟨k, hk⟩ := same_refl c hc
  refine ⟨k, ?_⟩
  unfold conductorlaw08_same.f
  rw [if_pos rfl, if_pos rfl, equal_refl b]
  simp [hk]
theorem told_sc {m : Nat} {s : SS} (g : Good m s) (o : S55) : (opP s o).1.sc.length ≤ 20 * m := by
  by_cases h0 : o.f0 = 0
  · simp only [opP, if_pos h0]; exact Nat.zero_le _
  by_cases h1 : o.f0 = 1
  · simp only [opP, if_neg h0, if_pos h1]; exact Nat.zero_le _
  by_cases h2 : o.f0 = 2
  · simp only [opP, if_neg h0, if_neg h1, if_pos h2]; exact Nat.zero_le _
  by_cases h3 : o.f0 = 3
  · simp only [opP, if_neg h0, if_neg h1, if_neg h2, if_pos h3]; exact scan_len g _ _ _
  · simp only [opP, if_neg h0, if_neg h1, if_neg h2, if_neg h3]; exact Nat.zero_le _
end Go.Proofs.Yteofdgonpbmdlaa.St
