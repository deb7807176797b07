/-
  A part of the proof: what some of the program's functions compute.
-/
import Derived.Test.YtogbocplojbdjaaVPB
namespace Go.Proofs.Ytogbocplojbdjaa
open Go Go.E Go.Proofs
set_option linter.unusedVariables false
set_option linter.unusedSimpArgs false
structure CanonB (l : List Band) : Prop where
  ok : ∀ b ∈ l, Canon b.2.2 ∧ b.2.2 ≠ [] ∧ b.1 < b.2.1
  ord : l.Pairwise (fun a b => a.2.1 ≤ b.1)
  adj : ∀ pre a b post, l = pre ++ a :: b :: post → a.2.1 = b.1 → a.2.2 ≠ b.2.2
def ptB (l : List Band) (x y : Int) : Bool := l.any fun b => hitP y (b.1, b.2.1) && covL b.2.2 x
theorem ptB_iff {l : List Band} {x y : Int} : ptB l x y = true ↔ ∃ b ∈ l, (b.1 ≤ y ∧ y < b.2.1) ∧ covL b.2.2 x = true := by
  unfold ptB
  rw [List.any_eq_true]
  constructor
  · rintro ⟨b, hb, h⟩
    rw [Bool.and_eq_true, hitP_iff] at h
    exact ⟨b, hb, h.1, h.2⟩
  · rintro ⟨b, hb, h1, h2⟩
    exact ⟨b, hb, by rw [Bool.and_eq_true, hitP_iff]; exact ⟨h1, h2⟩⟩
theorem canonB_nil : CanonB [] := ⟨fun b hb => (by cases hb), List.Pairwise.nil, fun pre a b post h => (by cases pre <;> cases h)⟩
theorem canonB_cons {b : Band} {l : List Band} (h : CanonB (b :: l)) : CanonB l ∧ (∀ c ∈ l, b.2.1 ≤ c.1) ∧ (Canon b.2.2 ∧ b.2.2 ≠ [] ∧ b.1 < b.2.1) := by
  obtain ⟨h1, h2, h3⟩ := h
  obtain ⟨h4, h5⟩ := List.pairwise_cons.1 h2
  exact ⟨⟨fun c hc => h1 c (List.mem_cons_of_mem _ hc), h5, fun pre x y post e => h3 (b :: pre) x y post (by rw [e]; rfl)⟩, h4, h1 b (List.mem_cons_self ..)⟩
theorem cov_ne {l : List Run} (h : Canon l) (hn : l ≠ []) : ∃ x, covL l x = true := by
  cases l with
  | nil => exact absurd rfl hn
  | cons p r => exact ⟨p.1, covL_iff.2 ⟨p, List.mem_cons_self .., Int.le_refl _, (canon_cons h).2.2⟩⟩
theorem ptB_head {b : Band} {l : List Band} (h : ∀ c ∈ l, b.2.1 ≤ c.1) {x y : Int} (h1 : b.1 ≤ y) (h2 : y < b.2.1) : ptB (b :: l) x y = covL b.2.2 x := by
  rw [Bool.eq_iff_iff, ptB_iff]
  constructor
  · rintro ⟨c, hc, ⟨c1, c2⟩, hx⟩
    rcases List.mem_cons.1 hc with rfl | hc
    · exact hx
    · have := h c hc
      omega
  · intro hx
    exact ⟨b, List.mem_cons_self .., ⟨h1, h2⟩, hx⟩
theorem ptB_tail {b : Band} {l : List Band} {x y : Int} (h : ¬ (b.1 ≤ y ∧ y < b.2.1)) : ptB (b :: l) x y = ptB l x y := by
  rw [Bool.eq_iff_iff, ptB_iff, ptB_iff]
  constructor
  · rintro ⟨c, hc, hy, hx⟩
    rcases List.mem_cons.1 hc with rfl | hc
    · exact absurd hy h
    · exact ⟨c, hc, hy, hx⟩
  · rintro ⟨c, hc, hy, hx⟩
    exact ⟨c, List.mem_cons_of_mem _ hc, hy, hx⟩
theorem band_end {b : Band} {l : List Band} (h : CanonB (b :: l)) : ¬ ∀ x, ptB (b :: l) x b.2.1 = covL b.2.2 x := by
  obtain ⟨hl, hle, hb, hne, hlt⟩ := canonB_cons h
  intro hall
  obtain ⟨x0, hx0⟩ := cov_ne hb hne
  have h0 := hall x0
  rw [hx0, ptB_tail (by omega), ptB_iff] at h0
  obtain ⟨c, hc, ⟨c1, c2⟩, _⟩ := h0
  cases l with
  | nil => cases hc
  | cons d r =>
    obtain ⟨hr, hdr, hd, _, hdlt⟩ := canonB_cons hl
    have hbd := hle d (List.mem_cons_self ..)
    have hcd : c = d := by
      rcases List.mem_cons.1 hc with hc | hc
      · exact hc
      · have := hdr c hc
        omega
    subst hcd
    have e : b.2.1 = c.1 := by omega
    refine h.adj [] b c r rfl e (canon_unique hb hd fun x => ?_)
    rw [← hall x, ptB_tail (by omega), ptB_head hdr (by omega) (by omega)]
theorem canonB_unique : ∀ {a b : List Band}, CanonB a → CanonB b → (∀ x y, ptB a x y = ptB b x y) → a = b
  | [], [], _, _, _ => rfl
  | [], q :: b, _, hb, h => by
    obtain ⟨_, _, h1, h2, h3⟩ := canonB_cons hb
    obtain ⟨x, hx⟩ := cov_ne h1 h2
    have : ptB (q :: b) x q.1 = true := ptB_iff.2 ⟨q, List.mem_cons_self .., ⟨Int.le_refl _, h3⟩, hx⟩
    rw [← h] at this
    cases this
  | p :: a, [], ha, _, h => by
    obtain ⟨_, _, h1, h2, h3⟩ := canonB_cons ha
    obtain ⟨x, hx⟩ := cov_ne h1 h2
    have : ptB (p :: a) x p.1 = true := ptB_iff.2 ⟨p, List.mem_cons_self .., ⟨Int.le_refl _, h3⟩, hx⟩
    rw [h] at this
    cases this
  | p :: a, q :: b, ha, hb, h => by
    obtain ⟨ca, la, pc, pn, pl⟩ := canonB_cons ha
    obtain ⟨cb, lb, qc, qn, ql⟩ := canonB_cons hb
    have key : ∀ {p q : Band} {a b : List Band}, CanonB (p :: a) → CanonB (q :: b) → (∀ x y, ptB (p :: a) x y = ptB (q :: b) x y) → q.1 ≤ p.1 := by
      intro p q a b ha hb h
      obtain ⟨_, _, h1, h2, h3⟩ := canonB_cons ha
      obtain ⟨_, k0, _, _, k3⟩ := canonB_cons hb
      obtain ⟨x, hx⟩ := cov_ne h1 h2
      have : ptB (p :: a) x p.1 = true := ptB_iff.2 ⟨p, List.mem_cons_self .., ⟨Int.le_refl _, h3⟩, hx⟩
      rw [h, ptB_iff] at this
      obtain ⟨c, hc, ⟨c1, c2⟩, _⟩ := this
      rcases List.mem_cons.1 hc with rfl | hc
      · exact c1
      · have := k0 c hc
        omega
    have e1 : p.1 = q.1 := Int.le_antisymm (key hb ha fun x y => (h x y).symm) (key ha hb h)
    have e3 : p.2.2 = q.2.2 := canon_unique pc qc fun x => by
      have := h x p.1
      rwa [ptB_head la (Int.le_refl _) pl, ptB_head lb (by omega) (by omega)] at this
    have e2 : p.2.1 = q.2.1 := by
      rcases Int.lt_trichotomy p.2.1 q.2.1 with hlt | heq | hlt
      · exfalso
        refine band_end ha fun x => ?_
        rw [h, ptB_head lb (by omega) hlt, e3]
      · exact heq
      · exfalso
        refine band_end hb fun x => ?_
        rw [← h, ptB_head la (by omega) hlt, e3]
    have e : p = q := Prod.ext e1 (Prod.ext e2 e3)
    subst e
    rw [canonB_unique ca cb fun x y => ?_]
    by_cases hy : p.1 ≤ y ∧ y < p.2.1
    · have z : ∀ l : List Band, (∀ c ∈ l, p.2.1 ≤ c.1) → ptB l x y = false := by
        intro l hl
        rw [Bool.eq_false_iff]
        intro hh
        obtain ⟨c, hc, ⟨c1, _⟩, _⟩ := ptB_iff.1 hh
        have := hl c hc
        omega
      rw [z a la, z b lb]
    · have := h x y
      rwa [ptB_tail hy, ptB_tail hy] at this
theorem canonB_snoc {l : List Band} {q : Band} (hl : CanonB l) (hq : Canon q.2.2 ∧ q.2.2 ≠ [] ∧ q.1 < q.2.1) (hle : ∀ b ∈ l, b.2.1 ≤ q.1) (hadj : ∀ pre a, l = pre ++ [a] → a.2.1 = q.1 → a.2.2 ≠ q.2.2) : CanonB (l ++ [q]) := by
  refine ⟨fun b hb => ?_, ?_, fun pre a b post e h => ?_⟩
  · rcases List.mem_append.1 hb with hb | hb
    · exact hl.ok b hb
    · rw [List.mem_singleton.1 hb]
      exact hq
  · rw [List.pairwise_append]
    refine ⟨hl.ord, List.pairwise_singleton .., fun b hb c hc => ?_⟩
    rw [List.mem_singleton.1 hc]
    exact hle b hb
  · rcases List.eq_nil_or_concat post with rfl | ⟨post', z, rfl⟩
    · have e : l ++ [q] = (pre ++ [a]) ++ [b] := by rw [e]; simp
      obtain ⟨e1, e2⟩ := List.append_inj' e rfl
      have e2 : q = b := by simpa using e2
      subst e2
      exact hadj pre a e1 h
    · have e : l ++ [q] = (pre ++ a :: b :: post') ++ [z] := by rw [e]; simp
      obtain ⟨e1, _⟩ := List.append_inj' e rfl
      exact hl.adj pre a b post' e1 h
theorem canonB_init {l : List Band} {q : Band} (h : CanonB (l ++ [q])) : CanonB l ∧ (Canon q.2.2 ∧ q.2.2 ≠ [] ∧ q.1 < q.2.1) ∧ (∀ b ∈ l, b.2.1 ≤ q.1) ∧ ∀ pre a, l = pre ++ [a] → a.2.1 = q.1 → a.2.2 ≠ q.2.2 := by
  obtain ⟨h1, h2, h3⟩ := h
  obtain ⟨g1, _, g2⟩ := List.pairwise_append.1 h2
  refine ⟨⟨fun b hb => h1 b (List.mem_append_left _ hb), g1, fun pre a b post e => h3 pre a b (post ++ [q]) (by rw [e]; simp)⟩, h1 q (by simp), fun b hb => g2 b hb q (by simp), fun pre a e => h3 pre a q [] (by rw [e]; simp)⟩
theorem bandK_canon {ys : List Int} (hs : ys.Pairwise (· < ·)) {runs : Nat → List Run} (hr : ∀ i, i + 1 < ys.length → Canon (runs i)) : ∀ k, k + 1 ≤ ys.length → CanonB (bandK runs ys k) ∧ ∀ b ∈ bandK runs ys k, @LE.le Int _ b.2.1 (elemAt (t := I64) ys k)
  | 0, _ => ⟨canonB_nil, fun b hb => (by cases hb)⟩
  | k + 1, hk => by
    obtain ⟨h1, h2⟩ := bandK_canon hs hr k (by omega)
    have hlt : @LT.lt Int _ (elemAt (t := I64) ys k) (elemAt (t := I64) ys (k + 1)) := by
      rw [el_at (by omega), el_at (by omega)]
      exact List.pairwise_iff_getElem.1 hs k (k + 1) (by omega) (by omega) (by omega)
    have hc := hr k (by omega)
    rw [bandK_step]
    unfold bandStep
    split
    · exact ⟨h1, fun b hb => Int.le_trans (h2 b hb) (Int.le_of_lt hlt)⟩
    rename_i hne
    have hne : runs k ≠ [] := fun h => hne (by rw [h]; rfl)
    rcases List.eq_nil_or_concat (bandK runs ys k) with he | ⟨pre, p, he⟩
    · rw [he, if_neg (fun h => (by simp at h))]
      refine ⟨canonB_snoc canonB_nil ⟨hc, hne, hlt⟩ (fun b hb => (by cases hb)) (fun pre a e => (by cases pre <;> cases e)), fun b hb => ?_⟩
      rw [List.nil_append, List.mem_singleton] at hb
      rw [hb]
      exact Int.le_refl _
    · rw [List.concat_eq_append] at he
      rw [he] at h1 h2 ⊢
      obtain ⟨g1, ⟨g2, g3, g4⟩, g5, g6⟩ := canonB_init h1
      rw [lastB_snoc, setB_snoc]
      have hp := h2 p (by simp)
      split
      · rename_i h
        refine ⟨canonB_snoc g1 ⟨g2, g3, Int.lt_of_lt_of_le g4 (Int.le_trans hp (Int.le_of_lt hlt))⟩ g5 g6, fun b hb => ?_⟩
        rcases List.mem_append.1 hb with hb | hb
        · exact Int.le_trans (h2 b (List.mem_append_left _ hb)) (Int.le_of_lt hlt)
        · rw [List.mem_singleton.1 hb]
          exact Int.le_refl _
      · rename_i h
        refine ⟨canonB_snoc h1 ⟨hc, hne, hlt⟩ h2 fun pre' a e e1 e2 => h ⟨by simp, ?_, ?_⟩, fun b hb => ?_⟩
        · have : p = a := by
            have := (List.append_inj' e rfl).2
            simpa using this
          rw [this]
          exact e1
        · have : p = a := by
            have := (List.append_inj' e rfl).2
            simpa using this
          rw [this]
          exact e2
        · rcases List.mem_append.1 hb with hb | hb
          · exact Int.le_trans (h2 b hb) (Int.le_of_lt hlt)
          · rw [List.mem_singleton.1 hb]
            exact Int.le_refl _
def bordB (l : List Band) : Prop := ∀ b ∈ l, inB b.1 ∧ inB b.2.1 ∧ ∀ r ∈ b.2.2, inB r.1 ∧ inB r.2
def Region (l : List Rect) : Prop := ∃ bs, l = rectsB bs ∧ CanonB bs ∧ bordB bs
theorem contains5_rectsB {bs : List Band} (hb : bordB bs) (x y : Int) : contains5 (rectsB bs) x y = ptB bs x y := by
  rw [Bool.eq_iff_iff, ptB_iff]
  unfold contains5
  rw [List.any_eq_true]
  constructor
  · rintro ⟨r, hr, h⟩
    unfold rectsB at hr
    obtain ⟨b, hbm, hr⟩ := List.mem_flatMap.1 hr
    unfold rectsB1 at hr
    obtain ⟨p, hp, rfl⟩ := List.mem_map.1 hr
    simp only [Bool.and_eq_true, decide_eq_true_eq] at h
    exact ⟨b, hbm, ⟨h.1.2, h.2⟩, covL_iff.2 ⟨p, hp, h.1.1.1.2, h.1.1.2⟩⟩
  · rintro ⟨b, hbm, ⟨h1, h2⟩, hx⟩
    obtain ⟨p, hp, h3, h4⟩ := covL_iff.1 hx
    refine ⟨(p.1, b.1, p.2, b.2.1), ?_, ?_⟩
    · unfold rectsB
      exact List.mem_flatMap.2 ⟨b, hbm, List.mem_map.2 ⟨p, hp, rfl⟩⟩
    · obtain ⟨k1, k2, k3⟩ := hb b hbm
      obtain ⟨k4, k5⟩ := k3 p hp
      unfold inB at k1 k2 k4 k5
      simp only [usableR, Bool.and_eq_true, decide_eq_true_eq]
      omega
theorem region_unique {a b : List Rect} (ha : Region a) (hb : Region b) (h : ∀ x y, contains5 a x y = contains5 b x y) : a = b := by
  obtain ⟨as', rfl, ca, ba⟩ := ha
  obtain ⟨bs, rfl, cb, bb⟩ := hb
  rw [canonB_unique ca cb fun x y => ?_]
  rw [← contains5_rectsB ba, ← contains5_rectsB bb, h]
theorem bandK_bord {ys : List Int} (hy : bord ys) {runs : Nat → List Run} (hr : ∀ i, ∀ r ∈ runs i, inB r.1 ∧ inB r.2) : ∀ k, bordB (bandK runs ys k)
  | 0 => fun b hb => (by cases hb)
  | k + 1 => by
    have ih := bandK_bord hy hr k
    rw [bandK_step]
    unfold bandStep
    split
    · exact ih
    split
    · rename_i h1 h2
      intro b hb
      rcases List.mem_or_eq_of_mem_set hb with hb | hb
      · exact ih b hb
      · have hm : lastB (bandK runs ys k) ∈ bandK runs ys k := by
          unfold lastB
          exact List.mem_of_getElem? (elemAt_get (t := BandT) _ _ (by omega))
        obtain ⟨k1, _, k3⟩ := ih _ hm
        rw [hb]
        exact ⟨k1, bord_at hy _, k3⟩
    · intro b hb
      rcases List.mem_append.1 hb with hb | hb
      · exact ih b hb
      · rw [List.mem_singleton.1 hb]
        exact ⟨bord_at hy _, bord_at hy _, hr k⟩
theorem combined_region (a b : List Rect) (m : Int) : Region (combinedL a b m) := by
  have hs := ysOf_sorted a b
  have hc : ∀ i, Canon (pairsOf (runsAt a b m (ysOf a b) i)) := fun i => canon_pairs (mergedL_si _ _ m).1
  have hr : ∀ i, ∀ r ∈ pairsOf (runsAt a b m (ysOf a b) i), inB r.1 ∧ inB r.2 := fun i r h => ⟨bord_runsAt a b m _ i _ (pairsOf_mem h).1, bord_runsAt a b m _ i _ (pairsOf_mem h).2⟩
  refine ⟨bandK (fun i => pairsOf (runsAt a b m (ysOf a b) i)) (ysOf a b) ((ysOf a b).length - 1), (bands_is a b m fun i _ => rfl).symm, ?_, bandK_bord (bord_ysOf a b) hr _⟩
  by_cases h0 : (ysOf a b).length = 0
  · rw [h0]
    exact canonB_nil
  · exact (bandK_canon hs (fun i _ => hc i) _ (by omega)).1
theorem combined_is {a b c : List Rect} {m : Int} (hc : Region c) (h : ∀ x y, contains5 c x y = modeB m (contains5 a x y) (contains5 b x y)) : combinedL a b m = c :=
  region_unique (combined_region a b m) hc fun x y => by rw [contains5_combined, h]
theorem combined_same {a b : List Rect} (h : ∀ x y, contains5 a x y = contains5 b x y) : combinedL a [] 1 = combinedL b [] 1 :=
  region_unique (combined_region a [] 1) (combined_region b [] 1) fun x y => by rw [contains5_combined, contains5_combined, h]
theorem mode_one (p : Bool) : modeB 1 p false = p := by cases p <;> rfl
theorem region_self {a : List Rect} (h : Region a) : combinedL a [] 1 = a := combined_is h fun x y => by
  rw [show contains5 [] x y = false from rfl, mode_one]
end Go.Proofs.Ytogbocplojbdjaa
