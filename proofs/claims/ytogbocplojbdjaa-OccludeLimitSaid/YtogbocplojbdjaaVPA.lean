/-
  A part of the proof: what some of the program's functions compute.
-/
import Derived.Test.YtogbocplojbdjaaVNL
namespace Go.Proofs.Ytogbocplojbdjaa
open Go Go.E Go.Proofs
set_option linter.unusedVariables false
set_option linter.unusedSimpArgs false
abbrev RunT : Ty := .prod I64 I64
abbrev Run := Int × Int
def Canon (l : List Run) : Prop := (∀ r ∈ l, r.1 < r.2) ∧ l.Pairwise (fun a b => a.2 < b.1)
def covL (l : List Run) (x : Int) : Bool := l.any (hitP x)
theorem hitP_iff {x : Int} {p : Run} : hitP x p = true ↔ p.1 ≤ x ∧ x < p.2 := by simp [hitP]
theorem covL_iff {l : List Run} {x : Int} : covL l x = true ↔ ∃ r ∈ l, r.1 ≤ x ∧ x < r.2 := by
  unfold covL
  rw [List.any_eq_true]
  exact ⟨fun ⟨r, hr, h⟩ => ⟨r, hr, hitP_iff.1 h⟩, fun ⟨r, hr, h⟩ => ⟨r, hr, hitP_iff.2 h⟩⟩
theorem canon_cons {p : Run} {l : List Run} (h : Canon (p :: l)) : Canon l ∧ (∀ r ∈ l, p.2 < r.1) ∧ p.1 < p.2 := by
  obtain ⟨h1, h2⟩ := h
  obtain ⟨h3, h4⟩ := List.pairwise_cons.1 h2
  exact ⟨⟨fun r hr => h1 r (List.mem_cons_of_mem _ hr), h4⟩, h3, h1 p (List.mem_cons_self ..)⟩
theorem canon_unique : ∀ {a b : List Run}, Canon a → Canon b → (∀ x, covL a x = covL b x) → a = b
  | [], [], _, _, _ => rfl
  | [], q :: b, _, hb, h => by
    have h1 : covL (q :: b) q.1 = true := covL_iff.2 ⟨q, List.mem_cons_self .., Int.le_refl _, (canon_cons hb).2.2⟩
    rw [← h q.1] at h1
    cases h1
  | p :: a, [], ha, _, h => by
    have h1 : covL (p :: a) p.1 = true := covL_iff.2 ⟨p, List.mem_cons_self .., Int.le_refl _, (canon_cons ha).2.2⟩
    rw [h p.1] at h1
    cases h1
  | p :: a, q :: b, ha, hb, h => by
    obtain ⟨ca, la, pa⟩ := canon_cons ha
    obtain ⟨cb, lb, qb⟩ := canon_cons hb
    have e1 : p.1 = q.1 := by
      have h1 : covL (p :: a) p.1 = true := covL_iff.2 ⟨p, List.mem_cons_self .., Int.le_refl _, pa⟩
      have h2 : covL (q :: b) q.1 = true := covL_iff.2 ⟨q, List.mem_cons_self .., Int.le_refl _, qb⟩
      rw [h] at h1
      rw [← h] at h2
      obtain ⟨r, hr, r1, r2⟩ := covL_iff.1 h1
      obtain ⟨s, hs, s1, s2⟩ := covL_iff.1 h2
      have k1 : q.1 ≤ p.1 := by
        rcases List.mem_cons.1 hr with rfl | hr
        · exact r1
        · have := lb r hr
          omega
      have k2 : p.1 ≤ q.1 := by
        rcases List.mem_cons.1 hs with rfl | hs
        · exact s1
        · have := la s hs
          omega
      omega
    have e2 : p.2 = q.2 := by
      rcases Int.lt_trichotomy p.2 q.2 with hlt | heq | hlt
      · exfalso
        have h2 : covL (q :: b) p.2 = true := covL_iff.2 ⟨q, List.mem_cons_self .., by omega, hlt⟩
        rw [← h] at h2
        obtain ⟨r, hr, r1, r2⟩ := covL_iff.1 h2
        rcases List.mem_cons.1 hr with rfl | hr
        · omega
        · have := la r hr
          omega
      · exact heq
      · exfalso
        have h2 : covL (p :: a) q.2 = true := covL_iff.2 ⟨p, List.mem_cons_self .., by omega, hlt⟩
        rw [h] at h2
        obtain ⟨r, hr, r1, r2⟩ := covL_iff.1 h2
        rcases List.mem_cons.1 hr with rfl | hr
        · omega
        · have := lb r hr
          omega
    have e : p = q := Prod.ext e1 e2
    subst e
    rw [canon_unique ca cb fun x => ?_]
    have hx := h x
    unfold covL at hx ⊢
    rw [List.any_cons, List.any_cons] at hx
    by_cases hp : hitP x p = true
    · have hp2 := hitP_iff.1 hp
      have k1 : a.any (hitP x) = false := by
        rw [List.any_eq_false]
        intro r hr hh
        have := la r hr
        have := hitP_iff.1 hh
        omega
      have k2 : b.any (hitP x) = false := by
        rw [List.any_eq_false]
        intro r hr hh
        have := lb r hr
        have := hitP_iff.1 hh
        omega
      rw [k1, k2]
    · rw [Bool.not_eq_true] at hp
      rwa [hp, Bool.false_or, Bool.false_or] at hx
theorem canon_pairs : ∀ {l : List Int}, l.Pairwise (· < ·) → Canon (pairsOf l)
  | [], _ => ⟨fun r hr => (by cases hr), List.Pairwise.nil⟩
  | [a], _ => ⟨fun r hr => (by cases hr), List.Pairwise.nil⟩
  | a :: b :: l, h => by
    obtain ⟨h1, h2⟩ := List.pairwise_cons.1 h
    obtain ⟨h3, h4⟩ := List.pairwise_cons.1 h2
    obtain ⟨c1, c2⟩ := canon_pairs h4
    refine ⟨fun r hr => ?_, List.pairwise_cons.2 ⟨fun r hr => h3 _ (pairsOf_mem hr).1, c2⟩⟩
    rcases List.mem_cons.1 hr with rfl | hr
    · exact h1 b (List.mem_cons_self ..)
    · exact c1 r hr
theorem covL_pairs (l : List Int) (x : Int) : covL (pairsOf l) x = inL l x := rfl
def addRun (out : List Run) (x x' : Int) : List Run :=
  if 0 < out.length ∧ (elemAt (t := RunT) out (out.length - 1)).2 = x then out.set (out.length - 1) ((elemAt (t := RunT) out (out.length - 1)).1, x') else out ++ [(x, x')]
theorem last_snoc (pre : List Run) (p : Run) : elemAt (t := RunT) (pre ++ [p]) ((pre ++ [p]).length - 1) = p := by
  have := elemAt_get (t := RunT) (pre ++ [p]) ((pre ++ [p]).length - 1) (by simp)
  rw [List.getElem?_append_right (by simp)] at this
  simp at this
  simpa using this.symm
theorem set_snoc (pre : List Run) (p q : Run) : (pre ++ [p]).set ((pre ++ [p]).length - 1) q = pre ++ [q] := by simp
theorem addRun_snoc (pre : List Run) (p : Run) (x x' : Int) : addRun (pre ++ [p]) x x' = if p.2 = x then pre ++ [(p.1, x')] else pre ++ [p] ++ [(x, x')] := by
  unfold addRun
  rw [last_snoc, set_snoc]
  by_cases h : p.2 = x
  · rw [if_pos ⟨by simp, h⟩, if_pos h]
  · rw [if_neg (fun hh => h hh.2), if_neg h]
theorem canon_snoc {pre : List Run} {p : Run} : Canon (pre ++ [p]) ↔ Canon pre ∧ (∀ r ∈ pre, r.2 < p.1) ∧ p.1 < p.2 := by
  unfold Canon
  rw [List.pairwise_append]
  constructor
  · rintro ⟨h1, h2, h3, h4⟩
    exact ⟨⟨fun r hr => h1 r (List.mem_append_left _ hr), h2⟩, fun r hr => h4 r hr p (List.mem_singleton.2 rfl), h1 p (by simp)⟩
  · rintro ⟨⟨h1, h2⟩, h3, h4⟩
    refine ⟨fun r hr => ?_, h2, List.pairwise_singleton .., fun r hr q hq => ?_⟩
    · rcases List.mem_append.1 hr with hr | hr
      · exact h1 r hr
      · rw [List.mem_singleton.1 hr]
        exact h4
    · rw [List.mem_singleton.1 hq]
      exact h3 r hr
theorem covL_append (a b : List Run) (x : Int) : covL (a ++ b) x = (covL a x || covL b x) := by
  unfold covL
  rw [List.any_append]
theorem covL_one (p : Run) (x : Int) : covL [p] x = hitP x p := by
  unfold covL
  simp
theorem addRun_spec {out : List Run} {x x' : Int} (hc : Canon out) (hle : ∀ r ∈ out, r.2 ≤ x) (hx : x < x') :
    Canon (addRun out x x') ∧ (∀ r ∈ addRun out x x', r.2 ≤ x') ∧ ∀ z, covL (addRun out x x') z = (covL out z || hitP z (x, x')) := by
  rcases List.eq_nil_or_concat out with rfl | ⟨pre, p, rfl⟩
  · have e : addRun [] x x' = [(x, x')] := rfl
    rw [e]
    refine ⟨⟨fun r hr => ?_, List.pairwise_singleton ..⟩, fun r hr => ?_, fun z => by rw [covL_one]; rfl⟩
    · rw [List.mem_singleton.1 hr]
      exact hx
    · rw [List.mem_singleton.1 hr]
      exact Int.le_refl _
  · rw [List.concat_eq_append] at hc hle ⊢
    obtain ⟨c1, c2, c3⟩ := canon_snoc.1 hc
    have hp := hle p (by simp)
    rw [addRun_snoc]
    split
    · rename_i h
      refine ⟨canon_snoc.2 ⟨c1, c2, by simp only; omega⟩, fun r hr => ?_, fun z => ?_⟩
      · rcases List.mem_append.1 hr with hr | hr
        · have := hle r (List.mem_append_left _ hr)
          omega
        · rw [List.mem_singleton.1 hr]
          exact Int.le_refl _
      · rw [covL_append, covL_append, covL_one, covL_one]
        have : hitP z (p.1, x') = (hitP z p || hitP z (x, x')) := by
          rw [Bool.eq_iff_iff]
          simp only [hitP, Bool.or_eq_true, Bool.and_eq_true, decide_eq_true_eq]
          omega
        rw [this, Bool.or_assoc]
    · rename_i h
      refine ⟨canon_snoc.2 ⟨hc, fun r hr => ?_, hx⟩, fun r hr => ?_, fun z => by rw [covL_append, covL_one]⟩
      · rcases List.mem_append.1 hr with hr | hr
        · have := c2 r hr
          simp only
          omega
        · rw [List.mem_singleton.1 hr]
          simp only
          omega
      · rcases List.mem_append.1 hr with hr | hr
        · have := hle r hr
          omega
        · rw [List.mem_singleton.1 hr]
          exact Int.le_refl _
theorem addRun_len (out : List Run) (x x' : Int) : (addRun out x x').length ≤ out.length + 1 := by
  unfold addRun
  split <;> simp
abbrev Keep := Bool → Bool → Bool
def combRun (a b : List Run) (keep : Keep) (xs : List Int) (out : List Run) (i : Nat) : List Run :=
  if keep (covL a (elemAt (t := I64) xs i)) (covL b (elemAt (t := I64) xs i)) = true then addRun out (elemAt (t := I64) xs i) (elemAt (t := I64) xs (i + 1)) else out
def combK (a b : List Run) (keep : Keep) (xs : List Int) (k : Nat) : List Run := (List.range k).foldl (combRun a b keep xs) []
def combP (a b : List Run) (keep : Keep) (xs : List Int) : List Run := combK a b keep xs (xs.length - 1)
theorem combK_step (a b : List Run) (keep : Keep) (xs : List Int) (k : Nat) : combK a b keep xs (k + 1) = combRun a b keep xs (combK a b keep xs k) k := by
  unfold combK
  rw [List.range_succ, List.foldl_append]
  rfl
theorem combK_len (a b : List Run) (keep : Keep) (xs : List Int) : ∀ k, (combK a b keep xs k).length ≤ k
  | 0 => by simp [combK]
  | k + 1 => by
    have h := combK_len a b keep xs k
    rw [combK_step]
    unfold combRun
    split
    · have := addRun_len (combK a b keep xs k) (elemAt (t := I64) xs k) (elemAt (t := I64) xs (k + 1))
      omega
    · omega
theorem combK_spec (a b : List Run) (keep : Keep) {xs : List Int} (hs : xs.Pairwise (· < ·)) : ∀ k, k + 1 ≤ xs.length → Canon (combK a b keep xs k) ∧ (∀ r ∈ combK a b keep xs k, r.2 ≤ elemAt (t := I64) xs k) ∧
    ∀ z, covL (combK a b keep xs k) z = (List.range k).any fun i => keep (covL a (elemAt (t := I64) xs i)) (covL b (elemAt (t := I64) xs i)) && hitP z (elemAt (t := I64) xs i, elemAt (t := I64) xs (i + 1))
  | 0, _ => ⟨⟨fun r hr => (by cases hr), List.Pairwise.nil⟩, fun r hr => (by cases hr), fun z => rfl⟩
  | k + 1, hk => by
    obtain ⟨h1, h2, h3⟩ := combK_spec a b keep hs k (by omega)
    have hlt : @LT.lt Int _ (elemAt (t := I64) xs k) (elemAt (t := I64) xs (k + 1)) := by
      rw [el_at (by omega), el_at (by omega)]
      exact List.pairwise_iff_getElem.1 hs k (k + 1) (by omega) (by omega) (by omega)
    rw [combK_step]
    unfold combRun
    split
    · rename_i h
      obtain ⟨g1, g2, g3⟩ := addRun_spec h1 h2 hlt
      refine ⟨g1, g2, fun z => ?_⟩
      rw [g3, h3, List.range_succ, List.any_append]
      simp only [List.any_cons, List.any_nil, Bool.or_false, h, Bool.true_and]
    · rename_i h
      rw [Bool.not_eq_true] at h
      refine ⟨h1, fun r hr => Int.le_trans (h2 r hr) (Int.le_of_lt hlt), fun z => ?_⟩
      rw [h3, List.range_succ, List.any_append]
      simp only [List.any_cons, List.any_nil, Bool.or_false, h, Bool.false_and]
theorem covL_same {l : List Run} {xs : List Int} {lo x : Int} (hl : ∀ r ∈ l, r.1 ∈ xs ∧ r.2 ∈ xs) (hle : lo ≤ x) (hno : ∀ z ∈ xs, ¬ (lo < z ∧ z ≤ x)) : covL l x = covL l lo := by
  rw [Bool.eq_iff_iff, covL_iff, covL_iff]
  constructor
  · rintro ⟨r, hr, h1, h2⟩
    have n1 := hno _ (hl r hr).1
    exact ⟨r, hr, by omega, by omega⟩
  · rintro ⟨r, hr, h1, h2⟩
    have n2 := hno _ (hl r hr).2
    exact ⟨r, hr, by omega, by omega⟩
theorem combP_spec (a b : List Run) {keep : Keep} (hk : keep false false = false) {xs : List Int} (hs : xs.Pairwise (· < ·)) (ha : ∀ r ∈ a, r.1 ∈ xs ∧ r.2 ∈ xs) (hb : ∀ r ∈ b, r.1 ∈ xs ∧ r.2 ∈ xs) :
    Canon (combP a b keep xs) ∧ ∀ z, covL (combP a b keep xs) z = keep (covL a z) (covL b z) := by
  have hnone : ∀ z, (∃ z1 z2, z1 ∈ xs ∧ z1 ≤ z ∧ z2 ∈ xs ∧ z < z2) ∨ (covL a z = false ∧ covL b z = false) := by
    intro z
    cases h1 : covL a z with
    | true =>
      obtain ⟨r, hr, r1, r2⟩ := covL_iff.1 h1
      exact .inl ⟨r.1, r.2, (ha r hr).1, r1, (ha r hr).2, r2⟩
    | false => cases h2 : covL b z with
      | true =>
        obtain ⟨r, hr, r1, r2⟩ := covL_iff.1 h2
        exact .inl ⟨r.1, r.2, (hb r hr).1, r1, (hb r hr).2, r2⟩
      | false => exact .inr ⟨rfl, rfl⟩
  unfold combP
  by_cases h0 : xs.length = 0
  · have hx : xs = [] := List.length_eq_zero_iff.1 h0
    subst hx
    refine ⟨⟨fun r hr => (by cases hr), List.Pairwise.nil⟩, fun z => ?_⟩
    rcases hnone z with ⟨z1, _, h, _⟩ | ⟨h1, h2⟩
    · cases h
    · rw [h1, h2, hk]
      rfl
  obtain ⟨g1, _, g3⟩ := combK_spec a b keep hs (xs.length - 1) (by omega)
  refine ⟨g1, fun z => ?_⟩
  rw [g3, Bool.eq_iff_iff, List.any_eq_true]
  constructor
  · rintro ⟨i, hi, h⟩
    rw [List.mem_range] at hi
    have h1 : i + 1 < xs.length := by omega
    simp only [Bool.and_eq_true] at h
    rw [el_at (by omega), el_at h1, hitP_iff] at h
    obtain ⟨h, k1, k2⟩ := h
    rw [covL_same ha k1 (gap hs h1 k2), covL_same hb k1 (gap hs h1 k2)]
    exact h
  · intro h
    rcases hnone z with ⟨z1, z2, m1, l1, m2, l2⟩ | ⟨h1, h2⟩
    · obtain ⟨i, hi, k1, k2⟩ := between hs m1 l1 m2 l2
      refine ⟨i, List.mem_range.2 (by omega), ?_⟩
      rw [el_at (by omega), el_at hi, ← covL_same ha k1 (gap hs hi k2), ← covL_same hb k1 (gap hs hi k2), h, Bool.true_and, hitP_iff]
      exact ⟨k1, k2⟩
    · rw [h1, h2, hk] at h
      cases h
theorem combP_is {a b : List Run} {la lb : List Int} {m : Int} {xs : List Int} (hs : xs.Pairwise (· < ·)) (ha : ∀ r ∈ a, r.1 ∈ xs ∧ r.2 ∈ xs) (hb : ∀ r ∈ b, r.1 ∈ xs ∧ r.2 ∈ xs)
    (ea : ∀ x, covL a x = inL la x) (eb : ∀ x, covL b x = inL lb x) : combP a b (modeB m) xs = pairsOf (mergedL la lb m) := by
  obtain ⟨h1, h2⟩ := combP_spec a b (modeB_none m) hs ha hb
  refine canon_unique h1 (canon_pairs (mergedL_si la lb m).1) fun x => ?_
  rw [h2, covL_pairs, inL_mergedL, ea, eb]
def mrgStep (out : List Run) (r : Run) : List Run :=
  if 0 < out.length ∧ r.1 ≤ (elemAt (t := RunT) out (out.length - 1)).2 then out.set (out.length - 1) ((elemAt (t := RunT) out (out.length - 1)).1, max (elemAt (t := RunT) out (out.length - 1)).2 r.2) else out ++ [r]
def mrgL (l : List Run) : List Run := l.foldl mrgStep []
theorem mrgStep_len (out : List Run) (r : Run) : (mrgStep out r).length ≤ out.length + 1 := by
  unfold mrgStep
  split <;> simp
theorem mrgStep_spec {out : List Run} {r : Run} (h : ∀ p ∈ out, p.1 ≤ r.1) : (∀ x, covL (mrgStep out r) x = (covL out x || hitP x r)) ∧ ∀ p ∈ mrgStep out r, p.1 ≤ r.1 := by
  rcases List.eq_nil_or_concat out with rfl | ⟨pre, p, rfl⟩
  · have e : mrgStep [] r = [r] := rfl
    rw [e]
    refine ⟨fun x => by rw [covL_one]; rfl, fun p hp => ?_⟩
    rw [List.mem_singleton.1 hp]
    exact Int.le_refl _
  · rw [List.concat_eq_append] at h ⊢
    have hp := h p (by simp)
    unfold mrgStep
    rw [last_snoc, set_snoc]
    split
    · rename_i hc
      refine ⟨fun x => ?_, fun q hq => ?_⟩
      · rw [covL_append, covL_append, covL_one, covL_one]
        have : hitP x (p.1, max p.2 r.2) = (hitP x p || hitP x r) := by
          rw [Bool.eq_iff_iff]
          simp only [hitP, Bool.or_eq_true, Bool.and_eq_true, decide_eq_true_eq]
          omega
        rw [this, Bool.or_assoc]
      · rcases List.mem_append.1 hq with hq | hq
        · exact h q (List.mem_append_left _ hq)
        · rw [List.mem_singleton.1 hq]
          exact hp
    · refine ⟨fun x => by rw [covL_append, covL_one], fun q hq => ?_⟩
      rcases List.mem_append.1 hq with hq | hq
      · exact h q hq
      · rw [List.mem_singleton.1 hq]
        exact Int.le_refl _
theorem covL_mrg {l : List Run} (h : l.Pairwise (fun a b => a.1 ≤ b.1)) (x : Int) : covL (mrgL l) x = covL l x := by
  have : ∀ (l out : List Run), l.Pairwise (fun a b => a.1 ≤ b.1) → (∀ p ∈ out, ∀ r ∈ l, p.1 ≤ r.1) → covL (l.foldl mrgStep out) x = (covL out x || covL l x) := by
    intro l
    induction l with
    | nil => intro out _ _; simp [covL]
    | cons r rs ih =>
      intro out hp ho
      obtain ⟨h1, h2⟩ := List.pairwise_cons.1 hp
      obtain ⟨g1, g2⟩ := mrgStep_spec (out := out) (r := r) fun p hp => ho p hp r (List.mem_cons_self ..)
      rw [List.foldl_cons, ih (mrgStep out r) h2 (fun p hp s hs => Int.le_trans (g2 p hp) (h1 s hs)), g1]
      unfold covL
      rw [List.any_cons, Bool.or_assoc]
  have h2 := this l [] h fun p hp => by cases hp
  rw [show covL [] x = false from rfl, Bool.false_or] at h2
  exact h2
theorem mrg_len (l : List Run) : (mrgL l).length ≤ l.length := by
  have : ∀ (l out : List Run), (l.foldl mrgStep out).length ≤ out.length + l.length := by
    intro l
    induction l with
    | nil => intro out; simp
    | cons r rs ih =>
      intro out
      have h1 := ih (mrgStep out r)
      have h2 := mrgStep_len out r
      rw [List.foldl_cons, List.length_cons]
      omega
  have := this l []
  simpa [mrgL] using this
theorem covL_perm {a b : List Run} (h : a.Perm b) (x : Int) : covL a x = covL b x := by
  rw [Bool.eq_iff_iff, covL_iff, covL_iff]
  exact ⟨fun ⟨r, hr, k⟩ => ⟨r, h.subset hr, k⟩, fun ⟨r, hr, k⟩ => ⟨r, h.symm.subset hr, k⟩⟩
def rowAll (l : List Rect) (y : Int) : List Run := (l.filter fun r => decide (r.2.1 ≤ y) && decide (y < r.2.2.2)).map fun r => (r.1, r.2.2.1)
theorem covL_rowAll {l : List Rect} (hu : ∀ r ∈ l, usableR r = true) (x y : Int) : covL (rowAll l y) x = l.any (hitX x y) := by
  rw [Bool.eq_iff_iff, covL_iff, List.any_eq_true]
  unfold rowAll hitX hitR
  constructor
  · rintro ⟨p, hp, h1, h2⟩
    obtain ⟨r, hr, rfl⟩ := List.mem_map.1 hp
    obtain ⟨hr, hy⟩ := List.mem_filter.1 hr
    simp only [Bool.and_eq_true, decide_eq_true_eq] at hy
    refine ⟨r, hr, ?_⟩
    simp only [Bool.and_eq_true, decide_eq_true_eq]
    exact ⟨⟨⟨hu r hr, hy.1⟩, hy.2⟩, hitP_iff.2 ⟨h1, h2⟩⟩
  · rintro ⟨r, hr, h⟩
    simp only [Bool.and_eq_true, decide_eq_true_eq] at h
    have hx := hitP_iff.1 h.2
    exact ⟨(r.1, r.2.2.1), List.mem_map.2 ⟨r, List.mem_filter.2 ⟨hr, by simp only [Bool.and_eq_true, decide_eq_true_eq]; exact ⟨h.1.1.2, h.1.2⟩⟩, rfl⟩, hx.1, hx.2⟩
end Go.Proofs.Ytogbocplojbdjaa
