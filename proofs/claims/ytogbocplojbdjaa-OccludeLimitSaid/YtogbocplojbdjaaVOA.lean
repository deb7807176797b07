/-
  A part of the proof: what some of the program's functions compute.
-/
import Derived.Test.YtogbocplojbdjaaVPF
namespace Go.Proofs.Ytogbocplojbdjaa
open Go Go.E Go.Proofs
set_option linter.unusedVariables false
set_option linter.unusedSimpArgs false
theorem bounds_zero (i : Item) : boundsI i = (0, 0, 0, 0) ↔ areaI i = (0, 0, 0, 0) := by
  constructor
  · intro h
    rcases areaI_cases i with ha | ⟨ha, hb⟩
    · exact ha
    · exfalso
      have hn : ¬ areaI i = (0, 0, 0, 0) := fun hh => by
        rw [hh, Prod.mk.injEq, Prod.mk.injEq, Prod.mk.injEq] at ha
        omega
      rw [boundsI, if_neg hn, ha, Prod.mk.injEq, Prod.mk.injEq, Prod.mk.injEq] at h
      simp only at h
      omega
  · intro h
    rw [boundsI, if_pos h]
theorem comb_none {a b : List Rect} {m : Int} (h : ∀ x y, modeB m (contains5 a x y) (contains5 b x y) = false) : combinedL a b m = [] :=
  region_empty (combined_region a b m) fun x y => by rw [contains5_combined, h]
theorem glob_bad (i : Item) (l : List Rect) (h : limE (combinedL l [areaI i] 2) ≠ 0) : placedL i l = [] := by
  rcases areaI_cases i with ha | ⟨ha, hb⟩
  · rw [placedL, if_pos ((bounds_zero i).2 ha)]
  · by_cases hz : boundsI i = (0, 0, 0, 0)
    · rw [placedL, if_pos hz]
    · rw [ha] at h
      rw [placedL, if_neg hz, if_pos (by exact h)]
theorem glob_good (i : Item) (l : List Rect) (h : limE (combinedL l [areaI i] 2) = 0) : limL (combinedL ((cleanL (limL (combinedL l [areaI i] 2))).map fun r => translR r i.2.2.1 i.2.2.2.1) [] 1) = placedL i l := by
  by_cases hz : boundsI i = (0, 0, 0, 0)
  · rw [placedL, if_pos hz, (bounds_zero i).1 hz]
    have e : combinedL l [(0, 0, 0, 0)] 2 = [] := comb_none fun x y => by rw [contains5_one, inR_zero, mode2, Bool.and_false]
    have e2 : combinedL [] [] 1 = [] := comb_none fun x y => by rw [contains5_nil]; rfl
    rw [e]
    show limL (combinedL [] [] 1) = []
    rw [e2]
    rfl
  · have ha := ((areaI_cases i).resolve_left fun ha => hz ((bounds_zero i).2 ha)).1
    rw [ha] at h ⊢
    have hc : combinedL ((cleanL (limL (cutL i l))).map fun r => translR r i.2.2.1 i.2.2.2.1) [] 1 = movL i l := comb_congr 1 (fun x y => contains5_moved _ _ _ x y) (fun _ _ => rfl)
    rw [placedL, if_neg hz, if_neg (show ¬ limE (cutL i l) ≠ 0 from fun hh => hh h)]
    show limL (combinedL ((cleanL (limL (cutL i l))).map fun r => translR r i.2.2.1 i.2.2.2.1) [] 1) = _
    rw [hc]
    rcases lim_cases (movL i l) with ⟨e1, _⟩ | ⟨e1, e2⟩
    · rw [if_neg (fun hh => hh e1)]
    · rw [if_pos (by rw [e1]; decide), e2]
theorem placed_le (i : Item) (l : List Rect) : (placedL i l).length ≤ 256 := by
  unfold placedL
  split
  · simp
  split
  · simp
  split
  · simp
  · exact limL_le _
theorem s_global : PSound Try.prog 49 (pcon [.d ItemT, .d (.list RectT)] fun x => (itemLen x.1 ∧ x.2.1.length ≤ 1000, .own RectT (placedL x.1 x.2.1))) := by
  refine psoundF (K := K56) (Γc := C33) (Γr := R0) (fun _ => []) hm HK56 HC33 HR0 Try.call49 Try.func49 (by kernel_rfl) ?_
  rintro ⟨i, l, _⟩ hx
  obtain ⟨h1, h2⟩ : itemLen i ∧ List.length l ≤ 1000 := hx
  refine Eq.mpr (β := (True ∧ True ∧ True ∧ True ∧ (@LE.le Nat _ (List.length i.2.2.2.2.1.2.2) 9223372036854775807 ∧ @LE.le Nat _ (List.length i.2.2.2.2.2.1) 9223372036854775807 ∧ @LE.le Nat _ (List.length i.2.2.2.2.2.2) 9223372036854775807) ∧ True ∧ (@LE.le Nat _ (List.length l) 1000 ∧ @LE.le Nat _ (List.length ((areaI i) :: ([] : List (Ty.T RectT)))) 1000) ∧ True ∧ True ∧ True ∧ True ∧ True ∧ True ∧ True ∧ (@Eq Bool (bne (limE (combinedL l ((areaI i) :: ([] : List (Ty.T RectT))) 2)) 0) true → (True ∧ (True ∧ True) ∧ @Eq _ (placedL i l) ([] : List (Ty.T RectT)))) ∧ (@Eq Bool (bne (limE (combinedL l ((areaI i) :: ([] : List (Ty.T RectT))) 2)) 0) false → (True ∧ True ∧ True ∧ True ∧ True ∧ @LE.le Nat _ (List.length (limL (combinedL l ((areaI i) :: ([] : List (Ty.T RectT))) 2))) 1000 ∧ True ∧ True ∧ True ∧ True ∧ True ∧ True ∧ (True ∧ True) ∧ @Eq _ (limL (combinedL (List.map (fun (v0 : Rect) => (translR v0 i.2.2.1 i.2.2.2.1)) (cleanL (limL (combinedL l ((areaI i) :: ([] : List (Ty.T RectT))) 2)))) ([] : List Rect) 1)) (placedL i l))))) (by kernel_rfl) ?_
  simp only [true_and, and_true, decide_eq_true_eq, decide_eq_false_iff_not, forall_const, implies_true, and_self]
  have hl := limL_le (combinedL l [areaI i] 2)
  refine ⟨h1, ⟨h2, by simp⟩, fun h => ?_, fun h => ⟨by omega, ?_⟩⟩
  · exact glob_bad i l (by simpa using h)
  · exact glob_good i l (by simpa using h)
abbrev K57 : KCons := (49, fun Γc => pure_ Γc ((pcon [.d ItemT, .d (.list RectT)] fun x => (itemLen x.1 ∧ x.2.1.length ≤ 1000, .own RectT (placedL x.1 x.2.1))))) :: K56
theorem HK57 : KS Try.prog K57 := ks_add (ksound_pure (s_global)) HK56
def opqL (i : Item) : List Rect := placedL i i.2.2.2.2.2.1
theorem s_scOpaque : PSound Try.prog 28 (pcon [.d ItemT] fun x => (itemLen x.1 ∧ x.1.2.2.2.2.2.1.length ≤ 1000, .own RectT (opqL x.1))) := by
  refine psoundF (K := K57) (Γc := C33) (Γr := R0) (fun _ => []) hm HK57 HC33 HR0 Try.call28 Try.func28 (by kernel_rfl) ?_
  rintro ⟨i, _⟩ hx
  have hx : itemLen i ∧ i.2.2.2.2.2.1.length ≤ 1000 := hx
  refine Eq.mpr (β := (True ∧ True ∧ True ∧ True ∧ True ∧ ((itemLen i) ∧ @LE.le Nat _ (List.length i.2.2.2.2.2.1) 1000) ∧ True ∧ (True ∧ True) ∧ @Eq _ (placedL i i.2.2.2.2.2.1) (opqL i))) (by kernel_rfl) ?_
  simp only [true_and, and_true, decide_eq_true_eq, decide_eq_false_iff_not, forall_const, implies_true, and_self]
  exact ⟨hx, rfl⟩
abbrev K58 : KCons := (28, fun Γc => pure_ Γc ((pcon [.d ItemT] fun x => (itemLen x.1 ∧ x.1.2.2.2.2.2.1.length ≤ 1000, .own RectT (opqL x.1))))) :: K57
theorem HK58 : KS Try.prog K58 := ks_add (ksound_pure (s_scOpaque)) HK57
def partL (r : Rect) (c : List Rect) (i : Item) : List Rect := combinedL [interQ (boundsI i) (canonR r)] c 3
def inqL (r : Rect) (i : Item) : List Rect := combinedL (opqL i) [canonR r] 2
def nextL (r : Rect) (c : List Rect) (i : Item) : List Rect := combinedL c (inqL r i) 1
def conL (r : Rect) : List Item → Option (List (List Rect) × List Rect)
  | [] => some ([], [])
  | i :: l => (conL r l).bind fun s => if limE (partL r s.2 i) = 0 ∧ limE (inqL r i) = 0 ∧ limE (nextL r s.2 i) = 0 then some (partL r s.2 i :: s.1, nextL r s.2 i) else none
def conO (l : List Item) (r : Rect) : List (List Rect) × List Rect := if sceneOk l = true then (conL r l).getD ([], []) else ([], [])
def conE (l : List Item) (r : Rect) : Int := if sceneOk l = true then (if (conL r l).isSome = true then 0 else 5) else 2
structure ConF (r : Rect) (l : List Item) (ps : List (List Rect)) (c : List Rect) : Prop where
  len : ps.length = l.length
  reg : Region c
  few : c.length ≤ 256
  cov : ∀ x y, contains5 c x y = (inR r x y && l.any fun i => contains5 (opqL i) x y)
  par : ∀ k : Nat, k < l.length → Region (elemAt (t := .list RectT) ps k) ∧ (elemAt (t := .list RectT) ps k).length ≤ 256 ∧
    ∀ x y, contains5 (elemAt (t := .list RectT) ps k) x y = (inR (boundsI (elemAt (t := ItemT) l k)) x y && (inR r x y && !(l.drop (k + 1)).any fun i => contains5 (opqL i) x y))
theorem con_cons {r : Rect} {i : Item} {l : List Item} {s : List (List Rect) × List Rect} (h : conL r (i :: l) = some s) :
    ∃ t, conL r l = some t ∧ (limE (partL r t.2 i) = 0 ∧ limE (inqL r i) = 0 ∧ limE (nextL r t.2 i) = 0) ∧ s = (partL r t.2 i :: t.1, nextL r t.2 i) := by
  rw [conL] at h
  obtain ⟨t, h1, h2⟩ := Option.bind_eq_some_iff.1 h
  split at h2
  · rename_i hc
    injection h2 with h2
    exact ⟨t, h1, hc, h2.symm⟩
  · cases h2
theorem con_facts {r : Rect} : ∀ {l : List Item} {ps : List (List Rect)} {c : List Rect}, conL r l = some (ps, c) → ConF r l ps c
  | [], ps, c, h => by
    rw [conL] at h
    injection h with h
    injection h with h1 h2
    subst h1
    subst h2
    exact ⟨rfl, region_nil, by simp, fun x y => by simp [contains5_nil], fun k hk => by simp at hk⟩
  | i :: l, ps, c, h => by
    obtain ⟨⟨ps', c'⟩, h1, ⟨e1, e2, e3⟩, h2⟩ := con_cons h
    have ih := con_facts h1
    injection h2 with h3 h4
    subst h3
    subst h4
    refine ⟨by simp [ih.len], combined_region _ _ _, limE_zero.1 e3, fun x y => ?_, fun k hk => ?_⟩
    · rw [nextL, cov_or, ih.cov, inqL, cov_and, contains5_one, inR_canon, List.any_cons]
      cases inR r x y <;> cases contains5 (opqL i) x y <;> simp
    · cases k with
      | zero =>
        have e : elemAt (t := .list RectT) (partL r c' i :: ps') 0 = partL r c' i := rfl
        have e' : elemAt (t := ItemT) (i :: l) 0 = i := rfl
        rw [e, e']
        refine ⟨combined_region _ _ _, limE_zero.1 e1, fun x y => ?_⟩
        rw [partL, cov_sub, contains5_one, inR_inter, inR_canon, ih.cov]
        simp only [Nat.zero_add, List.drop_succ_cons, List.drop_zero]
        cases inR r x y <;> cases inR (boundsI i) x y <;> simp
      | succ k =>
        have e : elemAt (t := .list RectT) (partL r c' i :: ps') (k + 1) = elemAt (t := .list RectT) ps' k := by simp [elemAt]
        have e' : elemAt (t := ItemT) (i :: l) (k + 1) = elemAt (t := ItemT) l k := by simp [elemAt]
        rw [e, e', List.drop_succ_cons]
        exact ih.par k (by simpa using hk)
end Go.Proofs.Ytogbocplojbdjaa
