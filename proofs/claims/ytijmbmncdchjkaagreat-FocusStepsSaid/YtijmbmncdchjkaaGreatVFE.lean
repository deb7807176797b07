/-
  A part of the proof: what some of the program's functions compute.
-/
import Derived.Test.YtijmbmncdchjkaaGreatVFD
namespace Go.Proofs.YtijmbmncdchjkaaGreat
open Go Go.E Go.Proofs
set_option linter.unusedVariables false
set_option linter.unusedSimpArgs false
/-! what Update does, plainly -/
theorem targetL_or {l : List Item} (h : sceneOk l = true) (x y : Int) : (atI l x y < 0 ∧ targetL l x y = (0, 0)) ∨ (0 ≤ atI l x y ∧ atI l x y < l.length ∧
    targetL l x y = ((elemAt (t := ItemT) l (atI l x y).toNat).1, (elemAt (t := ItemT) l (atI l x y).toNat).2.1) ∧ 1 ≤ (targetL l x y).1 ∧ 1 ≤ (targetL l x y).2) := by
  by_cases h0 : atI l x y < 0
  · exact .inl ⟨h0, by simp [targetL, h0]⟩
  · have hlt : atI l x y < l.length := by
      unfold atI at h0 ⊢
      split at h0 <;> omega
    have e : targetL l x y = ((elemAt (t := ItemT) l (atI l x y).toNat).1, (elemAt (t := ItemT) l (atI l x y).toNat).2.1) := by
      unfold targetL
      rw [if_neg h0]
    refine .inr ⟨by omega, hlt, e, ?_⟩
    rw [e]
    have hm : elemAt (t := ItemT) l (atI l x y).toNat ∈ l := List.mem_of_getElem? (elemAt_get (t := ItemT) l _ (by omega))
    unfold sceneOk at h
    rw [Bool.and_eq_true, Bool.and_eq_true] at h
    have hg := List.all_eq_true.1 h.2.1 _ hm
    unfold itemGood at hg
    simp only [Bool.not_eq_true', Bool.or_eq_false_iff, decide_eq_false_iff_not] at hg
    exact ⟨by omega, by omega⟩
/-- a log that has issued n serials and forgotten none -/
structure LogQ (L : LogD) (n : Nat) : Prop where
  valid : L.1 = true
  last : L.2.1 = n
  place : L.2.2.1 = n
  le : n < 256
  len : L.2.2.2.length = 256
  old : ∀ j : Nat, j < n → ∀ e, L.2.2.2[j]? = some e → e.1 = (j : Int) + 1 ∧ 1 ≤ e.2.1
theorem LogQ.ok {L : LogD} {n : Nat} (h : LogQ L n) : LogOk L := ⟨by rw [h.place]; omega, by rw [h.place]; have := h.le; omega, h.len⟩
theorem q0 : LogQ log0 0 := ⟨rfl, rfl, rfl, by omega, by unfold log0; rw [List.length_replicate], fun j hj => by omega⟩
theorem wrap_u32 {n : Int} (h0 : 0 ≤ n) (h1 : n < 4294967296) : IntKind.u32.wrap n = n := by
  simp only [IntKind.wrap, IntKind.bits, IntKind.signed]
  simp
  omega
theorem issue_q {L : LogD} {n : Nat} (h : LogQ L n) (hn : n + 1 < 256) {c s k : Int} (hc : 1 ≤ c) (hs : 0 ≤ s) (hk : 0 ≤ k) (hk2 : k ≤ 62) :
    (issueL L c s k).1 = n + 1 ∧ LogQ (issueL L c s k).2 (n + 1) ∧ (issueL L c s k).2.2.2.2[n]? = some ((n : Int) + 1, c, s, k) ∧ ∀ j : Nat, j < n → (issueL L c s k).2.2.2.2[j]? = L.2.2.2[j]? := by
  have hl := h.len
  have h1 : ¬ (L.1 = false ∨ c < 1 ∨ s < 0 ∨ k < 0 ∨ 62 < k) := by
    rw [h.valid]
    simp
    omega
  have hw : IntKind.u32.wrap (L.2.1 + 1) = n + 1 := by rw [h.last]; exact wrap_u32 (by omega) (by omega)
  have h0 : ¬ ((n : Int) + 1 = 0) := by omega
  have e : issueL L c s k = ((n : Int) + 1, (L.1, (n : Int) + 1, (n : Int) + 1, L.2.2.2.set n ((n : Int) + 1, c, s, k))) := by
    unfold issueL
    rw [if_neg h1]
    simp only [hw, if_neg h0, h.place]
    rw [show ((n : Int) + 1) % 256 = n + 1 by omega]
    rfl
  rw [e]
  refine ⟨rfl, ⟨h.valid, by simp, by simp, hn, by simp [hl], fun j hj x hx => ?_⟩, ?_, fun j hj => ?_⟩
  · simp only at hx
    by_cases hjn : j = n
    · subst hjn
      rw [List.getElem?_set_self (by omega)] at hx
      injection hx with hx
      rw [← hx]
      exact ⟨rfl, hc⟩
    · rw [List.getElem?_set_ne (by omega)] at hx
      exact h.old j (by omega) x hx
  · show (L.2.2.2.set n _)[n]? = _
    rw [List.getElem?_set_self (by omega)]
  · show (L.2.2.2.set n _)[j]? = _
    rw [List.getElem?_set_ne (by omega)]
/-- a focus's surface: none, or one with a client -/
def FocAt (s c : Int) : Prop := (s = 0 ∧ c = 0) ∨ (1 ≤ s ∧ 1 ≤ c)
theorem target_at {l : List Item} (h : sceneOk l = true) (x y : Int) : FocAt (targetL l x y).1 (targetL l x y).2 := by
  rcases targetL_or h x y with ⟨_, e⟩ | ⟨_, _, _, h1, h2⟩
  · rw [e]
    exact .inl ⟨rfl, rfl⟩
  · exact .inr ⟨h1, h2⟩
/-- a delivery that the log L knows -/
def DelIn (L : LogD) (n : Nat) (d : Del) : Prop := ∃ j : Nat, j < n ∧ d.2.2.2.2.2.2.2.2 = (j : Int) + 1 ∧ L.2.2.2[j]? = some ((j : Int) + 1, d.1, d.2.1, d.2.2.1) ∧ (d.2.2.1 = 1 ∨ d.2.2.1 = 2) ∧ 1 ≤ d.1
theorem DelIn.more {L L' : LogD} {n m : Nat} {d : Del} (h : DelIn L n d) (hm : n ≤ m) (hL : ∀ j : Nat, j < n → L'.2.2.2[j]? = L.2.2.2[j]?) : DelIn L' m d := by
  obtain ⟨j, h1, h2, h3, h4⟩ := h
  exact ⟨j, by omega, h2, by rw [hL j h1]; exact h3, h4⟩
/-- a step of what FocusAlternation keeps: surface, client, last serial -/
def altStep (t : Int × Int × Int) (d : Del) : Option (Int × Int × Int) :=
  if d.2.2.2.2.2.2.2.2 ≠ IntKind.u32.wrap (t.2.2 + 1) then none
  else if d.2.2.1 = 2 then (if t.1 = 0 ∨ d.2.1 ≠ t.1 ∨ d.1 ≠ t.2.1 then none else some (0, 0, IntKind.u32.wrap (t.2.2 + 1)))
  else if d.2.2.1 = 1 then (if t.1 ≠ 0 ∨ d.2.1 = 0 then none else some (d.2.1, d.1, IntKind.u32.wrap (t.2.2 + 1))) else none
def altR (t : Int × Int × Int) : List Del → Option (Int × Int × Int)
  | [] => some t
  | d :: r => match altStep t d with
    | some t' => altR t' r
    | none => none
theorem altR_append (t : Int × Int × Int) : ∀ (a b : List Del), altR t (a ++ b) = (altR t a).bind fun t' => altR t' b
  | [], b => rfl
  | d :: r, b => by
    show (match altStep t d with | some t' => altR t' (r ++ b) | none => none) = (match altStep t d with | some t' => altR t' r | none => none).bind _
    cases altStep t d with
    | none => rfl
    | some t' => exact altR_append t' r b
/-- what one Update does to a sane focus -/
structure UpdGood (F : FocD) (n : Nat) (l : List Item) (x y : Int) (R : List Del × FocD) (m : Nat) : Prop where
  le : n ≤ m ∧ m ≤ n + 2
  log : LogQ R.2.1 m
  at_ : FocAt R.2.2.1 R.2.2.2.1
  lock : R.2.2.2.2 = F.2.2.2
  old : ∀ j : Nat, j < n → R.2.1.2.2.2[j]? = F.1.2.2.2[j]?
  dels : ∀ d ∈ R.1, DelIn R.2.1 m d
  alt : altR (F.2.1, F.2.2.1, n) R.1 = some (R.2.2.1, R.2.2.2.1, (m : Int))
  cnt : R.1.length + n = m
theorem upd_good {F : FocD} {n : Nat} (hL : LogQ F.1 n) (hA : FocAt F.2.1 F.2.2.1) (hn : n + 2 < 256) {l : List Item} (hl : sceneOk l = true) (x y : Int) :
    ∃ m, UpdGood F n l x y (updT F l x y) m := by
  obtain ⟨L, s, c, b⟩ := F
  simp only at hL hA
  have hT := target_at hl x y
  unfold updT
  split
  · exact ⟨n, ⟨by omega, by omega⟩, hL, hA, rfl, fun _ _ => rfl, fun d hd => by simp at hd, rfl, by simp⟩
  rename_i hne
  simp only [not_or, not_and] at hne
  unfold updE updL
  generalize targetL l x y = t at hT hne
  obtain ⟨ts, tc⟩ := t
  simp only at hT hne ⊢
  rcases hA with ⟨rfl, rfl⟩ | ⟨hs, hc⟩
  · simp only [and_self, if_true]
    rcases hT with ⟨rfl, rfl⟩ | ⟨hts, htc⟩
    · exact absurd rfl (hne.2 rfl)
    · rw [if_neg (by omega)]
      obtain ⟨i1, i2, i3, i4⟩ := issue_q hL (by omega) (c := tc) (s := ts) (k := 1) htc (by omega) (by omega) (by omega)
      refine ⟨n + 1, ⟨by omega, by omega⟩, i2, .inr ⟨hts, htc⟩, rfl, i4, fun d hd => ?_, ?_, by simp [Nat.add_comm]⟩
      · simp only [List.nil_append, List.mem_singleton] at hd
        subst hd
        exact ⟨n, by omega, i1, i3, .inl rfl, htc⟩
      · have e : altStep (0, 0, (n : Int)) (sendD (L, ts, tc, b) (enterD l x y)) = some (ts, tc, (n : Int) + 1) := by
          unfold altStep
          have e1 : (sendD (L, ts, tc, b) (enterD l x y)).2.2.2.2.2.2.2.2 = (n : Int) + 1 := i1
          rw [e1, wrap_u32 (by show 0 ≤ (n : Int) + 1; omega) (by show (n : Int) + 1 < _; omega)]
          rw [if_neg (by simp), if_neg (by show ¬ (1 : Int) = 2; omega), if_pos (by rfl)]
          rw [if_neg]
          · rfl
          · show ¬ ((0 : Int) ≠ 0 ∨ ts = 0)
            omega
        show altR (0, 0, (n : Int)) [sendD (L, ts, tc, b) (enterD l x y)] = _
        simp only [altR, e]
        simp [sendS]
  · rw [if_neg (show ¬ (s = 0 ∧ c = 0) by omega)]
    obtain ⟨i1, i2, i3, i4⟩ := issue_q hL (by omega) (c := c) (s := s) (k := 2) hc (by omega) (by omega) (by omega)
    have e : altStep (s, c, (n : Int)) (sendD (L, s, c, b) leaveD) = some (0, 0, (n : Int) + 1) := by
      unfold altStep
      have e1 : (sendD (L, s, c, b) leaveD).2.2.2.2.2.2.2.2 = (n : Int) + 1 := i1
      rw [e1, wrap_u32 (by show 0 ≤ (n : Int) + 1; omega) (by show (n : Int) + 1 < _; omega)]
      rw [if_neg (by simp), if_pos (by rfl)]
      rw [if_neg]
      show ¬ (s = 0 ∨ s ≠ s ∨ c ≠ c)
      rintro (h | h | h)
      · omega
      · exact h rfl
      · exact h rfl
    have hd0 : DelIn (issueL L c s 2).2 (n + 1) (sendD (L, s, c, b) leaveD) := ⟨n, by omega, i1, i3, .inr rfl, hc⟩
    rcases hT with ⟨rfl, rfl⟩ | ⟨hts, htc⟩
    · simp only [and_self, if_true]
      refine ⟨n + 1, ⟨by omega, by omega⟩, i2, .inl ⟨rfl, rfl⟩, rfl, i4, fun d hd => ?_, ?_, by simp; omega⟩
      · simp only [List.mem_singleton] at hd
        subst hd
        exact hd0
      · simp only [altR, e]
        rfl
    · rw [if_neg (by omega)]
      obtain ⟨k1, k2, k3, k4⟩ := issue_q i2 (by omega) (c := tc) (s := ts) (k := 1) htc (by omega) (by omega) (by omega)
      refine ⟨n + 1 + 1, ⟨by omega, by omega⟩, k2, .inr ⟨hts, htc⟩, rfl, fun j hj => ?_, fun d hd => ?_, ?_, by simp; omega⟩
      · exact (k4 j (by omega)).trans (i4 j hj)
      · simp only [List.mem_append, List.mem_singleton] at hd
        rcases hd with rfl | rfl
        · exact hd0.more (by omega) k4
        · exact ⟨n + 1, by omega, k1, k3, .inl rfl, htc⟩
      · have e2 : altStep (0, 0, (n : Int) + 1) (sendD ((issueL L c s 2).2, ts, tc, b) (enterD l x y)) = some (ts, tc, (n : Int) + 1 + 1) := by
          unfold altStep
          have e1 : (sendD ((issueL L c s 2).2, ts, tc, b) (enterD l x y)).2.2.2.2.2.2.2.2 = (n : Int) + 1 + 1 := k1
          rw [e1, wrap_u32 (by show 0 ≤ (n : Int) + 1 + 1; omega) (by show (n : Int) + 1 + 1 < _; omega)]
          rw [if_neg (by simp), if_neg (by show ¬ (1 : Int) = 2; omega), if_pos (by rfl)]
          rw [if_neg]
          · rfl
          · show ¬ ((0 : Int) ≠ 0 ∨ ts = 0)
            omega
        show altR (s, c, (n : Int)) [sendD (L, s, c, b) leaveD, sendD ((issueL L c s 2).2, ts, tc, b) (enterD l x y)] = _
        simp only [altR, e, e2]
        simp [sendS]
/-- where an unlocked focus is behind an Update, and that a second changes nothing -/
theorem upd_to {F : FocD} (hb : F.2.2.2 = false) (l : List Item) (x y : Int) : (updT F l x y).2.2.1 = (targetL l x y).1 ∧ (updT F l x y).2.2.2.1 = (targetL l x y).2 ∧ (updT F l x y).2.2.2.2 = false := by
  unfold updT
  split
  · rename_i h
    rw [hb] at h
    simp only [Bool.false_eq_true, false_or] at h
    exact ⟨h.1.symm, h.2.symm, hb⟩
  · unfold updE
    split
    · exact ⟨rfl, rfl, hb⟩
    · exact ⟨rfl, rfl, hb⟩
theorem upd_stay {F : FocD} {l : List Item} {x y : Int} (h1 : F.2.1 = (targetL l x y).1) (h2 : F.2.2.1 = (targetL l x y).2) : updT F l x y = ([], F) := by
  unfold updT
  rw [if_pos (.inr ⟨h1.symm, h2.symm⟩)]
theorem upd_locked {F : FocD} (h : F.2.2.2 = true) (l : List Item) (x y : Int) : updT F l x y = ([], F) := by
  unfold updT
  rw [if_pos (.inl h)]
end Go.Proofs.YtijmbmncdchjkaaGreat
