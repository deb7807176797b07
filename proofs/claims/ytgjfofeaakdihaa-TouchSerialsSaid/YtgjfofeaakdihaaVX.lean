/-
  A part of the proof: what some of the program's functions compute.
-/
import Derived.Test.YtgjfofeaakdihaaVJ
namespace Go.Proofs.Ytgjfofeaakdihaa
open Go Go.E Go.Proofs
set_option linter.unusedVariables false
set_option linter.unusedSimpArgs false
/-! a log that has issued n serials and forgotten none -/
structure LogSeq (L : LogD) (n : Nat) : Prop where
  valid : L.1 = true
  last : L.2.1 = n
  place : L.2.2.1 = n
  le : n < 256
  len : L.2.2.2.length = 256
  old : ∀ j : Nat, j < n → ∀ e, L.2.2.2[j]? = some e → e.1 = (j : Int) + 1
theorem LogSeq.ok {L : LogD} {n : Nat} (h : LogSeq L n) : LogOk L := ⟨by rw [h.place]; omega, by rw [h.place]; have := h.le; omega, h.len⟩
theorem seq0 : LogSeq log0 0 := ⟨rfl, rfl, rfl, by omega, List.length_replicate, fun j hj => by omega⟩
theorem wrap_u32 {n : Int} (h0 : 0 ≤ n) (h1 : n < 4294967296) : IntKind.u32.wrap n = n := by
  simp only [IntKind.wrap, IntKind.bits, IntKind.signed]
  simp
  omega
theorem issue_seq {L : LogD} {n : Nat} (h : LogSeq L n) (hn : n + 1 < 256) {c s k : Int} (hc : 1 ≤ c) (hs : 0 ≤ s) (hk : 0 ≤ k) (hk2 : k ≤ 62) :
    (issueL L c s k).1 = n + 1 ∧ LogSeq (issueL L c s k).2 (n + 1) ∧ findE (issueL L c s k).2 (n + 1) = ((n : Int) + 1, c, s, k) := by
  have hl := h.len
  have h1 : ¬ (L.1 = false ∨ c < 1 ∨ s < 0 ∨ k < 0 ∨ 62 < k) := by
    rw [h.valid]
    simp
    omega
  have hw : IntKind.u32.wrap (L.2.1 + 1) = n + 1 := by rw [h.last]; exact wrap_u32 (by omega) (by omega)
  have h0 : ¬ ((n : Int) + 1 = 0) := by omega
  have e : issueL L c s k = ((n : Int) + 1, (L.1, (n : Int) + 1, (n : Int) + 1, L.2.2.2.set n ((n : Int) + 1, c, s, k))) := by
    unfold issueL
    rw [if_neg h1]
    simp only [hw, if_neg h0, h.place]
    rw [show ((n : Int) + 1) % 256 = n + 1 by omega]
    rfl
  rw [e]
  refine ⟨rfl, ⟨h.valid, by simp, by simp, hn, by simp [hl], fun j hj x hx => ?_⟩, ?_⟩
  · simp only at hx
    by_cases hjn : j = n
    · subst hjn
      rw [List.getElem?_set_self (by omega)] at hx
      injection hx with hx
      rw [← hx]
    · rw [List.getElem?_set_ne (by omega)] at hx
      exact h.old j (by omega) x hx
  · unfold findE
    rw [if_neg (by simp only [h.valid]; simp; omega)]
    have : (L.2.2.2.set n ((n : Int) + 1, c, s, k)).find? (fun x => x.1 == ((n : Int) + 1) && x.2.1 != 0) = some ((n : Int) + 1, c, s, k) := by
      rw [List.find?_eq_some_iff_getElem]
      refine ⟨by simp; omega, n, by simp; omega, by simp, fun j hj => ?_⟩
      have hx : L.2.2.2[j]? = some (L.2.2.2[j]'(by omega)) := List.getElem?_eq_getElem _
      have := h.old j hj _ hx
      rw [List.getElem_set_ne (by omega)]
      simp [this]
      omega
    simp only [this, Option.getD_some]
theorem del_log (T : TouchD) (p : Contact) (k : Int) : (delT T p k).1.2.2.1 = 12 ∧ (delT T p k).1.2.2.2.2.2.2.2.2 = 0 ∧ (delT T p k).2.1 = T.1 ∨
    (∃ q, (q = 11 ∨ q = 13) ∧ (delT T p k).1.2.2.1 = q ∧ (delT T p k).1.2.2.2.2.2.2.2.2 = (issueL T.1 p.1.2.1 p.1.2.2.1 q).1 ∧ (delT T p k).2.1 = (issueL T.1 p.1.2.1 p.1.2.2.1 q).2) := by
  unfold delT
  split
  · exact .inr ⟨11, .inl rfl, rfl, rfl, rfl⟩
  · split
    · exact .inl ⟨rfl, rfl, rfl⟩
    · exact .inr ⟨13, .inr rfl, rfl, rfl, rfl⟩
/-- what TouchSerials asks of a delivery d, with the log L ahead and L2 behind -/
def DelSeq (L L2 : LogD) (n : Nat) (d : Del) : Prop := 1 ≤ d.1 → 1 ≤ d.2.1 →
  (d.2.2.1 = 12 ∧ d.2.2.2.2.2.2.2.2 = 0 ∧ L2 = L) ∨ ((d.2.2.1 = 11 ∨ d.2.2.1 = 13) ∧ d.2.2.2.2.2.2.2.2 = n + 1 ∧ LogSeq L2 (n + 1) ∧ findE L2 (n + 1) = ((n : Int) + 1, d.1, d.2.1, d.2.2.1))
theorem feed_seq {T : TouchD} {n : Nat} (h : LogSeq T.1 n) (hn : n + 1 < 256) (l : List Item) (e : Inp) :
    (feedT T l e).1.1 = [] ∧ (feedT T l e).2.1 = T.1 ∨ ∃ d, (feedT T l e).1.1 = [d] ∧ DelSeq T.1 (feedT T l e).2.1 n d := by
  by_cases he : (feedT T l e).1.2 = 0
  · obtain ⟨h1, h2, h3⟩ := feed_fine he
    rcases h3 with ⟨h3, _, h4⟩ | ⟨h3, h4, h5⟩
    · exact .inl ⟨h3, by rw [h4]; rfl⟩
    · refine .inr ⟨_, h4, fun g1 g2 => ?_⟩
      rw [h5]
      have hw : (delT (feedS T l e) (feedC T l e) e.1).1.1 = (feedC T l e).1.2.1 ∧ (delT (feedS T l e) (feedC T l e) e.1).1.2.1 = (feedC T l e).1.2.2.1 := by
        unfold delT
        split
        · exact ⟨rfl, rfl⟩
        · split <;> exact ⟨rfl, rfl⟩
      rw [hw.1] at g1
      rw [hw.2] at g2
      rcases del_log (feedS T l e) (feedC T l e) e.1 with ⟨k1, k2, k3⟩ | ⟨q, hq, k1, k2, k3⟩
      · exact .inl ⟨k1, k2, k3⟩
      · have hS : (feedS T l e).1 = T.1 := rfl
        rw [hS] at k2 k3
        obtain ⟨i1, i2, i3⟩ := issue_seq h hn (c := (feedC T l e).1.2.1) (s := (feedC T l e).1.2.2.1) (k := q) g1 (by omega) (by omega) (by omega)
        refine .inr ⟨by rw [k1]; exact hq, by rw [k2, i1], by rw [k3]; exact i2, ?_⟩
        rw [k3, i3, hw.1, hw.2, k1]
  · obtain ⟨h1, h2, _⟩ := feed_err he
    exact .inl ⟨h1, by rw [h2]⟩
end Go.Proofs.Ytgjfofeaakdihaa
