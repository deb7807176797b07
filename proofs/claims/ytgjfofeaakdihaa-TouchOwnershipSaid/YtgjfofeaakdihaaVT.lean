/-
  A part of the proof: what some of the program's functions compute.
-/
import Derived.Test.YtgjfofeaakdihaaVQ
namespace Go.Proofs.Ytgjfofeaakdihaa
open Go Go.E Go.Proofs
set_option linter.unusedVariables false
set_option linter.unusedSimpArgs false
/-! the owner of a point -/
/-- the last point of a list with a number, or o -/
def lastOf (n : Int) (o : Pt) (l : List Pt) : Pt := l.foldl (fun o p => if p.1 = n then p else o) o
theorem lastOf_take {n : Int} {o : Pt} {l : List Pt} {k : Nat} (hk : k < l.length) : lastOf n o (l.take (k + 1)) = if (elemAt (t := PtT) l k).1 = n then elemAt (t := PtT) l k else lastOf n o (l.take k) := by
  have hx := elemAt_get (t := PtT) l k hk
  rw [List.take_add_one, hx]
  unfold lastOf
  rw [List.foldl_append]
  rfl
theorem lastOf_none {n : Int} : ∀ {l : List Pt} {o : Pt}, (∀ p ∈ l, p.1 ≠ n) → lastOf n o l = o
  | [], o, _ => rfl
  | p :: r, o, h => by
    unfold lastOf
    rw [List.foldl_cons, if_neg (h p (List.mem_cons_self ..))]
    exact lastOf_none fun q hq => h q (List.mem_cons_of_mem _ hq)
theorem lastOf_one {n : Int} {p : Pt} : ∀ {l : List Pt} {o : Pt}, p.1 = n → (∀ q ∈ l, q.1 = n → q = p) → (p ∈ l ∨ o = p) → lastOf n o l = p
  | [], o, _, _, h => by
    rcases h with h | h
    · cases h
    · exact h
  | q :: r, o, hp, hu, h => by
    unfold lastOf
    rw [List.foldl_cons]
    refine lastOf_one hp (fun q hq => hu q (List.mem_cons_of_mem _ hq)) ?_
    by_cases hq : q.1 = n
    · rw [if_pos hq]
      exact .inr (hu q (List.mem_cons_self ..) hq)
    · rw [if_neg hq]
      rcases h with h | h
      · rcases List.mem_cons.1 h with h | h
        · exact absurd (by rw [← h]; exact hp) hq
        · exact .inl h
      · exact .inr h
theorem pts_one {T : TouchD} (hT : TouchOk T) {p q : Pt} (hp : p ∈ pointsM T.2.1) (hq : q ∈ pointsM T.2.1) (h : q.1 = p.1) : q = p := by
  obtain ⟨e, he, rfl⟩ := pts_mem_iff.1 hp
  obtain ⟨f, hf, rfl⟩ := pts_mem_iff.1 hq
  have : f = e := map_key_inj hT.key f e hf he (by rw [← hT.id e he, ← hT.id f hf]; exact h)
  rw [this]
theorem owner_some {T : TouchD} (hT : TouchOk T) {n : Int} {c : Contact} (h : mGet T.2.1 n = some c) (o : Pt) : lastOf n o (pointsM T.2.1) = c.1 := by
  obtain ⟨e, he, h1, h2⟩ := mGet_some h
  have hm : c.1 ∈ pointsM T.2.1 := pts_mem_iff.2 ⟨e, he, by rw [h2]⟩
  have hc : c.1.1 = n := by rw [← h1, ← hT.id e he, h2]
  exact lastOf_one hc (fun q hq hqn => pts_one hT hm hq (by rw [hqn, hc])) (.inl hm)
theorem owner_none {T : TouchD} (hT : TouchOk T) {n : Int} (h : mGet T.2.1 n = none) (o : Pt) : lastOf n o (pointsM T.2.1) = o := by
  refine lastOf_none fun p hp => ?_
  obtain ⟨e, he, rfl⟩ := pts_mem_iff.1 hp
  rw [hT.id e he]
  exact mGet_none h e he
theorem mGet_mPut {V : Type} : ∀ (M : List (Nat × Int × V)) (n : Int) (c : Nat) (x : V), mGet (mPut M c n x) n = some x
  | [], n, c, x => by simp [mPut, mGet]
  | y :: r, n, c, x => by
    simp only [mPut]
    split
    · simp [mGet]
    · rename_i h
      simp only [mGet, if_neg h]
      exact mGet_mPut r n c x
theorem owner_feed {T : TouchD} (hT : TouchOk T) {l : List Item} {e : Inp} (he : (feedT T l e).1.2 = 0) (z : Pt) (h5 : e.1 ≠ 5) :
    (lastOf e.2.2.2.2.1 z (pointsM T.2.1)).2.1 = (feedC T l e).1.2.1 ∧ (lastOf e.2.2.2.2.1 z (pointsM T.2.1)).2.2.1 = (feedC T l e).1.2.2.1 := by
  rcases check_zero (feed_fine he).1 with ⟨k5, _⟩ | ⟨_, h67, hs⟩
  · exact absurd k5 h5
  · obtain ⟨c, hc⟩ := Option.isSome_iff_exists.1 hs
    rw [owner_some hT hc]
    have : feedP T l e = c := by
      unfold feedP
      rw [if_neg h5, hc, Option.getD_some]
    unfold feedC
    rw [this]
    split <;> exact ⟨rfl, rfl⟩
theorem owner_down {T : TouchD} (hT : TouchOk T) {l : List Item} {e : Inp} (he : (feedT T l e).1.2 = 0) (z : Pt) (h5 : e.1 = 5) :
    lastOf e.2.2.2.2.1 z (pointsM (feedT T l e).2.2.1) = (feedC T l e).1 := by
  refine owner_some (feed_ok hT l e) ?_ z
  rw [feed_map he]
  unfold feedM
  rw [if_neg (by omega)]
  exact mGet_mPut ..
theorem del_who (T : TouchD) (p : Contact) (k : Int) : (delT T p k).1.1 = p.1.2.1 ∧ (delT T p k).1.2.1 = p.1.2.2.1 ∧ (delT T p k).1.2.2.2.2.2.2.1 = p.1.1 := by
  unfold delT
  split
  · exact ⟨rfl, rfl, rfl⟩
  · split <;> exact ⟨rfl, rfl, rfl⟩
theorem feed_who {T : TouchD} (hT : TouchOk T) {l : List Item} {e : Inp} (he : (feedT T l e).1.2 = 0) :
    (feedT T l e).1.1 = [] ∧ (feedC T l e).1.2.2.1 = 0 ∨ (feedC T l e).1.2.2.1 ≠ 0 ∧ ∃ d, (feedT T l e).1.1 = [d] ∧ d.1 = (feedC T l e).1.2.1 ∧ d.2.1 = (feedC T l e).1.2.2.1 ∧ d.2.2.2.2.2.2.1 = e.2.2.2.2.1 := by
  obtain ⟨h1, h2, h3⟩ := feed_fine he
  rcases h3 with ⟨h3, h4, _⟩ | ⟨h3, h4, _⟩
  · exact .inl ⟨h3, h4⟩
  · refine .inr ⟨h3, _, h4, ?_⟩
    obtain ⟨g1, g2, g3⟩ := del_who (feedS T l e) (feedC T l e) e.1
    refine ⟨g1, g2, ?_⟩
    rw [g3]
    have h1 := feedP_id hT l e h1
    unfold feedC
    split <;> exact h1
end Go.Proofs.Ytgjfofeaakdihaa
