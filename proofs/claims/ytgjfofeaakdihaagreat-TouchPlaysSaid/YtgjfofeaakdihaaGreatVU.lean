/-
  A part of the proof: what some of the program's functions compute.
-/
import Derived.Test.YtgjfofeaakdihaaGreatVQ
namespace Go.Proofs.YtgjfofeaakdihaaGreat
open Go Go.E Go.Proofs
set_option linter.unusedVariables false
set_option linter.unusedSimpArgs false
/-! the points that are dropped -/
theorem mDel_filter {V : Type} : ∀ {M : List (Nat × Int × V)} (n : Int), (M.map (·.2.1)).Nodup → mDel M n = M.filter (fun e => decide (e.2.1 ≠ n))
  | [], n, _ => rfl
  | y :: r, n, h => by
    rw [List.map_cons, List.nodup_cons] at h
    simp only [mDel]
    split
    · rename_i hy
      rw [List.filter_cons_of_neg (by simpa using hy)]
      refine (List.filter_eq_self.2 fun e he => ?_).symm
      simp only [decide_eq_true_eq]
      intro hh
      exact h.1 (List.mem_map.2 ⟨e, he, by rw [hh]; exact (eq_of_beq hy).symm⟩)
    · rename_i hy
      rw [List.filter_cons_of_pos (by simpa using hy), mDel_filter n h.2]
theorem dels_filter {V : Type} : ∀ (ps : List Pt) {M : List (Nat × Int × V)}, (M.map (·.2.1)).Nodup → ps.foldl (fun M p => mDel M p.1) M = M.filter (fun e => !ps.any (fun p => p.1 == e.2.1))
  | [], M, _ => (List.filter_eq_self.2 fun _ _ => rfl).symm
  | p :: r, M, h => by
    rw [List.foldl_cons, mDel_filter p.1 h, dels_filter r (h.sublist (List.filter_sublist.map _)), List.filter_filter]
    refine List.filter_congr fun e _ => ?_
    rw [List.any_cons]
    by_cases hp : p.1 = e.2.1
    · simp [hp]
    · have : ¬ e.2.1 = p.1 := fun h => hp h.symm
      simp [this, hp]
theorem isort_filter {α : Type} {g : α → α → Int} {k : α → Int} (hg : ByKey g k) {xs : List α} (hn : (xs.map k).Nodup) (q : α → Bool) : isort g (xs.filter q) = (isort g xs).filter q := by
  have p1 := isort_perm g (xs.filter q)
  have p2 := (isort_perm g xs).filter q
  refine List.Perm.eq_of_pairwise (le := fun a b => k a ≤ k b) (fun a b ha hb h1 h2 => ?_) (isort_sorted hg _) ((isort_sorted hg xs).filter _) (p1.trans p2.symm)
  exact map_key_inj hn a b ((List.mem_filter.1 (p1.subset ha)).1) ((isort_perm g xs).subset (List.mem_filter.1 hb).1) (by omega)
theorem remove_points {T : TouchD} (hT : TouchOk T) (g : Pt → Bool) : pointsM (removeT T g).2.2.1 = (pointsM T.2.1).filter (fun p => !g p) := by
  have hid : (T.2.1.map ((fun p : Pt => p.1) ∘ fun e => e.2.2.1)) = T.2.1.map (·.2.1) := List.map_congr_left fun e he => hT.id e he
  have hn : ((T.2.1.map fun e => e.2.2.1).map (fun p : Pt => p.1)).Nodup := by
    rw [List.map_map, hid]
    exact hT.key
  unfold removeT
  simp only
  rw [dels_filter _ hT.key]
  unfold pointsM
  rw [← isort_filter byKey_pt hn (fun p => !g p), List.filter_map]
  refine congrArg (fun l => isort cmpPt (List.map (fun e : Nat × Int × Contact => e.2.2.1) l)) ?_
  refine List.filter_congr fun e he => ?_
  simp only [Function.comp_apply]
  congr 1
  rw [Bool.eq_iff_iff, List.any_eq_true]
  constructor
  · rintro ⟨p, hp, hpe⟩
    obtain ⟨h1, h2⟩ := List.mem_filter.1 hp
    obtain ⟨f, hf, rfl⟩ := List.mem_map.1 ((isort_perm _ _).subset h1)
    have : f = e := map_key_inj hT.key f e hf he (by rw [← hT.id f hf]; simpa using hpe)
    rw [← this]
    exact h2
  · intro h
    refine ⟨e.2.2.1, List.mem_filter.2 ⟨(isort_perm _ _).symm.subset (List.mem_map.2 ⟨e, he, rfl⟩), h⟩, ?_⟩
    simpa using hT.id e he
/-- how many of the first i satisfy g -/
def cnt (g : Pt → Bool) (l : List Pt) (i : Nat) : Nat := ((l.take i).filter g).length
theorem cnt_step {g : Pt → Bool} {l : List Pt} {i : Nat} (h : i < l.length) : cnt g l (i + 1) = cnt g l i + if g (elemAt (t := PtT) l i) = true then 1 else 0 := by
  have hx := elemAt_get (t := PtT) l i h
  unfold cnt
  rw [List.take_add_one, hx, List.filter_append, List.length_append]
  congr 1
  by_cases hg : g (elemAt (t := PtT) l i) = true <;> simp [hg]
theorem cnt_get {g : Pt → Bool} {l : List Pt} {i : Nat} (h : i < l.length) (hg : g (elemAt (t := PtT) l i) = true) : (l.filter g)[cnt g l i]? = some (elemAt (t := PtT) l i) := by
  have hx := elemAt_get (t := PtT) l i h
  have hl : l = l.take i ++ (elemAt (t := PtT) l i :: l.drop (i + 1)) := by
    have h2 : l.drop i = elemAt (t := PtT) l i :: l.drop (i + 1) := by
      rw [List.drop_eq_getElem_cons h]
      congr 1
      rw [List.getElem?_eq_getElem h] at hx
      exact Option.some.inj hx
    rw [← h2, List.take_append_drop]
  unfold cnt
  generalize elemAt (t := PtT) l i = x at hg hl
  generalize hn : ((l.take i).filter g).length = n
  rw [hl, List.filter_append, ← hn, List.getElem?_append_right (Nat.le_refl _), Nat.sub_self, List.filter_cons_of_pos hg]
  rfl
theorem cnt_le {g : Pt → Bool} {l : List Pt} {i : Nat} : cnt g l i ≤ i ∧ cnt g l i ≤ l.length := by
  unfold cnt
  have h := List.length_filter_le g (l.take i)
  rw [List.length_take] at h
  omega
theorem cnt_all {g : Pt → Bool} {l : List Pt} {i : Nat} (h : l.length ≤ i) : cnt g l i = (l.filter g).length := by
  unfold cnt
  rw [List.take_of_length_le h]
end Go.Proofs.YtgjfofeaakdihaaGreat
