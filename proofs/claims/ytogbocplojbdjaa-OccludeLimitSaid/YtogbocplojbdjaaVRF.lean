/-
  A part of the proof: what some of the program's functions compute.
-/
import Derived.Test.YtogbocplojbdjaaVRE
namespace Go.Proofs.Ytogbocplojbdjaa
open Go Go.E Go.Proofs
set_option linter.unusedVariables false
set_option linter.unusedSimpArgs false
def ysAll (l : List Rect) : List Int := l.flatMap fun r => [r.2.1, r.2.2.2]
def edgesL (l : List (List Rect)) : List Int := insAll [] (ysAll l.flatten)
abbrev MapI := List (Nat × Int × Int)
theorem mGet_none {V : Type} : ∀ {M : List (Nat × Int × V)} {n : Int}, mGet M n = none → ∀ e ∈ M, e.2.1 ≠ n
  | [], n, h, e, he => by cases he
  | x :: r, n, h, e, he => by
    simp only [mGet] at h
    split at h
    · cases h
    · rename_i hx
      rcases List.mem_cons.1 he with rfl | he
      · simpa using hx
      · exact mGet_none h e he
theorem mPut_new {V : Type} : ∀ {M : List (Nat × Int × V)} {n : Int} (c : Nat) (x : V), mGet M n = none → mPut M c n x = M ++ [(c, n, x)]
  | [], n, c, x, h => rfl
  | y :: r, n, c, x, h => by
    simp only [mGet] at h
    split at h
    · cases h
    · rename_i hx
      simp only [mPut]
      rw [if_neg hx, mPut_new c x h]
      rfl
theorem mPut_fst {V : Type} : ∀ {M : List (Nat × Int × V)} {n : Int} (c : Nat) (x : V), (mGet M n).isSome = true → (mPut M c n x).map (·.1) = M.map (·.1) ∧ (mPut M c n x).map (·.2.1) = M.map (·.2.1)
  | [], n, c, x, h => by simp [mGet] at h
  | y :: r, n, c, x, h => by
    simp only [mGet] at h
    simp only [mPut]
    split at h
    · rename_i hx
      have : y.2.1 = n := by simpa using hx
      rw [if_pos hx]
      simp [this]
    · rename_i hx
      rw [if_neg hx]
      obtain ⟨h1, h2⟩ := mPut_fst c x h
      simp [h1, h2]
theorem mPut_mem {V : Type} : ∀ {M : List (Nat × Int × V)} {n : Int} {c : Nat} {x : V} {e : Nat × Int × V}, e ∈ mPut M c n x → e ∈ M ∨ e.2 = (n, x)
  | [], n, c, x, e, h => by
    right
    rw [List.mem_singleton.1 h]
  | y :: r, n, c, x, e, h => by
    simp only [mPut] at h
    split at h
    · rcases List.mem_cons.1 h with rfl | h
      · right; rfl
      · left; exact List.mem_cons_of_mem _ h
    · rcases List.mem_cons.1 h with rfl | h
      · left; exact List.mem_cons_self ..
      · rcases mPut_mem h with h | h
        · left; exact List.mem_cons_of_mem _ h
        · right; exact h
structure MapOk (M : MapI) (c : Nat) (ks : List Int) : Prop where
  born : ∀ e ∈ M, e.1 < c
  bnd : (M.map (·.1)).Nodup
  key : (M.map (·.2.1)).Nodup
  has : ∀ z, z ∈ M.map (·.2.1) ↔ z ∈ ks
theorem mapOk_nil : MapOk [] 0 [] := ⟨fun e he => (by cases he), List.nodup_nil, List.nodup_nil, fun z => by simp⟩
theorem mapOk_put {M : MapI} {c : Nat} {ks : List Int} (h : MapOk M c ks) (n v : Int) : MapOk (mPut M c n v) (mClk M n c) (ks ++ [n]) := by
  cases hg : mGet M n with
  | none =>
    have hclk : mClk M n c = c + 1 := by unfold mClk; rw [hg]; rfl
    rw [hclk, mPut_new _ _ hg]
    refine ⟨fun e he => ?_, ?_, ?_, fun z => ?_⟩
    · rcases List.mem_append.1 he with he | he
      · have := h.born e he
        omega
      · rw [List.mem_singleton.1 he]
        simp
    · rw [List.map_append, List.nodup_append]
      refine ⟨h.bnd, by simp, fun a ha b hb => ?_⟩
      obtain ⟨x, hx, rfl⟩ := List.mem_map.1 ha
      have := h.born x hx
      simp at hb
      omega
    · rw [List.map_append, List.nodup_append]
      refine ⟨h.key, by simp, fun a ha b hb => ?_⟩
      obtain ⟨x, hx, rfl⟩ := List.mem_map.1 ha
      have := mGet_none hg x hx
      simp at hb
      subst hb
      exact this
    · rw [List.map_append, List.mem_append, List.mem_append, h.has]
      simp
  | some x =>
    have h6 : (mGet M n).isSome = true := by rw [hg]; rfl
    have hclk : mClk M n c = c := by unfold mClk; rw [h6]; rfl
    obtain ⟨g1, g2⟩ := mPut_fst (M := M) (n := n) c v h6
    rw [hclk]
    refine ⟨fun e he => ?_, by rw [g1]; exact h.bnd, by rw [g2]; exact h.key, fun z => ?_⟩
    · have : e.1 ∈ M.map (·.1) := by rw [← g1]; exact List.mem_map.2 ⟨e, he, rfl⟩
      obtain ⟨y, hy, hye⟩ := List.mem_map.1 this
      have := h.born y hy
      omega
    · rw [g2, h.has, List.mem_append, List.mem_singleton]
      constructor
      · exact .inl
      · rintro (hz | rfl)
        · exact hz
        · rw [← h.has, ← g2]
          have : ∀ (M : MapI), ∃ e ∈ mPut M c z v, e.2.1 = z := by
            intro M
            induction M with
            | nil => exact ⟨(c, z, v), by simp [mPut], rfl⟩
            | cons y r ih =>
              simp only [mPut]
              split
              · rename_i hy
                exact ⟨_, List.mem_cons_self .., by simp⟩
              · obtain ⟨e, he, hez⟩ := ih
                exact ⟨e, List.mem_cons_of_mem _ he, hez⟩
          obtain ⟨e, he, hez⟩ := this M
          exact List.mem_map.2 ⟨e, he, hez⟩
theorem ysAll_append (a b : List Rect) : ysAll (a ++ b) = ysAll a ++ ysAll b := by
  unfold ysAll
  rw [List.flatMap_append]
theorem ysAll_len (l : List Rect) : (ysAll l).length = 2 * l.length := by
  unfold ysAll
  induction l with
  | nil => rfl
  | cons p r ih => simp [ih]; omega
theorem rflat_take {l : List (List Rect)} {i : Nat} (h : i < l.length) : (l.take (i + 1)).flatten = (l.take i).flatten ++ elemAt (t := .list RectT) l i := by
  rw [List.take_add_one, elemAt_get (t := .list RectT) l i h, List.flatten_append]
  simp
theorem rflat_len : ∀ (l : List (List Rect)), (∀ x ∈ l, x.length ≤ 1000) → l.flatten.length ≤ l.length * 1000
  | [], _ => by simp
  | x :: r, h => by
    have h1 := rflat_len r fun y hy => h y (List.mem_cons_of_mem _ hy)
    have h2 := h x (List.mem_cons_self ..)
    rw [List.flatten_cons, List.length_append, List.length_cons]
    omega
theorem ifind_born {M : MapI} {z : Nat} (h : ∃ e ∈ M, e.1 = z) : (M.find? (fun e => e.1 == z)).isSome = true := by
  obtain ⟨e, he, hz⟩ := h
  rw [List.find?_isSome]
  exact ⟨e, he, by simpa using hz⟩
theorem ifind_self {M : MapI} (hn : (M.map (·.1)).Nodup) {e : Nat × Int × Int} (he : e ∈ M) : M.find? (fun x => x.1 == e.1) = some e := by
  induction M with
  | nil => cases he
  | cons x r ih =>
    rw [List.map_cons, List.nodup_cons] at hn
    rw [List.find?_cons]
    rcases List.mem_cons.1 he with rfl | he
    · simp
    · have : ¬ x.1 = e.1 := fun h => hn.1 (List.mem_map.2 ⟨e, he, h.symm⟩)
      rw [show (x.1 == e.1) = false by simpa using this]
      exact ih hn.2 he
theorem sortI_strict {l : List Int} (h : l.Nodup) : (sortI l).Pairwise (· < ·) := by
  have h1 : (sortI l).Pairwise (fun a b => decide (a ≤ b) = true) := List.pairwise_mergeSort (fun a b c h1 h2 => by simp at *; omega) (fun a b => by simp; omega) l
  have h2 : (sortI l).Nodup := (List.mergeSort_perm l _).symm.nodup h
  exact (h1.and h2).imp fun ⟨a, b⟩ => by
    simp at a
    omega
theorem sortI_mem {l : List Int} {z : Int} : z ∈ sortI l ↔ z ∈ l := (List.mergeSort_perm l _).mem_iff
def seenI (M : MapI) (seen : List Nat) : List Int := seen.map fun b => ((M.find? (fun e => e.1 == b)).getD (0, I64.zero, I64.zero)).2.1
def edgInv (M : MapI) (c : Nat) (out : List Int) (last : Nat) (seen : List Nat) : Prop := out = seenI M seen ∧ last = c ∧ seen.Nodup ∧ ∀ b ∈ seen, ∃ e ∈ M, e.1 = b
theorem edg_len {M : MapI} {c : Nat} {out : List Int} {last : Nat} {seen : List Nat} (h : edgInv M c out last seen) : seen.length ≤ M.length := by
  have := List.Nodup.length_le_of_subset (l₂ := M.map (·.1)) h.2.2.1 fun b hb => by
    obtain ⟨e, he, hb⟩ := h.2.2.2 b hb
    exact List.mem_map.2 ⟨e, he, hb⟩
  simpa using this
theorem edg_step {M : MapI} {c : Nat} {out : List Int} {last : Nat} {seen : List Nat} (h : edgInv M c out last seen) {z : Nat} (hz : z ∉ seen) (he : ∃ e ∈ M, e.1 = z) :
    edgInv M c (out ++ [((M.find? (fun e => e.1 == z)).getD (0, I64.zero, I64.zero)).2.1]) c (seen ++ [z]) := by
  obtain ⟨h1, h2, h3, h4⟩ := h
  refine ⟨by rw [h1]; simp [seenI], rfl, ?_, fun b hb => ?_⟩
  · rw [List.nodup_append]
    refine ⟨h3, by simp, fun a ha b hb => ?_⟩
    rw [List.mem_singleton] at hb
    subst hb
    rintro rfl
    exact hz ha
  · rcases List.mem_append.1 hb with hb | hb
    · exact h4 b hb
    · rw [List.mem_singleton] at hb
      subst hb
      exact he
theorem edg_all {M : MapI} {c : Nat} {ks : List Int} (hM : MapOk M c ks) {out : List Int} {last : Nat} {seen : List Nat} (h : edgInv M c out last seen) (hall : ∀ e ∈ M, e.1 ∈ seen) : sortI out = insAll [] ks := by
  obtain ⟨h1, h2, h3, h4⟩ := h
  have hp : seen.Perm (M.map (·.1)) := by
    rw [List.perm_ext_iff_of_nodup h3 hM.bnd]
    intro b
    constructor
    · intro hb
      obtain ⟨e, he, hb⟩ := h4 b hb
      exact List.mem_map.2 ⟨e, he, hb⟩
    · intro hb
      obtain ⟨e, he, rfl⟩ := List.mem_map.1 hb
      exact hall e he
  have hq : out.Perm (M.map (·.2.1)) := by
    rw [h1]
    have h2 := hp.map fun b => ((M.find? (fun e => e.1 == b)).getD (0, I64.zero, I64.zero)).2.1
    rw [List.map_map] at h2
    refine h2.trans (List.Perm.of_eq (List.map_congr_left fun e he => ?_))
    simp only [Function.comp_apply, ifind_self hM.bnd he, Option.getD_some]
  refine sorted_ext (sortI_strict (hq.symm.nodup hM.key)) (insAll_sorted List.Pairwise.nil) fun z => ?_
  rw [sortI_mem, hq.mem_iff, hM.has, insAll_mem]
  simp
theorem s_edges : PSound Try.prog 60 (pcon [.d (.list (.list RectT))] fun x => (x.1.length ≤ 10 ∧ ∀ l ∈ (x.1 : List (List Rect)), l.length ≤ 1000, .own I64 (edgesL x.1))) := by
  refine psoundF (K := K38) (Γc := C33) (Γr := R0) (fun x => [(3, annP [.slot 13 I64, .map 10 I64 I64] (fun _ y => (0 ≤ y.1 ∧ y.1 ≤ x.1.length) ∧ MapOk y.2.1.1 y.2.1.2 (ysAll (List.flatten (List.take y.1.toNat (x.1 : List (List Rect)))))) (fun y => (x.1.length - y.1 : Int).toNat)),
    (6, annP [.slot 19 I64, .map 10 I64 I64, .slot 13 I64] (fun y0 y => y.2.2.1 = y0.2.2.1 ∧ (0 ≤ y.1 ∧ y.1 ≤ (elemAt (t := .list RectT) x.1 y0.2.2.1.toNat).length) ∧ MapOk y.2.1.1 y.2.1.2 (ysAll (List.flatten (List.take y0.2.2.1.toNat (x.1 : List (List Rect))) ++ List.take y.1.toNat (elemAt (t := .list RectT) x.1 y0.2.2.1.toNat)))) (fun y => ((elemAt (t := .list RectT) x.1 y.2.2.1.toNat).length - y.1 : Int).toNat)),
    (14, annP [.own 8 I64, .itr 36, .map 10 I64 I64] (fun y0 y => y.2.2.1 = y0.2.2.1 ∧ edgInv y.2.2.1.1 y.2.2.1.2 y.1 y.2.1.1 y.2.1.2) (fun y => y.2.2.1.1.length - y.2.1.2.length))]) hm HK38 HC33 HR0 Try.call60 Try.func60 (by kernel_rfl) ?_
  rintro ⟨l, _⟩ hx
  obtain ⟨hl, h1⟩ : List.length l ≤ 10 ∧ ∀ x ∈ (l : List (List Rect)), x.length ≤ 1000 := hx
  refine Eq.mpr (β := (True ∧ True ∧ True ∧ True ∧ True ∧ True ∧ ((True ∧ (@Eq Int 0 0 ∧ @Eq Int (@Nat.cast Int _ (List.length l)) (@Nat.cast Int _ (List.length l)) ∧ @Eq _ l l ∧ True ∧ True ∧ True ∧ @Eq _ l l ∧ True) ∧ (@Eq _ (([] : List (Prod Nat (Prod (Ty.T (Ty.int IntKind.i64)) (Ty.T (Ty.int IntKind.i64))))), 0).1 (([] : List (Prod Nat (Prod (Ty.T (Ty.int IntKind.i64)) (Ty.T (Ty.int IntKind.i64))))), 0).1 ∧ @Eq Nat 0 0) ∧ True) ∧ (@LE.le Int _ 0 0 ∧ @LE.le Int _ 0 (@Nat.cast (Pl.T (Pl.slot 13 I64)) _ (List.length l))) ∧ (MapOk (([] : List (Prod Nat (Prod (Ty.T (Ty.int IntKind.i64)) (Ty.T (Ty.int IntKind.i64))))), 0).1 0 (ysAll (List.flatten (List.take 0 l))))) ∧ (∀ (v0 : (Prod Int (Prod (Prod (List (Prod Nat (Prod Int Int))) Nat) Unit))), (((@LE.le Int _ 0 v0.1 ∧ @LE.le Int _ v0.1 (@Nat.cast (Pl.T (Pl.slot 13 I64)) _ (List.length l))) ∧ (MapOk v0.2.1.1 v0.2.1.2 (ysAll (List.flatten (List.take (Int.toNat v0.1) l))))) → (True ∧ (@Eq Bool (@decide (@LT.lt Int _ v0.1 (@Nat.cast Int _ (List.length l))) (Int.decLt v0.1 (@Nat.cast Int _ (List.length l)))) true → ((@LE.le Int _ 0 v0.1 ∧ @LE.le Int _ (@HAdd.hAdd Int Int Int _ v0.1 1) (@Nat.cast Int _ (List.length l))) ∧ True ∧ True ∧ True ∧ True ∧ True ∧ ((True ∧ (@Eq Int 0 0 ∧ @Eq Int (@Nat.cast Int _ (List.length (@elemAt (Ty.list RectT) l (Int.toNat v0.1)))) (@Nat.cast Int _ (List.length (@elemAt (Ty.list RectT) l (Int.toNat v0.1)))) ∧ @Eq _ (@elemAt (Ty.list RectT) l (Int.toNat v0.1)) (@elemAt (Ty.list RectT) l (Int.toNat v0.1)) ∧ @Eq _ (@elemAt (Ty.list RectT) l (Int.toNat v0.1)) (@elemAt (Ty.list RectT) l (Int.toNat v0.1)) ∧ @Eq _ (@elemAt (Ty.list RectT) l (Int.toNat v0.1)) (@elemAt (Ty.list RectT) l (Int.toNat v0.1)) ∧ @Eq _ (@elemAt (Ty.list RectT) l (Int.toNat v0.1)) (@elemAt (Ty.list RectT) l (Int.toNat v0.1)) ∧ @Eq Bool (@decide (@LT.lt Int _ v0.1 (@Nat.cast Int _ (List.length l))) (Int.decLt v0.1 (@Nat.cast Int _ (List.length l)))) (@decide (@LT.lt Int _ v0.1 (@Nat.cast Int _ (List.length l))) (Int.decLt v0.1 (@Nat.cast Int _ (List.length l)))) ∧ @Eq Int v0.1 (v0.1, Unit.unit).1 ∧ @Eq Int (@Nat.cast Int _ (List.length l)) (@Nat.cast Int _ (List.length l)) ∧ @Eq _ l l ∧ True ∧ True ∧ True ∧ @Eq _ l l ∧ True) ∧ (@Eq _ v0.2.1.1 v0.2.1.1 ∧ @Eq Nat v0.2.1.2 v0.2.1.2) ∧ True) ∧ @Eq Int (v0.1, Unit.unit).1 (v0.1, Unit.unit).1 ∧ (@LE.le Int _ 0 0 ∧ @LE.le Int _ 0 (@Nat.cast (Pl.T (Pl.slot 19 I64)) _ (List.length (@elemAt (Ty.list RectT) l (Int.toNat (v0.1, Unit.unit).1))))) ∧ (MapOk v0.2.1.1 v0.2.1.2 (ysAll (HAppend.hAppend (List.flatten (List.take (Int.toNat (v0.1, Unit.unit).1) l)) (List.take (Int.toNat 0) (@elemAt (Ty.list RectT) l (Int.toNat (v0.1, Unit.unit).1))))))) ∧ (∀ (v1 : (Prod Int (Prod (Prod (List (Prod Nat (Prod Int Int))) Nat) (Prod Int Unit)))), ((@Eq Int v1.2.2.1 (v0.1, Unit.unit).1 ∧ (@LE.le Int _ 0 v1.1 ∧ @LE.le Int _ v1.1 (@Nat.cast (Pl.T (Pl.slot 19 I64)) _ (List.length (@elemAt (Ty.list RectT) l (Int.toNat (v0.1, Unit.unit).1))))) ∧ (MapOk v1.2.1.1 v1.2.1.2 (ysAll (HAppend.hAppend (List.flatten (List.take (Int.toNat (v0.1, Unit.unit).1) l)) (List.take (Int.toNat v1.1) (@elemAt (Ty.list RectT) l (Int.toNat (v0.1, Unit.unit).1))))))) → (True ∧ (@Eq Bool (@decide (@LT.lt Int _ v1.1 (@Nat.cast Int _ (List.length (@elemAt (Ty.list RectT) l (Int.toNat v0.1))))) (Int.decLt v1.1 (@Nat.cast Int _ (List.length (@elemAt (Ty.list RectT) l (Int.toNat v0.1)))))) true → ((@LE.le Int _ 0 v1.1 ∧ @LE.le Int _ (@HAdd.hAdd Int Int Int _ v1.1 1) (@Nat.cast Int _ (List.length (@elemAt (Ty.list RectT) l (Int.toNat v0.1))))) ∧ True ∧ True ∧ True ∧ True ∧ True ∧ True ∧ True ∧ True ∧ True ∧ True ∧ True ∧ True ∧ True ∧ True ∧ True ∧ True ∧ True ∧ (True ∧ (@Eq Int (IntKind.i64.wrap (@HAdd.hAdd Int Int Int _ v1.1 1)) (IntKind.i64.wrap (@HAdd.hAdd Int Int Int _ v1.1 1)) ∧ @Eq Int (@Nat.cast Int _ (List.length (@elemAt (Ty.list RectT) l (Int.toNat v0.1)))) (@Nat.cast Int _ (List.length (@elemAt (Ty.list RectT) l (Int.toNat v0.1)))) ∧ @Eq _ (@elemAt (Ty.list RectT) l (Int.toNat v0.1)) (@elemAt (Ty.list RectT) l (Int.toNat v0.1)) ∧ @Eq _ (@elemAt (Ty.list RectT) l (Int.toNat v0.1)) (@elemAt (Ty.list RectT) l (Int.toNat v0.1)) ∧ @Eq _ (@elemAt (Ty.list RectT) l (Int.toNat v0.1)) (@elemAt (Ty.list RectT) l (Int.toNat v0.1)) ∧ @Eq _ (@elemAt (Ty.list RectT) l (Int.toNat v0.1)) (@elemAt (Ty.list RectT) l (Int.toNat v0.1)) ∧ @Eq Bool (@decide (@LT.lt Int _ v0.1 (@Nat.cast Int _ (List.length l))) (Int.decLt v0.1 (@Nat.cast Int _ (List.length l)))) (@decide (@LT.lt Int _ v0.1 (@Nat.cast Int _ (List.length l))) (Int.decLt v0.1 (@Nat.cast Int _ (List.length l)))) ∧ @Eq Int v1.2.2.1 (v1.2.2.1, Unit.unit).1 ∧ @Eq Int (@Nat.cast Int _ (List.length l)) (@Nat.cast Int _ (List.length l)) ∧ @Eq _ l l ∧ True ∧ True ∧ True ∧ @Eq _ l l ∧ True) ∧ (@Eq _ (mPut (mPut v1.2.1.1 v1.2.1.2 (@elemAt RectT (@elemAt (Ty.list RectT) l (Int.toNat v0.1)) (Int.toNat v1.1)).2.1 (IntKind.i64.wrap (@HAdd.hAdd Int Int Int _ (Option.getD (mGet v1.2.1.1 (@elemAt RectT (@elemAt (Ty.list RectT) l (Int.toNat v0.1)) (Int.toNat v1.1)).2.1) 0) 1))) (mClk v1.2.1.1 (@elemAt RectT (@elemAt (Ty.list RectT) l (Int.toNat v0.1)) (Int.toNat v1.1)).2.1 v1.2.1.2) (@elemAt RectT (@elemAt (Ty.list RectT) l (Int.toNat v0.1)) (Int.toNat v1.1)).2.2.2 (IntKind.i64.wrap (@HAdd.hAdd Int Int Int _ (Option.getD (mGet (mPut v1.2.1.1 v1.2.1.2 (@elemAt RectT (@elemAt (Ty.list RectT) l (Int.toNat v0.1)) (Int.toNat v1.1)).2.1 (IntKind.i64.wrap (@HAdd.hAdd Int Int Int _ (Option.getD (mGet v1.2.1.1 (@elemAt RectT (@elemAt (Ty.list RectT) l (Int.toNat v0.1)) (Int.toNat v1.1)).2.1) 0) 1))) (@elemAt RectT (@elemAt (Ty.list RectT) l (Int.toNat v0.1)) (Int.toNat v1.1)).2.2.2) 0) 1))) ((mPut (mPut v1.2.1.1 v1.2.1.2 (@elemAt RectT (@elemAt (Ty.list RectT) l (Int.toNat v0.1)) (Int.toNat v1.1)).2.1 (IntKind.i64.wrap (@HAdd.hAdd Int Int Int _ (Option.getD (mGet v1.2.1.1 (@elemAt RectT (@elemAt (Ty.list RectT) l (Int.toNat v0.1)) (Int.toNat v1.1)).2.1) 0) 1))) (mClk v1.2.1.1 (@elemAt RectT (@elemAt (Ty.list RectT) l (Int.toNat v0.1)) (Int.toNat v1.1)).2.1 v1.2.1.2) (@elemAt RectT (@elemAt (Ty.list RectT) l (Int.toNat v0.1)) (Int.toNat v1.1)).2.2.2 (IntKind.i64.wrap (@HAdd.hAdd Int Int Int _ (Option.getD (mGet (mPut v1.2.1.1 v1.2.1.2 (@elemAt RectT (@elemAt (Ty.list RectT) l (Int.toNat v0.1)) (Int.toNat v1.1)).2.1 (IntKind.i64.wrap (@HAdd.hAdd Int Int Int _ (Option.getD (mGet v1.2.1.1 (@elemAt RectT (@elemAt (Ty.list RectT) l (Int.toNat v0.1)) (Int.toNat v1.1)).2.1) 0) 1))) (@elemAt RectT (@elemAt (Ty.list RectT) l (Int.toNat v0.1)) (Int.toNat v1.1)).2.2.2) 0) 1))), (mClk (mPut v1.2.1.1 v1.2.1.2 (@elemAt RectT (@elemAt (Ty.list RectT) l (Int.toNat v0.1)) (Int.toNat v1.1)).2.1 (IntKind.i64.wrap (@HAdd.hAdd Int Int Int _ (Option.getD (mGet v1.2.1.1 (@elemAt RectT (@elemAt (Ty.list RectT) l (Int.toNat v0.1)) (Int.toNat v1.1)).2.1) 0) 1))) (@elemAt RectT (@elemAt (Ty.list RectT) l (Int.toNat v0.1)) (Int.toNat v1.1)).2.2.2 (mClk v1.2.1.1 (@elemAt RectT (@elemAt (Ty.list RectT) l (Int.toNat v0.1)) (Int.toNat v1.1)).2.1 v1.2.1.2))).1 ∧ @Eq Nat (mClk (mPut v1.2.1.1 v1.2.1.2 (@elemAt RectT (@elemAt (Ty.list RectT) l (Int.toNat v0.1)) (Int.toNat v1.1)).2.1 (IntKind.i64.wrap (@HAdd.hAdd Int Int Int _ (Option.getD (mGet v1.2.1.1 (@elemAt RectT (@elemAt (Ty.list RectT) l (Int.toNat v0.1)) (Int.toNat v1.1)).2.1) 0) 1))) (@elemAt RectT (@elemAt (Ty.list RectT) l (Int.toNat v0.1)) (Int.toNat v1.1)).2.2.2 (mClk v1.2.1.1 (@elemAt RectT (@elemAt (Ty.list RectT) l (Int.toNat v0.1)) (Int.toNat v1.1)).2.1 v1.2.1.2)) ((mPut (mPut v1.2.1.1 v1.2.1.2 (@elemAt RectT (@elemAt (Ty.list RectT) l (Int.toNat v0.1)) (Int.toNat v1.1)).2.1 (IntKind.i64.wrap (@HAdd.hAdd Int Int Int _ (Option.getD (mGet v1.2.1.1 (@elemAt RectT (@elemAt (Ty.list RectT) l (Int.toNat v0.1)) (Int.toNat v1.1)).2.1) 0) 1))) (mClk v1.2.1.1 (@elemAt RectT (@elemAt (Ty.list RectT) l (Int.toNat v0.1)) (Int.toNat v1.1)).2.1 v1.2.1.2) (@elemAt RectT (@elemAt (Ty.list RectT) l (Int.toNat v0.1)) (Int.toNat v1.1)).2.2.2 (IntKind.i64.wrap (@HAdd.hAdd Int Int Int _ (Option.getD (mGet (mPut v1.2.1.1 v1.2.1.2 (@elemAt RectT (@elemAt (Ty.list RectT) l (Int.toNat v0.1)) (Int.toNat v1.1)).2.1 (IntKind.i64.wrap (@HAdd.hAdd Int Int Int _ (Option.getD (mGet v1.2.1.1 (@elemAt RectT (@elemAt (Ty.list RectT) l (Int.toNat v0.1)) (Int.toNat v1.1)).2.1) 0) 1))) (@elemAt RectT (@elemAt (Ty.list RectT) l (Int.toNat v0.1)) (Int.toNat v1.1)).2.2.2) 0) 1))), (mClk (mPut v1.2.1.1 v1.2.1.2 (@elemAt RectT (@elemAt (Ty.list RectT) l (Int.toNat v0.1)) (Int.toNat v1.1)).2.1 (IntKind.i64.wrap (@HAdd.hAdd Int Int Int _ (Option.getD (mGet v1.2.1.1 (@elemAt RectT (@elemAt (Ty.list RectT) l (Int.toNat v0.1)) (Int.toNat v1.1)).2.1) 0) 1))) (@elemAt RectT (@elemAt (Ty.list RectT) l (Int.toNat v0.1)) (Int.toNat v1.1)).2.2.2 (mClk v1.2.1.1 (@elemAt RectT (@elemAt (Ty.list RectT) l (Int.toNat v0.1)) (Int.toNat v1.1)).2.1 v1.2.1.2))).2) ∧ True) ∧ (@Eq Int (v1.2.2.1, Unit.unit).1 (v0.1, Unit.unit).1 ∧ (@LE.le Int _ 0 (IntKind.i64.wrap (@HAdd.hAdd Int Int Int _ v1.1 1)) ∧ @LE.le Int _ (IntKind.i64.wrap (@HAdd.hAdd Int Int Int _ v1.1 1)) (@Nat.cast (Pl.T (Pl.slot 19 I64)) _ (List.length (@elemAt (Ty.list RectT) l (Int.toNat (v0.1, Unit.unit).1))))) ∧ (MapOk ((mPut (mPut v1.2.1.1 v1.2.1.2 (@elemAt RectT (@elemAt (Ty.list RectT) l (Int.toNat v0.1)) (Int.toNat v1.1)).2.1 (IntKind.i64.wrap (@HAdd.hAdd Int Int Int _ (Option.getD (mGet v1.2.1.1 (@elemAt RectT (@elemAt (Ty.list RectT) l (Int.toNat v0.1)) (Int.toNat v1.1)).2.1) 0) 1))) (mClk v1.2.1.1 (@elemAt RectT (@elemAt (Ty.list RectT) l (Int.toNat v0.1)) (Int.toNat v1.1)).2.1 v1.2.1.2) (@elemAt RectT (@elemAt (Ty.list RectT) l (Int.toNat v0.1)) (Int.toNat v1.1)).2.2.2 (IntKind.i64.wrap (@HAdd.hAdd Int Int Int _ (Option.getD (mGet (mPut v1.2.1.1 v1.2.1.2 (@elemAt RectT (@elemAt (Ty.list RectT) l (Int.toNat v0.1)) (Int.toNat v1.1)).2.1 (IntKind.i64.wrap (@HAdd.hAdd Int Int Int _ (Option.getD (mGet v1.2.1.1 (@elemAt RectT (@elemAt (Ty.list RectT) l (Int.toNat v0.1)) (Int.toNat v1.1)).2.1) 0) 1))) (@elemAt RectT (@elemAt (Ty.list RectT) l (Int.toNat v0.1)) (Int.toNat v1.1)).2.2.2) 0) 1))), (mClk (mPut v1.2.1.1 v1.2.1.2 (@elemAt RectT (@elemAt (Ty.list RectT) l (Int.toNat v0.1)) (Int.toNat v1.1)).2.1 (IntKind.i64.wrap (@HAdd.hAdd Int Int Int _ (Option.getD (mGet v1.2.1.1 (@elemAt RectT (@elemAt (Ty.list RectT) l (Int.toNat v0.1)) (Int.toNat v1.1)).2.1) 0) 1))) (@elemAt RectT (@elemAt (Ty.list RectT) l (Int.toNat v0.1)) (Int.toNat v1.1)).2.2.2 (mClk v1.2.1.1 (@elemAt RectT (@elemAt (Ty.list RectT) l (Int.toNat v0.1)) (Int.toNat v1.1)).2.1 v1.2.1.2))).1 ((mPut (mPut v1.2.1.1 v1.2.1.2 (@elemAt RectT (@elemAt (Ty.list RectT) l (Int.toNat v0.1)) (Int.toNat v1.1)).2.1 (IntKind.i64.wrap (@HAdd.hAdd Int Int Int _ (Option.getD (mGet v1.2.1.1 (@elemAt RectT (@elemAt (Ty.list RectT) l (Int.toNat v0.1)) (Int.toNat v1.1)).2.1) 0) 1))) (mClk v1.2.1.1 (@elemAt RectT (@elemAt (Ty.list RectT) l (Int.toNat v0.1)) (Int.toNat v1.1)).2.1 v1.2.1.2) (@elemAt RectT (@elemAt (Ty.list RectT) l (Int.toNat v0.1)) (Int.toNat v1.1)).2.2.2 (IntKind.i64.wrap (@HAdd.hAdd Int Int Int _ (Option.getD (mGet (mPut v1.2.1.1 v1.2.1.2 (@elemAt RectT (@elemAt (Ty.list RectT) l (Int.toNat v0.1)) (Int.toNat v1.1)).2.1 (IntKind.i64.wrap (@HAdd.hAdd Int Int Int _ (Option.getD (mGet v1.2.1.1 (@elemAt RectT (@elemAt (Ty.list RectT) l (Int.toNat v0.1)) (Int.toNat v1.1)).2.1) 0) 1))) (@elemAt RectT (@elemAt (Ty.list RectT) l (Int.toNat v0.1)) (Int.toNat v1.1)).2.2.2) 0) 1))), (mClk (mPut v1.2.1.1 v1.2.1.2 (@elemAt RectT (@elemAt (Ty.list RectT) l (Int.toNat v0.1)) (Int.toNat v1.1)).2.1 (IntKind.i64.wrap (@HAdd.hAdd Int Int Int _ (Option.getD (mGet v1.2.1.1 (@elemAt RectT (@elemAt (Ty.list RectT) l (Int.toNat v0.1)) (Int.toNat v1.1)).2.1) 0) 1))) (@elemAt RectT (@elemAt (Ty.list RectT) l (Int.toNat v0.1)) (Int.toNat v1.1)).2.2.2 (mClk v1.2.1.1 (@elemAt RectT (@elemAt (Ty.list RectT) l (Int.toNat v0.1)) (Int.toNat v1.1)).2.1 v1.2.1.2))).2 (ysAll (HAppend.hAppend (List.flatten (List.take (Int.toNat (v0.1, Unit.unit).1) l)) (List.take (Int.toNat (IntKind.i64.wrap (@HAdd.hAdd Int Int Int _ v1.1 1))) (@elemAt (Ty.list RectT) l (Int.toNat (v0.1, Unit.unit).1))))))) ∧ @LT.lt Nat _ (Int.toNat (@HSub.hSub Int Int Int _ (@Nat.cast Int _ (List.length (@elemAt (Ty.list RectT) l (Int.toNat (v1.2.2.1, Unit.unit).1)))) (IntKind.i64.wrap (@HAdd.hAdd Int Int Int _ v1.1 1)))) (Int.toNat (@HSub.hSub Int Int Int _ (@Nat.cast Int _ (List.length (@elemAt (Ty.list RectT) l (Int.toNat v1.2.2.1)))) v1.1)))) ∧ (@Eq Bool (@decide (@LT.lt Int _ v1.1 (@Nat.cast Int _ (List.length (@elemAt (Ty.list RectT) l (Int.toNat v0.1))))) (Int.decLt v1.1 (@Nat.cast Int _ (List.length (@elemAt (Ty.list RectT) l (Int.toNat v0.1)))))) false → (True ∧ True ∧ (True ∧ (@Eq Int (IntKind.i64.wrap (@HAdd.hAdd Int Int Int _ v1.2.2.1 1)) (IntKind.i64.wrap (@HAdd.hAdd Int Int Int _ v1.2.2.1 1)) ∧ @Eq Int (@Nat.cast Int _ (List.length l)) (@Nat.cast Int _ (List.length l)) ∧ @Eq _ l l ∧ True ∧ True ∧ True ∧ @Eq _ l l ∧ True) ∧ (@Eq _ v1.2.1.1 v1.2.1.1 ∧ @Eq Nat v1.2.1.2 v1.2.1.2) ∧ True) ∧ ((@LE.le Int _ 0 (IntKind.i64.wrap (@HAdd.hAdd Int Int Int _ v1.2.2.1 1)) ∧ @LE.le Int _ (IntKind.i64.wrap (@HAdd.hAdd Int Int Int _ v1.2.2.1 1)) (@Nat.cast (Pl.T (Pl.slot 13 I64)) _ (List.length l))) ∧ (MapOk v1.2.1.1 v1.2.1.2 (ysAll (List.flatten (List.take (Int.toNat (IntKind.i64.wrap (@HAdd.hAdd Int Int Int _ v1.2.2.1 1))) l))))) ∧ @LT.lt Nat _ (Int.toNat (@HSub.hSub Int Int Int _ (@Nat.cast Int _ (List.length l)) (IntKind.i64.wrap (@HAdd.hAdd Int Int Int _ v1.2.2.1 1)))) (Int.toNat (@HSub.hSub Int Int Int _ (@Nat.cast Int _ (List.length l)) v0.1))))))))) ∧ (@Eq Bool (@decide (@LT.lt Int _ v0.1 (@Nat.cast Int _ (List.length l))) (Int.decLt v0.1 (@Nat.cast Int _ (List.length l)))) false → (True ∧ True ∧ True ∧ ((True ∧ (True ∧ True ∧ True ∧ @Eq Bool (@decide (@LT.lt Int _ v0.1 (@Nat.cast Int _ (List.length l))) (Int.decLt v0.1 (@Nat.cast Int _ (List.length l)))) (@decide (@LT.lt Int _ v0.1 (@Nat.cast Int _ (List.length l))) (Int.decLt v0.1 (@Nat.cast Int _ (List.length l)))) ∧ @Eq Int v0.1 v0.1 ∧ @Eq Int (@Nat.cast Int _ (List.length l)) (@Nat.cast Int _ (List.length l)) ∧ @Eq _ l l ∧ True ∧ True ∧ True ∧ @Eq _ l l ∧ True) ∧ (@Eq _ v0.2.1.1 (v0.2.1, Unit.unit).1.1 ∧ @Eq Nat v0.2.1.2 (v0.2.1, Unit.unit).1.2) ∧ (@Eq Nat v0.2.1.2 v0.2.1.2 ∧ @Eq Nat v0.2.1.2 (v0.2.1.2, ([] : List Nat)).1 ∧ @Eq _ ([] : List Nat) (v0.2.1.2, ([] : List Nat)).2) ∧ @Eq _ ([] : List (Ty.T I64)) ([] : List (Ty.T I64)) ∧ True) ∧ @Eq _ (v0.2.1, Unit.unit).1 (v0.2.1, Unit.unit).1 ∧ (edgInv (v0.2.1, Unit.unit).1.1 (v0.2.1, Unit.unit).1.2 ([] : List (Ty.T I64)) (v0.2.1.2, ([] : List Nat)).1 (v0.2.1.2, ([] : List Nat)).2)) ∧ (∀ (v1 : (Prod (List Int) (Prod (Prod Nat (List Nat)) (Prod (Prod (List (Prod Nat (Prod Int Int))) Nat) Unit)))), ((@Eq _ v1.2.2.1 (v0.2.1, Unit.unit).1 ∧ (edgInv v1.2.2.1.1 v1.2.2.1.2 v1.1 v1.2.1.1 v1.2.1.2)) → ((((∀ (v2 : (Prod Nat (Prod Int Int))), ((List.Mem v2 v1.2.2.1.1) → @LT.lt Nat _ v2.1 v0.2.1.2)) ∧ @LE.le Nat _ v0.2.1.2 v1.2.1.1) ∧ (∀ (v2 : Unit), ((∀ (v3 : (Prod Nat (Prod Int Int))), ((List.Mem v3 v1.2.2.1.1) → (List.Mem v3.1 v1.2.1.2))) → (True ∧ (@Eq Bool false true → ((@Eq Nat v1.2.2.1.2 v1.2.1.1 ∧ @Eq Bool (Option.isSome (List.find? (fun (v3 : (Prod Nat (Prod (Ty.T I64) (Ty.T I64)))) => (BEq.beq v3.1 (Option.getD (List.getLast? v1.2.1.2) 0))) v1.2.2.1.1)) true ∧ (Ne v1.2.1.2 ([] : List Nat))) ∧ True ∧ True ∧ True ∧ True ∧ True ∧ @LE.le Nat _ (@HMul.hMul Nat Nat Nat _ (@HAdd.hAdd Nat Nat Nat _ (List.length v1.1) (List.length ((Option.getD (List.find? (fun (v3 : (Prod Nat (Prod (Ty.T I64) (Ty.T I64)))) => (BEq.beq v3.1 (Option.getD (List.getLast? v1.2.1.2) 0))) v1.2.2.1.1) (0, ((Ty.zero I64), (Ty.zero I64)))).2.1 :: ([] : List (Ty.T (Ty.int IntKind.i64)))))) 8) 140737488355328 ∧ True ∧ (True ∧ (True ∧ True ∧ True ∧ @Eq Bool (@decide (@LT.lt Int _ v0.1 (@Nat.cast Int _ (List.length l))) (Int.decLt v0.1 (@Nat.cast Int _ (List.length l)))) (@decide (@LT.lt Int _ v0.1 (@Nat.cast Int _ (List.length l))) (Int.decLt v0.1 (@Nat.cast Int _ (List.length l)))) ∧ @Eq Int v0.1 v0.1 ∧ @Eq Int (@Nat.cast Int _ (List.length l)) (@Nat.cast Int _ (List.length l)) ∧ @Eq _ l l ∧ True ∧ True ∧ True ∧ @Eq _ l l ∧ True) ∧ (@Eq _ v1.2.2.1.1 (v1.2.2.1, Unit.unit).1.1 ∧ @Eq Nat v1.2.2.1.2 (v1.2.2.1, Unit.unit).1.2) ∧ (@Eq Nat v0.2.1.2 v0.2.1.2 ∧ @Eq Nat v1.2.1.1 v1.2.1.1 ∧ @Eq _ v1.2.1.2 v1.2.1.2) ∧ @Eq _ (HAppend.hAppend v1.1 ((Option.getD (List.find? (fun (v3 : (Prod Nat (Prod (Ty.T I64) (Ty.T I64)))) => (BEq.beq v3.1 (Option.getD (List.getLast? v1.2.1.2) 0))) v1.2.2.1.1) (0, ((Ty.zero I64), (Ty.zero I64)))).2.1 :: ([] : List (Ty.T (Ty.int IntKind.i64))))) (HAppend.hAppend v1.1 ((Option.getD (List.find? (fun (v3 : (Prod Nat (Prod (Ty.T I64) (Ty.T I64)))) => (BEq.beq v3.1 (Option.getD (List.getLast? v1.2.1.2) 0))) v1.2.2.1.1) (0, ((Ty.zero I64), (Ty.zero I64)))).2.1 :: ([] : List (Ty.T (Ty.int IntKind.i64))))) ∧ True) ∧ (@Eq _ (v1.2.2.1, Unit.unit).1 (v0.2.1, Unit.unit).1 ∧ (edgInv (v1.2.2.1, Unit.unit).1.1 (v1.2.2.1, Unit.unit).1.2 (HAppend.hAppend v1.1 ((Option.getD (List.find? (fun (v3 : (Prod Nat (Prod (Ty.T I64) (Ty.T I64)))) => (BEq.beq v3.1 (Option.getD (List.getLast? v1.2.1.2) 0))) v1.2.2.1.1) (0, ((Ty.zero I64), (Ty.zero I64)))).2.1 :: ([] : List (Ty.T (Ty.int IntKind.i64))))) v1.2.1.1 v1.2.1.2)) ∧ @LT.lt Nat _ (@HSub.hSub Nat Nat Nat _ (List.length (v1.2.2.1, Unit.unit).1.1) (List.length v1.2.1.2)) (@HSub.hSub Nat Nat Nat _ (List.length v1.2.2.1.1) (List.length v1.2.1.2)))) ∧ (@Eq Bool false false → (True ∧ (@LT.lt Nat _ (List.length v1.1) 4611686018427387904 ∧ (True ∧ True) ∧ @Eq _ v1.1 v1.1 ∧ True) ∧ True ∧ True ∧ (True ∧ True) ∧ @Eq _ (sortI v1.1) (edgesL l))))))) ∧ (True ∧ (∀ (v2 : Nat), (((¬ (Membership.mem v1.2.1.2 v2)) ∧ (∃ (v3 : (Prod Nat (Prod (Ty.T I64) (Ty.T I64)))), ((List.Mem v3 v1.2.2.1.1) ∧ @Eq Nat v3.1 v2))) → (True ∧ (@Eq Bool true true → ((@Eq Nat v1.2.2.1.2 v1.2.2.1.2 ∧ @Eq Bool (Option.isSome (List.find? (fun (v3 : (Prod Nat (Prod (Ty.T I64) (Ty.T I64)))) => (BEq.beq v3.1 (Option.getD (List.getLast? (HAppend.hAppend v1.2.1.2 (v2 :: ([] : List Nat)))) 0))) v1.2.2.1.1)) true ∧ (Ne (HAppend.hAppend v1.2.1.2 (v2 :: ([] : List Nat))) ([] : List Nat))) ∧ True ∧ True ∧ True ∧ True ∧ True ∧ @LE.le Nat _ (@HMul.hMul Nat Nat Nat _ (@HAdd.hAdd Nat Nat Nat _ (List.length v1.1) (List.length ((Option.getD (List.find? (fun (v3 : (Prod Nat (Prod (Ty.T I64) (Ty.T I64)))) => (BEq.beq v3.1 (Option.getD (List.getLast? (HAppend.hAppend v1.2.1.2 (v2 :: ([] : List Nat)))) 0))) v1.2.2.1.1) (0, ((Ty.zero I64), (Ty.zero I64)))).2.1 :: ([] : List (Ty.T (Ty.int IntKind.i64)))))) 8) 140737488355328 ∧ True ∧ (True ∧ (True ∧ True ∧ True ∧ @Eq Bool (@decide (@LT.lt Int _ v0.1 (@Nat.cast Int _ (List.length l))) (Int.decLt v0.1 (@Nat.cast Int _ (List.length l)))) (@decide (@LT.lt Int _ v0.1 (@Nat.cast Int _ (List.length l))) (Int.decLt v0.1 (@Nat.cast Int _ (List.length l)))) ∧ @Eq Int v0.1 v0.1 ∧ @Eq Int (@Nat.cast Int _ (List.length l)) (@Nat.cast Int _ (List.length l)) ∧ @Eq _ l l ∧ True ∧ True ∧ True ∧ @Eq _ l l ∧ True) ∧ (@Eq _ v1.2.2.1.1 (v1.2.2.1, Unit.unit).1.1 ∧ @Eq Nat v1.2.2.1.2 (v1.2.2.1, Unit.unit).1.2) ∧ (@Eq Nat v0.2.1.2 v0.2.1.2 ∧ @Eq Nat v1.2.2.1.2 (v1.2.2.1.2, (HAppend.hAppend v1.2.1.2 (v2 :: ([] : List Nat)))).1 ∧ @Eq _ (HAppend.hAppend v1.2.1.2 (v2 :: ([] : List Nat))) (v1.2.2.1.2, (HAppend.hAppend v1.2.1.2 (v2 :: ([] : List Nat)))).2) ∧ @Eq _ (HAppend.hAppend v1.1 ((Option.getD (List.find? (fun (v3 : (Prod Nat (Prod (Ty.T I64) (Ty.T I64)))) => (BEq.beq v3.1 (Option.getD (List.getLast? (HAppend.hAppend v1.2.1.2 (v2 :: ([] : List Nat)))) 0))) v1.2.2.1.1) (0, ((Ty.zero I64), (Ty.zero I64)))).2.1 :: ([] : List (Ty.T (Ty.int IntKind.i64))))) (HAppend.hAppend v1.1 ((Option.getD (List.find? (fun (v3 : (Prod Nat (Prod (Ty.T I64) (Ty.T I64)))) => (BEq.beq v3.1 (Option.getD (List.getLast? (HAppend.hAppend v1.2.1.2 (v2 :: ([] : List Nat)))) 0))) v1.2.2.1.1) (0, ((Ty.zero I64), (Ty.zero I64)))).2.1 :: ([] : List (Ty.T (Ty.int IntKind.i64))))) ∧ True) ∧ (@Eq _ (v1.2.2.1, Unit.unit).1 (v0.2.1, Unit.unit).1 ∧ (edgInv (v1.2.2.1, Unit.unit).1.1 (v1.2.2.1, Unit.unit).1.2 (HAppend.hAppend v1.1 ((Option.getD (List.find? (fun (v3 : (Prod Nat (Prod (Ty.T I64) (Ty.T I64)))) => (BEq.beq v3.1 (Option.getD (List.getLast? (HAppend.hAppend v1.2.1.2 (v2 :: ([] : List Nat)))) 0))) v1.2.2.1.1) (0, ((Ty.zero I64), (Ty.zero I64)))).2.1 :: ([] : List (Ty.T (Ty.int IntKind.i64))))) (v1.2.2.1.2, (HAppend.hAppend v1.2.1.2 (v2 :: ([] : List Nat)))).1 (v1.2.2.1.2, (HAppend.hAppend v1.2.1.2 (v2 :: ([] : List Nat)))).2)) ∧ @LT.lt Nat _ (@HSub.hSub Nat Nat Nat _ (List.length (v1.2.2.1, Unit.unit).1.1) (List.length (v1.2.2.1.2, (HAppend.hAppend v1.2.1.2 (v2 :: ([] : List Nat)))).2)) (@HSub.hSub Nat Nat Nat _ (List.length v1.2.2.1.1) (List.length v1.2.1.2)))) ∧ (@Eq Bool true false → (True ∧ (@LT.lt Nat _ (List.length v1.1) 4611686018427387904 ∧ (True ∧ True) ∧ @Eq _ v1.1 v1.1 ∧ True) ∧ True ∧ True ∧ (True ∧ True) ∧ @Eq _ (sortI v1.1) (edgesL l))))))) ∧ True)))))))))) (by kernel_rfl) ?_
  simp only [true_and, and_true, decide_eq_true_eq, decide_eq_false_iff_not, forall_const, implies_true, and_self]
  have hel : ∀ i : Nat, i < List.length l → List.length (elemAt (t := .list RectT) l i) ≤ 1000 := fun i hi => h1 _ (List.mem_of_getElem? (elemAt_get (t := .list RectT) l i hi))
  refine ⟨⟨⟨by omega, Int.natCast_nonneg _⟩, mapOk_nil⟩, ?_⟩
  rintro ⟨i, ⟨M, c⟩, _⟩ ⟨⟨i0, i1⟩, hM⟩
  simp only at i0 i1 hM ⊢
  refine ⟨fun hi => ⟨⟨i0, by omega⟩, ⟨⟨by omega, Int.natCast_nonneg _⟩, ?_⟩, ?_⟩, fun hi => ⟨⟨rfl, rfl, List.nodup_nil, fun b hb => (by cases hb)⟩, ?_⟩⟩
  · show MapOk M c (ysAll ((List.take i.toNat l).flatten ++ []))
    rw [List.append_nil]
    exact hM
  · have hle := hel i.toNat (by omega)
    rintro ⟨j, ⟨M2, c2⟩, i2, _⟩ ⟨e1, ⟨j0, j1⟩, hM2⟩
    simp only at e1 j0 j1 hM2 ⊢
    subst e1
    refine ⟨fun hj => ⟨⟨j0, by omega⟩, ?_⟩, fun hj => ?_⟩
    · have hx := elemAt_get (t := RectT) (elemAt (t := .list RectT) l i2.toNat) j.toNat (by omega)
      rw [wrap_in (n := j + 1) (by omega), show (j + 1).toNat = j.toNat + 1 by omega]
      refine ⟨⟨rfl, ⟨by omega, by omega⟩, ?_⟩, by omega⟩
      have e2 : ysAll ((List.take i2.toNat l).flatten ++ List.take (j.toNat + 1) (elemAt (t := .list RectT) l i2.toNat)) = (ysAll ((List.take i2.toNat l).flatten ++ List.take j.toNat (elemAt (t := .list RectT) l i2.toNat)) ++ [(elemAt (t := RectT) (elemAt (t := .list RectT) l i2.toNat) j.toNat).2.1]) ++ [(elemAt (t := RectT) (elemAt (t := .list RectT) l i2.toNat) j.toNat).2.2.2] := by
        rw [List.take_add_one, hx, ← List.append_assoc, ysAll_append]
        simp [ysAll]
      rw [e2]
      exact mapOk_put (mapOk_put hM2 _ _) _ _
    · rw [wrap_in (n := i2 + 1) (by omega), show (i2 + 1).toNat = i2.toNat + 1 by omega, rflat_take (by omega)]
      rw [List.take_of_length_le (i := j.toNat) (by omega)] at hM2
      exact ⟨⟨⟨by omega, by omega⟩, hM2⟩, by omega⟩
  · rw [List.take_of_length_le (by omega)] at hM
    rintro ⟨out, ⟨last, seen⟩, ⟨M2, c2⟩, _⟩ ⟨e1, hE⟩
    simp only [Prod.mk.injEq] at e1 hE ⊢
    obtain ⟨rfl, rfl⟩ := e1
    have hks : M2.length ≤ 20000 := by
      have h2 := List.Nodup.length_le_of_subset (l₂ := ysAll (List.flatten l)) hM.key fun z hz => (hM.has z).1 hz
      rw [List.length_map, ysAll_len] at h2
      have h3 := rflat_len l h1
      omega
    have hlen := edg_len hE
    have hol : out.length = seen.length := by rw [hE.1]; simp [seenI]
    have hlast := hE.2.1
    refine ⟨⟨⟨hM.born, by omega⟩, fun hall => ⟨fun h => (by cases h), by omega, edg_all hM hE hall⟩⟩, ?_⟩
    rintro z ⟨hz, e, he, hez⟩
    have hf := ifind_born (M := M2) ⟨e, he, hez⟩
    have hstep := edg_step hE hz ⟨e, he, hez⟩
    have hl2 := edg_len hstep
    simp only [List.length_append, List.length_singleton] at hl2 ⊢
    refine ⟨⟨⟨by simpa using hf, by simp⟩, by omega, ?_, by omega⟩, fun h => (by cases h)⟩
    exact ⟨⟨trivial, trivial⟩, by simpa using hstep⟩
abbrev K39 : KCons := (60, fun Γc => pure_ Γc ((pcon [.d (.list (.list RectT))] fun x => (x.1.length ≤ 10 ∧ ∀ l ∈ (x.1 : List (List Rect)), l.length ≤ 1000, .own I64 (edgesL x.1))))) :: K38
theorem HK39 : KS Try.prog K39 := ks_add (ksound_pure (s_edges)) HK38
end Go.Proofs.Ytogbocplojbdjaa
