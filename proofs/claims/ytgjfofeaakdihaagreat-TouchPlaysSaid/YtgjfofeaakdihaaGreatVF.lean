/-
  A part of the proof: what some of the program's functions compute.
-/
import Derived.Test.YtgjfofeaakdihaaGreatVE
namespace Go.Proofs.YtgjfofeaakdihaaGreat
open Go Go.E Go.Proofs
set_option linter.unusedVariables false
set_option linter.unusedSimpArgs false
/-! sorting by whole numbers -/
theorem insRev_perm {α : Type} (g : α → α → Int) (x : α) : ∀ l, (insRev g x l).Perm (x :: l)
  | [] => List.Perm.refl _
  | e :: r => by
    unfold insRev
    split
    · exact ((insRev_perm g x r).cons e).trans (List.Perm.swap ..)
    · exact List.Perm.refl _
theorem isort_perm {α : Type} (g : α → α → Int) (xs : List α) : (isort g xs).Perm xs := by
  have : ∀ (xs acc : List α), (xs.foldl (fun acc x => insRev g x acc) acc).Perm (xs ++ acc) := by
    intro xs
    induction xs with
    | nil => intro acc; exact List.Perm.refl _
    | cons x r ih =>
      intro acc
      rw [List.foldl_cons]
      exact ((ih _).trans ((insRev_perm g x acc).append_left r)).trans (by simp [List.perm_middle])
  have h := this xs []
  simp only [List.append_nil] at h
  exact (List.reverse_perm _).trans h
/-- g compares by k -/
def ByKey {α : Type} (g : α → α → Int) (k : α → Int) : Prop := ∀ a b, g a b < 0 ↔ k a < k b
theorem insRev_sorted {α : Type} {g : α → α → Int} {k : α → Int} (hg : ByKey g k) (x : α) : ∀ l : List α, l.Pairwise (fun a b => k b ≤ k a) → (insRev g x l).Pairwise (fun a b => k b ≤ k a)
  | [], _ => by simp [insRev]
  | e :: r, h => by
    obtain ⟨h1, h2⟩ := List.pairwise_cons.1 h
    unfold insRev
    split
    · rename_i hlt
      refine List.pairwise_cons.2 ⟨fun y hy => ?_, insRev_sorted hg x r h2⟩
      rcases List.mem_cons.1 ((insRev_perm g x r).subset hy) with rfl | hy
      · exact Int.le_of_lt ((hg _ _).1 hlt)
      · exact h1 y hy
    · rename_i hlt
      have hle : k e ≤ k x := Int.not_lt.1 fun hh => hlt ((hg _ _).2 hh)
      refine List.pairwise_cons.2 ⟨fun y hy => ?_, h⟩
      rcases List.mem_cons.1 hy with rfl | hy
      · exact hle
      · exact Int.le_trans (h1 y hy) hle
theorem isort_sorted {α : Type} {g : α → α → Int} {k : α → Int} (hg : ByKey g k) (xs : List α) : (isort g xs).Pairwise (fun a b => k a ≤ k b) := by
  have : ∀ (xs acc : List α), acc.Pairwise (fun a b => k b ≤ k a) → (xs.foldl (fun acc x => insRev g x acc) acc).Pairwise (fun a b => k b ≤ k a) := by
    intro xs
    induction xs with
    | nil => intro acc h; exact h
    | cons x r ih => intro acc h; exact ih _ (insRev_sorted hg x acc h)
  exact List.pairwise_reverse.2 (this xs [] List.Pairwise.nil)
theorem map_key_inj {α : Type} {k : α → Int} : ∀ {xs : List α}, (xs.map k).Nodup → ∀ a b, a ∈ xs → b ∈ xs → k a = k b → a = b
  | [], _, a, b, ha, _, _ => by cases ha
  | x :: r, h, a, b, ha, hb, hk => by
    rw [List.map_cons, List.nodup_cons] at h
    rcases List.mem_cons.1 ha with ha | ha <;> rcases List.mem_cons.1 hb with hb | hb
    · rw [ha, hb]
    · exact absurd (List.mem_map.2 ⟨b, hb, by rw [← hk, ha]⟩) h.1
    · exact absurd (List.mem_map.2 ⟨a, ha, by rw [hk, hb]⟩) h.1
    · exact map_key_inj h.2 a b ha hb hk
theorem isort_unique {α : Type} {g : α → α → Int} {k : α → Int} (hg : ByKey g k) {xs ys : List α} (hp : xs.Perm ys) (hn : (xs.map k).Nodup) : isort g xs = isort g ys := by
  have p1 := isort_perm g xs
  have p2 := isort_perm g ys
  refine List.Perm.eq_of_pairwise (le := fun a b => k a ≤ k b) (fun a b ha hb h1 h2 => ?_) (isort_sorted hg xs) (isort_sorted hg ys) ((p1.trans hp).trans p2.symm)
  exact map_key_inj hn a b (p1.subset ha) (hp.symm.subset (p2.subset hb)) (by omega)
def cmpPt (a b : Pt) : Int := cmpI a.1 b.1
theorem byKey_pt : ByKey cmpPt (fun p : Pt => p.1) := by
  intro a b
  simp only [cmpPt, cmpI]
  split
  · simp_all
  · split <;> omega
/-! the points -/
def pointsM (M : MapD) : List Pt := isort cmpPt (M.map fun e => e.2.2.1)
/-- what has come out of the map -/
def seenPts (M : MapD) (seen : List Nat) : List Pt := seen.map fun b => ((M.find? (fun e => e.1 == b)).getD (0, I64.zero, ConT.zero)).2.2.1
def g_points : GC where
  X := TouchD
  rd := fun H ys => match ys with
    | [.ptr l 0] => rdTouch H l
    | _ => none
  args := fun _ => [.ptr 0 0]
  hp := fun T => touchH T
  pre := fun T => TouchOk T
  F := fun T => ⟨[(0, .sl 9)], (9, .row PtT (pointsM T.2.1)) :: touchH T, 1, [.ptr 0 0, .ptr 1 0, .mp 2]⟩
  ex := fun _ => [.ptr 1 0, .mp 2]
def ptsInv (T : TouchD) (out : List Pt) (last : Nat) (seen : List Nat) : Prop := out = seenPts T.2.1 seen ∧ last = T.2.2.1 ∧ seen.Nodup ∧ ∀ b ∈ seen, ∃ e ∈ T.2.1, e.1 = b
theorem pts_len {T : TouchD} {out : List Pt} {last : Nat} {seen : List Nat} (h : ptsInv T out last seen) : seen.length ≤ T.2.1.length := by
  have := List.Nodup.length_le_of_subset (l₂ := T.2.1.map (·.1)) h.2.2.1 fun b hb => by
    obtain ⟨e, he, hb⟩ := h.2.2.2 b hb
    exact List.mem_map.2 ⟨e, he, hb⟩
  simpa using this
theorem find_born {M : MapD} {z : Nat} (h : ∃ e ∈ M, e.1 = z) : (M.find? (fun e => e.1 == z)).isSome = true := by
  obtain ⟨e, he, hz⟩ := h
  rw [List.find?_isSome]
  exact ⟨e, he, by simpa using hz⟩
theorem pts_step {T : TouchD} {out : List Pt} {last : Nat} {seen : List Nat} (h : ptsInv T out last seen) {z : Nat} (hz : z ∉ seen) (he : ∃ e ∈ T.2.1, e.1 = z) :
    ptsInv T (out ++ [((T.2.1.find? (fun e => e.1 == z)).getD (0, I64.zero, ConT.zero)).2.2.1]) T.2.2.1 (seen ++ [z]) := by
  obtain ⟨h1, h2, h3, h4⟩ := h
  refine ⟨by rw [h1]; simp [seenPts], rfl, ?_, fun b hb => ?_⟩
  · rw [List.nodup_append]
    refine ⟨h3, by simp, fun a ha b hb => ?_⟩
    rw [List.mem_singleton] at hb
    subst hb
    rintro rfl
    exact hz ha
  · rcases List.mem_append.1 hb with hb | hb
    · exact h4 b hb
    · rw [List.mem_singleton] at hb
      subst hb
      exact he
theorem find_self {M : MapD} (hn : (M.map (·.1)).Nodup) {e : Nat × Int × Contact} (he : e ∈ M) : M.find? (fun x => x.1 == e.1) = some e := by
  induction M with
  | nil => cases he
  | cons x r ih =>
    rw [List.map_cons, List.nodup_cons] at hn
    rw [List.find?_cons]
    rcases List.mem_cons.1 he with rfl | he
    · simp
    · have : ¬ x.1 = e.1 := fun h => hn.1 (List.mem_map.2 ⟨e, he, h.symm⟩)
      rw [show (x.1 == e.1) = false by simpa using this]
      exact ih hn.2 he
theorem pts_all {T : TouchD} (hT : TouchOk T) {seen : List Nat} (hnd : seen.Nodup) (hsub : ∀ b ∈ seen, ∃ e ∈ T.2.1, e.1 = b) (hall : ∀ e ∈ T.2.1, e.1 ∈ seen) :
    (seenPts T.2.1 seen).Perm (T.2.1.map fun e => e.2.2.1) ∧ ((seenPts T.2.1 seen).map fun p => p.1).Nodup := by
  have hp : seen.Perm (T.2.1.map (·.1)) := by
    rw [List.perm_ext_iff_of_nodup hnd hT.bnd]
    intro b
    constructor
    · intro hb
      obtain ⟨e, he, hb⟩ := hsub b hb
      exact List.mem_map.2 ⟨e, he, hb⟩
    · intro hb
      obtain ⟨e, he, rfl⟩ := List.mem_map.1 hb
      exact hall e he
  have h1 : (seenPts T.2.1 seen).Perm (T.2.1.map fun e => e.2.2.1) := by
    have h2 := hp.map fun b => ((T.2.1.find? (fun e => e.1 == b)).getD (0, I64.zero, ConT.zero)).2.2.1
    rw [List.map_map] at h2
    refine h2.trans (List.Perm.of_eq (List.map_congr_left fun e he => ?_))
    simp only [Function.comp_apply, find_self hT.bnd he, Option.getD_some]
  refine ⟨h1, (h1.map _).nodup_iff.2 ?_⟩
  rw [List.map_map]
  have : (T.2.1.map ((fun p : Pt => p.1) ∘ fun e => e.2.2.1)) = T.2.1.map (·.2.1) := List.map_congr_left fun e he => hT.id e he
  rw [this]
  exact hT.key
theorem s_points : KSound Tryz.prog 19 (fun Γc => gCon Γc g_points) := by
  refine gsoundF (K := K42) (Γc := C39) (Γr := R0) (fun T => [(5, annP [.own 3 PtT, .itr 13] (fun _ y => ptsInv T y.1 y.2.1.1 y.2.1.2) (fun y => T.2.1.length - y.2.1.2.length))]) hm HK42 HC39 HR0 Tryz.call19 Tryz.func19 (by kernel_rfl) (fun _ => by kernel_rfl) (fun _ => rfl) ?_
  rintro T hx
  have hT : TouchOk T := hx
  refine Eq.mpr (β := (True ∧ (True ∧ ((True ∧ ((True ∧ True) ∧ ((True ∧ (True ∧ ((@Eq Bool T.2.2.2.1 T.2.2.2.1) ∧ ((@Eq Int T.2.2.2.2 T.2.2.2.2) ∧ True)))) ∧ ((((@Eq Bool T.1.1 T.1.1) ∧ ((@Eq Int T.1.2.1 T.1.2.1) ∧ ((@Eq Int T.1.2.2.1 T.1.2.2.1) ∧ True))) ∧ (@Eq _ T.1.2.2.2 T.1.2.2.2)) ∧ (((@Eq _ T.2.1 T.2.1) ∧ (@Eq Nat T.2.2.1 T.2.2.1)) ∧ True))))) ∧ (True ∧ (((@Eq Bool (not true) true) → (True ∧ ((True ∧ True) ∧ ((True ∧ (True ∧ (True ∧ True))) ∧ ((True ∧ True) ∧ ((@Eq _ (pointsM T.2.1) ([] : List (Ty.T PtT))) ∧ ((True ∧ (True ∧ ((@Eq Bool T.2.2.2.1 T.2.2.2.1) ∧ ((@Eq Int T.2.2.2.2 T.2.2.2.2) ∧ True)))) ∧ ((((@Eq Bool T.1.1 T.1.1) ∧ ((@Eq Int T.1.2.1 T.1.2.1) ∧ ((@Eq Int T.1.2.2.1 T.1.2.2.1) ∧ True))) ∧ (@Eq _ T.1.2.2.2 T.1.2.2.2)) ∧ (((@Eq _ T.2.1 T.2.1) ∧ (@Eq Nat T.2.2.1 T.2.2.1)) ∧ True))))))))) ∧ ((@Eq Bool false false) → (True ∧ (True ∧ (True ∧ (True ∧ (True ∧ (True ∧ ((((True ∧ (True ∧ (True ∧ True))) ∧ ((True ∧ (True ∧ (True ∧ (True ∧ (True ∧ (True ∧ ((@Eq Bool false false) ∧ ((@Eq Bool true true) ∧ (True ∧ (True ∧ (True ∧ True))))))))))) ∧ ((True ∧ (True ∧ ((@Eq Bool T.2.2.2.1 T.2.2.2.1) ∧ ((@Eq Int T.2.2.2.2 T.2.2.2.2) ∧ True)))) ∧ ((((@Eq Bool T.1.1 T.1.1) ∧ ((@Eq Int T.1.2.1 T.1.2.1) ∧ ((@Eq Int T.1.2.2.1 T.1.2.2.1) ∧ True))) ∧ (@Eq _ T.1.2.2.2 T.1.2.2.2)) ∧ (((@Eq _ T.2.1 T.2.1) ∧ (@Eq Nat T.2.2.1 T.2.2.1)) ∧ (((@Eq Nat T.2.2.1 T.2.2.1) ∧ ((@Eq Nat T.2.2.1 (T.2.2.1, ([] : List Nat)).1) ∧ (@Eq _ ([] : List Nat) (T.2.2.1, ([] : List Nat)).2))) ∧ ((@Eq _ ([] : List (Ty.T PtT)) ([] : List (Ty.T PtT))) ∧ True))))))) ∧ (ptsInv T ([] : List (Ty.T PtT)) (T.2.2.1, ([] : List Nat)).1 (T.2.2.1, ([] : List Nat)).2)) ∧ (∀ (v0 : (Prod (List (Prod Int (Prod Int (Prod Int (Prod Int Int))))) (Prod (Prod Nat (List Nat)) Unit))), ((ptsInv T v0.1 v0.2.1.1 v0.2.1.2) → ((((∀ (v1 : (Prod Nat (Prod Int (Prod (Prod Int (Prod Int (Prod Int (Prod Int Int)))) (Prod Int Int))))), ((List.Mem v1 T.2.1) → (@LT.lt Nat instLTNat v1.1 T.2.2.1))) ∧ (@LE.le Nat instLENat T.2.2.1 v0.2.1.1)) ∧ (∀ (v1 : Unit), ((∀ (v2 : (Prod Nat (Prod Int (Prod (Prod Int (Prod Int (Prod Int (Prod Int Int)))) (Prod Int Int))))), ((List.Mem v2 T.2.1) → (List.Mem v2.1 v0.2.1.2))) → (True ∧ (((@Eq Bool false true) → (((@Eq Nat T.2.2.1 v0.2.1.1) ∧ ((@Eq Bool (Option.isSome (List.find? (fun (v2 : (Prod Nat (Prod (Ty.T I64) (Ty.T ConT)))) => (BEq.beq v2.1 (Option.getD (List.getLast? v0.2.1.2) (0:Nat)))) T.2.1)) true) ∧ (Ne v0.2.1.2 ([] : List Nat)))) ∧ (True ∧ (True ∧ (True ∧ (True ∧ (True ∧ (True ∧ (True ∧ ((@LE.le Nat instLENat (@HMul.hMul Nat Nat Nat _ (@HAdd.hAdd Nat Nat Nat _ (List.length v0.1) (List.length ((Option.getD (List.find? (fun (v2 : (Prod Nat (Prod (Ty.T I64) (Ty.T ConT)))) => (BEq.beq v2.1 (Option.getD (List.getLast? v0.2.1.2) (0:Nat)))) T.2.1) ((0:Nat), ((Ty.zero I64), (Ty.zero ConT)))).2.2.1 :: ([] : List (Ty.T (Ty.prod (Ty.int IntKind.i64) (Ty.prod (Ty.int IntKind.i64) (Ty.prod (Ty.int IntKind.i64) (Ty.prod (Ty.int IntKind.i64) (Ty.int IntKind.i64)))))))))) (40:Nat)) (140737488355328:Nat)) ∧ (True ∧ (((True ∧ (True ∧ (True ∧ True))) ∧ ((True ∧ (True ∧ (True ∧ (True ∧ (True ∧ (True ∧ ((@Eq Bool false false) ∧ ((@Eq Bool true true) ∧ (True ∧ (True ∧ (True ∧ True))))))))))) ∧ ((True ∧ (True ∧ ((@Eq Bool T.2.2.2.1 T.2.2.2.1) ∧ ((@Eq Int T.2.2.2.2 T.2.2.2.2) ∧ True)))) ∧ ((((@Eq Bool T.1.1 T.1.1) ∧ ((@Eq Int T.1.2.1 T.1.2.1) ∧ ((@Eq Int T.1.2.2.1 T.1.2.2.1) ∧ True))) ∧ (@Eq _ T.1.2.2.2 T.1.2.2.2)) ∧ (((@Eq _ T.2.1 T.2.1) ∧ (@Eq Nat T.2.2.1 T.2.2.1)) ∧ (((@Eq Nat T.2.2.1 T.2.2.1) ∧ ((@Eq Nat v0.2.1.1 v0.2.1.1) ∧ (@Eq _ v0.2.1.2 v0.2.1.2))) ∧ ((@Eq _ (HAppend.hAppend v0.1 ((Option.getD (List.find? (fun (v2 : (Prod Nat (Prod (Ty.T I64) (Ty.T ConT)))) => (BEq.beq v2.1 (Option.getD (List.getLast? v0.2.1.2) (0:Nat)))) T.2.1) ((0:Nat), ((Ty.zero I64), (Ty.zero ConT)))).2.2.1 :: ([] : List (Ty.T (Ty.prod (Ty.int IntKind.i64) (Ty.prod (Ty.int IntKind.i64) (Ty.prod (Ty.int IntKind.i64) (Ty.prod (Ty.int IntKind.i64) (Ty.int IntKind.i64))))))))) (HAppend.hAppend v0.1 ((Option.getD (List.find? (fun (v2 : (Prod Nat (Prod (Ty.T I64) (Ty.T ConT)))) => (BEq.beq v2.1 (Option.getD (List.getLast? v0.2.1.2) (0:Nat)))) T.2.1) ((0:Nat), ((Ty.zero I64), (Ty.zero ConT)))).2.2.1 :: ([] : List (Ty.T (Ty.prod (Ty.int IntKind.i64) (Ty.prod (Ty.int IntKind.i64) (Ty.prod (Ty.int IntKind.i64) (Ty.prod (Ty.int IntKind.i64) (Ty.int IntKind.i64)))))))))) ∧ True))))))) ∧ ((ptsInv T (HAppend.hAppend v0.1 ((Option.getD (List.find? (fun (v2 : (Prod Nat (Prod (Ty.T I64) (Ty.T ConT)))) => (BEq.beq v2.1 (Option.getD (List.getLast? v0.2.1.2) (0:Nat)))) T.2.1) ((0:Nat), ((Ty.zero I64), (Ty.zero ConT)))).2.2.1 :: ([] : List (Ty.T (Ty.prod (Ty.int IntKind.i64) (Ty.prod (Ty.int IntKind.i64) (Ty.prod (Ty.int IntKind.i64) (Ty.prod (Ty.int IntKind.i64) (Ty.int IntKind.i64))))))))) v0.2.1.1 v0.2.1.2) ∧ (@LT.lt Nat instLTNat (@HSub.hSub Nat Nat Nat _ (List.length T.2.1) (List.length v0.2.1.2)) (@HSub.hSub Nat Nat Nat _ (List.length T.2.1) (List.length v0.2.1.2)))))))))))))))) ∧ ((@Eq Bool false false) → (True ∧ (((@LE.le Nat instLENat (List.length v0.1) (12:Nat)) ∧ ((True ∧ ((@Eq _ (fun (v2 : (Ts (PtT :: (PtT :: ([] : List Ty))))) => (cmpI v2.1.1 v2.2.1.1)) (fun (v2 : (Ts (PtT :: (PtT :: ([] : List Ty))))) => (cmpI v2.1.1 v2.2.1.1))) ∧ True)) ∧ ((@Eq _ v0.1 v0.1) ∧ True))) ∧ (True ∧ (True ∧ ((True ∧ True) ∧ ((True ∧ (True ∧ (True ∧ True))) ∧ ((True ∧ True) ∧ ((@Eq _ (isort (@cmp2 PtT (fun (v2 : (Ts (PtT :: (PtT :: ([] : List Ty))))) => (cmpI v2.1.1 v2.2.1.1))) v0.1) (pointsM T.2.1)) ∧ ((True ∧ (True ∧ ((@Eq Bool T.2.2.2.1 T.2.2.2.1) ∧ ((@Eq Int T.2.2.2.2 T.2.2.2.2) ∧ True)))) ∧ ((((@Eq Bool T.1.1 T.1.1) ∧ ((@Eq Int T.1.2.1 T.1.2.1) ∧ ((@Eq Int T.1.2.2.1 T.1.2.2.1) ∧ True))) ∧ (@Eq _ T.1.2.2.2 T.1.2.2.2)) ∧ (((@Eq _ T.2.1 T.2.1) ∧ (@Eq Nat T.2.2.1 T.2.2.1)) ∧ True))))))))))))))))) ∧ ((True ∧ (∀ (v1 : Nat), (((¬ (Membership.mem v0.2.1.2 v1)) ∧ (∃ (v2 : (Prod Nat (Prod (Ty.T I64) (Ty.T ConT)))), ((List.Mem v2 T.2.1) ∧ (@Eq Nat v2.1 v1)))) → (True ∧ (((@Eq Bool true true) → (((@Eq Nat T.2.2.1 T.2.2.1) ∧ ((@Eq Bool (Option.isSome (List.find? (fun (v2 : (Prod Nat (Prod (Ty.T I64) (Ty.T ConT)))) => (BEq.beq v2.1 (Option.getD (List.getLast? (HAppend.hAppend v0.2.1.2 (v1 :: ([] : List Nat)))) (0:Nat)))) T.2.1)) true) ∧ (Ne (HAppend.hAppend v0.2.1.2 (v1 :: ([] : List Nat))) ([] : List Nat)))) ∧ (True ∧ (True ∧ (True ∧ (True ∧ (True ∧ (True ∧ (True ∧ ((@LE.le Nat instLENat (@HMul.hMul Nat Nat Nat _ (@HAdd.hAdd Nat Nat Nat _ (List.length v0.1) (List.length ((Option.getD (List.find? (fun (v2 : (Prod Nat (Prod (Ty.T I64) (Ty.T ConT)))) => (BEq.beq v2.1 (Option.getD (List.getLast? (HAppend.hAppend v0.2.1.2 (v1 :: ([] : List Nat)))) (0:Nat)))) T.2.1) ((0:Nat), ((Ty.zero I64), (Ty.zero ConT)))).2.2.1 :: ([] : List (Ty.T (Ty.prod (Ty.int IntKind.i64) (Ty.prod (Ty.int IntKind.i64) (Ty.prod (Ty.int IntKind.i64) (Ty.prod (Ty.int IntKind.i64) (Ty.int IntKind.i64)))))))))) (40:Nat)) (140737488355328:Nat)) ∧ (True ∧ (((True ∧ (True ∧ (True ∧ True))) ∧ ((True ∧ (True ∧ (True ∧ (True ∧ (True ∧ (True ∧ ((@Eq Bool false false) ∧ ((@Eq Bool true true) ∧ (True ∧ (True ∧ (True ∧ True))))))))))) ∧ ((True ∧ (True ∧ ((@Eq Bool T.2.2.2.1 T.2.2.2.1) ∧ ((@Eq Int T.2.2.2.2 T.2.2.2.2) ∧ True)))) ∧ ((((@Eq Bool T.1.1 T.1.1) ∧ ((@Eq Int T.1.2.1 T.1.2.1) ∧ ((@Eq Int T.1.2.2.1 T.1.2.2.1) ∧ True))) ∧ (@Eq _ T.1.2.2.2 T.1.2.2.2)) ∧ (((@Eq _ T.2.1 T.2.1) ∧ (@Eq Nat T.2.2.1 T.2.2.1)) ∧ (((@Eq Nat T.2.2.1 T.2.2.1) ∧ ((@Eq Nat T.2.2.1 (T.2.2.1, (HAppend.hAppend v0.2.1.2 (v1 :: ([] : List Nat)))).1) ∧ (@Eq _ (HAppend.hAppend v0.2.1.2 (v1 :: ([] : List Nat))) (T.2.2.1, (HAppend.hAppend v0.2.1.2 (v1 :: ([] : List Nat)))).2))) ∧ ((@Eq _ (HAppend.hAppend v0.1 ((Option.getD (List.find? (fun (v2 : (Prod Nat (Prod (Ty.T I64) (Ty.T ConT)))) => (BEq.beq v2.1 (Option.getD (List.getLast? (HAppend.hAppend v0.2.1.2 (v1 :: ([] : List Nat)))) (0:Nat)))) T.2.1) ((0:Nat), ((Ty.zero I64), (Ty.zero ConT)))).2.2.1 :: ([] : List (Ty.T (Ty.prod (Ty.int IntKind.i64) (Ty.prod (Ty.int IntKind.i64) (Ty.prod (Ty.int IntKind.i64) (Ty.prod (Ty.int IntKind.i64) (Ty.int IntKind.i64))))))))) (HAppend.hAppend v0.1 ((Option.getD (List.find? (fun (v2 : (Prod Nat (Prod (Ty.T I64) (Ty.T ConT)))) => (BEq.beq v2.1 (Option.getD (List.getLast? (HAppend.hAppend v0.2.1.2 (v1 :: ([] : List Nat)))) (0:Nat)))) T.2.1) ((0:Nat), ((Ty.zero I64), (Ty.zero ConT)))).2.2.1 :: ([] : List (Ty.T (Ty.prod (Ty.int IntKind.i64) (Ty.prod (Ty.int IntKind.i64) (Ty.prod (Ty.int IntKind.i64) (Ty.prod (Ty.int IntKind.i64) (Ty.int IntKind.i64)))))))))) ∧ True))))))) ∧ ((ptsInv T (HAppend.hAppend v0.1 ((Option.getD (List.find? (fun (v2 : (Prod Nat (Prod (Ty.T I64) (Ty.T ConT)))) => (BEq.beq v2.1 (Option.getD (List.getLast? (HAppend.hAppend v0.2.1.2 (v1 :: ([] : List Nat)))) (0:Nat)))) T.2.1) ((0:Nat), ((Ty.zero I64), (Ty.zero ConT)))).2.2.1 :: ([] : List (Ty.T (Ty.prod (Ty.int IntKind.i64) (Ty.prod (Ty.int IntKind.i64) (Ty.prod (Ty.int IntKind.i64) (Ty.prod (Ty.int IntKind.i64) (Ty.int IntKind.i64))))))))) (T.2.2.1, (HAppend.hAppend v0.2.1.2 (v1 :: ([] : List Nat)))).1 (T.2.2.1, (HAppend.hAppend v0.2.1.2 (v1 :: ([] : List Nat)))).2) ∧ (@LT.lt Nat instLTNat (@HSub.hSub Nat Nat Nat _ (List.length T.2.1) (List.length (T.2.2.1, (HAppend.hAppend v0.2.1.2 (v1 :: ([] : List Nat)))).2)) (@HSub.hSub Nat Nat Nat _ (List.length T.2.1) (List.length v0.2.1.2)))))))))))))))) ∧ ((@Eq Bool true false) → (True ∧ (((@LE.le Nat instLENat (List.length v0.1) (12:Nat)) ∧ ((True ∧ ((@Eq _ (fun (v2 : (Ts (PtT :: (PtT :: ([] : List Ty))))) => (cmpI v2.1.1 v2.2.1.1)) (fun (v2 : (Ts (PtT :: (PtT :: ([] : List Ty))))) => (cmpI v2.1.1 v2.2.1.1))) ∧ True)) ∧ ((@Eq _ v0.1 v0.1) ∧ True))) ∧ (True ∧ (True ∧ ((True ∧ True) ∧ ((True ∧ (True ∧ (True ∧ True))) ∧ ((True ∧ True) ∧ ((@Eq _ (isort (@cmp2 PtT (fun (v2 : (Ts (PtT :: (PtT :: ([] : List Ty))))) => (cmpI v2.1.1 v2.2.1.1))) v0.1) (pointsM T.2.1)) ∧ ((True ∧ (True ∧ ((@Eq Bool T.2.2.2.1 T.2.2.2.1) ∧ ((@Eq Int T.2.2.2.2 T.2.2.2.2) ∧ True)))) ∧ ((((@Eq Bool T.1.1 T.1.1) ∧ ((@Eq Int T.1.2.1 T.1.2.1) ∧ ((@Eq Int T.1.2.2.1 T.1.2.2.1) ∧ True))) ∧ (@Eq _ T.1.2.2.2 T.1.2.2.2)) ∧ (((@Eq _ T.2.1 T.2.1) ∧ (@Eq Nat T.2.2.1 T.2.2.1)) ∧ True))))))))))))))))) ∧ True)))))))))))))))))) (by kernel_rfl) ?_
  simp only [true_and, and_true, decide_eq_true_eq, decide_eq_false_iff_not, forall_const, implies_true, and_self]
  refine ⟨by simp, ⟨rfl, rfl, List.nodup_nil, by simp⟩, ?_⟩
  rintro ⟨out, ⟨last, seen⟩, _⟩ hi
  simp only at hi ⊢
  have hlen := pts_len hi
  obtain ⟨hout, hlast, hnd, hsub⟩ := hi
  subst hlast
  have hol : out.length = seen.length := by rw [hout]; simp [seenPts]
  have h10 := hT.len
  refine ⟨⟨⟨hT.born, Nat.le_refl _⟩, fun hall => ⟨fun h => (by cases h), by omega, ?_⟩⟩, ?_⟩
  · have hp := pts_all hT hnd hsub hall
    rw [hout]
    exact isort_unique byKey_pt hp.1 hp.2
  · rintro z ⟨hz, e, he, hez⟩
    have hf := find_born (M := T.2.1) ⟨e, he, hez⟩
    have hstep := pts_step (T := T) ⟨hout, rfl, hnd, hsub⟩ hz ⟨e, he, hez⟩
    have hl2 := pts_len hstep
    simp only [List.length_append, List.length_singleton] at hl2 ⊢
    refine ⟨⟨⟨by simpa using hf, by simp⟩, ?_, ?_, by omega⟩, fun h => (by cases h)⟩
    · omega
    · simpa using hstep
theorem s_points0 : KSound Tryz.prog 19 (fun Γc => gCon Γc (g_nil1 .nils)) := by
  refine gsoundF (K := K42) (Γc := C39) (Γr := R0) (fun _ => []) hm HK42 HC39 HR0 Tryz.call19 Tryz.func19 (by kernel_rfl) (fun _ => by kernel_rfl) (fun _ => rfl) ?_
  rintro ⟨⟩ _
  refine Eq.mpr (β := (True ∧ (True ∧ ((True ∧ ((True ∧ True) ∧ True)) ∧ (True ∧ (((@Eq Bool true true) → (True ∧ ((True ∧ True) ∧ ((True ∧ True) ∧ ((True ∧ True) ∧ True))))) ∧ ((@Eq Bool (not false) false) → (True ∧ (True ∧ False))))))))) (by kernel_rfl) ?_
  simp
abbrev K43 : KCons := (19, fun Γc => orCon (gCon Γc g_points) (gCon Γc (g_nil1 .nils))) :: K42
theorem HK43 : KS Tryz.prog K43 := ks_add (ksound_or s_points s_points0) HK42
def removeT (T : TouchD) (g : Pt → Bool) : List Int × TouchD :=
  let del := (pointsM T.2.1).filter g
  (del.map (·.1), (T.1, del.foldl (fun M p => mDel M p.1) T.2.1, T.2.2))
def g_remove : GC where
  X := TouchD × (Ts [PtT] → Bool)
  rd := fun _ _ => none
  args := fun x => [.ptr 0 0, .pfn [PtT] .bool x.2]
  hp := fun x => touchH x.1
  pre := fun x => TouchOk x.1
  F := fun x => ⟨[(0, .sl 9)], (9, .row I64 (removeT x.1 fun p => x.2 (p, ())).1) :: touchH (removeT x.1 fun p => x.2 (p, ())).2, 1, [.ptr 0 0, .junk, .ptr 1 0, .mp 2]⟩
  ex := fun _ => [.ptr 1 0, .mp 2]
def r_remove (Γc : Clos) (H : Heap) : List AV → Option (TouchD × (Ts [PtT] → Bool))
  | [.ptr l 0, f] => match rdTouch H l, castF [PtT] .bool (closAV H Γc f) with
    | some T, some g => some (T, g)
    | _, _ => none
  | _ => none
theorem s_remove : KSound Tryz.prog 23 (fun Γc => gCon Γc ⟨g_remove.X, r_remove Γc, g_remove.args, g_remove.hp, g_remove.pre, g_remove.F, g_remove.ex⟩) := by
  refine gsoundR (K := K43) (Γc := C39) (Γr := R0) (fun x => [(3, annP [.slot 11 I64, .own 5 I64, .map 2 I64 ConT] (fun _ y => 0 ≤ y.1 ∧ y.1 ≤ (pointsM x.1.2.1).length ∧ y.2.1 = (((pointsM x.1.2.1).take y.1.toNat).filter fun p => x.2 (p, ())).map (·.1) ∧ y.2.2.1 = ((((pointsM x.1.2.1).take y.1.toNat).filter fun p => x.2 (p, ())).foldl (fun M p => mDel M p.1) x.1.2.1, x.1.2.2.1)) (fun y => ((pointsM x.1.2.1).length - y.1 : Int).toNat))]) hm HK43 HC39 HR0 Tryz.call23 Tryz.func23 (by kernel_rfl) (fun _ => by kernel_rfl) (fun _ => rfl) ?_
  rintro ⟨T, g⟩ hx
  have hT : TouchOk T := hx
  have hpl : (pointsM T.2.1).length ≤ 10 := by
    rw [pointsM, (isort_perm _ _).length_eq, List.length_map]; exact hT.len
  refine Eq.mpr (β := (True ∧ (True ∧ (True ∧ (((TouchOk T) ∧ ((True ∧ True) ∧ ((True ∧ (True ∧ ((@Eq Bool T.2.2.2.1 T.2.2.2.1) ∧ ((@Eq Int T.2.2.2.2 T.2.2.2.2) ∧ True)))) ∧ ((((@Eq Bool T.1.1 T.1.1) ∧ ((@Eq Int T.1.2.1 T.1.2.1) ∧ ((@Eq Int T.1.2.2.1 T.1.2.2.1) ∧ True))) ∧ (@Eq _ T.1.2.2.2 T.1.2.2.2)) ∧ (((@Eq _ T.2.1 T.2.1) ∧ (@Eq Nat T.2.2.1 T.2.2.1)) ∧ True))))) ∧ (True ∧ (True ∧ ((((True ∧ ((@Eq _ g g) ∧ (True ∧ (True ∧ True)))) ∧ (((@Eq Int (0:Int) (0:Int)) ∧ ((@Eq Int (@Nat.cast Int _ (List.length (pointsM T.2.1))) (@Nat.cast Int _ (List.length (pointsM T.2.1)))) ∧ (True ∧ (True ∧ (True ∧ (True ∧ (True ∧ ((@Eq _ g g) ∧ True)))))))) ∧ ((True ∧ (True ∧ ((@Eq Bool T.2.2.2.1 T.2.2.2.1) ∧ ((@Eq Int T.2.2.2.2 T.2.2.2.2) ∧ True)))) ∧ ((((@Eq Bool T.1.1 T.1.1) ∧ ((@Eq Int T.1.2.1 T.1.2.1) ∧ ((@Eq Int T.1.2.2.1 T.1.2.2.1) ∧ True))) ∧ (@Eq _ T.1.2.2.2 T.1.2.2.2)) ∧ (((@Eq _ T.2.1 ((T.2.1, T.2.2.1), Unit.unit).1.1) ∧ (@Eq Nat T.2.2.1 ((T.2.1, T.2.2.1), Unit.unit).1.2)) ∧ ((@Eq _ (pointsM T.2.1) (pointsM T.2.1)) ∧ ((@Eq _ ([] : List (Ty.T I64)) ([] : List (Ty.T I64))) ∧ True))))))) ∧ ((@LE.le Int Int.instLEInt (0:Int) (0:Int)) ∧ ((@LE.le Int Int.instLEInt (0:Int) (@Nat.cast (Pl.T (Pl.slot (11:Nat) I64)) _ (List.length (pointsM T.2.1)))) ∧ ((@Eq _ ([] : List (Ty.T I64)) (List.map (fun (v0 : (Ty.T PtT)) => v0.1) (List.filter (fun (v0 : (Ty.T PtT)) => (g (v0, Unit.unit))) (List.take (Int.toNat (0:Int)) (pointsM T.2.1))))) ∧ (@Eq _ ((T.2.1, T.2.2.1), Unit.unit).1 ((List.foldl (fun (v0 : (List (Prod Nat (Prod Int Contact)))) => (fun (v1 : (Ty.T PtT)) => (mDel v0 v1.1))) T.2.1 (List.filter (fun (v0 : (Ty.T PtT)) => (g (v0, Unit.unit))) (List.take (Int.toNat (0:Int)) (pointsM T.2.1)))), T.2.2.1)))))) ∧ (∀ (v0 : (Prod Int (Prod (List Int) (Prod (Prod (List (Prod Nat (Prod Int (Prod (Prod Int (Prod Int (Prod Int (Prod Int Int)))) (Prod Int Int))))) Nat) Unit)))), (((@LE.le Int Int.instLEInt (0:Int) v0.1) ∧ ((@LE.le Int Int.instLEInt v0.1 (@Nat.cast (Pl.T (Pl.slot (11:Nat) I64)) _ (List.length (pointsM T.2.1)))) ∧ ((@Eq _ v0.2.1 (List.map (fun (v1 : (Ty.T PtT)) => v1.1) (List.filter (fun (v1 : (Ty.T PtT)) => (g (v1, Unit.unit))) (List.take (Int.toNat v0.1) (pointsM T.2.1))))) ∧ (@Eq _ v0.2.2.1 ((List.foldl (fun (v1 : (List (Prod Nat (Prod Int Contact)))) => (fun (v2 : (Ty.T PtT)) => (mDel v1 v2.1))) T.2.1 (List.filter (fun (v1 : (Ty.T PtT)) => (g (v1, Unit.unit))) (List.take (Int.toNat v0.1) (pointsM T.2.1)))), T.2.2.1))))) → (True ∧ (((@Eq Bool (@decide (@LT.lt Int Int.instLTInt v0.1 (@Nat.cast Int _ (List.length (pointsM T.2.1)))) (Int.decLt v0.1 (@Nat.cast Int _ (List.length (pointsM T.2.1))))) true) → (((@LE.le Int Int.instLEInt (0:Int) v0.1) ∧ (@LE.le Int Int.instLEInt (@HAdd.hAdd Int Int Int _ v0.1 (1:Int)) (@Nat.cast Int _ (List.length (pointsM T.2.1))))) ∧ ((@LT.lt Nat instLTNat (Int.toNat v0.1) (List.length (pointsM T.2.1))) ∧ (True ∧ (True ∧ (True ∧ (True ∧ (True ∧ (((@Eq Bool (g ((@elemAt PtT (pointsM T.2.1) (Int.toNat v0.1)), Unit.unit)) true) → ((True ∧ (True ∧ (True ∧ (True ∧ (True ∧ (True ∧ (True ∧ True))))))) ∧ (True ∧ (True ∧ (True ∧ (True ∧ ((@LE.le Nat instLENat (@HMul.hMul Nat Nat Nat _ (@HAdd.hAdd Nat Nat Nat _ (List.length v0.2.1) (List.length ((@elemAt PtT (pointsM T.2.1) (Int.toNat v0.1)).1 :: ([] : List (Ty.T (Ty.int IntKind.i64)))))) (8:Nat)) (140737488355328:Nat)) ∧ (True ∧ (True ∧ (True ∧ (((True ∧ ((@Eq _ g g) ∧ (True ∧ (True ∧ True)))) ∧ (((@Eq Int (IntKind.wrap IntKind.i64 (@HAdd.hAdd Int Int Int _ v0.1 (1:Int))) (IntKind.wrap IntKind.i64 (@HAdd.hAdd Int Int Int _ v0.1 (1:Int)))) ∧ ((@Eq Int (@Nat.cast Int _ (List.length (pointsM T.2.1))) (@Nat.cast Int _ (List.length (pointsM T.2.1)))) ∧ (True ∧ (True ∧ (True ∧ (True ∧ (True ∧ ((@Eq _ g g) ∧ True)))))))) ∧ ((True ∧ (True ∧ ((@Eq Bool T.2.2.2.1 T.2.2.2.1) ∧ ((@Eq Int T.2.2.2.2 T.2.2.2.2) ∧ True)))) ∧ ((((@Eq Bool T.1.1 T.1.1) ∧ ((@Eq Int T.1.2.1 T.1.2.1) ∧ ((@Eq Int T.1.2.2.1 T.1.2.2.1) ∧ True))) ∧ (@Eq _ T.1.2.2.2 T.1.2.2.2)) ∧ (((@Eq _ (mDel v0.2.2.1.1 (@elemAt PtT (pointsM T.2.1) (Int.toNat v0.1)).1) (((mDel v0.2.2.1.1 (@elemAt PtT (pointsM T.2.1) (Int.toNat v0.1)).1), v0.2.2.1.2), Unit.unit).1.1) ∧ (@Eq Nat v0.2.2.1.2 (((mDel v0.2.2.1.1 (@elemAt PtT (pointsM T.2.1) (Int.toNat v0.1)).1), v0.2.2.1.2), Unit.unit).1.2)) ∧ ((@Eq _ (pointsM T.2.1) (pointsM T.2.1)) ∧ ((@Eq _ (HAppend.hAppend v0.2.1 ((@elemAt PtT (pointsM T.2.1) (Int.toNat v0.1)).1 :: ([] : List (Ty.T (Ty.int IntKind.i64))))) (HAppend.hAppend v0.2.1 ((@elemAt PtT (pointsM T.2.1) (Int.toNat v0.1)).1 :: ([] : List (Ty.T (Ty.int IntKind.i64)))))) ∧ True))))))) ∧ (((@LE.le Int Int.instLEInt (0:Int) (IntKind.wrap IntKind.i64 (@HAdd.hAdd Int Int Int _ v0.1 (1:Int)))) ∧ ((@LE.le Int Int.instLEInt (IntKind.wrap IntKind.i64 (@HAdd.hAdd Int Int Int _ v0.1 (1:Int))) (@Nat.cast (Pl.T (Pl.slot (11:Nat) I64)) _ (List.length (pointsM T.2.1)))) ∧ ((@Eq _ (HAppend.hAppend v0.2.1 ((@elemAt PtT (pointsM T.2.1) (Int.toNat v0.1)).1 :: ([] : List (Ty.T (Ty.int IntKind.i64))))) (List.map (fun (v1 : (Ty.T PtT)) => v1.1) (List.filter (fun (v1 : (Ty.T PtT)) => (g (v1, Unit.unit))) (List.take (Int.toNat (IntKind.wrap IntKind.i64 (@HAdd.hAdd Int Int Int _ v0.1 (1:Int)))) (pointsM T.2.1))))) ∧ (@Eq _ (((mDel v0.2.2.1.1 (@elemAt PtT (pointsM T.2.1) (Int.toNat v0.1)).1), v0.2.2.1.2), Unit.unit).1 ((List.foldl (fun (v1 : (List (Prod Nat (Prod Int Contact)))) => (fun (v2 : (Ty.T PtT)) => (mDel v1 v2.1))) T.2.1 (List.filter (fun (v1 : (Ty.T PtT)) => (g (v1, Unit.unit))) (List.take (Int.toNat (IntKind.wrap IntKind.i64 (@HAdd.hAdd Int Int Int _ v0.1 (1:Int)))) (pointsM T.2.1)))), T.2.2.1))))) ∧ (@LT.lt Nat instLTNat (Int.toNat (@HSub.hSub Int Int Int _ (@Nat.cast Int _ (List.length (pointsM T.2.1))) (IntKind.wrap IntKind.i64 (@HAdd.hAdd Int Int Int _ v0.1 (1:Int))))) (Int.toNat (@HSub.hSub Int Int Int _ (@Nat.cast Int _ (List.length (pointsM T.2.1))) v0.1))))))))))))))) ∧ ((@Eq Bool (g ((@elemAt PtT (pointsM T.2.1) (Int.toNat v0.1)), Unit.unit)) false) → (True ∧ (True ∧ (((True ∧ ((@Eq _ g g) ∧ (True ∧ (True ∧ True)))) ∧ (((@Eq Int (IntKind.wrap IntKind.i64 (@HAdd.hAdd Int Int Int _ v0.1 (1:Int))) (IntKind.wrap IntKind.i64 (@HAdd.hAdd Int Int Int _ v0.1 (1:Int)))) ∧ ((@Eq Int (@Nat.cast Int _ (List.length (pointsM T.2.1))) (@Nat.cast Int _ (List.length (pointsM T.2.1)))) ∧ (True ∧ (True ∧ (True ∧ (True ∧ (True ∧ ((@Eq _ g g) ∧ True)))))))) ∧ ((True ∧ (True ∧ ((@Eq Bool T.2.2.2.1 T.2.2.2.1) ∧ ((@Eq Int T.2.2.2.2 T.2.2.2.2) ∧ True)))) ∧ ((((@Eq Bool T.1.1 T.1.1) ∧ ((@Eq Int T.1.2.1 T.1.2.1) ∧ ((@Eq Int T.1.2.2.1 T.1.2.2.1) ∧ True))) ∧ (@Eq _ T.1.2.2.2 T.1.2.2.2)) ∧ (((@Eq _ v0.2.2.1.1 (v0.2.2.1, Unit.unit).1.1) ∧ (@Eq Nat v0.2.2.1.2 (v0.2.2.1, Unit.unit).1.2)) ∧ ((@Eq _ (pointsM T.2.1) (pointsM T.2.1)) ∧ ((@Eq _ v0.2.1 v0.2.1) ∧ True))))))) ∧ (((@LE.le Int Int.instLEInt (0:Int) (IntKind.wrap IntKind.i64 (@HAdd.hAdd Int Int Int _ v0.1 (1:Int)))) ∧ ((@LE.le Int Int.instLEInt (IntKind.wrap IntKind.i64 (@HAdd.hAdd Int Int Int _ v0.1 (1:Int))) (@Nat.cast (Pl.T (Pl.slot (11:Nat) I64)) _ (List.length (pointsM T.2.1)))) ∧ ((@Eq _ v0.2.1 (List.map (fun (v1 : (Ty.T PtT)) => v1.1) (List.filter (fun (v1 : (Ty.T PtT)) => (g (v1, Unit.unit))) (List.take (Int.toNat (IntKind.wrap IntKind.i64 (@HAdd.hAdd Int Int Int _ v0.1 (1:Int)))) (pointsM T.2.1))))) ∧ (@Eq _ (v0.2.2.1, Unit.unit).1 ((List.foldl (fun (v1 : (List (Prod Nat (Prod Int Contact)))) => (fun (v2 : (Ty.T PtT)) => (mDel v1 v2.1))) T.2.1 (List.filter (fun (v1 : (Ty.T PtT)) => (g (v1, Unit.unit))) (List.take (Int.toNat (IntKind.wrap IntKind.i64 (@HAdd.hAdd Int Int Int _ v0.1 (1:Int)))) (pointsM T.2.1)))), T.2.2.1))))) ∧ (@LT.lt Nat instLTNat (Int.toNat (@HSub.hSub Int Int Int _ (@Nat.cast Int _ (List.length (pointsM T.2.1))) (IntKind.wrap IntKind.i64 (@HAdd.hAdd Int Int Int _ v0.1 (1:Int))))) (Int.toNat (@HSub.hSub Int Int Int _ (@Nat.cast Int _ (List.length (pointsM T.2.1))) v0.1))))))))))))))))) ∧ ((@Eq Bool (@decide (@LT.lt Int Int.instLTInt v0.1 (@Nat.cast Int _ (List.length (pointsM T.2.1)))) (Int.decLt v0.1 (@Nat.cast Int _ (List.length (pointsM T.2.1))))) false) → (True ∧ (True ∧ ((True ∧ True) ∧ ((True ∧ (True ∧ (True ∧ (True ∧ True)))) ∧ ((True ∧ True) ∧ ((@Eq _ v0.2.1 (removeT T (fun (v1 : Pt) => (g (v1, Unit.unit)))).1) ∧ ((True ∧ (True ∧ ((@Eq Bool T.2.2.2.1 (removeT T (fun (v1 : Pt) => (g (v1, Unit.unit)))).2.2.2.2.1) ∧ ((@Eq Int T.2.2.2.2 (removeT T (fun (v1 : Pt) => (g (v1, Unit.unit)))).2.2.2.2.2) ∧ True)))) ∧ ((((@Eq Bool T.1.1 (removeT T (fun (v1 : Pt) => (g (v1, Unit.unit)))).2.1.1) ∧ ((@Eq Int T.1.2.1 (removeT T (fun (v1 : Pt) => (g (v1, Unit.unit)))).2.1.2.1) ∧ ((@Eq Int T.1.2.2.1 (removeT T (fun (v1 : Pt) => (g (v1, Unit.unit)))).2.1.2.2.1) ∧ True))) ∧ (@Eq _ T.1.2.2.2 (removeT T (fun (v1 : Pt) => (g (v1, Unit.unit)))).2.1.2.2.2)) ∧ (((@Eq _ v0.2.2.1.1 (removeT T (fun (v1 : Pt) => (g (v1, Unit.unit)))).2.2.1) ∧ (@Eq Nat v0.2.2.1.2 (removeT T (fun (v1 : Pt) => (g (v1, Unit.unit)))).2.2.2.1)) ∧ True)))))))))))))))))))))) (by kernel_rfl) ?_
  simp only [true_and, and_true, decide_eq_true_eq, decide_eq_false_iff_not, forall_const, implies_true, and_self]
  refine ⟨hT, ⟨by omega, by omega, rfl, rfl⟩, ?_⟩
  rintro ⟨i, out, ⟨M, c⟩, _⟩ ⟨h1, h2, h3, h4⟩
  simp only at h1 h2 h3 h4 ⊢
  have hol : out.length ≤ 10 := by
    rw [h3, List.length_map]
    exact Nat.le_trans (List.length_filter_le _ _) (by rw [List.length_take]; omega)
  obtain ⟨hM, hc⟩ : M = _ ∧ c = _ := Prod.mk.inj h4
  refine ⟨fun hi => ⟨⟨h1, by omega⟩, by omega, ?_⟩, fun hi => ?_⟩
  · have hx := elemAt_get (t := PtT) (pointsM T.2.1) i.toNat (by omega)
    have hts : (pointsM T.2.1).take (i.toNat + 1) = (pointsM T.2.1).take i.toNat ++ [elemAt (t := PtT) (pointsM T.2.1) i.toNat] := by
      rw [List.take_add_one, hx]; rfl
    rw [wrap_in (by omega), show (i + 1).toNat = i.toNat + 1 by omega, hts, List.filter_append, List.map_append, List.foldl_append, ← h3, ← hM, ← hc]
    refine ⟨fun hg => ⟨by simp only [List.length_singleton]; omega, ⟨by omega, by omega, ?_, ?_⟩, by omega⟩, fun hg => ⟨⟨by omega, by omega, ?_, ?_⟩, by omega⟩⟩
    · simp [List.filter, hg]
    · simp [List.filter, hg]
    · simp [List.filter, hg]
    · simp [List.filter, hg]
  · have e : (pointsM T.2.1).take i.toNat = pointsM T.2.1 := List.take_of_length_le (by omega)
    rw [e] at h3 hM
    simp only [removeT, ← h3, ← hM, hc, and_self]
def g_remove0 : GC where
  X := Ts [PtT] → Bool
  rd := fun _ _ => none
  args := fun x => [.nilp, .pfn [PtT] .bool x]
  hp := fun x => []
  pre := fun x => True
  F := fun x => ⟨[(0, .sl 9)], [(9, .row I64 [])], 1, [.nilp, .junk]⟩
def r_remove0 (Γc : Clos) (H : Heap) : List AV → Option (Ts [PtT] → Bool)
  | [.nilp, f] => castF [PtT] .bool (closAV H Γc f)
  | _ => none
theorem s_remove0 : KSound Tryz.prog 23 (fun Γc => gCon Γc ⟨g_remove0.X, r_remove0 Γc, g_remove0.args, g_remove0.hp, g_remove0.pre, g_remove0.F, g_remove0.ex⟩) := by
  refine gsoundR (K := K43) (Γc := C39) (Γr := R0) (fun x => [(3, annP [.slot 11 I64, .own 5 I64] (fun _ y => y.1 = 0 ∧ y.2.1 = []) (fun y => 0))]) hm HK43 HC39 HR0 Tryz.call23 Tryz.func23 (by kernel_rfl) (fun _ => by kernel_rfl) (fun _ => rfl) ?_
  rintro g hx
  refine Eq.mpr (β := (True ∧ (True ∧ (True ∧ ((True ∧ ((True ∧ True) ∧ True)) ∧ (True ∧ (True ∧ ((((True ∧ ((@Eq _ g g) ∧ True)) ∧ (((@Eq Int (Int.ofNat 0) (Int.ofNat 0)) ∧ ((@Eq Int (Int.ofNat 0) (Int.ofNat 0)) ∧ (True ∧ (True ∧ (True ∧ (True ∧ (True ∧ ((@Eq _ g g) ∧ True)))))))) ∧ ((@Eq _ ([] : List (Ty.T I64)) ([] : List (Ty.T I64))) ∧ True))) ∧ ((@Eq Int (Int.ofNat 0) (Int.ofNat 0)) ∧ (@Eq _ ([] : List (Ty.T I64)) ([] : List (Ty.T I64))))) ∧ (∀ (v0 : (Prod Int (Prod (List Int) Unit))), (((@Eq Int v0.1 (0:Int)) ∧ (@Eq _ v0.2.1 ([] : List (Ty.T I64)))) → (True ∧ (((@Eq Bool (@decide (@LT.lt Int Int.instLTInt v0.1 (0:Int)) (Int.decLt v0.1 (0:Int))) true) → (False ∧ False)) ∧ ((@Eq Bool (@decide (@LT.lt Int Int.instLTInt v0.1 (0:Int)) (Int.decLt v0.1 (0:Int))) false) → (True ∧ (True ∧ ((True ∧ True) ∧ ((True ∧ (True ∧ True)) ∧ ((True ∧ True) ∧ ((@Eq _ v0.2.1 ([] : List (Ty.T I64))) ∧ True))))))))))))))))))) (by kernel_rfl) ?_
  simp only [true_and, and_true, decide_eq_true_eq, decide_eq_false_iff_not, forall_const, implies_true, and_self]
  rintro ⟨i, out, _⟩ ⟨h1, h2⟩
  exact ⟨fun h => (by have h1 : i = 0 := h1; have h : i < 0 := h; omega), fun _ => h2⟩
abbrev K44 : KCons := (23, fun Γc => orCon (gCon Γc ⟨g_remove.X, r_remove Γc, g_remove.args, g_remove.hp, g_remove.pre, g_remove.F, g_remove.ex⟩) (gCon Γc ⟨g_remove0.X, r_remove0 Γc, g_remove0.args, g_remove0.hp, g_remove0.pre, g_remove0.F, g_remove0.ex⟩)) :: K43
theorem HK44 : KS Tryz.prog K44 := ks_add (ksound_or s_remove s_remove0) HK43
theorem s_can1 : PSound Tryz.prog 24 (pcon (closTs [PtT] [.p I64]) fun x => (True, .bool (decide (x.2.1 ≥ 1) && x.1.2.1 == x.2.1))) := by
  refine psoundF (K := K44) (Γc := C39) (Γr := R0) (fun _ => []) hm HK44 HC39 HR0 Tryz.call24 Tryz.func24 (by kernel_rfl) ?_
  rintro ⟨p, c, _⟩ _
  refine Eq.mpr (β := (True ∧ (True ∧ (True ∧ (True ∧ (True ∧ (((@Eq Bool (@decide (@GE.ge Int Int.instLEInt c (1:Int)) (Int.decLe (1:Int) c)) true) → True) ∧ (((@Eq Bool (@decide (@GE.ge Int Int.instLEInt c (1:Int)) (Int.decLe (1:Int) c)) true) → True) ∧ (((@Eq Bool (@decide (@GE.ge Int Int.instLEInt c (1:Int)) (Int.decLe (1:Int) c)) true) → True) ∧ (((@Eq Bool (@decide (@GE.ge Int Int.instLEInt c (1:Int)) (Int.decLe (1:Int) c)) true) → True) ∧ (True ∧ (True ∧ ((True ∧ True) ∧ (@Eq Bool (and (@decide (@GE.ge Int Int.instLEInt c (1:Int)) (Int.decLe (1:Int) c)) (BEq.beq p.2.1 c)) (and (@decide (@GE.ge Int Int.instLEInt c (1:Int)) (Int.decLe (1:Int) c)) (BEq.beq p.2.1 c)))))))))))))))) (by kernel_rfl) ?_
  simp
abbrev C45 : Clos := (24, ccon [PtT] .bool [.p I64] fun x c => decide (c.1 ≥ 1) && x.1.2.1 == c.1) :: C39
theorem HC45 : CSound Tryz.prog C45 := csound_add s_can1 rfl (fun x c => ⟨trivial, rfl⟩) HC39
theorem s_gon1 : PSound Tryz.prog 25 (pcon (closTs [PtT] [.p I64]) fun x => (True, .bool (decide (x.2.1 ≥ 1) && x.1.2.2.1 == x.2.1))) := by
  refine psoundF (K := K44) (Γc := C45) (Γr := R0) (fun _ => []) hm HK44 HC45 HR0 Tryz.call25 Tryz.func25 (by kernel_rfl) ?_
  rintro ⟨p, c, _⟩ _
  refine Eq.mpr (β := (True ∧ (True ∧ (True ∧ (True ∧ (True ∧ (((@Eq Bool (@decide (@GE.ge Int Int.instLEInt c (1:Int)) (Int.decLe (1:Int) c)) true) → True) ∧ (((@Eq Bool (@decide (@GE.ge Int Int.instLEInt c (1:Int)) (Int.decLe (1:Int) c)) true) → True) ∧ (((@Eq Bool (@decide (@GE.ge Int Int.instLEInt c (1:Int)) (Int.decLe (1:Int) c)) true) → True) ∧ (((@Eq Bool (@decide (@GE.ge Int Int.instLEInt c (1:Int)) (Int.decLe (1:Int) c)) true) → True) ∧ (True ∧ (True ∧ ((True ∧ True) ∧ (@Eq Bool (and (@decide (@GE.ge Int Int.instLEInt c (1:Int)) (Int.decLe (1:Int) c)) (BEq.beq p.2.2.1 c)) (and (@decide (@GE.ge Int Int.instLEInt c (1:Int)) (Int.decLe (1:Int) c)) (BEq.beq p.2.2.1 c)))))))))))))))) (by kernel_rfl) ?_
  simp
abbrev C46 : Clos := (25, ccon [PtT] .bool [.p I64] fun x c => decide (c.1 ≥ 1) && x.1.2.2.1 == c.1) :: C45
theorem HC46 : CSound Tryz.prog C46 := csound_add s_gon1 rfl (fun x c => ⟨trivial, rfl⟩) HC45
def cancelT (T : TouchD) (c : Int) : List Int × TouchD := removeT T fun p => decide (c ≥ 1) && p.2.1 == c
def goneT (T : TouchD) (c : Int) : List Int × TouchD := removeT T fun p => decide (c ≥ 1) && p.2.2.1 == c
def g_drop (f : TouchD → Int → List Int × TouchD) : GC where
  X := TouchD × Int
  rd := fun H ys => match ys with
    | [.ptr l 0, .int .i64 c] => (rdTouch H l).map fun T => (T, c)
    | _ => none
  args := fun x => [.ptr 0 0, .int .i64 x.2]
  hp := fun x => touchH x.1
  pre := fun x => TouchOk x.1
  F := fun x => ⟨[(0, .sl 9)], (9, .row I64 (f x.1 x.2).1) :: touchH (f x.1 x.2).2, 1, [.ptr 0 0, .junk, .ptr 1 0, .mp 2]⟩
  ex := fun _ => [.ptr 1 0, .mp 2]
def g_drop0 : GC where
  X := Int
  rd := fun H ys => match ys with
    | [.nilp, .int .i64 c] => some c
    | _ => none
  args := fun x => [.nilp, .int .i64 x]
  hp := fun x => []
  pre := fun x => True
  F := fun x => ⟨[(0, .sl 9)], [(9, .row I64 [])], 1, [.nilp, .junk]⟩
theorem s_cancel : KSound Tryz.prog 12 (fun Γc => gCon Γc (g_drop cancelT)) := by
  refine gsoundF (K := K44) (Γc := C46) (Γr := R0) (fun _ => []) hm HK44 HC46 HR0 Tryz.call12 Tryz.func12 (by kernel_rfl) (fun _ => by kernel_rfl) (fun _ => rfl) ?_
  rintro ⟨T, c⟩ hx
  have hT : TouchOk T := hx
  refine Eq.mpr (β := (True ∧ (True ∧ (True ∧ (True ∧ (((TouchOk T) ∧ ((True ∧ ((@Eq _ (fun (v0 : (Ts (PtT :: ([] : List Ty)))) => (and (@decide (@GE.ge Int Int.instLEInt c (1:Int)) (Int.decLe (1:Int) c)) (BEq.beq v0.1.2.1 c))) (fun (v0 : (Ts (PtT :: ([] : List Ty)))) => (and (@decide (@GE.ge Int Int.instLEInt c (1:Int)) (Int.decLe (1:Int) c)) (BEq.beq v0.1.2.1 c)))) ∧ True)) ∧ ((True ∧ (True ∧ ((@Eq Bool T.2.2.2.1 T.2.2.2.1) ∧ ((@Eq Int T.2.2.2.2 T.2.2.2.2) ∧ True)))) ∧ ((((@Eq Bool T.1.1 T.1.1) ∧ ((@Eq Int T.1.2.1 T.1.2.1) ∧ ((@Eq Int T.1.2.2.1 T.1.2.2.1) ∧ True))) ∧ (@Eq _ T.1.2.2.2 T.1.2.2.2)) ∧ (((@Eq _ T.2.1 T.2.1) ∧ (@Eq Nat T.2.2.1 T.2.2.1)) ∧ True))))) ∧ (True ∧ ((True ∧ True) ∧ ((True ∧ (True ∧ (True ∧ (True ∧ True)))) ∧ ((True ∧ True) ∧ ((@Eq _ (removeT T (fun (v0 : Pt) => (and (@decide (@GE.ge Int Int.instLEInt c (1:Int)) (Int.decLe (1:Int) c)) (BEq.beq v0.2.1 c)))).1 (cancelT T c).1) ∧ ((True ∧ (True ∧ ((@Eq Bool (removeT T (fun (v0 : Pt) => (and (@decide (@GE.ge Int Int.instLEInt c (1:Int)) (Int.decLe (1:Int) c)) (BEq.beq v0.2.1 c)))).2.2.2.2.1 (cancelT T c).2.2.2.2.1) ∧ ((@Eq Int (removeT T (fun (v0 : Pt) => (and (@decide (@GE.ge Int Int.instLEInt c (1:Int)) (Int.decLe (1:Int) c)) (BEq.beq v0.2.1 c)))).2.2.2.2.2 (cancelT T c).2.2.2.2.2) ∧ True)))) ∧ ((((@Eq Bool (removeT T (fun (v0 : Pt) => (and (@decide (@GE.ge Int Int.instLEInt c (1:Int)) (Int.decLe (1:Int) c)) (BEq.beq v0.2.1 c)))).2.1.1 (cancelT T c).2.1.1) ∧ ((@Eq Int (removeT T (fun (v0 : Pt) => (and (@decide (@GE.ge Int Int.instLEInt c (1:Int)) (Int.decLe (1:Int) c)) (BEq.beq v0.2.1 c)))).2.1.2.1 (cancelT T c).2.1.2.1) ∧ ((@Eq Int (removeT T (fun (v0 : Pt) => (and (@decide (@GE.ge Int Int.instLEInt c (1:Int)) (Int.decLe (1:Int) c)) (BEq.beq v0.2.1 c)))).2.1.2.2.1 (cancelT T c).2.1.2.2.1) ∧ True))) ∧ (@Eq _ (removeT T (fun (v0 : Pt) => (and (@decide (@GE.ge Int Int.instLEInt c (1:Int)) (Int.decLe (1:Int) c)) (BEq.beq v0.2.1 c)))).2.1.2.2.2 (cancelT T c).2.1.2.2.2)) ∧ (((@Eq _ (removeT T (fun (v0 : Pt) => (and (@decide (@GE.ge Int Int.instLEInt c (1:Int)) (Int.decLe (1:Int) c)) (BEq.beq v0.2.1 c)))).2.2.1 (cancelT T c).2.2.1) ∧ (@Eq Nat (removeT T (fun (v0 : Pt) => (and (@decide (@GE.ge Int Int.instLEInt c (1:Int)) (Int.decLe (1:Int) c)) (BEq.beq v0.2.1 c)))).2.2.2.1 (cancelT T c).2.2.2.1)) ∧ True)))))))))))))) (by kernel_rfl) ?_
  simp only [true_and, and_true, decide_eq_true_eq, decide_eq_false_iff_not, forall_const, implies_true, and_self]
  refine ⟨hT, ?_⟩
  simp only [cancelT, goneT, and_self]
theorem s_cancel0 : KSound Tryz.prog 12 (fun Γc => gCon Γc g_drop0) := by
  refine gsoundF (K := K44) (Γc := C46) (Γr := R0) (fun _ => []) hm HK44 HC46 HR0 Tryz.call12 Tryz.func12 (by kernel_rfl) (fun _ => by kernel_rfl) (fun _ => rfl) ?_
  rintro c hx
  refine Eq.mpr (β := (True ∧ (True ∧ (True ∧ (True ∧ ((True ∧ ((True ∧ ((@Eq _ (fun (v0 : (Ts (PtT :: ([] : List Ty)))) => (and (@decide (@GE.ge Int Int.instLEInt c (1:Int)) (Int.decLe (1:Int) c)) (BEq.beq v0.1.2.1 c))) (fun (v0 : (Ts (PtT :: ([] : List Ty)))) => (and (@decide (@GE.ge Int Int.instLEInt c (1:Int)) (Int.decLe (1:Int) c)) (BEq.beq v0.1.2.1 c)))) ∧ True)) ∧ True)) ∧ (True ∧ ((True ∧ True) ∧ ((True ∧ (True ∧ True)) ∧ ((True ∧ True) ∧ ((@Eq _ ([] : List (Ty.T I64)) ([] : List (Ty.T I64))) ∧ True))))))))))) (by kernel_rfl) ?_
  simp only [true_and, and_true, decide_eq_true_eq, decide_eq_false_iff_not, forall_const, implies_true, and_self]
abbrev K47 : KCons := (12, fun Γc => orCon (gCon Γc (g_drop cancelT)) (gCon Γc g_drop0)) :: K44
theorem HK47 : KS Tryz.prog K47 := ks_add (ksound_or s_cancel s_cancel0) HK44
theorem s_gone : KSound Tryz.prog 14 (fun Γc => gCon Γc (g_drop goneT)) := by
  refine gsoundF (K := K47) (Γc := C46) (Γr := R0) (fun _ => []) hm HK47 HC46 HR0 Tryz.call14 Tryz.func14 (by kernel_rfl) (fun _ => by kernel_rfl) (fun _ => rfl) ?_
  rintro ⟨T, c⟩ hx
  have hT : TouchOk T := hx
  refine Eq.mpr (β := (True ∧ (True ∧ (True ∧ (True ∧ (((TouchOk T) ∧ ((True ∧ ((@Eq _ (fun (v0 : (Ts (PtT :: ([] : List Ty)))) => (and (@decide (@GE.ge Int Int.instLEInt c (1:Int)) (Int.decLe (1:Int) c)) (BEq.beq v0.1.2.2.1 c))) (fun (v0 : (Ts (PtT :: ([] : List Ty)))) => (and (@decide (@GE.ge Int Int.instLEInt c (1:Int)) (Int.decLe (1:Int) c)) (BEq.beq v0.1.2.2.1 c)))) ∧ True)) ∧ ((True ∧ (True ∧ ((@Eq Bool T.2.2.2.1 T.2.2.2.1) ∧ ((@Eq Int T.2.2.2.2 T.2.2.2.2) ∧ True)))) ∧ ((((@Eq Bool T.1.1 T.1.1) ∧ ((@Eq Int T.1.2.1 T.1.2.1) ∧ ((@Eq Int T.1.2.2.1 T.1.2.2.1) ∧ True))) ∧ (@Eq _ T.1.2.2.2 T.1.2.2.2)) ∧ (((@Eq _ T.2.1 T.2.1) ∧ (@Eq Nat T.2.2.1 T.2.2.1)) ∧ True))))) ∧ (True ∧ ((True ∧ True) ∧ ((True ∧ (True ∧ (True ∧ (True ∧ True)))) ∧ ((True ∧ True) ∧ ((@Eq _ (removeT T (fun (v0 : Pt) => (and (@decide (@GE.ge Int Int.instLEInt c (1:Int)) (Int.decLe (1:Int) c)) (BEq.beq v0.2.2.1 c)))).1 (goneT T c).1) ∧ ((True ∧ (True ∧ ((@Eq Bool (removeT T (fun (v0 : Pt) => (and (@decide (@GE.ge Int Int.instLEInt c (1:Int)) (Int.decLe (1:Int) c)) (BEq.beq v0.2.2.1 c)))).2.2.2.2.1 (goneT T c).2.2.2.2.1) ∧ ((@Eq Int (removeT T (fun (v0 : Pt) => (and (@decide (@GE.ge Int Int.instLEInt c (1:Int)) (Int.decLe (1:Int) c)) (BEq.beq v0.2.2.1 c)))).2.2.2.2.2 (goneT T c).2.2.2.2.2) ∧ True)))) ∧ ((((@Eq Bool (removeT T (fun (v0 : Pt) => (and (@decide (@GE.ge Int Int.instLEInt c (1:Int)) (Int.decLe (1:Int) c)) (BEq.beq v0.2.2.1 c)))).2.1.1 (goneT T c).2.1.1) ∧ ((@Eq Int (removeT T (fun (v0 : Pt) => (and (@decide (@GE.ge Int Int.instLEInt c (1:Int)) (Int.decLe (1:Int) c)) (BEq.beq v0.2.2.1 c)))).2.1.2.1 (goneT T c).2.1.2.1) ∧ ((@Eq Int (removeT T (fun (v0 : Pt) => (and (@decide (@GE.ge Int Int.instLEInt c (1:Int)) (Int.decLe (1:Int) c)) (BEq.beq v0.2.2.1 c)))).2.1.2.2.1 (goneT T c).2.1.2.2.1) ∧ True))) ∧ (@Eq _ (removeT T (fun (v0 : Pt) => (and (@decide (@GE.ge Int Int.instLEInt c (1:Int)) (Int.decLe (1:Int) c)) (BEq.beq v0.2.2.1 c)))).2.1.2.2.2 (goneT T c).2.1.2.2.2)) ∧ (((@Eq _ (removeT T (fun (v0 : Pt) => (and (@decide (@GE.ge Int Int.instLEInt c (1:Int)) (Int.decLe (1:Int) c)) (BEq.beq v0.2.2.1 c)))).2.2.1 (goneT T c).2.2.1) ∧ (@Eq Nat (removeT T (fun (v0 : Pt) => (and (@decide (@GE.ge Int Int.instLEInt c (1:Int)) (Int.decLe (1:Int) c)) (BEq.beq v0.2.2.1 c)))).2.2.2.1 (goneT T c).2.2.2.1)) ∧ True)))))))))))))) (by kernel_rfl) ?_
  simp only [true_and, and_true, decide_eq_true_eq, decide_eq_false_iff_not, forall_const, implies_true, and_self]
  refine ⟨hT, ?_⟩
  simp only [cancelT, goneT, and_self]
theorem s_gone0 : KSound Tryz.prog 14 (fun Γc => gCon Γc g_drop0) := by
  refine gsoundF (K := K47) (Γc := C46) (Γr := R0) (fun _ => []) hm HK47 HC46 HR0 Tryz.call14 Tryz.func14 (by kernel_rfl) (fun _ => by kernel_rfl) (fun _ => rfl) ?_
  rintro c hx
  refine Eq.mpr (β := (True ∧ (True ∧ (True ∧ (True ∧ ((True ∧ ((True ∧ ((@Eq _ (fun (v0 : (Ts (PtT :: ([] : List Ty)))) => (and (@decide (@GE.ge Int Int.instLEInt c (1:Int)) (Int.decLe (1:Int) c)) (BEq.beq v0.1.2.2.1 c))) (fun (v0 : (Ts (PtT :: ([] : List Ty)))) => (and (@decide (@GE.ge Int Int.instLEInt c (1:Int)) (Int.decLe (1:Int) c)) (BEq.beq v0.1.2.2.1 c)))) ∧ True)) ∧ True)) ∧ (True ∧ ((True ∧ True) ∧ ((True ∧ (True ∧ True)) ∧ ((True ∧ True) ∧ ((@Eq _ ([] : List (Ty.T I64)) ([] : List (Ty.T I64))) ∧ True))))))))))) (by kernel_rfl) ?_
  simp only [true_and, and_true, decide_eq_true_eq, decide_eq_false_iff_not, forall_const, implies_true, and_self]
abbrev K48 : KCons := (14, fun Γc => orCon (gCon Γc (g_drop goneT)) (gCon Γc g_drop0)) :: K47
theorem HK48 : KS Tryz.prog K48 := ks_add (ksound_or s_gone s_gone0) HK47
end Go.Proofs.YtgjfofeaakdihaaGreat
