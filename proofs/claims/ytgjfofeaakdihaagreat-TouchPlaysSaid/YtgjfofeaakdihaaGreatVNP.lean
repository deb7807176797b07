/-
  A part of the proof: what some of the program's functions compute.
-/
import Derived.Test.YtgjfofeaakdihaaGreatVU
namespace Go.Proofs.YtgjfofeaakdihaaGreat
open Go Go.E Go.Proofs
set_option linter.unusedVariables false
set_option linter.unusedSimpArgs false
/-! the reference's device, plainly -/
abbrev T5T : Ty := .prod .bool (.prod .bool (.prod I64 (.list ConT)))
abbrev Touch5 := Bool × Bool × Int × List Contact
def isId (n : Int) (c : Contact) : Bool := c.1.1 == n
def find5 (l : List Contact) (n : Int) : Int := indexF (isId n) l
def origin5 (h : Contact) (l : List Item) : Contact := if h.1.2.2.1 = 0 then h else (h.1, originP l h.1.2.2.1 h.2)
def ins5 (h : Contact) : List Contact → List Contact
  | [] => [h]
  | x :: r => if h.1.1 < x.1.1 then h :: x :: r else x :: ins5 h r
def check5 (t : Touch5) (e : Inp) : Int :=
  if t.1 = false then 1
  else if (e.1 != 5 && e.1 != 6 && e.1 != 7) = true then 2
  else if (decide (e.2.2.2.2.1 < 0) || e.1 != 7 && far e.2.2.1 e.2.2.2.1) = true then 6
  else if e.1 = 5 then (if 0 ≤ find5 t.2.2.2 e.2.2.2.2.1 then 7 else if 10 ≤ t.2.2.2.length then 5 else 0)
  else if find5 t.2.2.2 e.2.2.2.2.1 < 0 then 8 else 0
def time5 (t : Touch5) (e : Inp) : Int := if t.2.1 = true then max t.2.2.1 e.2.1 else e.2.1
/-- the point found -/
def was5 (t : Touch5) (l : List Item) (e : Inp) : Contact := origin5 (elemAt (t := ConT) t.2.2.2 (find5 t.2.2.2 e.2.2.2.2.1).toNat) l
/-- a point that goes down -/
def down5 (l : List Item) (e : Inp) : Contact :=
  if 0 ≤ at5 l e.2.2.1 e.2.2.2.1 then origin5 ((e.2.2.2.2.1, (elemAt (t := ItemT) l (at5 l e.2.2.1 e.2.2.2.1).toNat).2.1, (elemAt (t := ItemT) l (at5 l e.2.2.1 e.2.2.2.1).toNat).1, e.2.2.1, e.2.2.2.1), 0, 0) l
  else ((e.2.2.2.2.1, 0, 0, e.2.2.1, e.2.2.2.1), 0, 0)
/-- the point behind an event -/
def held5 (t : Touch5) (l : List Item) (e : Inp) : Contact :=
  if e.1 = 5 then down5 l e else if e.1 = 6 then (((was5 t l e).1.1, (was5 t l e).1.2.1, (was5 t l e).1.2.2.1, e.2.2.1, e.2.2.2.1), (was5 t l e).2) else was5 t l e
def all5 (t : Touch5) (l : List Item) (e : Inp) : List Contact :=
  if e.1 = 5 then ins5 (held5 t l e) t.2.2.2 else if e.1 = 6 then t.2.2.2.set (find5 t.2.2.2 e.2.2.2.2.1).toNat (held5 t l e) else t.2.2.2.eraseIdx (find5 t.2.2.2 e.2.2.2.2.1).toNat
def kind5 (l : List Item) (e : Inp) : Int := if e.1 = 5 then (if 0 ≤ at5 l e.2.2.1 e.2.2.2.1 then 11 else 0) else if e.1 = 6 then 12 else 13
/-- the delivery, without its serial -/
def del5 (t : Touch5) (l : List Item) (e : Inp) : Del :=
  ((held5 t l e).1.2.1, (held5 t l e).1.2.2.1, kind5 l e, time5 t e,
   (if kind5 l e = 11 ∨ kind5 l e = 12 then IntKind.i64.wrap (e.2.2.1 - (held5 t l e).2.1) else 0), (if kind5 l e = 11 ∨ kind5 l e = 12 then IntKind.i64.wrap (e.2.2.2.1 - (held5 t l e).2.2) else 0), e.2.2.2.2.1, 0, 0)
def withSer (d : Del) (n : Int) : Del := (d.1, d.2.1, d.2.2.1, d.2.2.2.1, d.2.2.2.2.1, d.2.2.2.2.2.1, d.2.2.2.2.2.2.1, d.2.2.2.2.2.2.2.1, n)
def feed5 (t : Touch5) (g : Log5) (l : List Item) (e : Inp) : Touch5 × Log5 × List Del × Int :=
  if check5 t e ≠ 0 then (t, g, [], check5 t e)
  else if (del5 t l e).2.1 = 0 then ((true, true, time5 t e, all5 t l e), g, [], 0)
  else if (del5 t l e).2.2.1 = 12 then ((true, true, time5 t e, all5 t l e), g, [del5 t l e], 0)
  else ((true, true, time5 t e, all5 t l e), (issue5 g (del5 t l e).1 (del5 t l e).2.1 (del5 t l e).2.2.1).1, [withSer (del5 t l e) (issue5 g (del5 t l e).1 (del5 t l e).2.1 (del5 t l e).2.2.1).2], 0)
def gDrop5 (c s : Int) (p : Pt) : Bool := decide (c > 0) && p.2.1 == c || decide (s > 0) && p.2.2.1 == s
def drop5 (t : Touch5) (c s : Int) : Touch5 × List Int :=
  ((t.1, t.2.1, t.2.2.1, t.2.2.2.filter fun h => !gDrop5 c s h.1), (t.2.2.2.filter fun h => gDrop5 c s h.1).map fun h => h.1.1)
/-! the two devices -/
def nrm (c : Contact) : Contact := if c.1.2.2.1 = 0 then (c.1, 0, 0) else c
theorem nrm_pt (c : Contact) : (nrm c).1 = c.1 := by
  unfold nrm
  split <;> rfl
structure Plays (T : TouchD) (t : Touch5) : Prop where
  made : t.1 = true
  timed : t.2.1 = T.2.2.2.1
  time : t.2.2.1 = T.2.2.2.2
  perm : t.2.2.2.Perm (T.2.1.map fun e => nrm e.2.2)
  sorted : t.2.2.2.Pairwise (fun a b => a.1.1 < b.1.1)
def new5 : Touch5 := (true, false, 0, [])
theorem plays_new (L : LogD) : Plays (tNew L) new5 := ⟨rfl, rfl, rfl, List.Perm.refl _, List.Pairwise.nil⟩
theorem sorted_nodup {l : List Contact} (h : l.Pairwise (fun a b => a.1.1 < b.1.1)) : (l.map (fun c : Contact => c.1.1)).Nodup := by
  rw [List.nodup_iff_pairwise_ne, List.pairwise_map]
  exact h.imp fun h => by omega
theorem plays_len {T : TouchD} {t : Touch5} (h : Plays T t) : t.2.2.2.length = T.2.1.length := by
  rw [h.perm.length_eq, List.length_map]
theorem plays_points {T : TouchD} {t : Touch5} (h : Plays T t) : t.2.2.2.map (·.1) = pointsM T.2.1 := by
  have p1 : (t.2.2.2.map (·.1)).Perm (T.2.1.map fun e => e.2.2.1) := by
    refine (h.perm.map _).trans (List.Perm.of_eq ?_)
    rw [List.map_map]
    exact List.map_congr_left fun e _ => nrm_pt e.2.2
  have p2 : (pointsM T.2.1).Perm (T.2.1.map fun e => e.2.2.1) := isort_perm cmpPt _
  have hn := sorted_nodup h.sorted
  refine List.Perm.eq_of_pairwise (le := fun a b => a.1 ≤ b.1) (fun a b ha hb h1 h2 => ?_) ?_ (isort_sorted byKey_pt _) (p1.trans p2.symm)
  · have hb := p1.symm.subset (p2.subset hb)
    refine map_key_inj (k := fun p : Pt => p.1) ?_ a b ha hb (by omega)
    rw [List.map_map]
    exact hn
  · rw [List.pairwise_map]
    exact h.sorted.imp fun h => by omega
theorem indexF_no {α : Type} {p : α → Bool} {l : List α} (h : ∀ x ∈ l, p x = false) : indexF p l = -1 := by
  unfold indexF
  rw [List.findIdx?_eq_none_iff.2 h]
theorem find5_none {T : TouchD} {t : Touch5} (hT : TouchOk T) (h : Plays T t) {n : Int} (hn : mGet T.2.1 n = none) : find5 t.2.2.2 n = -1 := by
  refine indexF_no fun c hc => ?_
  obtain ⟨e, he, rfl⟩ := List.mem_map.1 (h.perm.subset hc)
  unfold isId
  rw [nrm_pt, hT.id e he]
  simpa using mGet_none hn e he
theorem find5_some {T : TouchD} {t : Touch5} (hT : TouchOk T) (h : Plays T t) {n : Int} {c : Contact} (hn : mGet T.2.1 n = some c) :
    ∃ A B, t.2.2.2 = A ++ nrm c :: B ∧ find5 t.2.2.2 n = A.length := by
  obtain ⟨e, he, h1, h2⟩ := mGet_some hn
  have hm : nrm c ∈ t.2.2.2 := h.perm.symm.subset (List.mem_map.2 ⟨e, he, by rw [h2]⟩)
  have hid : (nrm c).1.1 = n := by rw [nrm_pt, ← h2, hT.id e he, h1]
  obtain ⟨A, B, hAB⟩ := List.append_of_mem hm
  refine ⟨A, B, hAB, ?_⟩
  have hs := sorted_nodup h.sorted
  rw [hAB] at hs ⊢
  unfold find5
  refine indexF_some (x := nrm c) (by simp) (by unfold isId; simp [hid]) fun j hj r hr => ?_
  unfold isId
  rw [List.getElem?_append_left hj] at hr
  have hr := List.mem_of_getElem? hr
  rw [List.map_append, List.nodup_append] at hs
  have := hs.2.2 r.1.1 (List.mem_map.2 ⟨r, hr, rfl⟩) (nrm c).1.1 (by simp)
  rw [hid] at this
  simpa using this
theorem mGet_split {V : Type} : ∀ {M : List (Nat × Int × V)} {n : Int} {c : V}, mGet M n = some c → ∃ A B b, M = A ++ (b, n, c) :: B ∧ mDel M n = A ++ B ∧ ∀ k x, ∃ b', mPut M k n x = A ++ (b', n, x) :: B
  | [], n, c, h => by simp [mGet] at h
  | y :: r, n, c, h => by
    simp only [mGet] at h
    split at h
    · rename_i hy
      injection h with h
      have hy2 : y.2.1 = n := by simpa using hy
      refine ⟨[], r, y.1, by rw [← hy2, ← h]; rfl, by simp [mDel, hy], fun k x => ⟨y.1, ?_⟩⟩
      simp only [mPut]
      rw [if_pos hy, ← hy2]
      rfl
    · rename_i hy
      obtain ⟨A, B, b, h1, h2, h3⟩ := mGet_split h
      refine ⟨y :: A, B, b, by rw [h1]; rfl, ?_, fun k x => ?_⟩
      · simp only [mDel]
        rw [if_neg hy, h2]
        rfl
      · obtain ⟨b', hb⟩ := h3 k x
        refine ⟨b', ?_⟩
        simp only [mPut]
        rw [if_neg hy, hb]
        rfl
theorem ins5_perm (h : Contact) : ∀ l, (ins5 h l).Perm (h :: l)
  | [] => List.Perm.refl _
  | x :: r => by
    simp only [ins5]
    split
    · exact List.Perm.refl _
    · exact ((ins5_perm h r).cons x).trans (List.Perm.swap ..)
theorem ins5_sorted (h : Contact) : ∀ l : List Contact, l.Pairwise (fun a b => a.1.1 < b.1.1) → (∀ x ∈ l, x.1.1 ≠ h.1.1) → (ins5 h l).Pairwise (fun a b => a.1.1 < b.1.1)
  | [], _, _ => List.pairwise_singleton ..
  | x :: r, hp, hn => by
    obtain ⟨h1, h2⟩ := List.pairwise_cons.1 hp
    simp only [ins5]
    split
    · rename_i hx
      refine List.pairwise_cons.2 ⟨fun y hy => ?_, hp⟩
      rcases List.mem_cons.1 hy with rfl | hy
      · exact hx
      · exact Int.lt_trans hx (h1 y hy)
    · rename_i hx
      refine List.pairwise_cons.2 ⟨fun y hy => ?_, ins5_sorted h r h2 fun y hy => hn y (List.mem_cons_of_mem _ hy)⟩
      rcases List.mem_cons.1 ((ins5_perm h r).subset hy) with rfl | hy
      · have := hn x (List.mem_cons_self ..)
        omega
      · exact h1 y hy
theorem check5_is {T : TouchD} {t : Touch5} (hT : TouchOk T) (h : Plays T t) (e : Inp) : check5 t e = checkT T.2.1 e := by
  have hl := plays_len h
  unfold check5 checkT
  rw [if_neg (by rw [h.made]; decide)]
  split
  · rfl
  split
  · rfl
  cases hg : mGet T.2.1 e.2.2.2.2.1 with
  | none =>
    rw [find5_none hT h hg, hl]
    by_cases h5 : e.1 = 5
    · by_cases h10 : 10 ≤ List.length T.2.1
      · have h11 : (10 : Int) ≤ (List.length T.2.1 : Nat) := by omega
        simp [h5, h10, h11]
      · have h11 : ¬ (10 : Int) ≤ (List.length T.2.1 : Nat) := by omega
        simp [h5, h10, h11]
    · simp [h5]
  | some c =>
    obtain ⟨A, B, h1, h2⟩ := find5_some hT h hg
    rw [h2]
    by_cases h5 : e.1 = 5
    · simp [h5]
    · simp [h5]
theorem time5_is {T : TouchD} {t : Touch5} (h : Plays T t) (e : Inp) : time5 t e = feedTime T e := by
  unfold time5 feedTime
  rw [h.timed, h.time]
  cases T.2.2.2.1 with
  | false => simp
  | true =>
    simp only [if_true, Bool.true_eq_false, false_or]
    split <;> omega
theorem origin_nrm (c : Contact) (l : List Item) : origin5 (nrm c) l = nrm (c.1, originP l c.1.2.2.1 c.2) := by
  unfold origin5 nrm
  by_cases h : c.1.2.2.1 = 0
  · simp [h]
  · simp [h]
/-- the points behind the event -/
theorem held5_is {T : TouchD} {t : Touch5} (hT : TouchOk T) (h : Plays T t) {l : List Item} (hl : ∀ i ∈ l, i.2.2.2.2.2.2.length ≤ 8) {e : Inp} (hc : checkT T.2.1 e = 0) :
    (e.1 = 7 ∧ (held5 t l e).1 = (feedC T l e).1) ∨ (e.1 ≠ 7 ∧ held5 t l e = nrm (feedC T l e)) := by
  rcases check_zero hc with ⟨h5, _⟩ | ⟨h5, h67, hs⟩
  · right
    refine ⟨by omega, ?_⟩
    have hC : feedC T l e = (((feedP T l e).1.1, (feedP T l e).1.2.1, (feedP T l e).1.2.2.1, e.2.2.1, e.2.2.2.1), originP l (feedP T l e).1.2.2.1 (feedP T l e).2) := by
      unfold feedC
      rw [if_neg (by omega)]
    by_cases ha : 0 ≤ atI l e.2.2.1 e.2.2.2.1
    · have hp : feedP T l e = ((e.2.2.2.2.1, (elemAt (t := ItemT) l (atI l e.2.2.1 e.2.2.2.1).toNat).2.1, (elemAt (t := ItemT) l (atI l e.2.2.1 e.2.2.2.1).toNat).1, 0, 0), 0, 0) := by
        unfold feedP
        rw [if_pos h5, if_pos ha]
      have ho := origin_nrm ((e.2.2.2.2.1, (elemAt (t := ItemT) l (atI l e.2.2.1 e.2.2.2.1).toNat).2.1, (elemAt (t := ItemT) l (atI l e.2.2.1 e.2.2.2.1).toNat).1, e.2.2.1, e.2.2.2.1), 0, 0) l
      have hn : ∀ p : Pt, nrm (p, 0, 0) = (p, 0, 0) := fun p => by unfold nrm; split <;> rfl
      rw [hn] at ho
      unfold held5 down5
      rw [if_pos h5, at5_is hl, if_pos ha, ho, hC, hp]
    · have hp : feedP T l e = ((e.2.2.2.2.1, 0, 0, 0, 0), 0, 0) := by
        unfold feedP
        rw [if_pos h5, if_neg ha]
      unfold held5 down5
      rw [if_pos h5, at5_is hl, if_neg ha, hC, hp]
      rfl
  · obtain ⟨c, hg⟩ := Option.isSome_iff_exists.1 hs
    obtain ⟨A, B, h1, h2⟩ := find5_some hT h hg
    have hw : was5 t l e = origin5 (nrm c) l := by
      unfold was5
      rw [h2, h1]
      congr 1
      have := elemAt_get (t := ConT) (A ++ nrm c :: B) A.length (by simp)
      rw [List.getElem?_append_right (Nat.le_refl _), Nat.sub_self] at this
      exact (Option.some.inj this).symm
    have hp : feedP T l e = c := by
      unfold feedP
      rw [if_neg h5, hg, Option.getD_some]
    rcases h67 with h6 | h7
    · right
      refine ⟨by omega, ?_⟩
      unfold held5 feedC
      rw [if_neg h5, if_pos h6, if_neg (by omega), hp, hw, origin_nrm]
      unfold nrm
      split <;> rename_i k
      · simp only [k, if_true]
      · simp [k]
    · left
      refine ⟨h7, ?_⟩
      unfold held5 feedC
      rw [if_neg h5, if_neg (by omega), if_pos h7, hp, hw, origin_nrm, nrm_pt]
theorem all5_is {T : TouchD} {t : Touch5} (hT : TouchOk T) (h : Plays T t) {l : List Item} (hl : ∀ i ∈ l, i.2.2.2.2.2.2.length ≤ 8) {e : Inp} (hc : checkT T.2.1 e = 0) :
    (all5 t l e).Perm ((feedM T l e).1.map fun e => nrm e.2.2) ∧ (all5 t l e).Pairwise (fun a b => a.1.1 < b.1.1) := by
  have hid := feedC_id hT l e hc
  have hh := held5_is hT h hl hc
  rcases check_zero hc with ⟨h5, hg, _⟩ | ⟨h5, h67, hs⟩
  · rcases hh with ⟨h7, _⟩ | ⟨_, hh⟩
    · omega
    unfold all5 feedM
    rw [if_pos h5, if_neg (by omega), mPut_new _ _ hg, hh]
    constructor
    · simp only [List.map_append, List.map_cons, List.map_nil]
      exact (ins5_perm _ _).trans ((h.perm.cons _).trans (List.perm_append_comm (l₁ := [_])))
    · refine ins5_sorted _ _ h.sorted fun x hx => ?_
      obtain ⟨f, hf, rfl⟩ := List.mem_map.1 (h.perm.subset hx)
      rw [nrm_pt, nrm_pt, hid, hT.id f hf]
      exact mGet_none hg f hf
  · obtain ⟨c, hg⟩ := Option.isSome_iff_exists.1 hs
    obtain ⟨A, B, h1, h2⟩ := find5_some hT h hg
    obtain ⟨P, Q, b, g1, g2, g3⟩ := mGet_split hg
    have hp := h.perm
    rw [h1, g1, List.map_append, List.map_cons] at hp
    have hp : (A ++ B).Perm (P.map (fun e => nrm e.2.2) ++ Q.map (fun e => nrm e.2.2)) := ((List.perm_middle.symm.trans hp).trans List.perm_middle).cons_inv
    have hsrt := h.sorted
    rw [h1] at hsrt
    rcases h67 with h6 | h7
    · rcases hh with ⟨h7, _⟩ | ⟨_, hh⟩
      · omega
      unfold all5 feedM
      obtain ⟨b', g3⟩ := g3 T.2.2.1 (feedC T l e)
      rw [if_neg h5, if_pos h6, if_neg (by omega), hh, h2, h1, g3, Int.toNat_natCast]
      have hset : (A ++ nrm c :: B).set A.length (nrm (feedC T l e)) = A ++ nrm (feedC T l e) :: B := by simp
      rw [hset]
      constructor
      · rw [List.map_append, List.map_cons]
        exact (List.perm_middle.trans (hp.cons _)).trans List.perm_middle.symm
      · have hcid : c.1.1 = e.2.2.2.2.1 := by
          obtain ⟨f, hf, k1, k2⟩ := mGet_some hg
          rw [← k1, ← hT.id f hf, k2]
        have e1 : (A ++ nrm (feedC T l e) :: B).map (fun c : Contact => c.1.1) = (A ++ nrm c :: B).map (fun c : Contact => c.1.1) := by
          simp only [List.map_append, List.map_cons, nrm_pt, hid, hcid]
        have e2 : ((A ++ nrm c :: B).map (fun c : Contact => c.1.1)).Pairwise (· < ·) := List.pairwise_map.2 hsrt
        rw [← e1] at e2
        exact List.pairwise_map.1 e2
    · unfold all5 feedM
      rw [if_neg h5, if_neg (by omega), if_pos h7, h2, h1, g2, Int.toNat_natCast]
      have her : (A ++ nrm c :: B).eraseIdx A.length = A ++ B := by
        rw [List.eraseIdx_append_of_length_le (Nat.le_refl _), Nat.sub_self]
        rfl
      rw [her]
      constructor
      · rw [List.map_append]
        exact hp
      · exact hsrt.sublist ((List.Sublist.refl A).append (List.sublist_cons_self _ B))
/-! the two logs -/
structure LogRel (L : LogD) (g : Log5) : Prop where
  valid : L.1 = true
  last : L.2.1 = g.1
  pos : 0 ≤ g.1
  len : (g.2.length : Int) ≤ g.1
theorem issue_rel {L : LogD} {g : Log5} (h : LogRel L g) (hb : g.1 ≤ 100000) (c s k : Int) : (issueL L c s k).1 = (issue5 g c s k).2 ∧ LogRel (issueL L c s k).2 (issue5 g c s k).1 ∧ (issue5 g c s k).1.1 ≤ g.1 + 1 := by
  have hp := h.pos
  unfold issueL issue5
  by_cases hc : c < 1 ∨ s < 0 ∨ k < 0 ∨ 62 < k
  · rw [if_pos (.inr hc), if_pos hc]
    exact ⟨rfl, h, by simp only; omega⟩
  · rw [if_neg (by rw [h.valid]; simpa using hc), if_neg hc]
    have hw : IntKind.u32.wrap (L.2.1 + 1) = g.1 + 1 := by
      rw [h.last]
      simp only [IntKind.wrap, IntKind.bits, IntKind.signed]
      simp
      omega
    have h0 : ¬ (g.1 + 1 = 0) := by omega
    simp only [hw, if_neg h0]
    refine ⟨trivial, ⟨h.valid, rfl, by simp only; omega, ?_⟩, by omega⟩
    have := List.length_filter_le (young (g.1 + 1)) g.2
    have := h.len
    simp only [List.length_append, List.length_singleton]
    omega
theorem kind5_is {T : TouchD} {l : List Item} (hl : ∀ i ∈ l, i.2.2.2.2.2.2.length ≤ 8) {e : Inp} (hc : checkT T.2.1 e = 0) (hs : (feedC T l e).1.2.2.1 ≠ 0) :
    kind5 l e = if e.1 = 5 then 11 else if e.1 = 6 then 12 else 13 := by
  unfold kind5
  by_cases h5 : e.1 = 5
  · rw [if_pos h5, if_pos h5, if_pos]
    rw [at5_is hl]
    refine Decidable.byContradiction fun hn => hs ?_
    unfold feedC feedP
    rw [if_neg (by omega), if_pos h5, if_neg hn]
  · rw [if_neg h5, if_neg h5]
theorem nrm_org {c : Contact} (h : c.1.2.2.1 ≠ 0) : nrm c = c := by
  unfold nrm
  rw [if_neg h]
theorem feed5_is {T : TouchD} {t : Touch5} {g : Log5} (hT : TouchOk T) (h : Plays T t) (hg : LogRel T.1 g) (hb : g.1 ≤ 100000) {l : List Item} (hl : ∀ i ∈ l, i.2.2.2.2.2.2.length ≤ 8) (e : Inp) :
    (feed5 t g l e).2.2.1 = (feedT T l e).1.1 ∧ (feed5 t g l e).2.2.2 = (feedT T l e).1.2 ∧ Plays (feedT T l e).2 (feed5 t g l e).1 ∧ LogRel (feedT T l e).2.1 (feed5 t g l e).2.1 ∧ (feed5 t g l e).2.1.1 ≤ g.1 + 1 := by
  have hck := check5_is hT h e
  unfold feed5 feedT
  by_cases hc : checkT T.2.1 e ≠ 0
  · rw [hck, if_pos hc, if_pos hc]
    exact ⟨rfl, rfl, h, hg, by simp only; omega⟩
  rw [hck, if_neg hc, if_neg hc]
  have hc' : checkT T.2.1 e = 0 := by simpa using hc
  have hh := held5_is hT h hl hc'
  have hp1 : (held5 t l e).1 = (feedC T l e).1 := by
    rcases hh with ⟨_, hh⟩ | ⟨_, hh⟩
    · exact hh
    · rw [hh, nrm_pt]
  obtain ⟨a1, a2⟩ := all5_is hT h hl hc'
  have ht := time5_is h e
  have hP : Plays (feedS T l e) (true, true, time5 t e, all5 t l e) := ⟨rfl, rfl, ht, a1, a2⟩
  have hsu : (del5 t l e).2.1 = (feedC T l e).1.2.2.1 := by
    unfold del5
    rw [hp1]
  rw [hsu]
  by_cases hs : (feedC T l e).1.2.2.1 = 0
  · rw [if_pos hs, if_pos hs]
    exact ⟨rfl, rfl, hP, hg, by simp only; omega⟩
  rw [if_neg hs, if_neg hs]
  have hk := kind5_is hl hc' hs
  have hid := feedC_id hT l e hc'
  have hdk : (del5 t l e).2.2.1 = kind5 l e := rfl
  have hdc : (del5 t l e).1 = (feedC T l e).1.2.1 := by
    unfold del5
    rw [hp1]
  have hplay : ∀ L, Plays (L, (feedS T l e).2) (true, true, time5 t e, all5 t l e) := fun L => ⟨hP.made, hP.timed, hP.time, hP.perm, hP.sorted⟩
  have hxy : e.1 ≠ 7 → (feedC T l e).1.2.2.2.1 = e.2.2.1 ∧ (feedC T l e).1.2.2.2.2 = e.2.2.2.1 ∧ held5 t l e = feedC T l e := by
    intro h7
    rcases hh with ⟨h77, _⟩ | ⟨_, hh⟩
    · exact absurd h77 h7
    · refine ⟨?_, ?_, by rw [hh, nrm_org hs]⟩ <;> (unfold feedC; rw [if_neg h7])
  have ht2 : (feedS T l e).2.2.2.2 = time5 t e := ht.symm
  have hS : (feedS T l e).1 = T.1 := rfl
  by_cases h5 : e.1 = 5
  · obtain ⟨x1, x2, x3⟩ := hxy (by omega)
    rw [if_pos h5] at hk
    obtain ⟨i1, i2, i3⟩ := issue_rel hg hb (feedC T l e).1.2.1 (feedC T l e).1.2.2.1 11
    rw [if_neg (by rw [hdk, hk]; decide), hdk, hk, hdc, ← hsu]
    rw [← hsu] at i1 i2 i3
    unfold delT
    rw [if_pos h5, hS, ← hsu, i1, ht2, x1, x2, hid]
    refine ⟨?_, rfl, hplay _, i2, i3⟩
    unfold withSer
    rw [hdk, hdc, hk]
    unfold del5
    simp only [hk, true_or, if_true, x3, hid]
  · by_cases h6 : e.1 = 6
    · obtain ⟨x1, x2, x3⟩ := hxy (by omega)
      rw [if_neg h5, if_pos h6] at hk
      rw [if_pos (by rw [hdk, hk])]
      unfold delT
      rw [if_neg h5, if_pos h6, ht2, x1, x2, hid]
      refine ⟨?_, rfl, hplay _, hg, by simp only; omega⟩
      unfold del5
      simp only [hk, or_true, if_true, x3]
    · rw [if_neg h5, if_neg h6] at hk
      obtain ⟨i1, i2, i3⟩ := issue_rel hg hb (feedC T l e).1.2.1 (feedC T l e).1.2.2.1 13
      rw [if_neg (by rw [hdk, hk]; decide), hdk, hk, hdc, ← hsu]
      rw [← hsu] at i1 i2 i3
      unfold delT
      rw [if_neg h5, if_neg h6, hS, ← hsu, i1, ht2, hid]
      refine ⟨?_, rfl, hplay _, i2, i3⟩
      unfold withSer
      rw [hdk, hdc, hk]
      unfold del5
      have z1 : ¬ ((13 : Int) = 11 ∨ (13 : Int) = 12) := by decide
      simp only [hk, if_neg z1]
theorem remove_map {T : TouchD} (hT : TouchOk T) (g : Pt → Bool) : (removeT T g).2.2.1 = T.2.1.filter (fun e => !g e.2.2.1) := by
  unfold removeT
  simp only
  rw [dels_filter _ hT.key]
  refine List.filter_congr fun e he => ?_
  congr 1
  rw [Bool.eq_iff_iff, List.any_eq_true]
  constructor
  · rintro ⟨p, hp, hpe⟩
    obtain ⟨h1, h2⟩ := List.mem_filter.1 hp
    obtain ⟨f, hf, rfl⟩ := List.mem_map.1 ((isort_perm _ _).subset h1)
    have : f = e := map_key_inj hT.key f e hf he (by rw [← hT.id f hf]; simpa using hpe)
    rw [← this]
    exact h2
  · intro h
    refine ⟨e.2.2.1, List.mem_filter.2 ⟨(isort_perm _ _).symm.subset (List.mem_map.2 ⟨e, he, rfl⟩), h⟩, ?_⟩
    simpa using hT.id e he
theorem drop5_is {T : TouchD} {t : Touch5} (hT : TouchOk T) (h : Plays T t) (c s : Int) :
    (drop5 t c s).2 = (removeT T (gDrop5 c s)).1 ∧ Plays (removeT T (gDrop5 c s)).2 (drop5 t c s).1 := by
  constructor
  · unfold drop5 removeT
    simp only
    rw [← plays_points h, List.filter_map, List.map_map]
    rfl
  · refine ⟨h.made, h.timed, h.time, ?_, h.sorted.filter _⟩
    rw [remove_map hT]
    unfold drop5
    refine (h.perm.filter _).trans (List.Perm.of_eq ?_)
    rw [List.filter_map]
    congr 1
    refine List.filter_congr fun e _ => ?_
    simp only [Function.comp_apply, nrm_pt]
theorem cancel5_is (T : TouchD) (c : Int) : cancelT T c = removeT T (gDrop5 c 0) := by
  unfold cancelT
  congr 1
  funext p
  unfold gDrop5
  first | (simp; done) | (simp; rfl)
theorem gone5_is (T : TouchD) (c : Int) : goneT T c = removeT T (gDrop5 0 c) := by
  unfold goneT
  first | rfl | (congr 1; funext p; unfold gDrop5; simp)
end Go.Proofs.YtgjfofeaakdihaaGreat
