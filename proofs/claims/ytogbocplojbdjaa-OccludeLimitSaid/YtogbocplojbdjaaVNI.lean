/-
  A part of the proof: what some of the program's functions compute.
-/
import Derived.Test.YtogbocplojbdjaaVNH
namespace Go.Proofs.Ytogbocplojbdjaa
open Go Go.E Go.Proofs
set_option linter.unusedVariables false
set_option linter.unusedSimpArgs false
def inB (z : Int) : Prop := -16384 ≤ z ∧ z ≤ 16384
def bord (l : List Int) : Prop := ∀ z ∈ l, inB z
theorem bord_append {l r : List Int} (h : bord l) (g : bord r) : bord (l ++ r) := fun z hz => (List.mem_append.1 hz).elim (h z) (g z)
theorem bord_two {a b : Int} (h : inB a) (g : inB b) : bord [a, b] := fun z hz => by
  rcases List.mem_cons.1 hz with rfl | hz
  · exact h
  · rw [List.mem_singleton.1 hz]; exact g
theorem bord_addL {l : List Int} {x0 x1 : Int} (hl : bord l) (h0 : inB x0) (h1 : inB x1) : bord (addL l x0 x1) := by
  have : ∀ (ps : List (Int × Int)) (s : List Int × List Int × Int × Int), (∀ p ∈ ps, inB p.1 ∧ inB p.2) → (bord s.1 ∧ bord s.2.1 ∧ inB s.2.2.1 ∧ inB s.2.2.2) →
      bord (ps.foldl addStep s).1 ∧ bord (ps.foldl addStep s).2.1 ∧ inB (ps.foldl addStep s).2.2.1 ∧ inB (ps.foldl addStep s).2.2.2 := by
    intro ps
    induction ps with
    | nil => intro s _ h; exact h
    | cons p r ih =>
      intro s hp h
      obtain ⟨a1, a2, a3, a4⟩ := h
      obtain ⟨p1, p2⟩ := hp p (List.mem_cons_self ..)
      rw [List.foldl_cons]
      refine ih _ (fun q hq => hp q (List.mem_cons_of_mem _ hq)) ?_
      unfold addStep
      split
      · exact ⟨bord_append a1 (bord_two p1 p2), a2, a3, a4⟩
      · split
        · exact ⟨a1, bord_append a2 (bord_two p1 p2), a3, a4⟩
        · refine ⟨a1, a2, ?_, ?_⟩
          · unfold inB at *
            simp only
            omega
          · unfold inB at *
            simp only
            omega
  have h := this ((pairsOf l).take l.length) ([], [], x0, x1) (fun p hp => ⟨hl _ (pairsOf_mem (List.mem_of_mem_take hp)).1, hl _ (pairsOf_mem (List.mem_of_mem_take hp)).2⟩) ⟨(fun z hz => by cases hz), (fun z hz => by cases hz), h0, h1⟩
  exact bord_append (bord_append h.1 (bord_two h.2.2.1 h.2.2.2)) h.2.1
theorem usable_bord {r : Rect} (h : usableR r = true) : inB r.1 ∧ inB r.2.1 ∧ inB r.2.2.1 ∧ inB r.2.2.2 := by
  simp only [usableR, Bool.and_eq_true, decide_eq_true_eq] at h
  unfold inB
  omega
theorem bord_rowL (l : List Rect) (y : Int) : bord (rowL l y) := by
  have : ∀ (l : List Rect) (o : List Int), bord o → bord (l.foldl (rowStep y) o) := by
    intro l
    induction l with
    | nil => intro o h; exact h
    | cons r rs ih =>
      intro o h
      rw [List.foldl_cons]
      refine ih _ ?_
      unfold rowStep
      split
      · rename_i hh
        unfold hitR at hh
        simp only [Bool.and_eq_true] at hh
        have hu := usable_bord hh.1.1
        exact bord_addL h hu.1 hu.2.2.1
      · exact h
  exact this l [] fun z hz => by cases hz
theorem bord_at {l : List Int} (h : bord l) (i : Nat) : inB (elemAt (t := I64) l i) := by
  by_cases hi : i < l.length
  · rw [el_at hi]
    exact h _ (List.getElem_mem hi)
  · have : elemAt (t := I64) l i = 0 := by
      unfold elemAt
      rw [List.getD_eq_getElem?_getD, List.getElem?_eq_none (by omega)]
      rfl
    rw [this]
    unfold inB
    omega
theorem bord_insAll {xs l : List Int} (h : bord xs) (g : bord l) : bord (insAll xs l) := fun z hz => (insAll_mem.1 hz).elim (h z) (g z)
theorem bord_mergedL {a b : List Int} (ha : bord a) (hb : bord b) (m : Int) : bord (mergedL a b m) := by
  have hx : bord (xsOf a b) := bord_insAll (bord_insAll (fun z hz => by cases hz) ha) hb
  have : ∀ k, bord (mergeK a b m k) := by
    intro k
    induction k with
    | zero => intro z hz; simp [mergeK] at hz
    | succ k ih =>
      rw [mergeK_step]
      unfold mergeStep
      split
      · exact bord_addL ih (bord_at hx k) (bord_at hx (k + 1))
      · exact ih
  exact this _
theorem bord_runsAt (a b : List Rect) (m : Int) (ys : List Int) (i : Nat) : bord (runsAt a b m ys i) := bord_mergedL (bord_rowL _ _) (bord_rowL _ _) m
theorem bord_rowsL : ∀ (l : List Rect) {ys : List Int}, bord ys → bord (rowsL l ys)
  | [], ys, h => h
  | r :: rs, ys, h => by
    show bord (rowsL rs (rowsStep ys r))
    refine bord_rowsL rs ?_
    unfold rowsStep
    split
    · rename_i hu
      have hb := usable_bord hu
      intro z hz
      rcases insL_mem.1 hz with rfl | hz
      · exact hb.2.2.2
      · rcases insL_mem.1 hz with rfl | hz
        · exact hb.2.1
        · exact h z hz
    · exact h
theorem bord_ysOf (a b : List Rect) : bord (ysOf a b) := bord_rowsL b (bord_rowsL a fun z hz => by cases hz)
theorem contains5_append (l r : List Rect) (x y : Int) : contains5 (l ++ r) x y = (contains5 l x y || contains5 r x y) := by
  unfold contains5
  rw [List.any_append]
theorem contains5_rectsOf {runs : List Int} {y0 y1 : Int} (hr : bord runs) (h0 : inB y0) (h1 : inB y1) (x y : Int) : contains5 (rectsOf runs y0 y1) x y = (inL runs x && hitP y (y0, y1)) := by
  unfold contains5 rectsOf
  rw [inL_def, List.any_map, Bool.eq_iff_iff, Bool.and_eq_true, List.any_eq_true, List.any_eq_true]
  unfold inB at h0 h1
  constructor
  · rintro ⟨p, hp, h⟩
    simp only [Function.comp_apply, usableR, Bool.and_eq_true, decide_eq_true_eq] at h
    refine ⟨⟨p, hp, ?_⟩, ?_⟩
    · simp only [hitP, Bool.and_eq_true, decide_eq_true_eq]
      omega
    · simp only [hitP, Bool.and_eq_true, decide_eq_true_eq]
      omega
  · rintro ⟨⟨p, hp, h⟩, g⟩
    refine ⟨p, hp, ?_⟩
    obtain ⟨m1, m2⟩ := pairsOf_mem hp
    have b1 := hr _ m1
    have b2 := hr _ m2
    unfold inB at b1 b2
    simp only [hitP, Bool.and_eq_true, decide_eq_true_eq] at h g
    simp only [Function.comp_apply, usableR, Bool.and_eq_true, decide_eq_true_eq]
    omega
theorem setTo_tail (pre : List Rect) (runs : List Int) (y0 y1 y : Int) : setTo (pre ++ rectsOf runs y0 y1) pre.length (pre ++ rectsOf runs y0 y1).length y = pre ++ rectsOf runs y0 y := by
  unfold setTo
  rw [List.mapIdx_append]
  congr 1
  · refine List.ext_getElem? fun j => ?_
    rw [List.getElem?_mapIdx]
    cases h : pre[j]? with
    | none => rfl
    | some r =>
      have : j < pre.length := (List.getElem?_eq_some_iff.1 h).1
      simp only [Option.map_some]
      rw [if_neg (by omega)]
  · refine List.ext_getElem? fun j => ?_
    rw [List.getElem?_mapIdx]
    unfold rectsOf
    rw [List.getElem?_map, List.getElem?_map]
    cases h : (pairsOf runs)[j]? with
    | none => rfl
    | some p =>
      have : j < (pairsOf runs).length := (List.getElem?_eq_some_iff.1 h).1
      simp only [Option.map_some]
      rw [if_pos ⟨by omega, by simp; omega⟩]
structure CombInv (a b : List Rect) (m : Int) (ys : List Int) (k : Nat) (s : List Rect × List Int × Int) : Prop where
  form : ∃ pre y0, s.1 = pre ++ rectsOf s.2.1 y0 (elemAt (t := I64) ys k) ∧ s.2.2 = pre.length ∧ inB y0 ∧ y0 ≤ elemAt (t := I64) ys k
  last : bord s.2.1
  pts : ∀ x y, contains5 s.1 x y = (List.range k).any fun i => hitP y (elemAt (t := I64) ys i, elemAt (t := I64) ys (i + 1)) && inL (runsAt a b m ys i) x
theorem combS_inv (a b : List Rect) (m : Int) {ys : List Int} (hb : bord ys) (hs : ys.Pairwise (· < ·)) : ∀ k, k + 1 ≤ ys.length → CombInv a b m ys k (combS a b m ys k)
  | 0, _ => ⟨⟨[], elemAt (t := I64) ys 0, rfl, rfl, bord_at hb 0, by omega⟩, fun z hz => by simp [combS] at hz, fun x y => by simp [combS, contains5]⟩
  | k + 1, hk => by
    obtain ⟨⟨pre, y0, f1, f2, f3, f4⟩, hl, hp⟩ := combS_inv a b m hb hs k (by omega)
    have hlt : @LT.lt Int _ (elemAt (t := I64) ys k) (elemAt (t := I64) ys (k + 1)) := by
      rw [el_at (by omega), el_at (by omega)]
      exact List.pairwise_iff_getElem.1 hs k (k + 1) (by omega) (by omega) (by omega)
    have b0 := bord_at hb k
    have b1 := bord_at hb (k + 1)
    have hany : ∀ x y, ((List.range (k + 1)).any fun i => hitP y (elemAt (t := I64) ys i, elemAt (t := I64) ys (i + 1)) && inL (runsAt a b m ys i) x) =
        (contains5 (combS a b m ys k).1 x y || (hitP y (elemAt (t := I64) ys k, elemAt (t := I64) ys (k + 1)) && inL (runsAt a b m ys k) x)) := by
      intro x y
      rw [List.range_succ, List.any_append, hp]
      simp
    rw [combS_step]
    unfold combStep
    split
    · rename_i hc
      refine ⟨⟨pre, y0, ?_, f2, f3, by omega⟩, hl, fun x y => ?_⟩
      · simp only
        rw [f2, f1, Int.toNat_natCast, setTo_tail]
      · rw [hany]
        simp only
        rw [f2, f1, Int.toNat_natCast, setTo_tail, contains5_append, contains5_append, contains5_rectsOf hl f3 b1, contains5_rectsOf hl f3 b0, hc.2]
        have : hitP y (y0, elemAt (t := I64) ys (k + 1)) = (hitP y (y0, elemAt (t := I64) ys k) || hitP y (elemAt (t := I64) ys k, elemAt (t := I64) ys (k + 1))) := by
          rw [Bool.eq_iff_iff]
          simp only [hitP, Bool.or_eq_true, Bool.and_eq_true, decide_eq_true_eq]
          omega
        rw [this]
        cases contains5 pre x y <;> cases inL (combS a b m ys k).2.1 x <;> cases hitP y (y0, elemAt (t := I64) ys k) <;> cases hitP y (elemAt (t := I64) ys k, elemAt (t := I64) ys (k + 1)) <;> rfl
    · refine ⟨⟨(combS a b m ys k).1, elemAt (t := I64) ys k, rfl, rfl, b0, by omega⟩, bord_runsAt a b m ys k, fun x y => ?_⟩
      rw [hany]
      simp only
      rw [contains5_append, contains5_rectsOf (bord_runsAt a b m ys k) b0 b1, Bool.and_comm]
end Go.Proofs.Ytogbocplojbdjaa
