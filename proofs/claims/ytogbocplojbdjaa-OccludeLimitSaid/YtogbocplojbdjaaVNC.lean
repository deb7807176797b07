/-
  A part of the proof: what some of the program's functions compute.
-/
import Derived.Test.YtogbocplojbdjaaVNB
namespace Go.Proofs.Ytogbocplojbdjaa
open Go Go.E Go.Proofs
set_option linter.unusedVariables false
set_option linter.unusedSimpArgs false
def rowsStep (ys : List Int) (r : Rect) : List Int := if usableR r = true then insL r.2.2.2 (insL r.2.1 ys) else ys
def rowsL (l : List Rect) (ys : List Int) : List Int := l.foldl rowsStep ys
theorem rowsL_step {l : List Rect} {ys : List Int} {i : Nat} (h : i < l.length) : rowsL (l.take (i + 1)) ys = rowsStep (rowsL (l.take i) ys) (elemAt (t := RectT) l i) := by
  unfold rowsL
  rw [List.take_add_one, elemAt_get (t := RectT) l i h, List.foldl_append]
  rfl
theorem rowsL_len : ∀ (l : List Rect) (ys : List Int), (rowsL l ys).length ≤ ys.length + 2 * l.length
  | [], ys => by simp [rowsL]
  | r :: rs, ys => by
    have h1 := rowsL_len rs (rowsStep ys r)
    have h2 : (rowsStep ys r).length ≤ ys.length + 2 := by
      unfold rowsStep
      split
      · have a := insL_len r.2.2.2 (insL r.2.1 ys)
        have b := insL_len r.2.1 ys
        omega
      · omega
    unfold rowsL at *
    rw [List.foldl_cons]
    simp only [List.length_cons]
    omega
def setTo (out : List Rect) (f k : Nat) (y : Int) : List Rect := out.mapIdx fun j r => if f ≤ j ∧ j < k then (r.1, r.2.1, r.2.2.1, y) else r
def rectsOf (runs : List Int) (y0 y1 : Int) : List Rect := (pairsOf runs).map fun p => (p.1, y0, p.2, y1)
def runsAt (a b : List Rect) (m : Int) (ys : List Int) (i : Nat) : List Int := mergedL (rowL a (elemAt (t := I64) ys i)) (rowL b (elemAt (t := I64) ys i)) m
def combStep (a b : List Rect) (m : Int) (ys : List Int) (s : List Rect × List Int × Int) (i : Nat) : List Rect × List Int × Int :=
  if 0 < (runsAt a b m ys i).length ∧ runsAt a b m ys i = s.2.1 then (setTo s.1 s.2.2.toNat s.1.length (elemAt (t := I64) ys (i + 1)), s.2)
  else (s.1 ++ rectsOf (runsAt a b m ys i) (elemAt (t := I64) ys i) (elemAt (t := I64) ys (i + 1)), runsAt a b m ys i, s.1.length)
def combS (a b : List Rect) (m : Int) (ys : List Int) (k : Nat) : List Rect × List Int × Int := (List.range k).foldl (combStep a b m ys) ([], [], 0)
def ysOf (a b : List Rect) : List Int := rowsL b (rowsL a [])
def combinedL (a b : List Rect) (m : Int) : List Rect := (combS a b m (ysOf a b) ((ysOf a b).length - 1)).1
theorem setTo_self (out : List Rect) (f : Nat) (y : Int) : setTo out f f y = out := by
  unfold setTo
  refine List.ext_getElem? fun j => ?_
  rw [List.getElem?_mapIdx]
  cases h : out[j]? with
  | none => rfl
  | some r => simp only [Option.map_some]; rw [if_neg (by omega)]
theorem setTo_len (out : List Rect) (f k : Nat) (y : Int) : (setTo out f k y).length = out.length := by simp [setTo]
theorem setTo_step {out : List Rect} {f k : Nat} {y : Int} (h0 : f ≤ k) (h : k < out.length) :
    (setTo out f k y).set k ((elemAt (t := RectT) (setTo out f k y) k).1, (elemAt (t := RectT) (setTo out f k y) k).2.1, (elemAt (t := RectT) (setTo out f k y) k).2.2.1, y) = setTo out f (k + 1) y := by
  have he : elemAt (t := RectT) (setTo out f k y) k = elemAt (t := RectT) out k := by
    have h1 := elemAt_get (t := RectT) (setTo out f k y) k (by rw [setTo_len]; exact h)
    have h2 := elemAt_get (t := RectT) out k h
    unfold setTo at h1
    rw [List.getElem?_mapIdx, h2] at h1
    simp only [Option.map_some] at h1
    rw [if_neg (by omega)] at h1
    exact (Option.some.inj h1).symm
  rw [he]
  refine List.ext_getElem? fun j => ?_
  by_cases hj : k = j
  · subst hj
    rw [List.getElem?_set_self (by rw [setTo_len]; exact h)]
    unfold setTo
    rw [List.getElem?_mapIdx, elemAt_get (t := RectT) out k h]
    simp only [Option.map_some]
    rw [if_pos ⟨h0, by omega⟩]
  · rw [List.getElem?_set_ne hj]
    unfold setTo
    rw [List.getElem?_mapIdx, List.getElem?_mapIdx]
    cases h2 : out[j]? with
    | none => rfl
    | some r =>
      simp only [Option.map_some]
      by_cases hc : f ≤ j ∧ j < k
      · rw [if_pos hc, if_pos ⟨hc.1, by omega⟩]
      · rw [if_neg hc, if_neg (by omega)]
theorem pairsOf_take : ∀ (k : Nat) (l : List Int), pairsOf (l.take (2 * k)) = (pairsOf l).take k
  | 0, l => by simp [pairsOf]
  | k + 1, [] => by simp [pairsOf]
  | k + 1, [a] => by simp [pairsOf, show 2 * (k + 1) = 2 * k + 1 + 1 by omega]
  | k + 1, a :: b :: r => by
    rw [show 2 * (k + 1) = 2 * k + 1 + 1 by omega]
    simp only [List.take_succ_cons, pairsOf]
    rw [pairsOf_take k r]
theorem rectsOf_step {runs : List Int} {k : Nat} {y0 y1 : Int} (h2 : k % 2 = 0) (h : k + 1 < runs.length) :
    rectsOf (runs.take (k + 2)) y0 y1 = rectsOf (runs.take k) y0 y1 ++ [(elemAt (t := I64) runs k, y0, elemAt (t := I64) runs (k + 1), y1)] := by
  have hk : k = 2 * (k / 2) := by omega
  have hg := pairsOf_get (l := runs) (k := k / 2) (by omega)
  rw [← hk] at hg
  have e1 : pairsOf (runs.take k) = (pairsOf runs).take (k / 2) := by conv => lhs; rw [hk]; rw [pairsOf_take]
  have e2 : pairsOf (runs.take (k + 2)) = (pairsOf runs).take (k / 2 + 1) := by
    rw [show k + 2 = 2 * (k / 2 + 1) by omega, pairsOf_take]
  unfold rectsOf
  rw [e1, e2, List.take_add_one, hg, List.map_append]
  rfl
theorem rectsOf_len (runs : List Int) (y0 y1 : Int) : (rectsOf runs y0 y1).length = runs.length / 2 := by simp [rectsOf, pairsOf_len]
theorem runsAt_len (a b : List Rect) (m : Int) (ys : List Int) (i : Nat) : (runsAt a b m ys i).length ≤ 4 * (a.length + b.length) ∧ (runsAt a b m ys i).length % 2 = 0 := by
  have h1 := rowL_len a (elemAt (t := I64) ys i)
  have h2 := rowL_len b (elemAt (t := I64) ys i)
  have h3 := mergeK_len (rowL a (elemAt (t := I64) ys i)) (rowL b (elemAt (t := I64) ys i)) m ((xsOf (rowL a (elemAt (t := I64) ys i)) (rowL b (elemAt (t := I64) ys i))).length - 1)
  have h4 := insAll_len (rowL b (elemAt (t := I64) ys i)) (insAll [] (rowL a (elemAt (t := I64) ys i)))
  have h5 := insAll_len (rowL a (elemAt (t := I64) ys i)) []
  simp only [List.length_nil] at h5
  unfold runsAt mergedL
  unfold xsOf at *
  omega
theorem combS_step (a b : List Rect) (m : Int) (ys : List Int) (k : Nat) : combS a b m ys (k + 1) = combStep a b m ys (combS a b m ys k) k := by
  unfold combS
  rw [List.range_succ, List.foldl_append]
  rfl
theorem combS_len (a b : List Rect) (m : Int) (ys : List Int) : ∀ k, (combS a b m ys k).1.length ≤ k * (2 * (a.length + b.length)) ∧ 0 ≤ (combS a b m ys k).2.2 ∧ (combS a b m ys k).2.2 ≤ (combS a b m ys k).1.length
  | 0 => by simp [combS]
  | k + 1 => by
    have h := combS_len a b m ys k
    have hr := runsAt_len a b m ys k
    rw [combS_step, Nat.add_mul, Nat.one_mul]
    unfold combStep
    split
    · simp only [setTo_len]
      omega
    · simp only [List.length_append, rectsOf_len]
      omega
@[reducible] def dropP (s : Nat) : Pl := .obj Unit (fun _ => some ()) fun S _ => { S with tm := del S.tm s }
end Go.Proofs.Ytogbocplojbdjaa
