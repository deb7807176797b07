/-
  A part of the proof: what some of the program's functions compute.
-/
import Derived.Test.YtogbocplojbdjaaVOC
namespace Go.Proofs.Ytogbocplojbdjaa
open Go Go.E Go.Proofs
set_option linter.unusedVariables false
set_option linter.unusedSimpArgs false
theorem ref_part (r : Rect) (c : List Rect) (i : Item) : combinedL (limL (combinedL [boundsI i] [r] 2)) c 3 = partL r c i := by
  have e : combinedL [boundsI i] [r] 2 = regR (interQ (boundsI i) r) := combined_is (regR_region _) fun x y => by rw [mode2, regR_cov, inR_inter, contains5_one, contains5_one]
  have hl := regR_len (interQ (boundsI i) r)
  rw [e, (lim_few (by omega)).1]
  exact comb_congr 3 (fun x y => by rw [regR_cov, contains5_one, inR_inter, inR_inter, inR_canon]) (fun _ _ => rfl)
theorem ref_inq (r : Rect) (i : Item) : combinedL (opqL i) [r] 2 = inqL r i := comb_congr 2 (fun _ _ => rfl) (fun x y => by rw [contains5_one, contains5_one, inR_canon])
theorem ref_bg (r : Rect) (c : List Rect) : combinedL [r] c 3 = combinedL [canonR r] c 3 := comb_congr 3 (fun x y => by rw [contains5_one, contains5_one, inR_canon]) (fun _ _ => rfl)
theorem con_par_le (l : List Item) (r : Rect) : (conO l r).1.length ≤ 128 := by
  by_cases h : conE l r = 0
  · rw [con_par_len h]
    exact scene_len (con_zero h).1
  · rw [con_bad h]
    simp
end Go.Proofs.Ytogbocplojbdjaa
