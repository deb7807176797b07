/-
  A part of the proof: what some of the program's functions compute.
-/
import Derived.Test.YtogbocplojbdjaaVRG
import Derived.Test.YtogbocplojbdjaaVSh
import Derived.Shelf.SlSortCmp.NoneTotal
namespace Go.Proofs.Ytogbocplojbdjaa
open Go Go.E Go.Proofs
open Go.Shelf Go.RowKit Go.Sort Go.Lib
set_option linter.unusedVariables false
set_option linter.unusedSimpArgs false
def okRun (r : Run) : Prop := -16384 ≤ r.1 ∧ r.1 ≤ 16384
instance (r : Run) : Decidable (okRun r) := inferInstanceAs (Decidable (_ ∧ _))
abbrev OkRun := { r : Run // okRun r }
instance : Inhabited OkRun := ⟨⟨(0, 0), by decide⟩⟩
def cfRun (a b : OkRun) : Int := a.1.1 - b.1.1
theorem ltRun (a b : OkRun) : ltOf cfRun a b = decide (a.1.1 < b.1.1) := by
  unfold ltOf cfRun
  by_cases h : a.1.1 < b.1.1
  · rw [decide_eq_true h, decide_eq_true (by omega)]
  · rw [decide_eq_false h, decide_eq_false (by omega)]
theorem swoRun : SWO (ltOf cfRun) where
  irrefl x := by rw [ltRun]; simp
  trans x y z h1 h2 := by rw [ltRun] at *; simp at *; omega
  ntrans x y z h1 h2 := by rw [ltRun] at *; simp at *; omega
set_option maxHeartbeats 1000000 in
theorem closure_row (x y : OkRun) (W : World) : Calls Try.prog 79 #[.agg (fenc RunT x.1).toArray, .agg (fenc RunT y.1).toArray] W fun e w' => e = .returned (.int .i64 (cfRun x y)) ∧ ∃ q os', w' = grow (W.drewN q) os' := by
  obtain ⟨⟨x1, x2⟩, hx⟩ := x
  obtain ⟨⟨y1, y2⟩, hy⟩ := y
  have hw : wrap64 (x1 - y1) = x1 - y1 := by
    unfold okRun at hx hy
    simp only at hx hy
    unfold wrap64
    omega
  show Calls Try.prog 79 #[.agg #[.int .i64 x1, .int .i64 x2], .agg #[.int .i64 y1, .int .i64 y2]] W fun e w' => e = .returned (.int .i64 (x1 - y1)) ∧ ∃ q os', w' = grow (W.drewN q) os'
  go_enter Try.func79, Try.ntmps79
  go_wp2
  go_ret
  exact ⟨by rw [hw]; rfl, 0, _, by rw [alloc_eq_grow, alloc_eq_grow, grow_grow]; rfl⟩
def pdqRun (d : Array OkRun) : Array OkRun := pdq (ltOf cfRun) d 0 d.size (Lib.bitLen d.size) true true
def sortRun (zs : List Run) : List Run := if h : ∀ r ∈ zs, okRun r then (pdqRun (zs.attachWith okRun h).toArray).toList.map (·.1) else zs
theorem pdqRun_spec (d : Array OkRun) : (pdqRun d).size = d.size ∧ (pdqRun d).toList.Perm d.toList ∧ (pdqRun d).toList.Pairwise (fun a b => a.1.1 ≤ b.1.1) := by
  obtain ⟨⟨h1, h2, h3⟩, h4⟩ := pdq_sorts (ltOf cfRun) swoRun d 0 d.size (Lib.bitLen d.size) true true (Nat.zero_le _) (Nat.le_refl _) (Or.inl rfl)
  have hs : (pdqRun d).size = d.size := h1
  refine ⟨hs, ?_, ?_⟩
  · have e1 : (pdqRun d).extract 0 d.size = pdqRun d := by rw [← hs]; exact Array.extract_size
    have e2 : d.extract 0 d.size = d := Array.extract_size
    have h3 : ((pdqRun d).extract 0 d.size).toList.Perm (d.extract 0 d.size).toList := h3
    rwa [e1, e2] at h3
  · rw [List.pairwise_iff_getElem]
    intro i j hi hj hij
    have hi : i < (pdqRun d).size := by simpa using hi
    have hj : j < (pdqRun d).size := by simpa using hj
    have h5 : ltOf cfRun (pdqRun d)[j]! (pdqRun d)[i]! = false := h4 i j (Nat.zero_le _) hij (by omega)
    rw [ltRun, getElem!_pos (pdqRun d) i hi, getElem!_pos (pdqRun d) j hj, decide_eq_false_iff_not] at h5
    simp only [Array.getElem_toList]
    omega
theorem attach_map {zs : List Run} (h : ∀ r ∈ zs, okRun r) : (zs.attachWith okRun h).map (·.1) = zs := by
  simp only [List.map_attachWith]
  exact List.attach_map_subtype_val zs
theorem sortRun_perm (zs : List Run) : (sortRun zs).Perm zs := by
  unfold sortRun
  split
  · rename_i h
    have := (pdqRun_spec (zs.attachWith okRun h).toArray).2.1.map (fun r : OkRun => r.1)
    refine this.trans (List.Perm.of_eq ?_)
    exact attach_map h
  · exact List.Perm.refl _
theorem sortRun_sorted {zs : List Run} (h : ∀ r ∈ zs, okRun r) : (sortRun zs).Pairwise (fun a b => a.1 ≤ b.1) := by
  unfold sortRun
  rw [dif_pos h, List.pairwise_map]
  exact (pdqRun_spec (zs.attachWith okRun h).toArray).2.2
abbrev g_sortRun : GC := g_sortQ RunT 79 okRun sortRun
theorem s_sortRun : KSound Try.prog 78 (fun Γc => gCon Γc g_sortRun) := by
  refine ksound_sortQ (t := RunT) rfl (fun xs => (sortRun_perm xs).length_eq) Try.call78 (fun blk off cap zs w hQ hH hb hs => ?_) fun w => ?_
  · have hQ : ∀ r ∈ (zs : List Run), okRun r := hQ
    have hm : (List.attachWith (zs : List Run) okRun hQ).toArray.map (fun r : OkRun => r.1) = (zs : List Run).toArray := by
      rw [List.map_toArray, attach_map]
    have hsz : (List.attachWith (zs : List Run) okRun hQ).toArray.size = List.length (zs : List Run) := by simp
    have hH2 : HoldsK (fun r : OkRun => fenc RunT r.1) 2 w blk off (List.attachWith (zs : List Run) okRun hQ).toArray := by
      unfold HoldsK
      rw [flat_sub (fun r : OkRun => r.1) (fenc RunT), hm]
      exact hH
    have hcon := AnyQ.slices_SortFunc_eq Try.laySort 2 Try.isAgg98 Try.sizeOf98 (fun r : OkRun => fenc RunT r.1) (fun _ => rfl) (fun x v hv => by simp [fenc] at hv; rcases hv with rfl | rfl <;> rfl) cfRun swoRun 79 #[] blk off cap (List.attachWith (zs : List Run) okRun hQ).toArray w
      (enters_of Try.func79 (by kernel_rfl) rfl) (fun _ _ _ _ x y => closure_row x y _) hH2 hb (by rw [hsz]; exact hs)
    rw [hsz] at hcon
    refine hcon.mono ?_
    rintro e w' ⟨rfl, n, os, rfl⟩
    refine ⟨rfl, n, os, ?_⟩
    have hr : (sortRun (zs : List Run)).toArray = (pdqRun (List.attachWith (zs : List Run) okRun hQ).toArray).map (fun r : OkRun => r.1) := by
      unfold sortRun
      rw [dif_pos hQ, ← Array.toList_map, Array.toArray_toList]
    show sortWorldK _ 2 w blk off n _ os = sortWorldK (fenc RunT) 2 w blk off n (sortRun (zs : List Run)).toArray os
    rw [hr]
    unfold sortWorldK putRowK
    rw [flat_sub (fun r : OkRun => r.1) (fenc RunT)]
    unfold pdqRun
    rw [hsz]
  · exact AnyF.slices_SortFunc_none Try.laySort none 0 _ w
abbrev K41 : KCons := (78, fun Γc => gCon Γc g_sortRun) :: K40
theorem HK41 : KS Try.prog K41 := ks_add (s_sortRun) HK40
end Go.Proofs.Ytogbocplojbdjaa
