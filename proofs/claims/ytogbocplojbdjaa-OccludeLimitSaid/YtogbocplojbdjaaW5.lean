/-
  The engine, part 5: a function's code over abstract states gives conditions in plain Lean.
-/
import Derived.Test.YtogbocplojbdjaaW4
import Derived.Laws.Sem
/-
  EngX: a function that only computes, from its body's condition.
-/
namespace Go.E
open Go.RowKit
set_option linter.unusedVariables false
set_option linter.unusedSimpArgs false
abbrev Owns := List (Option Nat)
mutual
def leR (H : Heap) (x : AV) : AV → Option (Owns × List Nat × Prop)
  | .own t ys => match x with
    | .nils => some ([none], [], ys = [])
    | .sl l => match get? H l with
      | some (.row t' xs) => if h : t' = t then some ([some l], [], h ▸ xs = ys) else none
      | _ => none
    | _ => none
  | .agg rs => match x with
    | .agg xs => leRs H xs rs
    | _ => none
  | .tup rs => match x with
    | .tup xs => leRs H xs rs
    | _ => none
  | r => if noref r = true then some ([], refs H x, leAV [] (resAV H x) r) else none
termination_by structural r => r
def leRs (H : Heap) (xs : List AV) : List AV → Option (Owns × List Nat × Prop)
  | [] => match xs with
    | [] => some ([], [], True)
    | _ => none
  | r :: rs => match xs with
    | x :: xs => match leR H x r, leRs H xs rs with
      | some (o, f, p), some (o', f', p') => some (o ++ o', f ++ f', p ∧ p')
      | _, _ => none
    | [] => none
termination_by structural rs => rs
end
def ownV (ρ : Nat → Value) : Option Nat → Value
  | none => .slice none 0 0
  | some l => ρ l
section
variable {P : Program} {A : Nat → Prop} {w : World} {ρ ρ' : Nat → Value} {H : Heap} {I' : Nat → Prop}
theorem renρ_nil : renρ [] ρ = ρ := by funext l; simp [renρ, get?]
mutual
theorem leR_sound (hH : HeapR P A H ρ w) : ∀ (r x : AV) (v : Value) (o : Owns) (f : List Nat) (p : Prop) (n : Nat), leR H x r = some (o, f, p) → p → VR P w (imm A H ρ w) ρ x v →
    (∀ b, imm A H ρ w b → I' b) → (∀ l ∈ f, ∀ b, blkOf (ρ l) = some b → I' b) → (∀ k y, o[k]? = some y → ρ' (n + k) = ownV ρ y) →
    VR P w I' ρ' (place n r).1 v ∧ (place n r).2.2 = n + o.length ∧ ∀ l c, (l, c) ∈ (place n r).2.1 → ∃ k t ys y, l = n + k ∧ o[k]? = some y ∧ c = .row t ys ∧ ((y = none ∧ ys = []) ∨ ∃ l0, y = some l0 ∧ get? H l0 = some (.row t ys))
  | r, x, v, o, f, p, n, h, hp, hv, h1, h2, h3 => by
    have dflt : ∀ r, place n r = (r, [], n) → (leR H x r = if noref r = true then some ([], refs H x, leAV [] (resAV H x) r) else none) → leR H x r = some (o, f, p) →
        VR P w I' ρ' (place n r).1 v ∧ (place n r).2.2 = n + o.length ∧ ∀ l c, (l, c) ∈ (place n r).2.1 → ∃ k t ys y, l = n + k ∧ o[k]? = some y ∧ c = .row t ys ∧ ((y = none ∧ ys = []) ∨ ∃ l0, y = some l0 ∧ get? H l0 = some (.row t ys)) := by
      intro r hpl he h
      rw [he] at h
      split at h
      · rename_i hnr
        simp only [Option.some.injEq, Prod.mk.injEq] at h
        obtain ⟨rfl, rfl, rfl⟩ := h
        rw [hpl]
        refine ⟨?_, by simp, fun l c hl => by cases hl⟩
        have := leAV_sound (σ := []) r _ v hp (resAV_sound hH h1 x v h2 hv)
        rw [renρ_nil] at this
        exact VR.ext (Ext.refl _ _) r v (fun l hl => by rw [noref_has r l hnr] at hl; cases hl) this
      · cases h
    cases r with
    | own t ys =>
      cases x <;> simp only [leR] at h <;> try (cases h; done)
      · simp only [Option.some.injEq, Prod.mk.injEq] at h
        obtain ⟨rfl, rfl, rfl⟩ := h
        subst hp
        simp only [VR] at hv
        subst hv
        simp only [place]
        refine ⟨?_, rfl, fun l c hl => ?_⟩
        · have := h3 0 none rfl
          simp only [VR]
          rw [Nat.add_zero] at this
          rw [this]; rfl
        · simp only [List.mem_singleton, Prod.mk.injEq] at hl
          obtain ⟨rfl, rfl⟩ := hl
          exact ⟨0, t, [], none, by simp, rfl, rfl, .inl ⟨rfl, rfl⟩⟩
      · rename_i l0
        split at h
        · rename_i t' xs hl0
          split at h
          · rename_i ht
            subst ht
            simp only [Option.some.injEq, Prod.mk.injEq] at h
            obtain ⟨rfl, rfl, rfl⟩ := h
            subst hp
            simp only [VR] at hv
            subst hv
            simp only [place]
            refine ⟨?_, rfl, fun l c hl => ?_⟩
            · have := h3 0 (some l0) rfl
              simp only [VR]
              rw [Nat.add_zero] at this
              rw [this]; rfl
            · simp only [List.mem_singleton, Prod.mk.injEq] at hl
              obtain ⟨rfl, rfl⟩ := hl
              exact ⟨0, t', xs, some l0, by simp, rfl, rfl, .inr ⟨l0, rfl, hl0⟩⟩
          · cases h
        · cases h
    | agg rs =>
      cases x <;> simp only [leR] at h <;> try (cases h; done)
      rename_i xs
      simp only [VR] at hv
      obtain ⟨vs, rfl, hv⟩ := hv
      obtain ⟨g1, g2, g3⟩ := leRs_sound hH rs xs vs o f p n h hp hv h1 h2 h3
      simp only [place, VR]
      exact ⟨⟨vs, rfl, g1⟩, g2, g3⟩
    | tup rs =>
      cases x <;> simp only [leR] at h <;> try (cases h; done)
      rename_i xs
      simp only [VR] at hv
      obtain ⟨vs, rfl, hv⟩ := hv
      obtain ⟨g1, g2, g3⟩ := leRs_sound hH rs xs vs o f p n h hp hv h1 h2 h3
      simp only [place, VR]
      exact ⟨⟨vs, rfl, g1⟩, g2, g3⟩
    | int _ _ => exact dflt _ rfl rfl h
    | bool _ => exact dflt _ rfl rfl h
    | str _ => exact dflt _ rfl rfl h
    | nilp => exact dflt _ rfl rfl h
    | nils => exact dflt _ rfl rfl h
    | nilm => exact dflt _ rfl rfl h
    | nilf => exact dflt _ rfl rfl h
    | ptr _ _ => exact dflt _ rfl rfl h
    | pel _ _ _ _ _ => exact dflt _ rfl rfl h
    | sl _ => exact dflt _ rfl rfl h
    | mp _ => exact dflt _ rfl rfl h
    | arr _ _ => exact dflt _ rfl rfl h
    | cp _ _ _ => exact dflt _ rfl rfl h
    | av _ _ => exact dflt _ rfl rfl h
    | fn _ _ _ => exact dflt _ rfl rfl h
    | pfn _ _ _ => exact dflt _ rfl rfl h
    | cond _ _ => exact dflt _ rfl rfl h
    | junk => exact dflt _ rfl rfl h
theorem leRs_sound (hH : HeapR P A H ρ w) : ∀ (r x : List AV) (v : List Value) (o : Owns) (f : List Nat) (p : Prop) (n : Nat), leRs H x r = some (o, f, p) → p → VRs P w (imm A H ρ w) ρ x v →
    (∀ b, imm A H ρ w b → I' b) → (∀ l ∈ f, ∀ b, blkOf (ρ l) = some b → I' b) → (∀ k y, o[k]? = some y → ρ' (n + k) = ownV ρ y) →
    VRs P w I' ρ' (places n r).1 v ∧ (places n r).2.2 = n + o.length ∧ ∀ l c, (l, c) ∈ (places n r).2.1 → ∃ k t ys y, l = n + k ∧ o[k]? = some y ∧ c = .row t ys ∧ ((y = none ∧ ys = []) ∨ ∃ l0, y = some l0 ∧ get? H l0 = some (.row t ys))
  | [], x, v, o, f, p, n, h, hp, hv, h1, h2, h3 => by
    cases x <;> simp only [leRs] at h <;> try (cases h; done)
    simp only [Option.some.injEq, Prod.mk.injEq] at h
    obtain ⟨rfl, rfl, rfl⟩ := h
    simp only [places]
    exact ⟨hv, by simp, fun l c hl => by cases hl⟩
  | r :: rs, x, v, o, f, p, n, h, hp, hv, h1, h2, h3 => by
    cases x <;> simp only [leRs] at h <;> try (cases h; done)
    rename_i x xs
    split at h
    · rename_i o1 f1 p1 o2 f2 p2 e1 e2
      simp only [Option.some.injEq, Prod.mk.injEq] at h
      obtain ⟨rfl, rfl, rfl⟩ := h
      obtain ⟨u, us, rfl, hv1, hv2⟩ := VRs_cons.1 hv
      obtain ⟨g1, g2, g3⟩ := leR_sound hH r x u o1 f1 p1 n e1 hp.1 hv1 h1 (fun l hl => h2 l (by simp [hl])) (fun k y hk => h3 k y (by
        have : k < o1.length := (List.getElem?_eq_some_iff.1 hk).1
        rw [List.getElem?_append_left this]; exact hk))
      have := leRs_sound hH rs xs us o2 f2 p2 (n + o1.length) e2 hp.2 hv2 h1 (fun l hl => h2 l (by simp [hl])) (fun k y hk => by
        have := h3 (o1.length + k) y (by rw [List.getElem?_append_right (by omega)]; simpa using hk)
        rw [← this]; congr 1; omega)
      rw [← g2] at this
      obtain ⟨k1, k2, k3⟩ := this
      simp only [places]
      refine ⟨VRs_cons.2 ⟨u, us, rfl, g1, k1⟩, by rw [k2, g2]; simp; omega, fun l c hl => ?_⟩
      rcases List.mem_append.1 hl with hl | hl
      · obtain ⟨k, t, ys, y, q1, q2, q3, q4⟩ := g3 l c hl
        have : k < o1.length := (List.getElem?_eq_some_iff.1 q2).1
        exact ⟨k, t, ys, y, q1, by rw [List.getElem?_append_left this]; exact q2, q3, q4⟩
      · obtain ⟨k, t, ys, y, q1, q2, q3, q4⟩ := k3 l c hl
        exact ⟨o1.length + k, t, ys, y, by omega, by rw [List.getElem?_append_right (by omega)]; simpa using q2, q3, q4⟩
    · cases h
end
end
def rvRun (tmps : Array Value) : ResultVar → Sem Value
  | .tmp t => pure (tmps.getD t undef)
  | .cell a t => do loadVar t (← asAddr (tmps.getD a undef))
theorem results_eq {fn : Func} {tmps : Array Value} : results fn tmps = (do
    let vs ← fn.results.mapM (rvRun tmps)
    pure (if h : vs.size = 1 then vs[0] else .tuple vs)) := by
  unfold results
  congr 1
def valOf (P : Program) (S : AState) : ResultVar → Option (Prop × AV)
  | .tmp t => match get? S.tm t with
    | some (.cond _ _) => none
    | some x => some (True, x)
    | none => none
  | .cell a t => match get? S.tm a with
    | some (.ptr l o) => loadOf P S.hp t (.ptr l o)
    | _ => none
def valsOf (P : Program) (S : AState) : List ResultVar → Option (Prop × List AV)
  | [] => some (True, [])
  | r :: rs => match valOf P S r, valsOf P S rs with
    | some (p, x), some (q, xs) => some (p ∧ q, x :: xs)
    | _, _ => none
def tupOf : List AV → AV
  | [x] => x
  | xs => .tup xs
def nodup : List Nat → Bool
  | [] => true
  | x :: r => !r.contains x && nodup r
def finP (H : Heap) (x r : AV) : Prop := match leR H x r with
  | some (o, f, p) => match nodup (o.filterMap id) && f.all (fun l => (get? H l).isSome && !(o.filterMap id).contains l) with
    | true => p
    | false => False
  | none => False
def fin (P : Program) (rs : List ResultVar) (r : AV) : Ex → AState → Prop
  | .exit _, _ => False
  | _, S => match valsOf P S rs with
    | some (p, xs) => p ∧ finP S.hp (tupOf xs) r
    | none => False
def startT : Nat → List AV → Temps
  | _, [] => []
  | k, x :: r => (k, x) :: startT (k + 1) r
def start (args : List AV) (n : Nat) : AState := ⟨startT 0 args, [], n, []⟩
section
variable {P : Program} {A : Nat → Prop} {w w0 : World} {ρ : Nat → Value} {M : Own} {S : AState} {a : Act}
theorem mapM_run {α β : Type} (f : α → Sem β) {w : World} : ∀ (l : List α) (us : List β), us.length = l.length → (∀ (i : Nat) (x : α) (u : β), l[i]? = some x → us[i]? = some u → (f x).run P w = .ok u w) → (l.mapM f).run P w = .ok us w
  | [], us, h, _ => by
    have : us = [] := List.length_eq_zero_iff.1 h
    subst this
    rfl
  | x :: r, us, h, hf => by
    cases us with
    | nil => simp at h
    | cons u us =>
      rw [List.mapM_cons]
      have h1 := hf 0 x u rfl rfl
      have h2 := mapM_run f r us (by simpa using h) fun i y v hy hv => hf (i + 1) y v (by simpa using hy) (by simpa using hv)
      simp only [Sem.run_bind, h1, Result.andThen_ok, h2, Sem.run_pure]
theorem valOf_sound (hR : Rep P A w0 M S ρ a w) {rv : ResultVar} {p : Prop} {x : AV} (h : valOf P S rv = some (p, x)) (hp : p) :
    ∃ v, (rvRun a.tmps rv).run P w = .ok v w ∧ VR P w (imm A S.hp ρ w) ρ x v := by
  unfold valOf at h
  split at h
  · rename_i t
    split at h
    · cases h
    · rename_i y hn hy
      simp only [Option.some.injEq, Prod.mk.injEq] at h
      obtain ⟨_, rfl⟩ := h
      have := hR.tm t y hy
      refine ⟨_, rfl, ?_⟩
      cases y <;> first | exact this | exact absurd rfl (hn _ _)
    · cases h
  · rename_i b t
    split at h
    · rename_i l o hy
      have ht := hR.tm b _ hy
      obtain ⟨u, h1, h2⟩ := loadOf_sound hR.hp h hp ht
      refine ⟨u, ?_, h2⟩
      have ht2 : VR P w (imm A S.hp ρ w) ρ (.ptr l o) (a.tmps.getD b undef) := ht
      simp only [VR] at ht2
      obtain ⟨bb, _, hv⟩ := ht2
      rw [hv] at h1
      simp only [rvRun]
      rw [hv]
      simpa [rvRun, Instr.loadAt, Instr.sureAddr, asAddr] using h1
    · cases h
theorem valsOf_sound (hR : Rep P A w0 M S ρ a w) : ∀ (rs : List ResultVar) (p : Prop) (xs : List AV), valsOf P S rs = some (p, xs) → p →
    ∃ vs, vs.length = rs.length ∧ VRs P w (imm A S.hp ρ w) ρ xs vs ∧ ∀ (i : Nat) (rv : ResultVar) (u : Value), rs[i]? = some rv → vs[i]? = some u → (rvRun a.tmps rv).run P w = .ok u w
  | [], p, xs, h, hp => by
    simp only [valsOf, Option.some.injEq, Prod.mk.injEq] at h
    obtain ⟨_, rfl⟩ := h
    exact ⟨[], rfl, by simp [VRs], fun i rv u h => by simp at h⟩
  | rv :: rs, p, xs, h, hp => by
    simp only [valsOf] at h
    split at h
    · rename_i p1 x1 p2 x2 e1 e2
      simp only [Option.some.injEq, Prod.mk.injEq] at h
      obtain ⟨rfl, rfl⟩ := h
      obtain ⟨v, h1, h2⟩ := valOf_sound hR e1 hp.1
      obtain ⟨vs, k1, k2, k3⟩ := valsOf_sound hR rs p2 x2 e2 hp.2
      refine ⟨v :: vs, by simp [k1], VRs_cons.2 ⟨v, vs, rfl, h2, k2⟩, fun i rv' u hi hu => ?_⟩
      cases i with
      | zero =>
        simp only [List.getElem?_cons_zero, Option.some.injEq] at hi hu
        subst hi; subst hu
        exact h1
      | succ i => exact k3 i rv' u (by simpa using hi) (by simpa using hu)
    · cases h
theorem results_sound (hR : Rep P A w0 M S ρ a w) {fn : Func} {rs : List ResultVar} (hrs : fn.results = rs.toArray) {p : Prop} {xs : List AV} (h : valsOf P S rs = some (p, xs)) (hp : p) :
    ∃ v, (results fn a.tmps).run P w = .ok v w ∧ VR P w (imm A S.hp ρ w) ρ (tupOf xs) v := by
  obtain ⟨vs, h1, h2, h3⟩ := valsOf_sound hR rs p xs h hp
  have hrun : (results fn a.tmps).run P w = .ok (if h : vs.toArray.size = 1 then vs.toArray[0] else .tuple vs.toArray) w := by
    rw [results_eq, hrs, List.mapM_toArray]
    have := mapM_run (P := P) (w := w) (rvRun a.tmps) rs vs h1 h3
    simp only [Sem.run_bind, map_eq_pure_bind, this, Result.andThen_ok, Sem.run_pure]
  refine ⟨_, hrun, ?_⟩
  have hl := h2.length
  match xs, vs, h2, hl with
  | [], [], _, _ => simp only [tupOf, VR]; exact ⟨[], by simp, by simp [VRs]⟩
  | [x], [v], h2, _ =>
    obtain ⟨v', us, he, hv, hn⟩ := VRs_cons.1 h2
    injection he with e1 e2
    subst e1
    exact hv
  | x :: y :: r, v :: u :: us, h2, _ => simp only [tupOf, VR]; exact ⟨v :: u :: us, by simp, h2⟩
theorem nodup_spec : ∀ (o : Owns), nodup (o.filterMap id) = true → ∀ (i j l : Nat), o[i]? = some (some l) → o[j]? = some (some l) → i = j
  | [], _, i, j, l, h, _ => by simp at h
  | none :: r, h, i, j, l, hi, hj => by
    cases i with
    | zero => simp at hi
    | succ i =>
      cases j with
      | zero => simp at hj
      | succ j => rw [nodup_spec r (by simpa using h) i j l (by simpa using hi) (by simpa using hj)]
  | some x :: r, h, i, j, l, hi, hj => by
    simp only [List.filterMap_cons_some (f := id) (a := some x) (b := x) rfl, nodup, Bool.and_eq_true, Bool.not_eq_true'] at h
    have hmem : ∀ k : Nat, r[k]? = some (some l) → x ≠ l := by
      rintro k hk rfl
      have : x ∈ r.filterMap id := List.mem_filterMap.2 ⟨some x, List.mem_of_getElem? hk, rfl⟩
      have h2 := h.1
      rw [List.contains_eq_mem] at h2
      simp at h2
      exact h2 (List.mem_of_getElem? hk)
    cases i with
    | zero =>
      simp only [List.getElem?_cons_zero, Option.some.injEq] at hi
      cases j with
      | zero => rfl
      | succ j => exact absurd hi (hmem j (by simpa using hj))
    | succ i =>
      cases j with
      | zero =>
        simp only [List.getElem?_cons_zero, Option.some.injEq] at hj
        exact absurd hj (hmem i (by simpa using hi))
      | succ j => rw [nodup_spec r h.2 i j l (by simpa using hi) (by simpa using hj)]
theorem outR_of (hw : w0.heap.size ≤ w.heap.size) (hR : HeapR P (upto A w0) S.hp ρ w) (hmine : ∀ l c, get? S.hp l = some c → ∀ b, blkOf (ρ l) = some b → w0.heap.size ≤ b) {x r : AV} {v : Value}
    (hv : VR P w (imm (upto A w0) S.hp ρ w) ρ x v) (hf : finP S.hp x r) : OutR P A w0 w r v := by
  unfold finP at hf
  split at hf
  · rename_i o f p hle
    split at hf
    · rename_i hok
      simp only [Bool.and_eq_true] at hok
      obtain ⟨hnd, hdis⟩ := hok
      intro n
      let ρ' : Nat → Value := fun m => if n ≤ m then (match o[m - n]? with | some y => ownV ρ y | none => ρ m) else ρ m
      have hρ : ∀ k y, o[k]? = some y → ρ' (n + k) = ownV ρ y := by
        intro k y hk
        show (if n ≤ n + k then _ else _) = _
        rw [if_pos (by omega), show n + k - n = k by omega, hk]
      have key := fun (I' : Nat → Prop) (h1 : ∀ b, imm (upto A w0) S.hp ρ w b → I' b) (h2 : ∀ l ∈ f, ∀ b, blkOf (ρ l) = some b → I' b) => leR_sound (ρ' := ρ') hR r x v o f p n hle hf hv h1 h2 hρ
      have hmem : ∀ l c, get? (place n r).2.1 l = some c → ∃ k t ys y, l = n + k ∧ o[k]? = some y ∧ c = .row t ys ∧ ((y = none ∧ ys = []) ∨ ∃ l0, y = some l0 ∧ get? S.hp l0 = some (.row t ys)) := by
        intro l c hl
        have hin : (l, c) ∈ (place n r).2.1 := by
          revert hl
          generalize (place n r).2.1 = L
          intro hl
          induction L with
          | nil => simp [get?] at hl
          | cons y rest ih =>
            obtain ⟨k, z⟩ := y
            simp only [get?] at hl
            split at hl
            · rename_i he; subst he; injection hl with hl; subst hl; simp
            · simp [ih hl]
        have hleft : ∀ l ∈ f, ∀ b, blkOf (ρ l) = some b → (fun _ => True) b := fun _ _ _ _ => trivial
        exact (key (fun _ => True) (fun _ _ => trivial) hleft).2.2 l c hin
      have hsub : ∀ b, imm (upto A w0) S.hp ρ w b → imm (upto A w0) (place n r).2.1 ρ' w b := by
        intro b hb
        refine ⟨hb.1, fun l c hl hbl => ?_⟩
        obtain ⟨k, t, ys, y, rfl, h2, rfl, h4⟩ := hmem l c hl
        rw [hρ k y h2] at hbl
        rcases h4 with ⟨rfl, rfl⟩ | ⟨l0, rfl, h5⟩
        · simp [ownV, blkOf] at hbl
        · exact hb.2 l0 _ h5 hbl
      have hfz : ∀ l ∈ f, ∀ b, blkOf (ρ l) = some b → imm (upto A w0) (place n r).2.1 ρ' w b := by
        intro l hl b hb
        have hd := List.all_eq_true.1 hdis l hl
        simp only [Bool.and_eq_true] at hd
        obtain ⟨c, hc⟩ := Option.isSome_iff_exists.1 hd.1
        refine ⟨⟨(hR.chunk l c hc).lt hb, hR.ok l c b hc hb⟩, fun l' c' hl' hbl => ?_⟩
        obtain ⟨k, t, ys, y, rfl, h2, rfl, h4⟩ := hmem l' c' hl'
        rw [hρ k y h2] at hbl
        rcases h4 with ⟨rfl, rfl⟩ | ⟨l0, rfl, h5⟩
        · simp [ownV, blkOf] at hbl
        · refine hR.apart l c l0 _ hc h5 (fun he => ?_) b hb hbl
          subst he
          have := hd.2
          rw [List.contains_eq_mem] at this
          simp at this
          exact this (List.mem_of_getElem? h2)
      obtain ⟨g1, g2, g3⟩ := key _ hsub hfz
      have hext : Ext w (imm (upto A w0) S.hp ρ w) w (imm (upto A w0) (place n r).2.1 ρ' w) := ⟨Nat.le_refl _, fun b hb => ⟨hsub b hb, rfl⟩⟩
      refine ⟨ρ', ⟨fun l c hl => ?_, fun l c b hl hb => ?_, fun b hb => .inr (by omega), fun l c l' c' hl hl' hne b hb hb' => ?_⟩, g1, fun l c b hl hb => ?_⟩
      · obtain ⟨k, t, ys, y, rfl, h2, rfl, h4⟩ := hmem l c hl
        rw [hρ k y h2]
        rcases h4 with ⟨rfl, rfl⟩ | ⟨l0, rfl, h5⟩
        · exact .inl ⟨rfl, rfl⟩
        · exact (hR.chunk l0 _ h5).ext hext (fun l hl => by simp [Chunk.has] at hl) (fun _ _ => rfl)
      · obtain ⟨k, t, ys, y, rfl, h2, rfl, h4⟩ := hmem l c hl
        rw [hρ k y h2] at hb
        rcases h4 with ⟨rfl, rfl⟩ | ⟨l0, rfl, h5⟩
        · simp [ownV, blkOf] at hb
        · exact hR.ok l0 _ b h5 hb
      · obtain ⟨k, t, ys, y, rfl, h2, rfl, h4⟩ := hmem l c hl
        obtain ⟨k', t', ys', y', rfl, h2', rfl, h4'⟩ := hmem l' c' hl'
        rw [hρ k y h2] at hb
        rw [hρ k' y' h2'] at hb'
        rcases h4 with ⟨rfl, rfl⟩ | ⟨l0, rfl, h5⟩
        · simp [ownV, blkOf] at hb
        · rcases h4' with ⟨rfl, rfl⟩ | ⟨l0', rfl, h5'⟩
          · simp [ownV, blkOf] at hb'
          · refine hR.apart l0 _ l0' _ h5 h5' (fun he => ?_) b hb hb'
            subst he
            exact hne (by rw [nodup_spec o hnd k k' l0 h2 h2'])
      · obtain ⟨k, t, ys, y, rfl, h2, rfl, h4⟩ := hmem l c hl
        rw [hρ k y h2] at hb
        rcases h4 with ⟨rfl, rfl⟩ | ⟨l0, rfl, h5⟩
        · simp [ownV, blkOf] at hb
        · exact hmine l0 _ h5 b hb
    · exact hf.elim
  · exact hf.elim
theorem startT_get : ∀ (args : List AV) (k t : Nat) (x : AV), get? (startT k args) t = some x → ∃ i, t = k + i ∧ args[i]? = some x
  | [], k, t, x, h => by simp [startT, get?] at h
  | y :: r, k, t, x, h => by
    simp only [startT, get?] at h
    split at h
    · rename_i he; injection h with h; subst h; exact ⟨0, by omega, rfl⟩
    · obtain ⟨i, h1, h2⟩ := startT_get r (k + 1) t x h
      exact ⟨i + 1, by omega, by simpa using h2⟩
theorem pbody {f : FuncId} {fn : Func} {c : Code} {Γ : Cons} {Γr : RCons} {L : Anns} {rs : List ResultVar} {n : Nat} (hm : P.follows .mixedOrders = true) (hΓ : ∀ g C, get? Γ g = some C → Sound P g C) (hΓr : ∀ g C, getR? Γr g = some C → RSound P g C)
    (hf : P.funcs[f]? = some fn) (hb : fn.body = some c) (hrs : fn.results = rs.toArray) (hn : fn.ntmps = n) {args : List AV} {r : AV} (hlen : args.length ≤ n) (hvc : vc P Γ Γr L c (start args n) (fin P rs r))
    {A : Nat → Prop} {w : World} {ρ : Nat → Value} {vs : List Value} (hv : VRs P w (allA A w) ρ args vs) : Calls P f vs.toArray w fun e w' => ∃ v, e = .returned v ∧ Below w.heap.size w w' ∧ OutR P A w w' r v := by
  have hvl := hv.length
  refine calls_of_wp hf hb ?_
  have hR : Rep P (upto A w) w ⟨fun _ => False, []⟩ (start args n) ρ { tmps := vs.toArray ++ Array.replicate (fn.ntmps - vs.toArray.size) undef, defers := [] } w := by
    have himm : ∀ b, allA A w b → imm (upto A w) [] ρ w b := fun b hb => ⟨⟨hb.1, .inl hb⟩, fun l c hl => by simp [get?] at hl⟩
    refine ⟨fun t x ht => ?_, ⟨fun l c hl => by simp [start, get?] at hl, fun l c b hl => by simp [start, get?] at hl, fun b hb => .inr hb, fun l c l' c' hl => by simp [start, get?] at hl⟩, Keep.refl _ _, fun l c hl => by simp [start, get?] at hl, by simp [start, VRs], rfl, ?_⟩
    · obtain ⟨i, rfl, hi⟩ := startT_get args 0 t x ht
      obtain ⟨u, hu, hx⟩ := hv.at_ hi
      have hg : (vs.toArray ++ Array.replicate (fn.ntmps - vs.toArray.size) undef).getD (0 + i) undef = u := by
        have hlt : i < vs.length := (List.getElem?_eq_some_iff.1 hu).1
        rw [Array.getD_eq_getD_getElem?, Nat.zero_add, Array.getElem?_append_left (by simpa using hlt)]
        simp [hu]
      show TR P w (imm (upto A w) [] ρ w) ρ _ x _
      simp only
      rw [hg]
      have := VR.ext (ρ' := ρ) ⟨Nat.le_refl _, fun b hb => ⟨himm b hb, rfl⟩⟩ x u (fun _ _ => rfl) hx
      cases x <;> first | exact this | (simp only [VR] at this)
    · show _ = n
      simp [hn]
      omega
  refine wp_mono (vc_sound hm hΓ hΓr c _ _ ρ _ w hvc hR) ?_
  have done : ∀ a' w' S', RepE P (upto A w) w ⟨fun _ => False, []⟩ S' a' w' → (match valsOf P S' rs with | some (p, xs) => p ∧ finP S'.hp (tupOf xs) r | none => False) →
      a'.defers = [] ∧ ∃ v, (results fn a'.tmps).run P w' = .ok v w' ∧ ∃ v', Ending.returned v = .returned v' ∧ Below w.heap.size w w' ∧ OutR P A w w' r v' := by
    rintro a' w' S' ⟨ρ', hR'⟩ hq
    refine ⟨hR'.defers, ?_⟩
    split at hq
    · rename_i p xs hxs
      obtain ⟨v, hrun, hvr⟩ := results_sound hR' hrs hxs hq.1
      exact ⟨v, hrun, v, rfl, ⟨hR'.keep.os, hR'.keep.tape, hR'.keep.output, hR'.keep.size, fun k hk => hR'.keep.blk k hk (fun h => h)⟩,
        outR_of hR'.keep.size hR'.hp (fun l c hl b hb => (hR'.mine l c hl b hb).resolve_right (fun h => h)) hvr hq.2⟩
    · exact hq.elim
  intro e a' w' hq
  cases e with
  | normal =>
    obtain ⟨S', hq, hR'⟩ := hq
    exact done a' w' S' hR' hq
  | ret =>
    obtain ⟨S', hq, hR'⟩ := hq
    exact done a' w' S' hR' hq
  | exit id =>
    obtain ⟨S', hq, hR'⟩ := hq
    exact hq.elim
  | goto l => exact hq.elim
  | panic ch => exact hq.elim
  | outgrown => exact hq.elim
end
end Go.E

/-
  EngY: contracts by types.
-/
namespace Go.E
open Go.RowKit
set_option linter.unusedVariables false
set_option linter.unusedSimpArgs false
inductive AT where
  | d (t : Ty) | f (as : List Ty) (r : Ty) | p (t : Ty)
@[reducible] def AT.T : AT → Type
  | .d t => t.T | .f as r => Ts as → r.T | .p t => t.T
@[reducible] def ATs : List AT → Type
  | [] => Unit
  | t :: ts => t.T × ATs ts
def decA : (t : AT) → AV → Option t.T
  | .d t, x => decV t x
  | .f as r, x => match x with
    | .pfn as' r' g => if h : as' = as ∧ r' = r then some (h.1 ▸ h.2 ▸ g) else none
    | _ => none
  | .p t, x => match x with
    | .cp t' x o => if h : t' = t then (if o = 0 then some (h ▸ x) else none) else none
    | _ => none
def encA : (t : AT) → t.T → AV
  | .d t, x => shut t (enc t x)
  | .f as r, g => .pfn as r g
  | .p t, x => .cp t x 0
def decAs : (as : List AT) → List AV → Option (ATs as)
  | [], xs => match xs with
    | [] => some ()
    | _ => none
  | t :: ts, xs => match xs with
    | x :: r => match decA t x, decAs ts r with
      | some a, some b => some (a, b)
      | _, _ => none
    | [] => none
def encAs : (as : List AT) → ATs as → List AV
  | [], _ => []
  | t :: ts, x => encA t x.1 :: encAs ts x.2
def pcon (as : List AT) (g : ATs as → Prop × AV) : PCon := fun args => match decAs as args with
  | some x => some (g x)
  | none => none
section
variable {P : Program} {w : World} {I : Nat → Prop} {ρ : Nat → Value}
theorem decA_sound : ∀ (t : AT) (x : AV) (p : t.T) (v : Value), decA t x = some p → VR P w I ρ x v → VR P w I ρ (encA t p) v
  | .d t, x, p, v, h, hv => shut_sound t p v (decV_sound h hv)
  | .f as r, x, p, v, h, hv => by
    cases x <;> simp only [decA] at h <;> try (cases h; done)
    split at h
    · rename_i he
      obtain ⟨rfl, rfl⟩ := he
      injection h with h
      subst h
      exact hv
    · cases h
  | .p t, x, p, v, h, hv => by
    cases x <;> simp only [decA] at h <;> try (cases h; done)
    split at h
    · rename_i he
      subst he
      split at h
      · rename_i ho
        subst ho
        injection h with h
        subst h
        exact hv
      · cases h
    · cases h
theorem decAs_sound : ∀ (as : List AT) (xs : List AV) (p : ATs as) (vs : List Value), decAs as xs = some p → VRs P w I ρ xs vs → VRs P w I ρ (encAs as p) vs
  | [], xs, p, vs, h, hv => by
    cases xs with
    | nil => exact hv
    | cons y r => simp [decAs] at h
  | t :: ts, xs, p, vs, h, hv => by
    cases xs with
    | nil => simp [decAs] at h
    | cons y r =>
      simp only [decAs] at h
      split at h
      · rename_i a b ha hb
        injection h with h; subst h
        obtain ⟨v, us, rfl, h1, h2⟩ := VRs_cons.1 hv
        exact VRs_cons.2 ⟨v, us, rfl, decA_sound t y a v ha h1, decAs_sound ts r b us hb h2⟩
      · cases h
theorem encAs_length : ∀ (as : List AT) (x : ATs as), (encAs as x).length = as.length
  | [], _ => rfl
  | t :: ts, x => by simp [encAs, encAs_length ts x.2]
theorem psound {f : FuncId} {fn : Func} {Γ : Cons} {Γr : RCons} {rs : List ResultVar} {n : Nat} {as : List AT} {g : ATs as → Prop × AV} (L : ATs as → Anns) (hm : P.follows .mixedOrders = true) (hΓ : ∀ g C, get? Γ g = some C → Sound P g C) (hΓr : ∀ g C, getR? Γr g = some C → RSound P g C) (hE : Enters P f)
    (hf : P.funcs[f]? = some fn) (hb : fn.body.isSome = true) (hrs : fn.results = rs.toArray) (hn : fn.ntmps = n) (hlen : as.length ≤ n)
    (h : ∀ x, (g x).1 → vc P Γ Γr (L x) (fn.body.getD .skip) (start (encAs as x) n) (fin P rs (g x).2)) : PSound P f (pcon as g) := by
  refine ⟨hE, fun args obl r hC ho A w ρ vs hv => ?_⟩
  unfold pcon at hC
  split at hC
  · rename_i x hx
    injection hC with hC
    obtain ⟨c, hc⟩ := Option.isSome_iff_exists.1 hb
    have hg : obl = (g x).1 ∧ r = (g x).2 := by rw [hC]; exact ⟨rfl, rfl⟩
    obtain ⟨rfl, rfl⟩ := hg
    have hv2 := decAs_sound as args x vs hx hv
    refine pbody (L := L x) hm hΓ hΓr hf hc hrs hn (by rw [encAs_length]; exact hlen) ?_ hv2
    have := h x ho
    rw [hc] at this
    exact this
  · cases hC
theorem cons_nil : ∀ g C, get? ([] : Cons) g = some C → Sound P g C := fun g C h => by simp [get?] at h
theorem rcons_nil : ∀ g C, getR? ([] : RCons) g = some C → RSound P g C := fun g C h => by simp [getR?] at h
theorem rcons_add {Γr : RCons} {f : Nat} {C : RCon} (h : RSound P f C) (hΓ : ∀ g C, getR? Γr g = some C → RSound P g C) : ∀ g D, getR? ((f, C) :: Γr) g = some D → RSound P g D := by
  intro g D hg
  simp only [getR?] at hg
  split at hg
  · rename_i he
    subst he
    injection hg with hg
    subst hg
    exact h
  · exact hΓ g D hg
theorem cons_add {Γ : Cons} {f : Nat} {C : Con} (h : Sound P f C) (hΓ : ∀ g C, get? Γ g = some C → Sound P g C) : ∀ g D, get? ((f, C) :: Γ) g = some D → Sound P g D := by
  intro g D hg
  simp only [get?] at hg
  split at hg
  · rename_i he
    subst he
    injection hg with hg
    subst hg
    exact h
  · exact hΓ g D hg
theorem dec_enc : ∀ (t : Ty) (x : t.T), dec t (enc t x) = some x
  | .int k, x => by simp [enc, dec]
  | .bool, x => rfl
  | .str, x => rfl
  | .list t, x => by simp [enc, dec]
  | .prod a b, x => by
    simp only [enc, dec]
    rw [List.take_append_of_le_length (by rw [enc_length]; exact Nat.le_refl _), List.take_of_length_le (by rw [enc_length]; exact Nat.le_refl _), List.drop_append_of_le_length (by rw [enc_length]; exact Nat.le_refl _), List.drop_of_length_le (by rw [enc_length]; exact Nat.le_refl _), List.nil_append, dec_enc a, dec_enc b]
theorem decV_enc (t : Ty) (x : t.T) : decV t (shut t (enc t x)) = some x := by
  cases t with
  | prod a b =>
    exact dec_enc (.prod a b) x
  | int k => simp [shut, enc, decV, Ty.isAgg, dec]
  | bool => simp [shut, enc, decV, Ty.isAgg, dec]
  | str => simp [shut, enc, decV, Ty.isAgg, dec]
  | list t => simp [shut, enc, decV, Ty.isAgg, dec]
def closTs (as : List Ty) (cs : List AT) : List AT := as.map .d ++ cs
def joinTs : (as : List Ty) → (cs : List AT) → Ts as → ATs cs → ATs (closTs as cs)
  | [], _, _, c => c
  | _ :: ts, cs, x, c => (x.1, joinTs ts cs x.2 c)
theorem places_enc : ∀ (t : Ty) (x : t.T) (n : Nat) (rest : List AV), places n (enc t x ++ rest) = (enc t x ++ (places n rest).1, (places n rest).2.1, (places n rest).2.2)
  | .int k, x, n, rest => by simp [enc, places, place]
  | .bool, x, n, rest => by simp [enc, places, place]
  | .str, x, n, rest => by simp [enc, places, place]
  | .list t, x, n, rest => by simp [enc, places, place]
  | .prod a b, x, n, rest => by
    simp only [enc, List.append_assoc]
    rw [places_enc a, places_enc b]
theorem decA_encA : ∀ (t : AT) (x : t.T), decA t (encA t x) = some x
  | .d t, x => decV_enc t x
  | .f as r, x => by simp [encA, decA]
  | .p t, x => by simp [encA, decA]
theorem decAs_encAs : ∀ (as : List AT) (x : ATs as), decAs as (encAs as x) = some x
  | [], _ => rfl
  | t :: ts, x => by
    obtain ⟨a, b⟩ := x
    show (match decA t (encA t a), decAs ts (encAs ts b) with
      | some a, some b => some (a, b)
      | _, _ => none) = some (a, b)
    rw [decA_encA, decAs_encAs ts]
theorem joinTs_sound {cs : List AT} {c : ATs cs} {us : List Value} (hc : VRs P w I ρ (encAs cs c) us) : ∀ (as : List Ty) (x : Ts as) (vs : List Value), DRVs w I as x vs → VRs P w I ρ (encAs (closTs as cs) (joinTs as cs x c)) (vs ++ us)
  | [], x, vs, h => by
    have : vs = [] := h
    subst this
    exact hc
  | t :: ts, x, vs, h => by
    obtain ⟨v, vs', rfl, h1, h2⟩ := h
    exact VRs_cons.2 ⟨v, vs' ++ us, rfl, shut_sound t x.1 v h1, joinTs_sound hc ts x.2 vs' h2⟩
def ccon (as : List Ty) (r : Ty) (cs : List AT) (h : Ts as → ATs cs → r.T) : CCon := fun first cap => match first, decAs cs cap with
  | [], some c => some (.pfn as r fun x => h x c)
  | _, _ => none
theorem csound_add {Γc : Clos} {f : Nat} {as : List Ty} {r : Ty} {cs : List AT} {h : Ts as → ATs cs → r.T} {g : ATs (closTs as cs) → Prop × AV} (hs : PSound P f (pcon (closTs as cs) g)) (hflat : r.flat = true)
    (hg : ∀ x c, (g (joinTs as cs x c)).1 ∧ (g (joinTs as cs x c)).2 = shut r (enc r (h x c))) (hΓ : CSound P Γc) : CSound P ((f, ccon as r cs h) :: Γc) := by
  intro k cc hk
  simp only [get?] at hk
  split at hk
  · rename_i he
    subst he
    injection hk with hk
    subst hk
    intro first cap pf hpf w I ρ v hv
    unfold ccon at hpf
    split at hpf
    · rename_i c hc
      injection hpf with hpf
      subst hpf
      simp only [VR] at hv ⊢
      obtain ⟨vs, us, rfl, hv1, hv2⟩ := hv
      have : vs = [] := by simpa [VRs] using hv1
      subst this
      have hcap := decAs_sound cs cap c us hc hv2
      refine ⟨f, #[], us.toArray, by simp, hs.1, fun w' e xs vals hd => ?_⟩
      have hall : Ext w' (all w') w' (allA (fun _ => True) w') := ⟨Nat.le_refl _, fun b hb => ⟨⟨hb, trivial⟩, rfl⟩⟩
      have hargs := joinTs_sound (VRs.ext (e.trans hall) _ us (fun _ _ => rfl) hcap) as xs vals (DRVs.ext hall as xs vals hd)
      have hcall := hs.2 _ (g (joinTs as cs xs c)).1 (g (joinTs as cs xs c)).2 (by
        unfold pcon
        rw [decAs_encAs]) (hg xs c).1 (fun _ => True) w' ρ _ hargs
      have harr : (#[] ++ vals.toArray ++ us.toArray : Array Value) = (vals ++ us).toArray := by simp
      rw [harr]
      refine hcall.mono ?_
      rintro en w'' ⟨v, rfl, hB, hO⟩
      refine ⟨v, rfl, hB, ?_⟩
      rw [(hg xs c).2] at hO
      have hpl : place 0 (shut r (enc r (h xs c))) = (shut r (enc r (h xs c)), [], 0) := by
        cases r with
        | prod a b =>
          have : ∀ (t : Ty) (x : t.T) (n : Nat), places n (enc t x) = (enc t x, [], n) := fun t x n => by
            have := places_enc t x n []
            simpa [places] using this
          simp only [shut, place, this]
        | _ => rfl
      obtain ⟨ρ', _, hvr, _⟩ := hO 0
      rw [hpl] at hvr
      have := decV_sound (decV_enc r (h xs c)) hvr
      unfold DRV at this ⊢
      split
      · rename_i ha
        rw [if_pos ha] at this
        obtain ⟨us', h1, h2⟩ := this
        exact ⟨us', h1, flat_DR r _ us' hflat h2⟩
      · rename_i ha
        rw [if_neg ha] at this
        exact flat_DR r _ [v] hflat this
    · cases hpf
  · exact hΓ k cc hk
def rdT (S : AState) (t : Nat) (ty : Ty) : Option ty.T := match get? S.tm t with
  | some x => decV ty x
  | none => none
def rdR (S : AState) (l : Nat) (ty : Ty) : Option (List ty.T) := match get? S.hp l with
  | some (.row t xs) => if h : t = ty then some (h ▸ xs) else none
  | some _ => none
  | none => some []
def rdC (S : AState) (l o : Nat) (ty : Ty) : Option ty.T := match get? S.hp l with
  | some (.blk cs) => dec ty ((cs.drop o).take ty.size)
  | some (.mix cs _ _) => dec ty ((cs.drop o).take ty.size)
  | _ => none
end
end Go.E

/-
  EngZ: functions on memory.
-/
namespace Go.E
open Go.RowKit
set_option linter.unusedVariables false
set_option linter.unusedSimpArgs false
mutual
def AV.ren (f : Nat → Nat) : AV → AV
  | .ptr l o => .ptr (f l) o | .pel l t b i o => .pel (f l) t b i o | .sl l => .sl (f l) | .mp l => .mp (f l)
  | .fn g a b => .fn g (AV.rens f a) (AV.rens f b)
  | .agg a => .agg (AV.rens f a) | .tup a => .tup (AV.rens f a)
  | x => x
def AV.rens (f : Nat → Nat) : List AV → List AV
  | [] => [] | x :: r => x.ren f :: AV.rens f r
end
def Chunk.ren (f : Nat → Nat) : Chunk → Chunk
  | .blk cs => .blk (AV.rens f cs) | .mix pre t xs => .mix (AV.rens f pre) t xs | .itr m s q seen => .itr (f m) s q seen | c => c
def finG (P : Program) (rs : List ResultVar) (F : AState) : Ex → AState → Prop
  | .exit _, _ => False
  | _, S => match valsOf P S rs with
    | some (p, xs) => p ∧ leS ⟨[(0, tupOf xs)], S.hp, 1, S.gh⟩ F
    | none => False
def blksOf (H : Heap) (ρ : Nat → Value) (b : Nat) : Prop := ∃ l c, get? H l = some c ∧ blkOf (ρ l) = some b
section
variable {P : Program} {A : Nat → Prop} {w : World} {ρ : Nat → Value} {I : Nat → Prop}
mutual
theorem VR_ren (f : Nat → Nat) : ∀ (x : AV) (v : Value), VR P w I ρ (x.ren f) v ↔ VR P w I (fun l => ρ (f l)) x v
  | .ptr _ _, v => by simp only [AV.ren, VR]
  | .pel _ _ _ _ _, v => by simp only [AV.ren, VR]
  | .sl _, v => by simp only [AV.ren, VR]
  | .mp _, v => by simp only [AV.ren, VR]
  | .fn g a b, v => by simp only [AV.ren, VR, VRs_ren f a, VRs_ren f b]
  | .agg a, v => by simp only [AV.ren, VR, VRs_ren f a]
  | .tup a, v => by simp only [AV.ren, VR, VRs_ren f a]
  | .int _ _, v => by simp only [AV.ren, VR]
  | .bool _, v => by simp only [AV.ren, VR]
  | .str _, v => by simp only [AV.ren, VR]
  | .nilp, v => by simp only [AV.ren, VR]
  | .nils, v => by simp only [AV.ren, VR]
  | .nilm, v => by simp only [AV.ren, VR]
  | .nilf, v => by simp only [AV.ren, VR]
  | .arr _ _, v => by simp only [AV.ren, VR]
  | .own _ _, v => by simp only [AV.ren, VR]
  | .cp _ _ _, v => by simp only [AV.ren, VR]
  | .av _ _, v => by simp only [AV.ren, VR]
  | .pfn _ _ _, v => by simp only [AV.ren, VR]
  | .cond _ _, v => by simp only [AV.ren, VR]
  | .junk, v => by simp only [AV.ren, VR]
theorem VRs_ren (f : Nat → Nat) : ∀ (x : List AV) (v : List Value), VRs P w I ρ (AV.rens f x) v ↔ VRs P w I (fun l => ρ (f l)) x v
  | [], v => by simp only [AV.rens, VRs]
  | x :: r, v => by simp only [AV.rens, VRs, VR_ren f x, VRs_ren f r]
end
theorem rens_length (f : Nat → Nat) : ∀ (x : List AV), (AV.rens f x).length = x.length
  | [] => rfl
  | x :: r => by simp [AV.rens, rens_length f r]
theorem ChunkR_ren (f : Nat → Nat) (c : Chunk) (rv : Value) : ChunkR P w I ρ (c.ren f) rv ↔ ChunkR P w I (fun l => ρ (f l)) c rv := by
  cases c with
  | blk cs => simp only [Chunk.ren, ChunkR, VRs_ren]
  | row t xs => simp only [Chunk.ren, ChunkR]
  | mix pre t xs => simp only [Chunk.ren, ChunkR, VRs_ren, rens_length]
  | map k v es clock => simp only [Chunk.ren, ChunkR]
  | itr m s q seen => simp only [Chunk.ren, ChunkR]
  | dead => simp only [Chunk.ren, ChunkR]
theorem gbody {f : FuncId} {fn : Func} {c : Code} {Γ : Cons} {Γr : RCons} {L : Anns} {rs : List ResultVar} {n : Nat} (hm : P.follows .mixedOrders = true) (hΓ : ∀ g C, get? Γ g = some C → Sound P g C) (hΓr : ∀ g C, getR? Γr g = some C → RSound P g C)
    (hf : P.funcs[f]? = some fn) (hb : fn.body = some c) (hrs : fn.results = rs.toArray) (hn : fn.ntmps = n) {args ex : List AV} {H0 : Heap} {F : AState} (hlen : args.length ≤ n)
    (hvc : vc P Γ Γr L c ⟨startT 0 args, H0, n, args ++ ex⟩ (finG P rs F)) {vs us : List Value} (hH : HeapR P A H0 ρ w) (hv : VRs P w (imm A H0 ρ w) ρ args vs) (hu : VRs P w (imm A H0 ρ w) ρ ex us) :
    Calls P f vs.toArray w fun e w' => ∃ v ρ', e = .returned v ∧ Rep P A w ⟨blksOf H0 ρ, vs ++ us⟩ F ρ' { tmps := #[v], defers := [] } w' := by
  have hvl := hv.length
  refine calls_of_wp hf hb ?_
  have hR : Rep P A w ⟨blksOf H0 ρ, vs ++ us⟩ ⟨startT 0 args, H0, n, args ++ ex⟩ ρ { tmps := vs.toArray ++ Array.replicate (fn.ntmps - vs.toArray.size) undef, defers := [] } w := by
    refine ⟨fun t x ht => ?_, hH, Keep.refl _ _, fun l c hl b hb => .inr ⟨l, c, hl, hb⟩, hv.append hu, rfl, ?_⟩
    · obtain ⟨i, rfl, hi⟩ := startT_get args 0 t x ht
      obtain ⟨u, hu, hx⟩ := hv.at_ hi
      have hg : (vs.toArray ++ Array.replicate (fn.ntmps - vs.toArray.size) undef).getD (0 + i) undef = u := by
        have hlt : i < vs.length := (List.getElem?_eq_some_iff.1 hu).1
        rw [Array.getD_eq_getD_getElem?, Nat.zero_add, Array.getElem?_append_left (by simpa using hlt)]
        simp [hu]
      show TR P w (imm A H0 ρ w) ρ _ x _
      simp only
      rw [hg]
      cases x <;> first | exact hx | (simp only [VR] at hx)
    · show _ = n
      simp [hn]
      omega
  refine wp_mono (vc_sound hm hΓ hΓr c _ _ ρ _ w hvc hR) ?_
  have done : ∀ a' w' S', RepE P A w ⟨blksOf H0 ρ, vs ++ us⟩ S' a' w' → (match valsOf P S' rs with | some (p, xs) => p ∧ leS ⟨[(0, tupOf xs)], S'.hp, 1, S'.gh⟩ F | none => False) →
      a'.defers = [] ∧ ∃ v, (results fn a'.tmps).run P w' = .ok v w' ∧ ∃ v' ρ', Ending.returned v = .returned v' ∧ Rep P A w ⟨blksOf H0 ρ, vs ++ us⟩ F ρ' { tmps := #[v'], defers := [] } w' := by
    rintro a' w' S' ⟨ρ', hR'⟩ hq
    refine ⟨hR'.defers, ?_⟩
    split at hq
    · rename_i p xs hxs
      obtain ⟨v, hrun, hvr⟩ := results_sound hR' hrs hxs hq.1
      refine ⟨v, hrun, v, ?_⟩
      have hR2 : Rep P A w ⟨blksOf H0 ρ, vs ++ us⟩ ⟨[(0, tupOf xs)], S'.hp, 1, S'.gh⟩ ρ' { tmps := #[v], defers := [] } w' := by
        refine ⟨fun t x ht => ?_, hR'.hp, hR'.keep, hR'.mine, hR'.gh, rfl, rfl⟩
        simp only [get?] at ht
        split at ht
        · rename_i he
          subst he
          injection ht with ht
          have hvr2 : VR P w' (imm A S'.hp ρ' w') ρ' x v := by rw [← ht]; exact hvr
          show TR P w' (imm A S'.hp ρ' w') ρ' #[v] x v
          cases x <;> first | exact hvr2 | (simp only [VR] at hvr2)
        · cases ht
      obtain ⟨ρ2, hR3⟩ := leS_sound hR2 hq.2
      exact ⟨ρ2, rfl, hR3⟩
    · exact hq.elim
  intro e a' w' hq
  cases e with
  | normal =>
    obtain ⟨S', hq, hR'⟩ := hq
    exact done a' w' S' hR' hq
  | ret =>
    obtain ⟨S', hq, hR'⟩ := hq
    exact done a' w' S' hR' hq
  | exit id =>
    obtain ⟨S', hq, hR'⟩ := hq
    exact hq.elim
  | goto l => exact hq.elim
  | panic ch => exact hq.elim
  | outgrown => exact hq.elim
end
end Go.E

/-
  EngZa: contracts on memory.
-/
namespace Go.E
open Go.RowKit
set_option linter.unusedVariables false
set_option linter.unusedSimpArgs false
structure GC where
  X : Type
  rd : Heap → List AV → Option X
  args : X → List AV
  hp : X → Heap
  pre : X → Prop
  F : X → AState
  ex : X → List AV := fun _ => []   -- other names that stay (pointers to blocks, maps)
def convA (H : Heap) (Γc : Clos) : AV → AV → AV
  | a, .ptr _ _ => a | a, .sl _ => a | a, .mp _ => a | a, .pel _ _ _ _ _ => a
  | a, _ => closAV H Γc a
def convs (H : Heap) (Γc : Clos) : List AV → List AV → List AV
  | a :: as, f :: fs => convA H Γc a f :: convs H Γc as fs
  | _, _ => []
def plainArgs : List AV → List AV → Bool
  | a :: as, f :: fs => (match f with
    | .ptr _ _ => true | .sl _ => true | .mp _ => true | .pel _ _ _ _ _ => true
    | _ => noref a) && plainArgs as fs
  | _, _ => true
def inRange (σ : Ren) (k : Nat) : Bool := σ.any fun x => decide (x.2 = some k)
def unmatched (σ : Ren) : Heap → Heap
  | [] => []
  | (k, c) :: r => match inRange σ k with
    | true => unmatched σ r
    | false => (k, c) :: unmatched σ r
mutual
def flatR : AV → Bool
  | .arr _ _ => false | .own _ _ => false | .cp _ _ _ => false | .pfn _ _ _ => false
  | .av t _ => t.flat
  | .fn _ a b => flatRs a && flatRs b
  | .agg a => flatRs a | .tup a => flatRs a
  | _ => true
def flatRs : List AV → Bool
  | [] => true | x :: r => flatR x && flatRs r
end
def flatC : Chunk → Bool
  | .blk cs => flatRs cs | .row t _ => t.flat | .mix p t _ => flatRs p && t.flat | .map k v _ _ => k.flat && v.flat | .itr _ _ _ _ => true | .dead => true
def flatF (F : AState) : Bool := F.tm.all (fun x => flatR x.2) && F.hp.all fun x => flatC x.2
def pinP : AV → AV → List Nat
  | .ptr l 0, .ptr l' 0 => if l = l' then [l] else []
  | _, _ => []
def pinE0 : AV → AV → List Nat
  | .sl l, .sl l' => if l = l' then [l] else []
  | .mp l, .mp l' => if l = l' then [l] else []
  | _, _ => []
def pinsOf (p : AV → AV → List Nat) : List AV → List AV → List Nat
  | a :: as, b :: bs => p a b ++ pinsOf p as bs
  | _, _ => []
def pinE : AV → AV → List Nat
  | .sl l, .sl l' => if l = l' then [l] else []
  | .mp l, .mp l' => if l = l' then [l] else []
  | .agg cs, .agg ds => pinsOf pinE0 cs ds
  | _, _ => []
def isBlk (H : Heap) (l : Nat) : Bool := match get? H l with
  | some (.blk _) => true
  | some (.mix _ _ _) => true
  | _ => false
def backR (σ : Ren) (nid l : Nat) : Nat := match get? σ l with
  | some (some k) => k
  | _ => nid + l
def someR (σ : Ren) (l : Nat) : Bool := match get? σ l with
  | some (some _) => true
  | _ => false
def known (H : Heap) (ls : List Nat) : Bool := ls.all fun l => (get? H l).isSome
def closedF (F : AState) : Bool := F.tm.all (fun x => known F.hp x.2.ids) && F.hp.all (fun x => known F.hp x.2.ids)
def gcon (Γc : Clos) (G : GC) : Con := fun nid H aargs => match G.rd H aargs with
  | none => none
  | some x =>
    let σ := renOf ⟨[], H, 0, aargs⟩ ⟨[], G.hp x, 0, G.args x⟩
    let cargs := convs (unmatched σ H) Γc aargs (G.args x)
    let F := G.F x
    let pins := ((pinsOf pinP (G.args x) F.gh).filter fun l => isBlk F.hp l && isBlk (G.hp x) l) ++ ((pinsOf pinE (G.args x) F.gh).filter fun l => (get? F.hp l).isSome)
    let back := backR σ nid
    match get? F.tm 0, injR σ && decide (cargs.length = aargs.length) && closedF F && nodup (F.hp.map fun y => back y.1) && F.hp.all (fun y => someR σ y.1 || (get? H (nid + y.1)).isNone) && (flatF F || plainArgs aargs (G.args x)) with
    | some v, true => some ⟨G.pre x ∧ leAVs σ cargs (G.args x) ∧ leH σ H (G.hp x), v.ren back,
        (F.hp.map fun y => (back y.1, some (y.2.ren back))) ++ σ.filterMap (fun y => match y.2 with
          | some k => if F.hp.any (fun z => back z.1 == k) then none else some (k, none)
          | none => none),
        σ.filterMap fun y => match y.2 with
          | some k => if pins.contains y.1 then none else some k
          | none => none⟩
    | _, _ => none
section
variable {P : Program} {A A1 : Nat → Prop} {w : World} {ρ : Nat → Value} {I I' : Nat → Prop} {σ : Ren}
theorem flatD : ∀ (t : Ty) (x : t.T) (vs : List Value), t.flat = true → DR w I t x vs → DR w I' t x vs := fun t x vs h hd => flat_DR t x vs h hd
theorem flatDV {t : Ty} {x : t.T} {v : Value} (h : t.flat = true) (hd : DRV w I t x v) : DRV w I' t x v := by
  unfold DRV at hd ⊢
  split
  · rename_i ha
    rw [if_pos ha] at hd
    obtain ⟨us, h1, h2⟩ := hd
    exact ⟨us, h1, flat_DR t x us h h2⟩
  · rename_i ha
    rw [if_neg ha] at hd
    exact flat_DR t x [v] h hd
theorem flatRow {t : Ty} {xs : List t.T} {arr : Array Value} {off : Nat} (h : t.flat = true) (hr : RowAt w I t xs arr off) : RowAt w I' t xs arr off := by
  intro i x hx
  obtain ⟨us, h1, h2, h3⟩ := hr i x hx
  exact ⟨us, h1, h2, flat_DR t x us h h3⟩
mutual
theorem flatV : ∀ (x : AV) (v : Value), flatR x = true → VR P w I ρ x v → VR P w I' ρ x v
  | .fn g a b, v, h, hv => by
    simp only [flatR, Bool.and_eq_true] at h
    simp only [VR] at hv ⊢
    obtain ⟨vs, us, h1, h2, h3⟩ := hv
    exact ⟨vs, us, h1, flatVs a vs h.1 h2, flatVs b us h.2 h3⟩
  | .agg a, v, h, hv => by
    simp only [flatR] at h
    simp only [VR] at hv ⊢
    obtain ⟨vs, h1, h2⟩ := hv
    exact ⟨vs, h1, flatVs a vs h h2⟩
  | .tup a, v, h, hv => by
    simp only [flatR] at h
    simp only [VR] at hv ⊢
    obtain ⟨vs, h1, h2⟩ := hv
    exact ⟨vs, h1, flatVs a vs h h2⟩
  | .av t xs, v, h, hv => by
    simp only [flatR] at h
    simp only [VR] at hv ⊢
    obtain ⟨vss, h1, h2, h3⟩ := hv
    exact ⟨vss, h1, h2, fun i x us hx hu => ⟨(h3 i x us hx hu).1, flat_DR t x us h (h3 i x us hx hu).2⟩⟩
  | .arr _ _, v, h, hv => by simp [flatR] at h
  | .own _ _, v, h, hv => by simp [flatR] at h
  | .cp _ _ _, v, h, hv => by simp [flatR] at h
  | .pfn _ _ _, v, h, hv => by simp [flatR] at h
  | .int _ _, v, h, hv => hv
  | .bool _, v, h, hv => hv
  | .str _, v, h, hv => hv
  | .nilp, v, h, hv => hv
  | .nils, v, h, hv => hv
  | .nilm, v, h, hv => hv
  | .nilf, v, h, hv => hv
  | .ptr _ _, v, h, hv => hv
  | .pel _ _ _ _ _, v, h, hv => hv
  | .sl _, v, h, hv => hv
  | .mp _, v, h, hv => hv
  | .cond _ _, v, h, hv => hv
  | .junk, v, h, hv => hv
theorem flatVs : ∀ (x : List AV) (v : List Value), flatRs x = true → VRs P w I ρ x v → VRs P w I' ρ x v
  | [], v, h, hv => hv
  | x :: r, v, h, hv => by
    simp only [flatRs, Bool.and_eq_true] at h
    obtain ⟨u, us, hv1, h1, h2⟩ := VRs_cons.1 hv
    exact VRs_cons.2 ⟨u, us, hv1, flatV x u h.1 h1, flatVs r us h.2 h2⟩
end
theorem flatCh {c : Chunk} {rv : Value} (h : flatC c = true) (hc : ChunkR P w I ρ c rv) : ChunkR P w I' ρ c rv := by
  cases c with
  | blk cs =>
    obtain ⟨b, vs, e, h1, h2, h3⟩ := hc
    exact ⟨b, vs, e, h1, h2, flatVs cs vs h h3⟩
  | row t xs =>
    rcases hc with hc | ⟨b, off, cap, arr, e, h1, h2, h3, h4, h5⟩
    · exact .inl hc
    · exact .inr ⟨b, off, cap, arr, e, h1, h2, h3, h4, flatRow h h5⟩
  | mix pre t xs =>
    simp only [flatC, Bool.and_eq_true] at h
    obtain ⟨b, vs, arr, e, h1, h2, h3, h4, h5, h6⟩ := hc
    exact ⟨b, vs, arr, e, h1, h2, flatVs pre vs h.1 h3, h4, h5, flatRow h.2 h6⟩
  | map k v es clock =>
    simp only [flatC, Bool.and_eq_true] at h
    obtain ⟨b, ents, h1, h2, h3, h4⟩ := hc
    refine ⟨b, ents, h1, h2, h3, fun i x hx => ?_⟩
    obtain ⟨ent, g1, g2, g3, g4⟩ := h4 i x hx
    exact ⟨ent, g1, g2, flatDV h.1 g3, flatDV h.2 g4⟩
  | itr m s q seen => exact hc
  | dead => exact hc
theorem leH_heap {S T : Heap} (hH : HeapR P A S ρ w) (hinj : injR σ = true) (hh : leH σ S T) (hA : ∀ b, imm A S ρ w b → A1 b) (hf : ∀ b, w.heap.size ≤ b → A1 b) (hok : ∀ l k c b, get? σ l = some (some k) → get? S k = some c → blkOf (ρ k) = some b → A1 b) :
    HeapR P A1 T (renρ σ ρ) w ∧ ∀ b, imm A S ρ w b → imm A1 T (renρ σ ρ) w b := by
  have hcase : ∀ l d, get? T l = some d → (∃ k c, get? σ l = some (some k) ∧ get? S k = some c ∧ leC σ c d ∧ renρ σ ρ l = ρ k) ∨ (renρ σ ρ l = .slice none 0 0 ∧ ∃ t, d = .row t []) := by
    intro l d hl
    rcases leH_at hh hl with ⟨k, c, h0, h1, h2⟩ | ⟨h1, h2⟩
    · exact .inl ⟨k, c, h0, h1, h2, by unfold renρ; rw [h0]⟩
    · exact .inr ⟨by unfold renρ; rw [h1], h2⟩
  have hsub : ∀ b, imm A S ρ w b → imm A1 T (renρ σ ρ) w b := by
    intro b hb
    refine ⟨⟨hb.1.1, hA b hb⟩, fun l d hl hbl => ?_⟩
    rcases hcase l d hl with ⟨k, c, h0, h1, h2, h3⟩ | ⟨h1, _⟩
    · rw [h3] at hbl; exact hb.2 k c h1 hbl
    · rw [h1] at hbl; cases hbl
  have hext : Ext w (imm A S ρ w) w (imm A1 T (renρ σ ρ) w) := ⟨Nat.le_refl _, fun b hb => ⟨hsub b hb, rfl⟩⟩
  refine ⟨⟨fun l d hl => ?_, fun l d b hl hb => ?_, hf, fun l c l' c' hl hl' hne b hb hb' => ?_⟩, hsub⟩
  · rcases hcase l d hl with ⟨k, c, h0, h1, h2, h3⟩ | ⟨h1, t, h2⟩
    · rw [h3]
      exact (leC_sound h2 (hH.chunk k c h1)).ext hext (fun _ _ => rfl) (fun _ _ => rfl)
    · rw [h1, h2]
      exact .inl ⟨rfl, rfl⟩
  · rcases hcase l d hl with ⟨k, c, h0, h1, h2, h3⟩ | ⟨h1, _⟩
    · rw [h3] at hb; exact hok l k c b h0 h1 hb
    · rw [h1] at hb; cases hb
  · rcases hcase l c hl with ⟨k1, c1, h0, h1, h2, h3⟩ | ⟨h1, _⟩
    · rcases hcase l' c' hl' with ⟨k2, c2, g0, k1', k2', k3⟩ | ⟨k1', _⟩
      · rw [h3] at hb; rw [k3] at hb'
        refine hH.apart k1 c1 k2 c2 h1 k1' (fun he => ?_) b hb hb'
        subst he
        exact hne (injR_spec hinj h0 g0)
      · rw [k1'] at hb'; cases hb'
    · rw [h1] at hb; cases hb
theorem get?_unmatched (k : Nat) : ∀ (H : Heap), get? (unmatched σ H) k = if inRange σ k = true then none else get? H k
  | [] => by simp [unmatched, get?]
  | (j, c) :: r => by
    have ih := get?_unmatched k r
    unfold unmatched
    cases hj : inRange σ j
    · simp only [get?]
      by_cases he : j = k
      · subst he; simp [hj]
      · simp only [if_neg he]; exact ih
    · simp only [get?]
      by_cases he : j = k
      · subst he; simp [hj, ih]
      · simp only [if_neg he]; exact ih
theorem convs_plain {Γc : Clos} (hΓ : CSound P Γc) {H : Heap} : ∀ (as fs : List AV) (vs : List Value), plainArgs as fs = true → (convs H Γc as fs).length = as.length → VRs P w I ρ as vs → VRs P w I ρ (convs H Γc as fs) vs
  | [], fs, vs, _, _, h => by cases fs <;> exact h
  | a :: as, [], vs, _, hl, _ => by simp [convs] at hl
  | a :: as, f :: fs, vs, h, hl, hv => by
    simp only [plainArgs, Bool.and_eq_true] at h
    obtain ⟨u, us, hv1, h1, h2⟩ := VRs_cons.1 hv
    simp only [convs, List.length_cons, Nat.add_right_cancel_iff] at hl
    refine VRs_cons.2 ⟨u, us, hv1, ?_, convs_plain hΓ as fs us h.2 hl h2⟩
    have h0 := h.1
    unfold convA
    split <;> first | exact h1 | skip
    split at h0 <;> first | (exact closAV_noref hΓ h0 h1) | skip
    all_goals (rename_i h4 h5 h6 h7; first | exact absurd rfl (h4 _ _) | exact absurd rfl (h5 _) | exact absurd rfl (h6 _) | exact absurd rfl (h7 _ _ _ _ _))
theorem convs_all {Γc : Clos} (hΓ : CSound P Γc) {H : Heap} (hH : HeapR P A H ρ w) : ∀ (as fs : List AV) (vs : List Value), (convs H Γc as fs).length = as.length → VRs P w (imm A H ρ w) ρ as vs → VRs P w (allA A w) ρ (convs H Γc as fs) vs
  | [], fs, vs, _, h => by cases fs <;> (simp only [VRs] at h; simp [convs, VRs, h])
  | a :: as, [], vs, h, _ => by simp [convs] at h
  | a :: as, f :: fs, vs, hl, hv => by
    obtain ⟨u, us, hv1, h1, h2⟩ := VRs_cons.1 hv
    simp only [convs, List.length_cons, Nat.add_right_cancel_iff] at hl
    refine VRs_cons.2 ⟨u, us, hv1, ?_, convs_all hΓ hH as fs us hl h2⟩
    unfold convA
    split
    · exact VR.ext (imm_all hH) _ _ (fun _ _ => rfl) h1
    · exact VR.ext (imm_all hH) _ _ (fun _ _ => rfl) h1
    · exact VR.ext (imm_all hH) _ _ (fun _ _ => rfl) h1
    · exact VR.ext (imm_all hH) _ _ (fun _ _ => rfl) h1
    · exact closAV_sound hΓ hH h1
theorem unmatched_heap {H : Heap} (hH : HeapR P A H ρ w) : HeapR P (hide A ⟨[], unmatched σ H, 0, []⟩ ⟨[], H, 0, []⟩ ρ) (unmatched σ H) ρ w ∧ imm (hide A ⟨[], unmatched σ H, 0, []⟩ ⟨[], H, 0, []⟩ ρ) (unmatched σ H) ρ w = imm A H ρ w := by
  have hp : Part ⟨[], unmatched σ H, 0, []⟩ ⟨[], H, 0, []⟩ := ⟨fun t x h => h, fun l c h => by
    simp only [get?_unmatched] at h
    split at h
    · cases h
    · exact h, rfl, rfl⟩
  have hR : Rep P A w ⟨fun _ => True, []⟩ ⟨[], H, 0, []⟩ ρ { tmps := #[], defers := [] } w :=
    ⟨fun t v h => by simp [get?] at h, hH, Keep.refl _ _, fun _ _ _ _ _ => .inr trivial, by simp [VRs], rfl, rfl⟩
  exact ⟨(hR.part hp).hp, imm_hide hp⟩
end
end Go.E

/-
  EngZb: contracts on memory are sound.
-/
namespace Go.E
open Go.RowKit
set_option linter.unusedVariables false
set_option linter.unusedSimpArgs false
section
variable {P : Program} {A A1 : Nat → Prop} {w w' : World} {ρ ρ2 : Nat → Value} {σ : Ren} {S : AState} {F : AState} {nid : Nat}
theorem pinsP_sound {I I' : Nat → Prop} {ρF : Nat → Value} : ∀ (fa gh : List AV) (vs : List Value), VRs P w I ρF fa vs → VRs P w' I' ρ2 gh vs → ∀ l ∈ pinsOf pinP fa gh, ∃ b, blkOf (ρF l) = some b ∧ blkOf (ρ2 l) = some b
  | [], gh, vs, h1, h2, l, hl => by cases gh <;> simp [pinsOf] at hl
  | a :: as, [], vs, h1, h2, l, hl => by simp [pinsOf] at hl
  | a :: as, b :: bs, vs, h1, h2, l, hl => by
    obtain ⟨v, us, rfl, a1, a2⟩ := VRs_cons.1 h1
    obtain ⟨v', us', he, b1, b2⟩ := VRs_cons.1 h2
    injection he with e1 e2
    subst e1; subst e2
    simp only [pinsOf, List.mem_append] at hl
    rcases hl with hl | hl
    · unfold pinP at hl
      split at hl
      · split at hl
        · rename_i he
          subst he
          simp only [List.mem_singleton] at hl
          subst hl
          simp only [VR] at a1 b1
          obtain ⟨c, h3, h4⟩ := a1
          obtain ⟨d, h5, h6⟩ := b1
          rw [h4] at h6
          injection h6 with h6
          injection h6 with h6
          injection h6 with h6
          subst h6
          exact ⟨c, h3, h5⟩
        · cases hl
      · cases hl
    · exact pinsP_sound as bs us a2 b2 l hl
theorem pinsE0_sound {I I' : Nat → Prop} {ρF : Nat → Value} : ∀ (fa gh : List AV) (vs : List Value), VRs P w I ρF fa vs → VRs P w' I' ρ2 gh vs → ∀ l ∈ pinsOf pinE0 fa gh, ρ2 l = ρF l
  | [], gh, vs, h1, h2, l, hl => by cases gh <;> simp [pinsOf] at hl
  | a :: as, [], vs, h1, h2, l, hl => by simp [pinsOf] at hl
  | a :: as, b :: bs, vs, h1, h2, l, hl => by
    obtain ⟨v, us, rfl, a1, a2⟩ := VRs_cons.1 h1
    obtain ⟨v', us', he, b1, b2⟩ := VRs_cons.1 h2
    injection he with e1 e2
    subst e1; subst e2
    simp only [pinsOf, List.mem_append] at hl
    rcases hl with hl | hl
    · unfold pinE0 at hl
      split at hl
      · split at hl
        · rename_i he
          subst he
          simp only [List.mem_singleton] at hl
          subst hl
          simp only [VR] at a1 b1
          exact b1.symm.trans a1
        · cases hl
      · split at hl
        · rename_i he
          subst he
          simp only [List.mem_singleton] at hl
          subst hl
          simp only [VR] at a1 b1
          exact b1.symm.trans a1
        · cases hl
      · cases hl
    · exact pinsE0_sound as bs us a2 b2 l hl
theorem pinsE_sound {I I' : Nat → Prop} {ρF : Nat → Value} : ∀ (fa gh : List AV) (vs : List Value), VRs P w I ρF fa vs → VRs P w' I' ρ2 gh vs → ∀ l ∈ pinsOf pinE fa gh, ρ2 l = ρF l
  | [], gh, vs, h1, h2, l, hl => by cases gh <;> simp [pinsOf] at hl
  | a :: as, [], vs, h1, h2, l, hl => by simp [pinsOf] at hl
  | a :: as, b :: bs, vs, h1, h2, l, hl => by
    obtain ⟨v, us, rfl, a1, a2⟩ := VRs_cons.1 h1
    obtain ⟨v', us', he, b1, b2⟩ := VRs_cons.1 h2
    injection he with e1 e2
    subst e1; subst e2
    simp only [pinsOf, List.mem_append] at hl
    rcases hl with hl | hl
    · unfold pinE at hl
      split at hl
      · split at hl
        · rename_i he
          subst he
          simp only [List.mem_singleton] at hl
          subst hl
          simp only [VR] at a1 b1
          exact b1.symm.trans a1
        · cases hl
      · split at hl
        · rename_i he
          subst he
          simp only [List.mem_singleton] at hl
          subst hl
          simp only [VR] at a1 b1
          exact b1.symm.trans a1
        · cases hl
      · rename_i cs ds
        simp only [VR] at a1 b1
        obtain ⟨xs, e1, a1⟩ := a1
        obtain ⟨ys, e2, b1⟩ := b1
        rw [e1] at e2
        injection e2 with e2
        injection e2 with e2
        subst e2
        exact pinsE0_sound cs ds xs a1 b1 l hl
      · cases hl
    · exact pinsE_sound as bs us a2 b2 l hl
theorem isBlk_ρ {I : Nat → Prop} {H : Heap} {l b : Nat} {ρ : Nat → Value} (h : isBlk H l = true) (hc : ∀ c, get? H l = some c → ChunkR P w I ρ c (ρ l)) (hb : blkOf (ρ l) = some b) : ρ l = .pointer (some ⟨b, 0, none⟩) := by
  unfold isBlk at h
  split at h
  · rename_i cs hg
    obtain ⟨b', vs, e, h1, _⟩ := hc _ hg
    rw [h1] at hb ⊢
    simp only [blkOf, Option.some.injEq] at hb
    subst hb
    rfl
  · rename_i p t xs hg
    obtain ⟨b', vs, arr, e, h1, _⟩ := hc _ hg
    rw [h1] at hb ⊢
    simp only [blkOf, Option.some.injEq] at hb
    subst hb
    rfl
  · cases h
end
end Go.E

/-
  EngZc: a call of a function on memory.
-/
namespace Go.E
open Go.RowKit
set_option linter.unusedVariables false
set_option linter.unusedSimpArgs false
section
variable {P : Program} {A A1 : Nat → Prop} {w w' : World} {ρ ρ2 : Nat → Value} {σ : Ren} {S : AState} {F : AState} {nid : Nat}
theorem nodup_pairs {α : Type} {g : Nat → Nat} : ∀ {H : List (Nat × α)}, nodup (H.map fun y => g y.1) = true → ∀ {x y : Nat × α}, x ∈ H → y ∈ H → g x.1 = g y.1 → x = y
  | [], _, x, y, h, _, _ => by cases h
  | z :: r, hn, x, y, hx, hy, he => by
    simp only [List.map_cons, nodup, Bool.and_eq_true, Bool.not_eq_true'] at hn
    have hno : ∀ u ∈ r, g u.1 ≠ g z.1 := by
      intro u hu h
      have : g z.1 ∈ r.map fun y => g y.1 := List.mem_map.2 ⟨u, hu, h⟩
      have h2 := hn.1
      rw [List.contains_eq_mem] at h2
      simp only [decide_eq_false_iff_not] at h2
      exact h2 this
    rcases List.mem_cons.1 hx with hx1 | hx1
    · rcases List.mem_cons.1 hy with hy1 | hy1
      · rw [hx1, hy1]
      · subst hx1
        exact absurd he.symm (hno y hy1)
    · rcases List.mem_cons.1 hy with hy1 | hy1
      · subst hy1
        exact absurd he (hno x hx1)
      · exact nodup_pairs hn.2 hx1 hy1 he
theorem mem_of_get? {α : Type} {l : Nat} {c : α} : ∀ {H : List (Nat × α)}, get? H l = some c → (l, c) ∈ H
  | [], h => by simp [get?] at h
  | (k, d) :: r, h => by
    simp only [get?] at h
    split at h
    · rename_i he; subst he; injection h with h; subst h; simp
    · simp [mem_of_get? h]
theorem get?_of_mem {α : Type} {g : Nat → Nat} {H : List (Nat × α)} (hn : nodup (H.map fun y => g y.1) = true) {x : Nat × α} (hx : x ∈ H) : get? H x.1 = some x.2 := by
  obtain ⟨y, hy, he⟩ : ∃ y ∈ H, y.1 = x.1 ∧ get? H x.1 = some y.2 := by
    clear hn
    induction H with
    | nil => cases hx
    | cons z r ih =>
      by_cases hz : z.1 = x.1
      · exact ⟨z, by simp, hz, by obtain ⟨k, d⟩ := z; simp only at hz; simp [get?, hz]⟩
      · rcases List.mem_cons.1 hx with rfl | hx
        · exact absurd rfl hz
        · obtain ⟨y, h1, h2, h3⟩ := ih hx
          exact ⟨y, by simp [h1], h2, by obtain ⟨k, d⟩ := z; simp only at hz; simp [get?, hz, h3]⟩
  have := nodup_pairs hn hy hx (by rw [he.1])
  rw [he.2, this]
theorem inRange_of {l k : Nat} (h : get? σ l = some (some k)) : inRange σ k = true := by
  unfold inRange
  exact List.any_eq_true.2 ⟨(l, some k), mem_of_get? h, by simp⟩
theorem g_enter {Γc : Clos} (hΓc : CSound P Γc) {H H0 : Heap} {aargs fargs : List AV} {vs : List Value} (hH : HeapR P A H ρ w) (hv : VRs P w (imm A H ρ w) ρ aargs vs) (hinj : injR σ = true)
    (hlen : (convs (unmatched σ H) Γc aargs fargs).length = aargs.length) (hle : leAVs σ (convs (unmatched σ H) Γc aargs fargs) fargs) (hleH : leH σ H H0) (hfl : (flatF F || plainArgs aargs fargs) = true) :
    ∃ A1 : Nat → Prop, (∀ b, A1 b → A b) ∧ HeapR P A1 H0 (renρ σ ρ) w ∧ VRs P w (imm A1 H0 (renρ σ ρ) w) (renρ σ ρ) fargs vs ∧
      (flatF F = true ∨ ∀ b, A1 b → ∀ k c, inRange σ k = false → get? H k = some c → blkOf (ρ k) ≠ some b) := by
  cases hF : flatF F with
  | true =>
    obtain ⟨h1, h2⟩ := leH_heap (A1 := A) hH hinj hleH (fun b hb => hb.1.2) hH.fresh (fun l k c b _ hk hb => hH.ok k c b hk hb)
    obtain ⟨h3, h4⟩ := unmatched_heap (σ := σ) hH
    have hc := convs_all hΓc h3 aargs fargs vs hlen (by rw [h4]; exact hv)
    refine ⟨A, fun _ h => h, h1, ?_, .inl rfl⟩
    have hext : Ext w (allA (hide A ⟨[], unmatched σ H, 0, []⟩ ⟨[], H, 0, []⟩ ρ) w) w (imm A H0 (renρ σ ρ) w) := by
      refine ⟨Nat.le_refl _, fun b hb => ⟨⟨⟨hb.1, hb.2.1⟩, fun l d hl hbl => ?_⟩, rfl⟩⟩
      rcases leH_at hleH hl with ⟨k, c, g1, g2, _⟩ | ⟨g1, _⟩
      · have : renρ σ ρ l = ρ k := by unfold renρ; rw [g1]
        rw [this] at hbl
        refine hb.2.2 k c ?_ g2 hbl
        show get? (unmatched σ H) k = none
        rw [get?_unmatched, if_pos (inRange_of g1)]
      · have : renρ σ ρ l = .slice none 0 0 := by unfold renρ; rw [g1]
        rw [this] at hbl
        simp [blkOf] at hbl
    exact VRs.ext hext _ _ (fun _ _ => rfl) (leAVs_sound _ _ _ hle hc)
  | false =>
    rw [hF, Bool.false_or] at hfl
    let A1 : Nat → Prop := fun b => A b ∧ ∀ k c, inRange σ k = false → get? H k = some c → blkOf (ρ k) ≠ some b
    obtain ⟨h1, h2⟩ := leH_heap (A1 := A1) hH hinj hleH (fun b hb => ⟨hb.1.2, fun k c _ hk => hb.2 k c hk⟩) (fun b hb => ⟨hH.fresh b hb, fun k c _ hk hbl => by
        have := (hH.chunk k c hk).lt hbl; omega⟩) (fun l k c b hl hk hb => ⟨hH.ok k c b hk hb, fun k' c' hr hk' => hH.apart k c k' c' hk hk' (fun he => by
        subst he; rw [inRange_of hl] at hr; cases hr) b hb⟩)
    refine ⟨A1, fun _ h => h.1, h1, ?_, .inr fun b hb => hb.2⟩
    have hc := convs_plain hΓc (H := unmatched σ H) aargs fargs vs hfl hlen hv
    exact VRs.ext (⟨Nat.le_refl _, fun b hb => ⟨h2 b hb, rfl⟩⟩ : Ext w (imm A H ρ w) w (imm A1 H0 (renρ σ ρ) w)) _ _ (fun _ _ => rfl) (leAVs_sound _ _ _ hle hc)
def updG (σ : Ren) (nid : Nat) (F : AState) : List (Nat × Option Chunk) :=
  (F.hp.map fun y => (backR σ nid y.1, some (y.2.ren (backR σ nid)))) ++ σ.filterMap (fun y => match y.2 with
    | some k => if F.hp.any (fun z => backR σ nid z.1 == k) then none else some (k, none)
    | none => none)
theorem updG_some {l : Nat} {c : Chunk} (hnd : nodup (F.hp.map fun y => backR σ nid y.1) = true) (h : get? F.hp l = some c) : get? (updG σ nid F) (backR σ nid l) = some (some (c.ren (backR σ nid))) := by
  unfold updG
  rw [get?_append]
  have : get? (F.hp.map fun y => (backR σ nid y.1, some (y.2.ren (backR σ nid)))) (backR σ nid l) = some (some (c.ren (backR σ nid))) := by
    have hm := mem_of_get? h
    revert hnd hm
    generalize F.hp = H
    intro hnd hm
    induction H with
    | nil => cases hm
    | cons z r ih =>
      simp only [List.map_cons, get?]
      split
      · rename_i he
        have := nodup_pairs (g := backR σ nid) hnd (x := z) (y := (l, c)) (by simp) hm he
        rw [this]
      · rename_i he
        have hnd2 := hnd
        simp only [List.map_cons, nodup, Bool.and_eq_true] at hnd2
        rcases List.mem_cons.1 hm with h1 | h1
        · subst h1; exact absurd rfl he
        · exact ih hnd2.2 h1
  rw [this]
theorem get?_map_none {g : Nat → Nat} {h : Nat × Chunk → Option Chunk} {m : Nat} : ∀ (H : List (Nat × Chunk)), (∀ y ∈ H, g y.1 ≠ m) → get? (H.map fun y => (g y.1, h y)) m = none
  | [], _ => rfl
  | z :: r, hn => by
    simp only [List.map_cons, get?]
    rw [if_neg (hn z (by simp))]
    exact get?_map_none r fun y hy => hn y (by simp [hy])
theorem updG_cases {m : Nat} {x : Option Chunk} (hnd : nodup (F.hp.map fun y => backR σ nid y.1) = true) (h : get? (updG σ nid F) m = some x) :
    (∃ l c, get? F.hp l = some c ∧ m = backR σ nid l ∧ x = some (c.ren (backR σ nid))) ∨ ((∀ y ∈ F.hp, backR σ nid y.1 ≠ m) ∧ x = none ∧ ∃ l, (l, some m) ∈ σ) := by
  by_cases hex : ∃ y ∈ F.hp, backR σ nid y.1 = m
  · obtain ⟨y, hy, rfl⟩ := hex
    have hg := get?_of_mem hnd hy
    rw [updG_some hnd hg] at h
    injection h with h
    exact .inl ⟨y.1, y.2, hg, rfl, h.symm⟩
  · have hno : ∀ y ∈ F.hp, backR σ nid y.1 ≠ m := fun y hy he => hex ⟨y, hy, he⟩
    refine .inr ⟨hno, ?_⟩
    unfold updG at h
    rw [get?_append, get?_map_none F.hp hno] at h
    have hm := mem_of_get? h
    obtain ⟨y, hy, he⟩ := List.mem_filterMap.1 hm
    obtain ⟨l, z⟩ := y
    cases z with
    | none => simp at he
    | some k =>
      simp only at he
      split at he
      · cases he
      · simp only [Option.some.injEq, Prod.mk.injEq] at he
        obtain ⟨rfl, rfl⟩ := he
        exact ⟨rfl, l, hy⟩
theorem updG_range {l k : Nat} (h : (l, some k) ∈ σ) : (get? (updG σ nid F) k).isSome = true := by
  apply mem_get?
  unfold updG
  rw [List.map_append, List.mem_append]
  by_cases hany : F.hp.any (fun z => backR σ nid z.1 == k) = true
  · obtain ⟨z, hz, he⟩ := List.any_eq_true.1 hany
    exact .inl (List.mem_map.2 ⟨_, List.mem_map.2 ⟨z, hz, rfl⟩, by simpa using he⟩)
  · refine .inr (List.mem_map.2 ⟨(k, none), List.mem_filterMap.2 ⟨(l, some k), h, ?_⟩, rfl⟩)
    simp only
    rw [if_neg hany]
end
end Go.E

/-
  EngZd: behind a call of a function on memory.
-/
namespace Go.E
open Go.RowKit
set_option linter.unusedVariables false
set_option linter.unusedSimpArgs false
def notCond : AV → Bool
  | .cond _ _ => false
  | _ => true
mutual
theorem has_ids : ∀ (x : AV) (l : Nat), x.has l = true → l ∈ x.ids
  | .ptr l' _, l, h => by simp only [AV.has, beq_iff_eq] at h; simp [AV.ids, h]
  | .pel l' _ _ _ _, l, h => by simp only [AV.has, beq_iff_eq] at h; simp [AV.ids, h]
  | .sl l', l, h => by simp only [AV.has, beq_iff_eq] at h; simp [AV.ids, h]
  | .mp l', l, h => by simp only [AV.has, beq_iff_eq] at h; simp [AV.ids, h]
  | .fn _ a b, l, h => by
    simp only [AV.has, Bool.or_eq_true] at h
    simp only [AV.ids, List.mem_append]
    exact h.imp (hass_ids a l) (hass_ids b l)
  | .agg a, l, h => by simp only [AV.has] at h; simp only [AV.ids]; exact hass_ids a l h
  | .tup a, l, h => by simp only [AV.has] at h; simp only [AV.ids]; exact hass_ids a l h
  | .cond _ v, l, h => by simp only [AV.has] at h; simp only [AV.ids]; exact has_ids v l h
  | .int _ _, l, h => by simp [AV.has] at h
  | .bool _, l, h => by simp [AV.has] at h
  | .str _, l, h => by simp [AV.has] at h
  | .nilp, l, h => by simp [AV.has] at h
  | .nils, l, h => by simp [AV.has] at h
  | .nilm, l, h => by simp [AV.has] at h
  | .nilf, l, h => by simp [AV.has] at h
  | .arr _ _, l, h => by simp [AV.has] at h
  | .own _ _, l, h => by simp [AV.has] at h
  | .cp _ _ _, l, h => by simp [AV.has] at h
  | .av _ _, l, h => by simp [AV.has] at h
  | .pfn _ _ _, l, h => by simp [AV.has] at h
  | .junk, l, h => by simp [AV.has] at h
theorem hass_ids : ∀ (x : List AV) (l : Nat), AV.hass l x = true → l ∈ AV.idss x
  | [], l, h => by simp [AV.hass] at h
  | x :: r, l, h => by
    simp only [AV.hass, Bool.or_eq_true] at h
    simp only [AV.idss, List.mem_append]
    exact h.imp (has_ids x l) (hass_ids r l)
end
theorem chas_ids {c : Chunk} {l : Nat} (h : c.has l = true) : l ∈ c.ids := by
  cases c with
  | blk cs => exact hass_ids cs l h
  | row t xs => simp [Chunk.has] at h
  | mix pre t xs => exact hass_ids pre l h
  | map k v es clock => simp [Chunk.has] at h
  | itr m s q seen => simp only [Chunk.has, beq_iff_eq] at h; subst h; simp [Chunk.ids]
  | dead => simp [Chunk.has] at h
section
variable {P : Program} {A A1 : Nat → Prop} {w w' : World} {ρ ρ2 : Nat → Value} {σ : Ren} {S : AState} {F : AState} {nid : Nat}
theorem g_exit {H0 : Heap} {vs : List Value} {v : Value} {v0 : AV} {K : List Nat} {obl : Prop} (hH : HeapR P A S.hp ρ w) (hleH : leH σ S.hp H0) (hA1 : ∀ b, A1 b → A b)
    (htr : flatF F = true ∨ ∀ b, A1 b → ∀ k c, inRange σ k = false → get? S.hp k = some c → blkOf (ρ k) ≠ some b) (hcl : closedF F = true) (hnd : nodup (F.hp.map fun y => backR σ nid y.1) = true)
    (hnew : F.hp.all (fun y => someR σ y.1 || (get? S.hp (nid + y.1)).isNone) = true) (hids : newIds S (updG σ nid F) = true) (hv0 : get? F.tm 0 = some v0) (hvc : notCond v0 = true)
    (hpin : ∀ l k c, get? F.hp l = some c → get? σ l = some (some k) → k ∉ K → ρ2 l = ρ k) (hK : ∀ l k, (l, some k) ∈ σ → k ∈ K ∨ ∃ c, get? F.hp l = some c ∧ get? σ l = some (some k))
    (hR2 : Rep P A1 w ⟨blksOf H0 (renρ σ ρ), vs⟩ F ρ2 { tmps := #[v], defers := [] } w') : OutOk P A S ρ w ⟨obl, v0.ren (backR σ nid), updG σ nid F, K⟩ v w' := by
  let ρ' : Nat → Value := fun m => match F.hp.find? (fun z => backR σ nid z.1 == m) with
    | some z => ρ2 z.1
    | none => ρ m
  have hρ1 : ∀ l c, get? F.hp l = some c → ρ' (backR σ nid l) = ρ2 l := by
    intro l c hl
    have hm := mem_of_get? hl
    show (match F.hp.find? (fun z => backR σ nid z.1 == backR σ nid l) with | some z => ρ2 z.1 | none => ρ (backR σ nid l)) = ρ2 l
    cases hf : F.hp.find? (fun z => backR σ nid z.1 == backR σ nid l) with
    | none =>
      have := List.find?_eq_none.1 hf _ hm
      simp at this
    | some z =>
      have h1 := List.mem_of_find?_eq_some hf
      have h2 := List.find?_some hf
      have := nodup_pairs hnd h1 hm (by simpa using h2)
      rw [this]
  have hρ2 : ∀ m, (∀ y ∈ F.hp, backR σ nid y.1 ≠ m) → ρ' m = ρ m := by
    intro m hm
    show (match F.hp.find? (fun z => backR σ nid z.1 == m) with | some z => ρ2 z.1 | none => ρ m) = ρ m
    have : F.hp.find? (fun z => backR σ nid z.1 == m) = none := List.find?_eq_none.2 fun y hy => by simpa using hm y hy
    rw [this]
  have hget : ∀ m, get? (applyUpd (updG σ nid F) (killH K S.hp)) m = match get? (updG σ nid F) m with
      | some x => x
      | none => (get? S.hp m).map (Chunk.kill K) := by
    intro m
    rw [get?_applyUpd, get?_killH]
    cases get? (updG σ nid F) m <;> rfl
  have himgU : ∀ y ∈ F.hp, (get? (updG σ nid F) (backR σ nid y.1)).isSome = true := by
    intro y hy
    rw [updG_some hnd (get?_of_mem hnd hy)]
    rfl
  have hUs : ∀ m, m ∈ (updG σ nid F).map (·.1) → (get? (updG σ nid F) m).isSome = true := fun m hm => mem_get? hm
  have hUn : ∀ m, m ∉ (updG σ nid F).map (·.1) → get? (updG σ nid F) m = none := by
    intro m hm
    cases hg : get? (updG σ nid F) m with
    | none => rfl
    | some x => exact absurd (List.mem_map.2 ⟨_, mem_of_get? hg, rfl⟩) hm
  have hUof : ∀ m, (get? (updG σ nid F) m).isSome = true → m ∈ (updG σ nid F).map (·.1) := by
    intro m hm
    obtain ⟨x, hx, he⟩ := get?_mem hm
    exact List.mem_map.2 ⟨x, hx, he⟩
  -- a chunk behind, of those that changed
  have hchunk : ∀ m c, m ∈ (updG σ nid F).map (·.1) → get? (applyUpd (updG σ nid F) (killH K S.hp)) m = some c → ∃ l d, get? F.hp l = some d ∧ m = backR σ nid l ∧ c = d.ren (backR σ nid) := by
    intro m c hm hc
    rw [hget] at hc
    have hs := hUs m hm
    cases hg : get? (updG σ nid F) m with
    | none => rw [hg] at hs; cases hs
    | some x =>
      rw [hg] at hc
      simp only at hc
      rcases updG_cases hnd hg with ⟨l, d, h1, h2, h3⟩ | ⟨_, h2, _⟩
      · rw [hc] at h3
        injection h3 with h3
        exact ⟨l, d, h1, h2, h3⟩
      · rw [hc] at h2; cases h2
  have hback : ∀ l k, get? σ l = some (some k) → backR σ nid l = k := by
    intro l k h
    unfold backR
    rw [h]
  have himm : (∀ b, A1 b → ∀ k c, inRange σ k = false → get? S.hp k = some c → blkOf (ρ k) ≠ some b) → ∀ b, imm A1 F.hp ρ2 w' b → imm A (applyUpd (updG σ nid F) (killH K S.hp)) ρ' w' b := by
    intro hn b hb
    refine ⟨⟨hb.1.1, hA1 b hb.1.2⟩, fun m c hm hbl => ?_⟩
    by_cases hu : m ∈ (updG σ nid F).map (·.1)
    · obtain ⟨l, d, h1, rfl, _⟩ := hchunk m c hu hm
      rw [hρ1 l d h1] at hbl
      exact hb.2 l d h1 hbl
    · rw [hget, hUn m hu] at hm
      obtain ⟨c0, h0, _⟩ := Option.map_eq_some_iff.1 hm
      rw [hρ2 m fun y hy he => hu (he ▸ hUof _ (himgU y hy))] at hbl
      refine hn b hb.1.2 m c0 ?_ h0 hbl
      cases hr : inRange σ m with
      | false => rfl
      | true =>
        unfold inRange at hr
        obtain ⟨y, hy, he⟩ := List.any_eq_true.1 hr
        obtain ⟨l, z⟩ := y
        simp only [decide_eq_true_eq] at he
        subst he
        exact absurd (hUof _ (updG_range hy)) hu
  unfold closedF at hcl
  simp only [Bool.and_eq_true] at hcl
  have hkn : ∀ (ls : List Nat), known F.hp ls = true → ∀ l ∈ ls, ρ' (backR σ nid l) = ρ2 l := by
    intro ls h l hl
    have := List.all_eq_true.1 h l hl
    obtain ⟨c, hc⟩ := Option.isSome_iff_exists.1 this
    exact hρ1 l c hc
  refine ⟨ρ', (updG σ nid F).map (·.1), ⟨fun m hm => by rw [hget, hUn m hm], fun m hm => hρ2 m fun y hy he => hm (he ▸ hUof _ (himgU y hy)), fun m hm => ?_, hR2.keep.os, hR2.keep.tape, hR2.keep.output, hR2.keep.size, fun b hb hn => ?_, fun m c b hm hc hb => ?_, fun m c m' c' hm hm' hc hc' hne b hb hb' => ?_⟩, fun m c hm hc => ?_, ?_, hUs⟩
  · have hs := hUs m hm
    cases hg : get? (updG σ nid F) m with
    | none => rw [hg] at hs; cases hs
    | some x =>
      rcases updG_cases hnd hg with ⟨l, d, h1, rfl, _⟩ | ⟨hno, _, l, hl⟩
      · cases hsr : someR σ l with
        | true =>
          unfold someR at hsr
          split at hsr
          · rename_i k hk
            rw [hback l k hk]
            by_cases hkK : k ∈ K
            · exact .inl hkK
            · refine .inr (.inr ?_)
              have := hρ1 l d h1
              rw [hback l k hk] at this
              rw [this, hpin l k d h1 hk hkK]
          · cases hsr
        | false =>
          have h2 := List.all_eq_true.1 hnew _ (mem_of_get? h1)
          simp only [hsr, Bool.false_or] at h2
          have hb : backR σ nid l = nid + l := by
            unfold someR at hsr
            unfold backR
            cases hgl : get? σ l with
            | none => rfl
            | some z =>
              cases z with
              | none => rfl
              | some k => rw [hgl] at hsr; cases hsr
          obtain ⟨y, hy, he⟩ := get?_mem hs
          have h3 := List.all_eq_true.1 hids y hy
          simp only [Bool.or_eq_true] at h3
          rw [he, hb] at h3
          rcases h3 with h3 | h3
          · rw [Option.isNone_iff_eq_none.1 h2] at h3; cases h3
          · exact .inr (.inl (by rw [hb]; exact h3))
      · rcases hK l m hl with h | ⟨c, h1, h2⟩
        · exact .inl h
        · exact absurd (hback l m h2) (hno (l, c) (mem_of_get? h1))
  · refine hR2.keep.blk b hb ?_
    rintro ⟨l, d, hl, hbl⟩
    rcases leH_at hleH hl with ⟨k, c, g1, g2, _⟩ | ⟨g1, _⟩
    · have : renρ σ ρ l = ρ k := by unfold renρ; rw [g1]
      rw [this] at hbl
      exact hn k c (hUof _ (updG_range (mem_of_get? g1))) g2 hbl
    · have : renρ σ ρ l = .slice none 0 0 := by unfold renρ; rw [g1]
      rw [this] at hbl
      simp [blkOf] at hbl
  · obtain ⟨l, d, h1, rfl, _⟩ := hchunk m c hm hc
    rw [hρ1 l d h1] at hb
    rcases hR2.mine l d h1 b hb with h | ⟨l0, d0, hl0, hbl⟩
    · exact .inl h
    · rcases leH_at hleH hl0 with ⟨k, c0, g1, g2, _⟩ | ⟨g1, _⟩
      · have : renρ σ ρ l0 = ρ k := by unfold renρ; rw [g1]
        rw [this] at hbl
        exact .inr ⟨k, c0, hUof _ (updG_range (mem_of_get? g1)), g2, hbl⟩
      · have : renρ σ ρ l0 = .slice none 0 0 := by unfold renρ; rw [g1]
        rw [this] at hbl
        simp [blkOf] at hbl
  · obtain ⟨l, d, h1, rfl, _⟩ := hchunk m c hm hc
    obtain ⟨l', d', h1', rfl, _⟩ := hchunk m' c' hm' hc'
    rw [hρ1 l d h1] at hb
    rw [hρ1 l' d' h1'] at hb'
    exact hR2.hp.apart l d l' d' h1 h1' (fun he => hne (by rw [he])) b hb hb'
  · obtain ⟨l, d, h1, rfl, rfl⟩ := hchunk m c hm hc
    rw [hρ1 l d h1, ChunkR_ren]
    have hc0 := hR2.hp.chunk l d h1
    have hk := List.all_eq_true.1 hcl.2 _ (mem_of_get? h1)
    rcases htr with hf | hn
    · unfold flatF at hf
      simp only [Bool.and_eq_true] at hf
      have hfc := List.all_eq_true.1 hf.2 _ (mem_of_get? h1)
      exact (flatCh hfc hc0).ext (Ext.refl _ _) (fun j hj => hkn _ hk j (chas_ids hj)) (fun _ _ => rfl)
    · exact hc0.ext ⟨Nat.le_refl _, fun b hb => ⟨himm hn b hb, rfl⟩⟩ (fun j hj => hkn _ hk j (chas_ids hj)) (fun _ _ => rfl)
  · rw [VR_ren]
    have ht := hR2.tm 0 v0 hv0
    have hvr : VR P w' (imm A1 F.hp ρ2 w') ρ2 v0 v := by
      cases v0 <;> first | exact ht | cases hvc
    have hk := List.all_eq_true.1 hcl.1 _ (mem_of_get? hv0)
    rcases htr with hf | hn
    · unfold flatF at hf
      simp only [Bool.and_eq_true] at hf
      have hfv := List.all_eq_true.1 hf.1 _ (mem_of_get? hv0)
      exact VR.ext (Ext.refl _ _) v0 v (fun j hj => hkn _ hk j (has_ids v0 j hj)) (flatV v0 v hfv hvr)
    · exact VR.ext ⟨Nat.le_refl _, fun b hb => ⟨himm hn b hb, rfl⟩⟩ v0 v (fun j hj => hkn _ hk j (has_ids v0 j hj)) hvr
end
end Go.E

/-
  EngZe: contracts on memory.
-/
namespace Go.E
open Go.RowKit
set_option linter.unusedVariables false
set_option linter.unusedSimpArgs false
def killG (σ : Ren) (pins : List Nat) : List Nat := σ.filterMap fun y => match y.2 with
  | some k => if pins.contains y.1 then none else some k
  | none => none
def pinsG (fargs : List AV) (H0 : Heap) (F : AState) : List Nat := ((pinsOf pinP fargs F.gh).filter fun l => isBlk F.hp l && isBlk H0 l) ++ ((pinsOf pinE fargs F.gh).filter fun l => (get? F.hp l).isSome)
def okG (σ : Ren) (nid : Nat) (H : Heap) (aargs cargs fargs : List AV) (F : AState) (v : AV) : Bool :=
  injR σ && decide (cargs.length = aargs.length) && closedF F && nodup (F.hp.map fun y => backR σ nid y.1) && F.hp.all (fun y => someR σ y.1 || (get? H (nid + y.1)).isNone) && (flatF F || plainArgs aargs fargs) && notCond v && nodup (σ.map fun y => y.1)
def exOk (H : Heap) (ex : List AV) : Bool := ex.all fun x => match x with
  | .ptr l 0 => isBlk H l
  | .mp l => match get? H l with
    | some (.map _ _ _ _) => true
    | _ => false
  | _ => false
theorem exOk_vals {P : Program} {A : Nat → Prop} {H : Heap} {w : World} {ρ : Nat → Value} (hH : HeapR P A H ρ w) : ∀ (ex : List AV), exOk H ex = true → ∃ us, VRs P w (imm A H ρ w) ρ ex us
  | [], _ => ⟨[], by simp [VRs]⟩
  | x :: r, h => by
    simp only [exOk, List.all_cons, Bool.and_eq_true] at h
    obtain ⟨us, hus⟩ := exOk_vals hH r (by simpa [exOk] using h.2)
    have h1 := h.1
    split at h1
    · rename_i l
      unfold isBlk at h1
      split at h1
      · rename_i cs hc
        obtain ⟨b, vs, e, hrv, _⟩ := hH.chunk _ _ hc
        exact ⟨_, VRs_cons.2 ⟨.pointer (some ⟨b, 0, none⟩), us, rfl, by simp only [VR]; exact ⟨b, by rw [hrv]; rfl, rfl⟩, hus⟩⟩
      · rename_i p t xs hc
        obtain ⟨b, vs, arr, e, hrv, _⟩ := hH.chunk _ _ hc
        exact ⟨_, VRs_cons.2 ⟨.pointer (some ⟨b, 0, none⟩), us, rfl, by simp only [VR]; exact ⟨b, by rw [hrv]; rfl, rfl⟩, hus⟩⟩
      · cases h1
    · rename_i l
      exact ⟨_, VRs_cons.2 ⟨ρ l, us, rfl, by simp [VR], hus⟩⟩
    · cases h1
def gCon (Γc : Clos) (G : GC) : Con := fun nid H aargs => match G.rd H aargs with
  | none => none
  | some x => match get? (G.F x).tm 0 with
    | none => none
    | some v =>
      let σ := renOf ⟨[], H, 0, aargs⟩ ⟨[], G.hp x, 0, G.args x⟩
      let cargs := convs (unmatched σ H) Γc aargs (G.args x)
      match okG σ nid H aargs cargs (G.args x) (G.F x) v with
      | true => some ⟨G.pre x ∧ leAVs σ cargs (G.args x) ∧ leH σ H (G.hp x), v.ren (backR σ nid), updG σ nid (G.F x), killG σ (pinsG (G.args x ++ G.ex x) (G.hp x) (G.F x))⟩
      | false => none
theorem mem_pinsP {l : Nat} : True := trivial
theorem gsound {P : Program} {f : FuncId} {G : GC} {Γc : Clos} (hE : Enters P f) (hΓc : CSound P Γc) (hex : ∀ x, exOk (G.hp x) (G.ex x) = true)
    (hbody : ∀ x, G.pre x → ∀ (A : Nat → Prop) (w : World) (ρ : Nat → Value) (vs us : List Value), HeapR P A (G.hp x) ρ w → VRs P w (imm A (G.hp x) ρ w) ρ (G.args x) vs → VRs P w (imm A (G.hp x) ρ w) ρ (G.ex x) us →
      Calls P f vs.toArray w fun e w' => ∃ v ρ', e = .returned v ∧ Rep P A w ⟨blksOf (G.hp x) ρ, vs ++ us⟩ (G.F x) ρ' { tmps := #[v], defers := [] } w') : Sound P f (gCon Γc G) := by
  refine ⟨hE, fun nid S aargs r hC ho hids A w ρ vs hH hv => ?_⟩
  unfold gCon at hC
  split at hC
  · cases hC
  rename_i x hx
  split at hC
  · cases hC
  rename_i v0 hv0
  simp only at hC
  generalize renOf ⟨[], S.hp, 0, aargs⟩ ⟨[], G.hp x, 0, G.args x⟩ = σ at hC
  split at hC
  case h_2 => cases hC
  rename_i hok
  injection hC with hC
  subst hC
  unfold okG at hok
  simp only [Bool.and_eq_true, decide_eq_true_eq] at hok
  obtain ⟨⟨⟨⟨⟨⟨⟨hinj, hlen⟩, hclosed⟩, hnd⟩, hnew⟩, hflat⟩, hvc⟩, hkeys⟩ := hok
  obtain ⟨hpre, hle, hleH⟩ := ho
  obtain ⟨A1, hA1, hH1, hv1, htr⟩ := g_enter hΓc hH hv hinj hlen hle hleH hflat
  obtain ⟨us, hu1⟩ := exOk_vals hH1 _ (hex x)
  refine (hbody x hpre A1 w _ vs us hH1 hv1 hu1).mono ?_
  rintro e w' ⟨v, ρ2, rfl, hR2⟩
  refine ⟨v, rfl, g_exit hH hleH hA1 htr hclosed hnd hnew hids hv0 hvc ?_ ?_ hR2⟩
  · intro l k c hl hk hnK
    have hpin : l ∈ pinsG (G.args x ++ G.ex x) (G.hp x) (G.F x) := by
      by_cases hp : l ∈ pinsG (G.args x ++ G.ex x) (G.hp x) (G.F x)
      · exact hp
      · refine absurd (List.mem_filterMap.2 ⟨(l, some k), mem_of_get? hk, ?_⟩) hnK
        simp only
        rw [if_neg (by simpa using hp)]
    have hρF : renρ σ ρ l = ρ k := by unfold renρ; rw [hk]
    unfold pinsG at hpin
    rcases List.mem_append.1 hpin with hp | hp
    · obtain ⟨h1, h2⟩ := List.mem_filter.1 hp
      simp only [Bool.and_eq_true] at h2
      obtain ⟨b, h3, h4⟩ := pinsP_sound _ _ (vs ++ us) (hv1.append hu1) hR2.gh l h1
      have e1 := isBlk_ρ h2.1 (fun c hc => hR2.hp.chunk l c hc) h4
      have e2 := isBlk_ρ h2.2 (fun c hc => hH1.chunk l c hc) h3
      rw [e1, ← hρF, e2]
    · obtain ⟨h1, h2⟩ := List.mem_filter.1 hp
      rw [pinsE_sound _ _ (vs ++ us) (hv1.append hu1) hR2.gh l h1, hρF]
  · intro l k hlk
    by_cases hp : l ∈ pinsG (G.args x ++ G.ex x) (G.hp x) (G.F x)
    · right
      have hg : get? σ l = some (some k) := get?_of_mem (g := fun y => y) hkeys hlk
      unfold pinsG at hp
      rcases List.mem_append.1 hp with hp | hp
      · obtain ⟨h1, h2⟩ := List.mem_filter.1 hp
        simp only [Bool.and_eq_true] at h2
        have h3 := h2.1
        unfold isBlk at h3
        split at h3
        · rename_i cs hc; exact ⟨_, hc, hg⟩
        · rename_i p t xs hc; exact ⟨_, hc, hg⟩
        · cases h3
      · obtain ⟨h1, h2⟩ := List.mem_filter.1 hp
        obtain ⟨c, hc⟩ := Option.isSome_iff_exists.1 h2
        exact ⟨c, hc, hg⟩
    · left
      refine List.mem_filterMap.2 ⟨(l, some k), hlk, ?_⟩
      simp only
      rw [if_neg (by simpa using hp)]
end Go.E

/-
  EngZf: contracts on memory, from the body's condition.
-/
namespace Go.E
open Go.RowKit
set_option linter.unusedVariables false
theorem gsoundT {P : Program} {f : FuncId} {fn : Func} {Γ : Cons} {Γr : RCons} {Γc : Clos} {G : GC} {rs : List ResultVar} {n : Nat} (L : G.X → Anns) (hm : P.follows .mixedOrders = true) (hΓ : ∀ g C, get? Γ g = some C → Sound P g C) (hΓr : ∀ g C, getR? Γr g = some C → RSound P g C)
    (hΓc : CSound P Γc) (hE : Enters P f) (hf : P.funcs[f]? = some fn) (hb : fn.body.isSome = true) (hrs : fn.results = rs.toArray) (hn : fn.ntmps = n) (hlen : ∀ x, (G.args x).length ≤ n) (hex : ∀ x, exOk (G.hp x) (G.ex x) = true)
    (h : ∀ x, G.pre x → vc P Γ Γr (L x) (fn.body.getD .skip) ⟨startT 0 (G.args x), G.hp x, n, G.args x ++ G.ex x⟩ (finG P rs (G.F x))) : Sound P f (gCon Γc G) := by
  refine gsound hE hΓc hex fun x hx A w ρ vs us hH hv hu => ?_
  obtain ⟨c, hc⟩ := Option.isSome_iff_exists.1 hb
  have := h x hx
  rw [hc] at this
  exact gbody (L := L x) hm hΓ hΓr hf hc hrs hn (hlen x) this hH hv hu
end Go.E

/-
  EngZg: what a loop changes, by places.
-/
namespace Go.E
open Go.RowKit
set_option linter.unusedVariables false
inductive Pl : Type 1 where
  | slot (t : Nat) (ty : Ty) | own (t : Nat) (ty : Ty) | row (l : Nat) (ty : Ty) | cell (l o : Nat) (ty : Ty) | cown (l o : Nat) (ty : Ty) | map (l : Nat) (k v : Ty) | itr (l : Nat)
  | obj (X : Type) (r : AState → Option X) (p : AState → X → AState)   -- anything that can be read and put
@[reducible] def Pl.T : Pl → Type
  | .slot _ t => t.T | .own _ t => List t.T | .row _ t => List t.T | .cell _ _ t => t.T | .cown _ _ t => List t.T | .map _ k v => List (Nat × k.T × v.T) × Nat | .itr _ => Nat × List Nat | .obj X _ _ => X
@[reducible] def PTs : List Pl → Type
  | [] => Unit | p :: ps => p.T × PTs ps
def rowAt (S : AState) (l : Nat) (ty : Ty) : Option (List ty.T) := match get? S.hp l with
  | some (.row t xs) => if h : t = ty then some (h ▸ xs) else none
  | _ => none
def slAt (S : AState) (ty : Ty) : Option AV → Option (List ty.T)
  | some (.sl l) => rowAt S l ty
  | some .nils => some []
  | _ => none
def cellAt (S : AState) (l o : Nat) : Option AV := match get? S.hp l with
  | some (.blk cs) => cs[o]?
  | some (.mix cs _ _) => cs[o]?
  | _ => none
def Pl.rd (S : AState) : (p : Pl) → Option p.T
  | .slot t ty => match get? S.tm t with
    | some x => decV ty x
    | none => none
  | .own t ty => slAt S ty (get? S.tm t)
  | .row l ty => match get? S.hp l with
    | some (.row t xs) => if h : t = ty then some (h ▸ xs) else none
    | some (.mix _ t xs) => if h : t = ty then some (h ▸ xs) else none
    | _ => none
  | .cell l o ty => match get? S.hp l with
    | some (.blk cs) => dec ty ((cs.drop o).take ty.size)
    | some (.mix cs _ _) => dec ty ((cs.drop o).take ty.size)
    | _ => none
  | .cown l o ty => slAt S ty (cellAt S l o)
  | .map l k v => match get? S.hp l with
    | some (.map k' v' es c) => if h : k' = k ∧ v' = v then some (h.1 ▸ h.2 ▸ es, c) else none
    | _ => none
  | .itr l => match get? S.hp l with
    | some (.itr _ _ last seen) => some (last, seen)
    | _ => none
  | .obj X r p => r S
def setAt (S : AState) (l o : Nat) (x : List AV) : AState := match get? S.hp l with
  | some (.blk cs) => { S with hp := set S.hp l (.blk (setCells cs o x)) }
  | some (.mix cs t xs) => { S with hp := set S.hp l (.mix (setCells cs o x) t xs) }
  | _ => S
def Pl.put (S : AState) : (p : Pl) → p.T → AState
  | .slot t ty, x => { S with tm := set S.tm t (shut ty (enc ty x)) }
  | .own t ty, x => match get? S.tm t with
    | some (.sl l) => { S with hp := set S.hp l (.row ty x) }
    | _ => { S with tm := set S.tm t (.sl (1000000000 + t)), hp := set S.hp (1000000000 + t) (.row ty x) }
  | .row l ty, x => match get? S.hp l with
    | some (.mix cs _ _) => { S with hp := set S.hp l (.mix cs ty x) }
    | _ => { S with hp := set S.hp l (.row ty x) }
  | .cell l o ty, x => setAt S l o (enc ty x)
  | .cown l o ty, x => match cellAt S l o with
    | some (.sl k) => { S with hp := set S.hp k (.row ty x) }
    | _ => let S' := setAt S l o [.sl (2000000000 + 10000 * l + o)]; { S' with hp := set S'.hp (2000000000 + 10000 * l + o) (.row ty x) }
  | .map l k v, x => { S with hp := set S.hp l (.map k v x.1 x.2) }
  | .itr l, x => match get? S.hp l with
    | some (.itr m since _ _) => { S with hp := set S.hp l (.itr m since x.1 x.2) }
    | _ => S
  | .obj X r p, x => p S x
def rdPs (S : AState) : (ps : List Pl) → Option (PTs ps)
  | [] => some ()
  | p :: ps => match p.rd S, rdPs S ps with
    | some x, some r => some (x, r)
    | _, _ => none
def putPs : (ps : List Pl) → AState → PTs ps → AState
  | [], S, _ => S
  | p :: ps, S, x => putPs ps (p.put S x.1) x.2
def dstsO : List Oper → List Nat
  | [] => []
  | o :: r => match o.dst with
    | some d => d :: dstsO r
    | none => dstsO r
def dsts : Code → List Nat
  | .region _ ops _ => dstsO ops.toList
  | .seq a b => dsts a ++ dsts b
  | .cond _ a b => dsts a ++ dsts b
  | .block _ c => dsts c
  | .loop c => dsts c
  | .scope c => dsts c
  | _ => []
def Pl.slots : List Pl → List Nat
  | [] => []
  | .slot t _ :: r => t :: Pl.slots r
  | .own t _ :: r => t :: Pl.slots r
  | _ :: r => Pl.slots r
def delT (ds keep : List Nat) : Temps → Temps
  | [] => []
  | (t, x) :: r => match x with
    | .cond _ _ => delT ds keep r
    | x => if ds.contains t && !keep.contains t then delT ds keep r else (t, x) :: delT ds keep r
def delH (ds : List Nat) : Heap → Heap
  | [] => []
  | (l, c) :: r => if ds.contains l || (1000 ≤ l && ds.contains (l / 1000 - 1)) then delH ds r else (l, c) :: delH ds r
def stP (ps : List Pl) (c : Code) (S : AState) (x : PTs ps) : AState := putPs ps { S with tm := delT (dsts c) (Pl.slots ps) S.tm, hp := delH (dsts c) S.hp } x
def annP (ps : List Pl) (inv : PTs ps → PTs ps → Prop) (μ : PTs ps → Nat) : Ann := ⟨PTs ps, fun S => rdPs S ps, stP ps, inv, μ⟩
def orCon (C D : Con) : Con := fun nid H args => match C nid H args with
  | some r => some r
  | none => D nid H args
theorem sound_or {P : Program} {f : FuncId} {C D : Con} (h : Sound P f C) (k : Sound P f D) : Sound P f (orCon C D) := by
  refine ⟨h.1, fun nid S args r hr => ?_⟩
  unfold orCon at hr
  split at hr
  · rename_i r' hr'
    injection hr with hr; subst hr
    exact h.2 nid S args r' hr'
  · exact k.2 nid S args r hr
end Go.E

/-
  EngZh: tables of contracts.
-/
namespace Go.E
open Go.RowKit
set_option linter.unusedVariables false
abbrev KCon := Clos → Con
abbrev KCons := List (Nat × KCon)
def tab (K : KCons) (Γc : Clos) : Cons := K.map fun x => (x.1, x.2 Γc)
def KSound (P : Program) (f : FuncId) (k : KCon) : Prop := ∀ Γc, CSound P Γc → Sound P f (k Γc)
def KS (P : Program) (K : KCons) : Prop := ∀ f k, (f, k) ∈ K → KSound P f k
def CS (P : Program) (Γ : Cons) : Prop := ∀ g C, get? Γ g = some C → Sound P g C
def RS (P : Program) (Γr : RCons) : Prop := ∀ g C, getR? Γr g = some C → RSound P g C
section
variable {P : Program}
theorem ks_nil : KS P [] := fun f k h => by cases h
theorem ks_add {f : Nat} {k : KCon} {K : KCons} (h : KSound P f k) (hK : KS P K) : KS P ((f, k) :: K) := by
  intro g l hm
  rcases List.mem_cons.1 hm with he | hm
  · injection he with h1 h2
    subst h1
    subst h2
    exact h
  · exact hK g l hm
theorem tab_sound {K : KCons} {Γc : Clos} (hK : KS P K) (hc : CSound P Γc) : CS P (tab K Γc) := by
  intro g C h
  have : (g, C) ∈ tab K Γc := by
    revert h
    generalize tab K Γc = Γ
    induction Γ with
    | nil => intro h; cases h
    | cons x r ih =>
      obtain ⟨k, v⟩ := x
      intro h
      simp only [get?] at h
      split at h
      · rename_i he
        subst he
        injection h with h
        subst h
        exact List.mem_cons_self ..
      · exact List.mem_cons_of_mem _ (ih h)
  obtain ⟨x, hx, he⟩ := List.mem_map.1 this
  injection he with h1 h2
  subst h1
  subst h2
  exact hK x.1 x.2 hx Γc hc
theorem ksound_pure {f : Nat} {c : PCon} (h : PSound P f c) : KSound P f (fun Γc => pure_ Γc c) := fun Γc hc => sound_of_pure hc h
theorem ksound_or {f : Nat} {k l : KCon} (h : KSound P f k) (g : KSound P f l) : KSound P f (fun Γc => orCon (k Γc) (l Γc)) := fun Γc hc => sound_or (h Γc hc) (g Γc hc)
theorem cs_nil : CSound P [] := fun g cc h => by simp [get?] at h
theorem psoundF {f : FuncId} {fn : Func} {K : KCons} {Γc : Clos} {Γr : RCons} {as : List AT} {g : ATs as → Prop × AV} (L : ATs as → Anns) (hm : P.follows .mixedOrders = true) (hK : KS P K) (hc : CSound P Γc) (hΓr : RS P Γr) (hE : Enters P f)
    (hf : P.funcs[f]? = some fn) (hb : (fn.body.isSome && Nat.ble as.length fn.ntmps) = true)
    (h : ∀ x, (g x).1 → vc P (tab K Γc) Γr (L x) (fn.body.getD .skip) (start (encAs as x) fn.ntmps) (fin P fn.results.toList (g x).2)) : PSound P f (pcon as g) := by
  simp only [Bool.and_eq_true] at hb
  exact psound L hm (tab_sound hK hc) hΓr hE hf hb.1 (by simp) rfl (Nat.le_of_ble_eq_true hb.2) h
theorem gsoundF {f : FuncId} {fn : Func} {K : KCons} {Γc : Clos} {Γr : RCons} {G : GC} (L : G.X → Anns) (hm : P.follows .mixedOrders = true) (hK : KS P K) (hc : CSound P Γc) (hΓr : RS P Γr) (hE : Enters P f)
    (hf : P.funcs[f]? = some fn) (hb : fn.body.isSome = true) (hlen : ∀ x, Nat.ble (G.args x).length fn.ntmps = true) (hex : ∀ x, exOk (G.hp x) (G.ex x) = true)
    (h : ∀ x, G.pre x → vc P (tab K Γc) Γr (L x) (fn.body.getD .skip) ⟨startT 0 (G.args x), G.hp x, fn.ntmps, G.args x ++ G.ex x⟩ (finG P fn.results.toList (G.F x))) : KSound P f (fun Γc => gCon Γc G) := by
  intro Γd hd
  exact gsoundT L hm (tab_sound hK hc) hΓr hd hE hf hb (by simp) rfl (fun x => Nat.le_of_ble_eq_true (hlen x)) hex h
theorem gsoundR {f : FuncId} {fn : Func} {K : KCons} {Γc : Clos} {Γr : RCons} {G : GC} {R : Clos → Heap → List AV → Option G.X} (L : G.X → Anns) (hm : P.follows .mixedOrders = true) (hK : KS P K) (hc : CSound P Γc) (hΓr : RS P Γr) (hE : Enters P f)
    (hf : P.funcs[f]? = some fn) (hb : fn.body.isSome = true) (hlen : ∀ x, Nat.ble (G.args x).length fn.ntmps = true) (hex : ∀ x, exOk (G.hp x) (G.ex x) = true)
    (h : ∀ x, G.pre x → vc P (tab K Γc) Γr (L x) (fn.body.getD .skip) ⟨startT 0 (G.args x), G.hp x, fn.ntmps, G.args x ++ G.ex x⟩ (finG P fn.results.toList (G.F x))) : KSound P f (fun Γc => gCon Γc ⟨G.X, R Γc, G.args, G.hp, G.pre, G.F, G.ex⟩) := by
  intro Γd hd
  exact gsoundT (G := ⟨G.X, R Γd, G.args, G.hp, G.pre, G.F, G.ex⟩) L hm (tab_sound hK hc) hΓr hd hE hf hb (by simp) rfl (fun x => Nat.le_of_ble_eq_true (hlen x)) hex h
end
end Go.E

