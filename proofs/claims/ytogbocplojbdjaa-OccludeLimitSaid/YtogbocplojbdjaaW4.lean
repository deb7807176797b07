/-
  The engine, part 4: a function's code over abstract states gives conditions in plain Lean.
-/
import Derived.Test.YtogbocplojbdjaaW3
import Derived.Laws.IdiomRangeMap
/-
  EngS: regions, in the text's order and in any order.
-/
namespace Go.E
open Go.RowKit
set_option linter.unusedVariables false
set_option linter.unusedSimpArgs false
structure RRes where
  Z : Type
  obl : Prop
  φ : Z → Prop
  res : Z → Res
abbrev RCon := Nat → Heap → List AV → Option RRes
abbrev RCons := List (Nat × RCon)
def RSound (P : Program) (f : FuncId) (C : RCon) : Prop :=
  Enters P f ∧ ∀ nid (S : AState) args R, C nid S.hp args = some R → R.obl → (∀ z, R.φ z → newIds S (R.res z).upd = true) → ∀ A w ρ vs, HeapR P A S.hp ρ w → VRs P w (imm A S.hp ρ w) ρ args vs →
    Calls P f vs.toArray w fun e w' => ∃ z v, e = .returned v ∧ R.φ z ∧ OutOk P A S ρ w (R.res z) v w'
def plain (S : AState) (x : Operand) : Bool := (strip (evOp S x)).1.isEmpty
def getR? : RCons → Nat → Option RCon
  | [], _ => none
  | (k, v) :: r, l => if k = l then some v else getR? r l
def nextR (S : AState) (x : Operand) : Option (List RRes) := match (strip (evOp S x)).2 with
  | .ptr l 0 => match get? S.hp l with
    | some (.itr m since last seen) => match get? S.hp m with
      | some (.map k v es c) => some [
          ⟨Unit, (∀ e ∈ es, e.1 < since) ∧ since ≤ last, fun _ => ∀ e ∈ es, e.1 ∈ seen, fun _ => ⟨True, .tup [.bool false], [], []⟩⟩,
          ⟨Nat, True, fun b => b ∉ seen ∧ ∃ e ∈ es, e.1 = b, fun b => ⟨True, .tup [.bool true, .junk, .junk], [(l, some (.itr m since c (seen ++ [b])))], []⟩⟩]
      | _ => none
    | _ => none
  | _ => none
def relOp (Γr : RCons) (S : AState) (o : Oper) : Option (List RRes) := match o.guard, o.op with
  | none, .call { callee := .value fo, args := args, argTypes := _ } => match (strip (evOp S fo)).2 with
    | .fn g first cap => match getR? Γr g with
      | some C => if plain S fo && args.toList.all (plain S) then (C (1000 * (o.dst.getD 0 + 1)) S.hp (first ++ args.toList.map (fun x => (strip (evOp S x)).2) ++ cap)).map fun R => [R] else none
      | none => none
    | _ => none
  | none, .next x false => if plain S x then nextR S x else none
  | _, _ => none
def relVC (S : AState) (dst : Option Nat) (K : AState → Prop) : List RRes → Prop
  | [] => True
  | R :: rs => (R.obl ∧ ∀ z, R.φ z → match newIds S (R.res z).upd && okDst (S.next (R.res z)) [] dst with
      | true => K (S.app dst [] (R.res z))
      | false => False) ∧ relVC S dst K rs
mutual
def frzV (l : Nat) (y : AV) : AV → AV
  | .sl k => match Nat.beq k l with | true => y | false => .sl k
  | .agg cs => .agg (frzVs l y cs)
  | .tup cs => .tup (frzVs l y cs)
  | x => x
def frzVs (l : Nat) (y : AV) : List AV → List AV
  | [] => [] | x :: r => frzV l y x :: frzVs l y r
end
def frzTm (l : Nat) (y : AV) : Temps → Temps
  | [] => [] | (t, x) :: r => (t, frzV l y x) :: frzTm l y r
def frzC (l : Nat) (y : AV) : Chunk → Chunk
  | .blk cs => .blk (frzVs l y cs) | c => c
def frzHp (l : Nat) (y : AV) : Heap → Heap
  | [] => [] | (j, c) :: r => (j, frzC l y c) :: frzHp l y r
def frzA (S : AState) (l : Nat) : AState := match get? S.hp l with
  | some (.row t xs) => { S with tm := frzTm l (.arr t xs) S.tm, hp := frzHp l (.arr t xs) (del S.hp l) }
  | _ => S
def frzAs (S : AState) : List Nat → AState
  | [] => S
  | l :: r => frzAs (frzA S l) r
mutual
def AV.sls : AV → List Nat
  | .sl l => [l]
  | .agg a => AV.slss a | .tup a => AV.slss a
  | _ => []
def AV.slss : List AV → List Nat
  | [] => [] | a :: r => a.sls ++ AV.slss r
end
def slsAt (S : AState) (t : Nat) : List Nat := match get? S.tm t with | some x => x.sls | none => []
def opFrz (P : Program) (Γ : Cons) (ops : Array Oper) (S : AState) (o : Oper) : List Nat → Option (AState × List (Nat × Bool) × Res)
  | [] => none
  | l :: L => match opRes P Γ ops (frzAs S (l :: L)) o with
    | some (G, r) => some (frzAs S (l :: L), G, r)
    | none => none
def slsIn (S : AState) (x : AV) : List Nat := match x with
  | .agg cs => AV.slss cs
  | _ => []
def buildSls (S : AState) : Op → List Nat
  | .buildSlice _ _ parts => parts.toList.flatMap fun p => slsIn S (strip (evOp S p.2)).2
  | _ => []
def opResF (P : Program) (Γ : Cons) (ops : Array Oper) (S : AState) (o : Oper) : Option (AState × List (Nat × Bool) × Res) := match opFrz P Γ ops S o (buildSls S o.op) with
  | some x => some x
  | none => match opRes P Γ ops S o with
    | some (G, r) => some (S, G, r)
    | none => opFrz P Γ ops S o ((o.looksAt ops).flatMap (slsAt S))
section
variable {P : Program} {A : Nat → Prop} {w0 w : World} {M : Own} {S : AState} {ρ : Nat → Value} {a : Act} {I : Nat → Prop}
mutual
theorem frzV_sound {l : Nat} {y : AV} (hy : VR P w I ρ y (ρ l)) : ∀ (x : AV) (v : Value), VR P w I ρ x v → VR P w I ρ (frzV l y x) v
  | .sl k, v, h => by
    simp only [frzV]
    split
    · rename_i hk
      have hk := Nat.eq_of_beq_eq_true hk
      subst hk
      simp only [VR] at h
      rw [h]
      exact hy
    · exact h
  | .agg cs, v, h => by
    simp only [frzV, VR] at h ⊢
    obtain ⟨vs, h1, h2⟩ := h
    exact ⟨vs, h1, frzVs_sound hy cs vs h2⟩
  | .tup cs, v, h => by
    simp only [frzV, VR] at h ⊢
    obtain ⟨vs, h1, h2⟩ := h
    exact ⟨vs, h1, frzVs_sound hy cs vs h2⟩
  | .int _ _, v, h => h
  | .bool _, v, h => h
  | .str _, v, h => h
  | .nilp, v, h => h
  | .nils, v, h => h
  | .nilm, v, h => h
  | .nilf, v, h => h
  | .ptr _ _, v, h => h
  | .pel _ _ _ _ _, v, h => h
  | .mp _, v, h => h
  | .arr _ _, v, h => h
  | .own _ _, v, h => h
  | .cp _ _ _, v, h => h
  | .av _ _, v, h => h
  | .fn _ _ _, v, h => h
  | .pfn _ _ _, v, h => h
  | .cond _ _, v, h => h
  | .junk, v, h => h
theorem frzVs_sound {l : Nat} {y : AV} (hy : VR P w I ρ y (ρ l)) : ∀ (xs : List AV) (vs : List Value), VRs P w I ρ xs vs → VRs P w I ρ (frzVs l y xs) vs
  | [], vs, h => h
  | x :: r, vs, h => by
    obtain ⟨v, us, h1, h2, h3⟩ := VRs_cons.1 h
    exact VRs_cons.2 ⟨v, us, h1, frzV_sound hy x v h2, frzVs_sound hy r us h3⟩
end
theorem get?_frzTm (l : Nat) (y : AV) : ∀ (T : Temps) (t : Nat), get? (frzTm l y T) t = (get? T t).map (frzV l y)
  | [], t => rfl
  | (s, x) :: r, t => by
    simp only [frzTm, get?]
    split
    · rfl
    · exact get?_frzTm l y r t
theorem get?_frzHp (l : Nat) (y : AV) : ∀ (H : Heap) (t : Nat), get? (frzHp l y H) t = (get? H t).map (frzC l y)
  | [], t => rfl
  | (s, x) :: r, t => by
    simp only [frzHp, get?]
    split
    · rfl
    · exact get?_frzHp l y r t
theorem frzC_sound {l : Nat} {y : AV} {c : Chunk} {v : Value} (hy : VR P w I ρ y (ρ l)) (h : ChunkR P w I ρ c v) : ChunkR P w I ρ (frzC l y c) v := by
  cases c with
  | blk cs =>
    obtain ⟨b, vs, e, h1, h2, h3⟩ := h
    exact ⟨b, vs, e, h1, h2, frzVs_sound hy cs vs h3⟩
  | _ => exact h
theorem rep_frzA (hR : Rep P A w0 M S ρ a w) (l : Nat) : Rep P A w0 M (frzA S l) ρ a w := by
  unfold frzA
  split
  · rename_i t xs hc
    have hget : ∀ j c, get? (frzHp l (.arr t xs) (del S.hp l)) j = some c → ∃ d, (l ≠ j ∧ get? S.hp j = some d) ∧ c = frzC l (.arr t xs) d := fun j c h => by
      rw [get?_frzHp, get?_del] at h
      split at h
      · cases h
      · rename_i hj
        obtain ⟨d, hd, rfl⟩ := Option.map_eq_some_iff.1 h
        exact ⟨d, ⟨hj, hd⟩, rfl⟩
    have hext : Ext w (imm A S.hp ρ w) w (imm A (frzHp l (.arr t xs) (del S.hp l)) ρ w) := ⟨Nat.le_refl _, fun b hb => ⟨⟨hb.1, fun j c hj => by
      obtain ⟨d, hd, _⟩ := hget j c hj
      exact hb.2 j d hd.2⟩, rfl⟩⟩
    have hy : VR P w (imm A (frzHp l (.arr t xs) (del S.hp l)) ρ w) ρ (.arr t xs) (ρ l) := by
      have hr := resAV_gen (P := P) (Hn := [(l, .row t xs)]) hext (fun k t' ys hk => ?_) (.sl l) (ρ l) rfl
      · simpa [resAV, get?] using hr
      · simp only [get?] at hk
        split at hk
        · rename_i hkl
          subst hkl
          injection hk with hk
          rw [← hk]
          refine ⟨hR.hp.chunk _ _ hc, fun b hb => ⟨⟨?_, hR.hp.ok _ _ b hc hb⟩, fun j c hj hjb => ?_⟩⟩
          · rcases hR.hp.chunk _ _ hc with ⟨h0, _⟩ | ⟨b', off, cap, arr, e, h1, h2, _⟩
            · rw [h0] at hb
              cases hb
            · rw [h1] at hb
              simp only [blkOf, Option.some.injEq] at hb
              rw [← hb]
              exact (Array.getElem?_eq_some_iff.1 h2).1
          · obtain ⟨d, hd, _⟩ := hget j c hj
            exact hR.hp.apart _ _ j d hc hd.2 hd.1 b hb hjb
        · cases hk
    refine ⟨fun s v hv => ?_, ⟨fun j c hj => ?_, fun j c b hj hb => ?_, hR.hp.fresh, fun j c j' c' hj hj' hne b hb => ?_⟩, hR.keep, fun j c hj b hb => ?_, VRs.ext hext _ _ (fun _ _ => rfl) hR.gh, hR.defers, hR.sz⟩
    · rw [get?_frzTm] at hv
      obtain ⟨x, hx, rfl⟩ := Option.map_eq_some_iff.1 hv
      have hT := TR.ext hext (fun _ _ => rfl) (hR.tm s x hx)
      cases x with
      | cond gs x => exact hT
      | sl k =>
        have hz := frzV_sound hy (.sl k) _ hT
        simp only [frzV] at hz ⊢
        split
        · rename_i hk
          simp only [hk] at hz
          exact hz
        · rename_i hk
          simp only [hk] at hz
          exact hz
      | _ => exact frzV_sound hy _ _ hT
    · obtain ⟨d, hd, rfl⟩ := hget j c hj
      exact frzC_sound hy ((hR.hp.chunk j d hd.2).ext hext (fun _ _ => rfl) (fun _ _ => rfl))
    · obtain ⟨d, hd, rfl⟩ := hget j c hj
      exact hR.hp.ok j d b hd.2 hb
    · obtain ⟨d, hd, rfl⟩ := hget j c hj
      obtain ⟨d', hd', rfl⟩ := hget j' c' hj'
      exact hR.hp.apart j d j' d' hd.2 hd'.2 hne b hb
    · obtain ⟨d, hd, rfl⟩ := hget j c hj
      exact hR.mine j d hd.2 b hb
  · exact hR
theorem rep_frzAs : ∀ (L : List Nat) {S : AState}, Rep P A w0 M S ρ a w → Rep P A w0 M (frzAs S L) ρ a w
  | [], S, h => h
  | l :: r, S, h => rep_frzAs r (rep_frzA h l)
theorem opFrz_rep {Γ : Cons} {ops : Array Oper} {o : Oper} {S' : AState} {G : List (Nat × Bool)} {r : Res} {L : List Nat} (h : opFrz P Γ ops S o L = some (S', G, r)) (hR : Rep P A w0 M S ρ a w) : opRes P Γ ops S' o = some (G, r) ∧ Rep P A w0 M S' ρ a w := by
  unfold opFrz at h
  split at h
  · cases h
  · split at h
    · rename_i G' r' hr
      injection h with h
      injection h with h1 h2
      injection h2 with h2 h3
      subst h1 h2 h3
      exact ⟨hr, rep_frzAs _ hR⟩
    · cases h
theorem opResF_rep {Γ : Cons} {ops : Array Oper} {o : Oper} {S' : AState} {G : List (Nat × Bool)} {r : Res} (h : opResF P Γ ops S o = some (S', G, r)) (hR : Rep P A w0 M S ρ a w) : opRes P Γ ops S' o = some (G, r) ∧ Rep P A w0 M S' ρ a w := by
  unfold opResF at h
  split at h
  · rename_i x hx
    injection h with h
    subst h
    exact opFrz_rep hx hR
  · split at h
    · rename_i G' r' hr
      injection h with h
      injection h with h1 h2
      injection h2 with h2 h3
      subst h1 h2 h3
      exact ⟨hr, hR⟩
    · exact opFrz_rep h hR
end
def regionVC (P : Program) (Γ : Cons) (Γr : RCons) (ops : Array Oper) : List Oper → AState → (AState → Prop) → Prop
  | [], S, K => K S
  | o :: rest, S, K => match relOp Γr S o with
    | some Rs => relVC S o.dst (fun S' => regionVC P Γ Γr ops rest S' K) Rs
    | none => match opResF P Γ ops S o with
      | some (S', G, r) => match okDst (S'.next r) G o.dst with
        | true => under S' G r.obl ∧ regionVC P Γ Γr ops rest (S'.app o.dst G r) K
        | false => False
      | none => False

mutual
def AV.ids : AV → List Nat
  | .ptr l _ => [l] | .pel l _ _ _ _ => [l] | .sl l => [l] | .mp l => [l]
  | .fn _ a b => AV.idss a ++ AV.idss b
  | .agg a => AV.idss a | .tup a => AV.idss a
  | .cond _ v => v.ids
  | _ => []
def AV.idss : List AV → List Nat
  | [] => [] | a :: r => a.ids ++ AV.idss r
end
def Chunk.ids : Chunk → List Nat
  | .blk cs => AV.idss cs | .mix pre _ _ => AV.idss pre | .itr m _ _ _ => [m] | _ => []
def reach (H : Heap) : Nat → List Nat → List Nat → List Nat
  | 0, _, seen => seen
  | _, [], seen => seen
  | n + 1, l :: todo, seen => if seen.contains l then reach H n todo seen else match get? H l with
    | some c => reach H n (c.ids ++ todo) (l :: seen)
    | none => reach H n todo seen
def condTmps : Option AV → List Nat
  | some (.cond gs _) => gs.map (·.1)
  | _ => []
def looksOf (ops : Array Oper) (S : AState) (o : Oper) : List Nat := o.looksAt ops ++ (o.looksAt ops).flatMap fun t => condTmps (get? S.tm t)
def idsAt (S : AState) (t : Nat) : List Nat := match get? S.tm t with | some x => x.ids | none => []
def fpOf (ops : Array Oper) (S : AState) (o : Oper) : List Nat := match o.op with
  | .move _ | .assign _ | .pick _ _ _ | .extract _ _ | .binOp _ _ _ _ _ | .unOp _ _ _ | .convert _ _ _ | .field _ _ _ | .nilCheck _ | .makeFunc _ _ _ => []
  | .call { callee := .value _, args := _, argTypes := _ } | .entry _ => reach S.hp 200 ((o.looksAt ops).flatMap (idsAt S)) []
  | _ => (o.looksAt ops).flatMap (idsAt S)
def pick? {α : Type} (H : List (Nat × α)) : List Nat → List (Nat × α)
  | [] => []
  | l :: r => match get? H l with
    | some c => (l, c) :: pick? H r
    | none => pick? H r
def partOf (looks fp : List Nat) (S : AState) : AState := ⟨pick? S.tm looks, pick? S.hp fp, S.n, S.gh⟩
structure RI where
  dst : Option Nat
  G : List (Nat × Bool)
  r : Res
  looks : List Nat
  fp : List Nat
  R : AState
def AState.appI (S : AState) (x : RI) : AState := S.app x.dst x.G x.r
def drawRun (P : Program) (Γ : Cons) (ops : Array Oper) : List Oper → AState → Option (List RI)
  | [], S => some []
  | o :: rest, S =>
    let looks := looksOf ops S o
    let fp := fpOf ops S o
    let R := partOf looks fp S
    match opRes P Γ ops R o with
    | some (G, r) => match drawRun P Γ ops rest (S.app o.dst G r) with
      | some rs => some (⟨o.dst, G, r, looks, fp, R⟩ :: rs)
      | none => none
    | none => none
def SD : Nat → List RI → (Nat → Bool) → AState → AState
  | _, [], _, S => S
  | k, x :: rest, D, S => SD (k + 1) rest D (match D k with | true => S.appI x | false => S)
def oblsOf : List RI → Prop
  | [] => True
  | x :: rest => under x.R x.G x.r.obl ∧ oblsOf rest
def noTouch (x y : RI) : Bool := x.r.kill.isEmpty &&
  (match x.dst with
   | some d => !y.looks.contains d && y.dst != some d
   | none => true) &&
  x.r.upd.all (fun u => !y.fp.contains u.1 && (get? y.r.upd u.1).isNone)
def mentions (l : Nat) (x : RI) : Bool := x.r.val.has l || x.r.upd.any fun u => u.1 == l || match u.2 with
  | some c => c.has l
  | none => false
def newOk (S : AState) (x : RI) : Bool := x.r.upd.all (fun u => (get? x.R.hp u.1).isSome || S.fresh u.1) && okDst S x.G x.dst
def aheadOk (x y : RI) : Bool := x.r.upd.all (fun u => (get? x.R.hp u.1).isSome || !mentions u.1 y) &&
  match x.dst with
  | some d => !(condOf y.G y.r.val).on d
  | none => true
def preOf (o : Oper) : List Nat := (o.after.toList.filter (fun e => Region.binds .any e)).map (·.on)
def addU (l : List Nat) : List Nat → List Nat
  | [] => l
  | x :: r => match l.contains x with
    | true => addU l r
    | false => addU (x :: l) r
def ancs : List (List Nat) → List Oper → List (List Nat)
  | acc, [] => acc
  | acc, o :: r => ancs (acc ++ [(preOf o).foldl (fun l p => addU l (p :: acc.getD p [])) []]) r
def zipIdx' {α : Type} : Nat → List α → List (Nat × α)
  | _, [] => []
  | k, x :: r => (k, x) :: zipIdx' (k + 1) r
def ancOk (an : List (List Nat)) : List (Nat × Oper) → Bool
  | [] => true
  | (i, o) :: r => (preOf o).all (fun p => p < i) && (an.getD i []).all (fun x => (preOf o).contains x || (preOf o).any fun p => (an.getD p []).contains x) && ancOk an r
def pairsOk (S : AState) (an : List (List Nat)) (rs : List RI) : Bool :=
  let ps := zipIdx' 0 rs
  ps.all fun x => newOk S x.2 && ps.all fun y => x.1 == y.1 || (an.getD y.1 []).contains x.1 || (aheadOk x.2 y.2 && (y.1 < x.1 || (noTouch x.2 y.2 && noTouch y.2 x.2)))
def quietR (x : RI) : Bool := x.r.upd.isEmpty && x.r.kill.isEmpty
def condSl : AV → List Nat
  | .cond gs _ => gs.map (·.1)
  | _ => []
def dstsOf : List (Nat × RI) → List (Nat × Nat)
  | [] => []
  | x :: r => match quietR x.2 with
    | true => match x.2.dst with
      | some d => (d, x.1) :: dstsOf r
      | none => dstsOf r
    | false => dstsOf r
def lookOk (j : Nat) (an : List Nat) (t : Nat) : List (Nat × Nat) → Bool
  | [] => true
  | (d, i) :: r => (match Nat.beq d t with
    | true => Nat.beq i j || an.contains i
    | false => true) && lookOk j an t r
def distinct : List (Nat × Nat) → Bool
  | [] => true
  | (d, _) :: r => r.all (fun y => !Nat.beq y.1 d) && distinct r
def oldPair (an : List (List Nat)) (x y : Nat × RI) : Bool := x.1 == y.1 || (an.getD y.1 []).contains x.1 || (aheadOk x.2 y.2 && (y.1 < x.1 || (noTouch x.2 y.2 && noTouch y.2 x.2)))
def quietOk (an : List (List Nat)) (D : List (Nat × Nat)) (y : Nat × RI) : Bool := match quietR y.2 with
  | true => (an.getD y.1 []).all (fun i => Nat.blt i y.1) && (y.2.looks ++ condSl (condOf y.2.G y.2.r.val)).all fun t => lookOk y.1 (an.getD y.1 []) t D
  | false => true
def loudOk (an : List (List Nat)) (ps : List (Nat × RI)) (x : Nat × RI) : Bool := match quietR x.2 with
  | true => true
  | false => ps.all fun y => oldPair an x y && oldPair an y x
def pairsFast (S : AState) (an : List (List Nat)) (rs : List RI) : Bool :=
  let ps := zipIdx' 0 rs
  let D := dstsOf ps
  ps.all (fun x => newOk S x.2) && distinct D && ps.all (quietOk an D) && ps.all (loudOk an ps)
theorem lookOk_mem {j t : Nat} {an : List Nat} : ∀ {D : List (Nat × Nat)}, lookOk j an t D = true → ∀ i, (t, i) ∈ D → i = j ∨ an.contains i = true
  | [], _, i, hi => by cases hi
  | (d, k) :: r, h, i, hi => by
    simp only [lookOk, Bool.and_eq_true] at h
    rcases List.mem_cons.1 hi with he | hi
    · injection he with h1 h2
      subst h1 h2
      have := h.1
      rw [Nat.beq_refl] at this
      simp only [Bool.or_eq_true] at this
      rcases this with h | h
      · exact .inl (Nat.eq_of_beq_eq_true h)
      · exact .inr h
    · exact lookOk_mem h.2 i hi
theorem distinct_mem : ∀ {D : List (Nat × Nat)}, distinct D = true → ∀ d i j, (d, i) ∈ D → (d, j) ∈ D → i = j
  | [], _, d, i, j, hi, _ => by cases hi
  | (e, k) :: r, h, d, i, j, hi, hj => by
    simp only [distinct, Bool.and_eq_true, List.all_eq_true] at h
    rcases List.mem_cons.1 hi with h1 | h1 <;> rcases List.mem_cons.1 hj with h2 | h2
    · injection h1 with _ h1
      injection h2 with _ h2
      rw [h1, h2]
    · injection h1 with h1 _
      subst h1
      have := h.1 _ h2
      simp at this
    · injection h2 with h2 _
      subst h2
      have := h.1 _ h1
      simp at this
    · exact distinct_mem h.2 d i j h1 h2
theorem dstsOf_mem : ∀ {ps : List (Nat × RI)} {x : Nat × RI} {d : Nat}, x ∈ ps → quietR x.2 = true → x.2.dst = some d → (d, x.1) ∈ dstsOf ps
  | y :: r, x, d, hx, hq, hd => by
    rcases List.mem_cons.1 hx with rfl | hx
    · simp only [dstsOf, hq, hd]
      exact List.mem_cons_self ..
    · have := dstsOf_mem hx hq hd
      simp only [dstsOf]
      split
      · split
        · exact List.mem_cons_of_mem _ this
        · exact this
      · exact this
theorem on_condSl {v : AV} {d : Nat} (h : v.on d = true) : d ∈ condSl v := by
  cases v <;> simp only [AV.on] at h <;> try cases h
  simp only [List.any_eq_true] at h
  obtain ⟨g, hg, he⟩ := h
  simp only [condSl, List.mem_map]
  exact ⟨g, hg, by simpa using he⟩
theorem quiet_look {S : AState} {an : List (List Nat)} {ps : List (Nat × RI)} {x y : Nat × RI} {d : Nat} (hx : x ∈ ps) (hqx : quietR x.2 = true) (hqy : quietR y.2 = true) (h : quietOk an (dstsOf ps) y = true) (hd : x.2.dst = some d)
    (ht : d ∈ y.2.looks ++ condSl (condOf y.2.G y.2.r.val)) : x.1 = y.1 ∨ (an.getD y.1 []).contains x.1 = true := by
  unfold quietOk at h
  rw [hqy] at h
  simp only [Bool.and_eq_true, List.all_eq_true] at h
  exact lookOk_mem (h.2 d ht) _ (dstsOf_mem hx hqx hd)
theorem quiet_lt {an : List (List Nat)} {D : List (Nat × Nat)} {y : Nat × RI} {i : Nat} (hqy : quietR y.2 = true) (h : quietOk an D y = true) (hi : (an.getD y.1 []).contains i = true) : i < y.1 := by
  unfold quietOk at h
  rw [hqy] at h
  simp only [Bool.and_eq_true, List.all_eq_true] at h
  exact Nat.lt_of_not_le fun hh => by
    have := h.1 i (List.contains_iff_mem.1 hi)
    rw [Nat.blt_eq] at this
    omega
theorem quiet_pair {S : AState} {an : List (List Nat)} {ps : List (Nat × RI)} {x y : Nat × RI} (hx : x ∈ ps) (hy : y ∈ ps) (hqx : quietR x.2 = true) (hqy : quietR y.2 = true) (hD : distinct (dstsOf ps) = true)
    (h : quietOk an (dstsOf ps) y = true) : x.1 = y.1 ∨ (an.getD y.1 []).contains x.1 = true ∨ (aheadOk x.2 y.2 = true ∧ noTouch x.2 y.2 = true) := by
  by_cases he : x.1 = y.1
  · exact .inl he
  by_cases ha : (an.getD y.1 []).contains x.1 = true
  · exact .inr (.inl ha)
  have hl : ∀ d, x.2.dst = some d → d ∉ y.2.looks ++ condSl (condOf y.2.G y.2.r.val) := fun d hd ht => by
    rcases quiet_look (S := S) hx hqx hqy h hd ht with h | h
    · exact he h
    · exact ha h
  have hq : x.2.r.upd = [] ∧ x.2.r.kill = [] := by simpa [quietR] using hqx
  refine .inr (.inr ⟨?_, ?_⟩)
  · unfold aheadOk
    rw [hq.1]
    simp only [List.all_nil, Bool.true_and]
    split
    · rename_i d hd
      cases ho : (condOf y.2.G y.2.r.val).on d with
      | false => rfl
      | true => exact absurd (List.mem_append_right _ (on_condSl ho)) (hl d hd)
    · rfl
  · unfold noTouch
    rw [hq.1, hq.2]
    simp only [List.isEmpty_nil, List.all_nil, Bool.true_and, Bool.and_true]
    split
    · rename_i d hd
      simp only [Bool.and_eq_true, Bool.not_eq_true', bne_iff_ne, ne_eq]
      refine ⟨?_, fun hyd => ?_⟩
      · cases hc : y.2.looks.contains d with
        | false => rfl
        | true => exact absurd (List.mem_append_left _ (List.contains_iff_mem.1 hc)) (hl d hd)
      · exact he (distinct_mem hD d _ _ (dstsOf_mem hx hqx hd) (dstsOf_mem hy hqy hyd))
    · rfl
theorem pairs_fast {S : AState} {an : List (List Nat)} {rs : List RI} (h : pairsFast S an rs = true) : pairsOk S an rs = true := by
  unfold pairsFast at h
  simp only [Bool.and_eq_true, List.all_eq_true] at h
  obtain ⟨⟨⟨h1, h2⟩, h3⟩, h4⟩ := h
  unfold pairsOk
  simp only [List.all_eq_true, Bool.and_eq_true]
  intro x hx
  refine ⟨h1 x hx, fun y hy => ?_⟩
  cases hqx : quietR x.2 with
  | false =>
    have := h4 x hx
    unfold loudOk at this
    rw [hqx] at this
    simp only [List.all_eq_true, Bool.and_eq_true] at this
    exact (this y hy).1
  | true => cases hqy : quietR y.2 with
    | false =>
      have := h4 y hy
      unfold loudOk at this
      rw [hqy] at this
      simp only [List.all_eq_true, Bool.and_eq_true] at this
      exact (this x hx).2
    | true =>
      have a := quiet_pair (S := S) hx hy hqx hqy h2 (h3 y hy)
      have b := quiet_pair (S := S) hy hx hqy hqx h2 (h3 x hx)
      simp only [Bool.or_eq_true, Bool.and_eq_true, beq_iff_eq]
      rcases a with a | a | ⟨a1, a2⟩
      · exact .inl (.inl a)
      · exact .inl (.inr a)
      · rcases b with b | b | ⟨b1, b2⟩
        · exact .inl (.inl b.symm)
        · exact .inr ⟨a1, .inl (by simpa using quiet_lt hqx (h3 x hx) b)⟩
        · exact .inr ⟨a1, .inr ⟨a2, b2⟩⟩
def drawOk (ops : Array Oper) (S : AState) (rs : List RI) : Bool :=
  let an := ancs [] ops.toList
  ancOk an (zipIdx' 0 ops.toList) && (pairsFast S an rs || pairsOk S an rs)
def drawVC (P : Program) (Γ : Cons) (ops : Array Oper) (S : AState) (K : AState → Prop) : Prop := match drawRun P Γ ops ops.toList S with
  | some rs => match drawOk ops S rs with
    | true => oblsOf rs ∧ K (SD 0 rs (fun _ => true) S)
    | false => False
  | none => False

section
variable {P : Program} {A : Nat → Prop} {w0 w : World} {M : Own} {S S' : AState} {ρ : Nat → Value} {a : Act} {Γ : Cons} {G : List (Nat × Bool)} {o : Oper} {r : Res} {ops : Array Oper}
theorem relVC_at {K : AState → Prop} {dst : Option Nat} : ∀ {Rs : List RRes}, relVC S dst K Rs → ∀ R ∈ Rs, R.obl ∧ ∀ z, R.φ z → (newIds S (R.res z).upd = true ∧ okDst (S.next (R.res z)) [] dst = true) ∧ K (S.app dst [] (R.res z))
  | [], _, R, hR => by cases hR
  | R0 :: rs, h, R, hR => by
    obtain ⟨⟨h1, h2⟩, h3⟩ := h
    rcases List.mem_cons.1 hR with rfl | hR
    · refine ⟨h1, fun z hz => ?_⟩
      have := h2 z hz
      split at this
      · rename_i hb
        simp only [Bool.and_eq_true] at hb
        exact ⟨hb, this⟩
      · cases this
    · exact relVC_at h3 R hR
theorem ents_born {I : Nat → Prop} {k v : Ty} {es : List (Nat × k.T × v.T)} {l : List MapEntry} (h : EntsR w I k v es l) : l.map (·.born) = es.map (·.1) := by
  induction es generalizing l with
  | nil => have : l = [] := h; subst this; rfl
  | cons e r ih =>
    obtain ⟨x, l', rfl, h1, h2⟩ := h
    simp [ih h2, h1.1]
theorem run_next {b bm since last c : Nat} {seen : List Nat} {ents : Array MapEntry} {t : TypeId} (h1 : w.heap[b]? = some (.mapIter (some bm) since seen.toArray last)) (h2 : w.heap[bm]? = some (.map ents c))
    (hold : ∀ x ∈ ents.toList, x.born < since) (hsc : since ≤ last) :
    ((Instr.next (.pointer (some ⟨b, 0, none⟩)) false t).run P w = .ok (.tuple #[.bool false]) w ∧ ∀ e ∈ ents.toList, e.born ∈ seen) ∨
    ∃ e ∈ ents.toList, ∃ w' : World, e.born ∉ seen ∧ w'.heap = w.heap.setIfInBounds b (.mapIter (some bm) since (seen ++ [e.born]).toArray c) ∧ w'.os = w.os ∧ w'.tape = w.tape ∧ w'.output = w.output ∧
      (Instr.next (.pointer (some ⟨b, 0, none⟩)) false t).run P w = .ok (.tuple #[.bool true, e.key, e.val]) w' := by
  have ht : (!seen.toArray.isEmpty && !ents.isEmpty && ents.all (fun x => decide (x.born ≥ last))) = false := next_test_false seen.toArray ents since last hold hsc
  simp only [Instr.next, Sem.run_bind, run_getObj_it h1, MapKept.run_getObj_map h2, Result.andThen, ht, Bool.false_eq_true, if_false]
  have hmem : ∀ x ∈ (Array.filter (fun e => !seen.toArray.contains e.born) ents).toList, x.born < since ∧ x ∈ ents.toList ∧ x.born ∉ seen := fun x hx => by
    simp at hx
    exact ⟨hold x (by simpa using hx.1), by simpa using hx.1, by simpa using hx.2⟩
  have hall : ∀ x ∈ ents.toList, x.born ∉ seen → x ∈ (Array.filter (fun e => !seen.toArray.contains e.born) ents).toList := fun x hx hn => by
    simp
    exact ⟨by simpa using hx, hn⟩
  generalize Array.filter (fun e => !seen.toArray.contains e.born) ents = L at hmem hall ⊢
  have e1 : L.filter (fun x => decide (x.born < since)) = L := Array.filter_eq_self.2 (fun x hx => by simpa using (hmem x (by simpa using hx)).1)
  have e2 : L.filter (fun x => decide (x.born ≥ since)) = #[] := by
    rw [Array.filter_eq_empty_iff]
    intro x hx
    have := (hmem x (by simpa using hx)).1
    simp
    omega
  simp only [e1, e2, Array.append_empty]
  by_cases h0 : L.size = 0
  · left
    have : L = #[] := Array.eq_empty_of_size_eq_zero h0
    subst this
    refine ⟨by simp [choose, Sem.run, Question.forced], fun e he => ?_⟩
    by_cases hc : e.born ∈ seen
    · exact hc
    · have := hall e he hc
      simp at this
  · right
    have hne : L.isEmpty = false := by simp [Array.isEmpty, h0]
    simp only [hne, Bool.false_eq_true, if_false, Array.empty_append, Array.size_map]
    have hch : ∃ (j : Nat) (w1 : World), j < L.size ∧ w1.heap = w.heap ∧ w1.os = w.os ∧ w1.tape = w.tape ∧ w1.output = w.output ∧ (choose (Question.mapNext L.size)).run P w = .ok j w1 := by
      by_cases hf : L.size ≤ 1
      · exact ⟨0, w, by omega, rfl, rfl, rfl, rfl, by simp [choose, Sem.run, Question.forced, hf]⟩
      · exact ⟨_, w.drew, Nat.mod_lt _ (by omega), rfl, rfl, rfl, rfl, by
          simp only [choose, Sem.run, Question.forced, decide_eq_true_eq, hf, if_false, Question.cut]
          rfl⟩
    obtain ⟨j, w1, hj, k1, k2, k3, k4, hrun⟩ := hch
    obtain ⟨m1, m2, m3⟩ := hmem L[j] (by simp)
    refine ⟨L[j], m2, { w1 with heap := w1.heap.setIfInBounds b (.mapIter (some bm) since (seen ++ [L[j].born]).toArray c) }, m3, by rw [k1], k2, k3, k4, ?_⟩
    have hset : ∀ ob, (setObj b ob).run P w1 = .ok () { w1 with heap := w1.heap.setIfInBounds b ob } := fun ob => by
      have h1' : w1.heap[b]? = some (.mapIter (some bm) since seen.toArray last) := by rw [k1]; exact h1
      simp [setObj, Sem.run, h1']
    have hpush : seen.toArray.push L[j].born = (seen ++ [L[j].born]).toArray := by simp
    simp only [hrun, Array.getElem?_map, Array.getElem?_eq_getElem hj, Option.map_some, Sem.run_bind, hset, Result.andThen, Sem.run_pure, hpush]
theorem wp_hop' {K : Act → World → Prop} {Q : Exit → Act → World → Prop} {r : Res} (h : HopOk P A S ρ w a.eval o r) (hK : ∀ v w', OutOk P A S ρ w r v w' → K (a.put o.dst v) w') : o.wp P a w K Q := wp_hop h hK
theorem next_sound (hR : Rep P A w0 M S ρ a w) {x : Operand} (hop : o.op = .next x false) (hp : plain S x = true) {Rs : List RRes} (h : nextR S x = some Rs) (ho : ∀ R ∈ Rs, R.obl)
    {K : Act → World → Prop} {Q : Exit → Act → World → Prop} (hK : ∀ R ∈ Rs, ∀ z v w', R.φ z → OutOk P A S ρ w (R.res z) v w' → K (a.put o.dst v) w') : o.wp P a w K Q := by
  have hx : VR P w (imm A S.hp ρ w) ρ (strip (evOp S x)).2 (a.eval x) := by
    refine evOp_sound (G := []) hR (fun _ hy => by cases hy) ?_
    unfold plain at hp
    rw [List.isEmpty_iff.1 hp]
    rfl
  obtain ⟨dst, op', oty, pos, after, guard⟩ := o
  simp only at hop
  subst hop
  unfold nextR at h
  split at h
  · rename_i l hfx
    split at h
    · rename_i m since last seen hc
      split at h
      · rename_i k v es c hm
        injection h with h; subst h
        rw [hfx] at hx
        simp only [VR] at hx
        obtain ⟨b, bm, hb1, hb2, hb3⟩ := hR.hp.chunk l _ hc
        obtain ⟨b', ents, hm1, hm2, hm3⟩ := map_open (hR.hp.chunk m _ hm)
        have hbb : bm = b' := by rw [hm1] at hb3; simpa [blkOf] using hb3.symm
        subst hbb
        obtain ⟨b2, hx1, hx2⟩ := hx
        have : b2 = b := by rw [hb1] at hx1; simpa [blkOf] using hx1.symm
        subst this
        have hborn := ents_born hm3
        obtain ⟨hold, hsc⟩ := ho _ (List.mem_cons_self ..)
        have hmem : ∀ x ∈ ents.toList, ∃ e ∈ es, e.1 = x.born := fun x hx => by
          have : x.born ∈ es.map (·.1) := by rw [← hborn]; exact List.mem_map.2 ⟨x, hx, rfl⟩
          obtain ⟨e, he, he2⟩ := List.mem_map.1 this
          exact ⟨e, he, he2⟩
        have hmem2 : ∀ e ∈ es, ∃ x ∈ ents.toList, x.born = e.1 := fun e he => by
          have : e.1 ∈ ents.toList.map (·.born) := by rw [hborn]; exact List.mem_map.2 ⟨e, he, rfl⟩
          obtain ⟨x, hx, hx2⟩ := List.mem_map.1 this
          exact ⟨x, hx, hx2⟩
        rcases run_next (P := P) (t := oty) hb2 hm2 (fun x hx => by obtain ⟨e, he, he2⟩ := hmem x hx; rw [← he2]; exact hold e he) hsc with ⟨g1, g2⟩ | ⟨e, he, w', g1, g2, g3, g4, g5, g6⟩
        · refine wp_hop (P := P) (A := A) (S := S) (ρ := ρ) (r := ⟨True, .tup [.bool false], [], []⟩) (hop_val (v := .tuple #[.bool false]) ?_ (by simp only [VR]; exact ⟨[.bool false], by simp, VRs_cons.2 ⟨_, _, rfl, by simp [VR], by simp [VRs]⟩⟩)) fun v w' hout => ?_
          · simp only [execOp]
            rw [hx2, run_bind_ok g1]
            rfl
          · exact hK _ (List.mem_cons_self ..) () v w' (fun e he => by obtain ⟨x, hx, hx2⟩ := hmem2 e he; rw [← hx2]; exact g2 x hx) hout
        · refine wp_hop (P := P) (A := A) (S := S) (ρ := ρ) (r := ⟨True, .tup [.bool true, .junk, .junk], [(l, some (.itr m since c (seen ++ [e.born])))], []⟩)
            (hop_obj' (C := []) (b := b2) (c := .itr m since c (seen ++ [e.born])) (x := .tup [.bool true, .junk, .junk]) (v := .tuple #[.bool true, e.key, e.val]) hR.hp hc (by simp) hx1 (lt_of_some hb2) g2 g3 g4 g5 (nx := .value (.tuple #[.bool true, e.key, e.val])) ?_ (.inl rfl) (fun w'' I' ex hw => ⟨b2, bm, hb1, hw, hb3⟩) (fun w'' I' _ => ?_)) fun v w' hout => ?_
          · simp only [execOp]
            rw [hx2, run_bind_ok g6]
            rfl
          · simp only [VR]
            exact ⟨[.bool true, e.key, e.val], by simp, VRs_cons.2 ⟨_, _, rfl, by simp [VR], VRs_cons.2 ⟨_, _, rfl, by simp [VR], VRs_cons.2 ⟨_, _, rfl, by simp [VR], by simp [VRs]⟩⟩⟩⟩
          · exact hK _ (List.mem_cons_of_mem _ (List.mem_cons_self ..)) e.born v w' ⟨g1, by obtain ⟨e', he', h2⟩ := hmem e he; exact ⟨e', he', h2⟩⟩ hout
      · cases h
    · cases h
  · cases h
theorem rel_sound {Γr : RCons} (hΓr : ∀ g C, getR? Γr g = some C → RSound P g C) (hR : Rep P A w0 M S ρ a w) {Rs : List RRes} (h : relOp Γr S o = some Rs) (ho : ∀ R ∈ Rs, R.obl) (hn : ∀ R ∈ Rs, ∀ z, R.φ z → newIds S (R.res z).upd = true)
    {K : Act → World → Prop} {Q : Exit → Act → World → Prop} (hK : ∀ R ∈ Rs, ∀ z v w', R.φ z → OutOk P A S ρ w (R.res z) v w' → K (a.put o.dst v) w') : o.guard = none ∧ o.wp P a w K Q := by
  unfold relOp at h
  split at h
  · rename_i fo args ts hg hop
    refine ⟨hg, ?_⟩
    split at h
    · rename_i g first cap hfo
      split at h
      · rename_i C hC
        split at h
        · rename_i hpl
          simp only [Bool.and_eq_true, List.all_eq_true] at hpl
          obtain ⟨R, hCR, hRs⟩ := Option.map_eq_some_iff.1 h
          subst hRs
          have hev : ∀ x, plain S x = true → VR P w (imm A S.hp ρ w) ρ (strip (evOp S x)).2 (a.eval x) := by
            intro x hx
            refine evOp_sound (G := []) hR (fun _ hy => by cases hy) ?_
            unfold plain at hx
            rw [List.isEmpty_iff.1 hx]
            rfl
          obtain ⟨hent, hs⟩ := hΓr g C hC
          have hfo2 := hev fo hpl.1
          rw [hfo] at hfo2
          simp only [VR] at hfo2
          obtain ⟨vs, us, hve, hv1, hv2⟩ := hfo2
          have hargs : VRs P w (imm A S.hp ρ w) ρ (args.toList.map fun x => (strip (evOp S x)).2) (args.toList.map a.eval) := VRs_map _ fun x hx => hev x (hpl.2 x hx)
          have hc := hs _ S _ R hCR (ho R (by simp)) (hn R (by simp)) A w ρ _ hR.hp ((hv1.append hargs).append hv2)
          have hrun : (execOp a.eval o).run P w = .ok (.enter g (vs ++ args.toList.map a.eval ++ us).toArray) w := by
            obtain ⟨dst, op, oty, pos, after, guard⟩ := o
            simp only at hop
            subst hop
            simp only [execOp, resolve, Sem.run_bind, Sem.run_pure, Result.andThen_ok, hve, Deferred.ofValue, invoke]
            rw [hent]
            simp
          unfold Oper.wp
          rw [hrun, Oper.upon_enter]
          refine hc.mono ?_
          rintro e w' ⟨z, v, rfl, hz, hout⟩
          exact hK R (by simp) z v w' hz hout
        · cases h
      · cases h
    · cases h
  · rename_i x hg hop
    refine ⟨hg, ?_⟩
    split at h
    · rename_i hp
      exact next_sound hR hop hp h ho hK
    · cases h
  · cases h
theorem regionVC_sound (hΓ : ∀ g C, get? Γ g = some C → Sound P g C) {Γr : RCons} (hΓr : ∀ g C, getR? Γr g = some C → RSound P g C) {Q : Exit → Act → World → Prop} {K : AState → Prop} (hQ : ∀ S' ρ' a' w', K S' → Rep P A w0 M S' ρ' a' w' → Q .normal a' w') :
    ∀ (l : List Oper) (S : AState) (ρ : Nat → Value) (a : Act) (w : World), regionVC P Γ Γr ops l S K → Rep P A w0 M S ρ a w → wpList P ops Q l a w
  | [], S, ρ, a, w, h, hR => hQ S ρ a w h hR
  | o :: rest, S, ρ, a, w, h, hR => by
    unfold regionVC at h
    split at h
    · rename_i Rs hrel
      have hz := relVC_at h
      have hrun := rel_sound (Q := Q) (K := wpList P ops Q rest) hΓr hR hrel (fun R hRs => (hz R hRs).1) (fun R hRs z hφ => ((hz R hRs).2 z hφ).1.1) fun R hRs z v w' hφ hout => by
        obtain ⟨ρ', hR'⟩ := app_ran hR (G := []) (fun _ hx => by cases hx) ((hz R hRs).2 z hφ).1.2 hout
        exact regionVC_sound hΓ hΓr hQ rest _ ρ' _ w' ((hz R hRs).2 z hφ).2 hR'
      unfold wpList
      have hw : Region.wanted o (yielded ops a.tmps) = true := by
        unfold Region.wanted
        rw [hrun.1]
      rw [if_pos hw]
      exact .inl hrun.2
    split at h
    · rename_i S' G r hrF
      obtain ⟨hr, hR⟩ := opResF_rep hrF hR
      split at h
      · rename_i hd
        obtain ⟨ho, hk⟩ := h
        obtain ⟨h1, h2, h3⟩ := opRes_sound hΓ hR hr ho
        unfold wpList
        split
        · rename_i hw
          refine .inl (h2 hw _ Q fun v w' hout => ?_)
          obtain ⟨ρ', hR'⟩ := app_ran hR (h1.1 hw) hd hout
          exact regionVC_sound hΓ hΓr hQ rest _ ρ' _ w' hk hR'
        · rename_i hw
          exact regionVC_sound hΓ hΓr hQ rest _ ρ _ w hk (app_skip hR (fun hh => hw (h1.2 hh)) hd h3)
      · cases h
    · cases h
theorem region_sound (hΓ : ∀ g C, get? Γ g = some C → Sound P g C) {Γr : RCons} (hΓr : ∀ g C, getR? Γr g = some C → RSound P g C) {Q : Exit → Act → World → Prop} {K : AState → Prop} {id : Nat} (h : regionVC P Γ Γr ops ops.toList S K) (hR : Rep P A w0 M S ρ a w)
    (hQ : ∀ S' ρ' a' w', K S' → Rep P A w0 M S' ρ' a' w' → Q .normal a' w') : (Code.region id ops false).wp P Q a w :=
  wp_region_list (regionVC_sound hΓ hΓr hQ _ _ _ _ _ h hR)

theorem killT_get (K : List Nat) (T : Temps) (t : Nat) : get? (killT K T) t = (get? T t).map (AV.kill K) := get?_killT K T t
theorem app_tm (dst : Option Nat) (t : Nat) : get? (S.app dst G r).tm t = if dst = some t then some (condOf G r.val) else (get? S.tm t).map (AV.kill r.kill) := by
  cases dst with
  | none =>
    simp only [AState.app]
    rw [next_tm, get?_killT]
    simp
  | some d =>
    simp only [AState.app, get?_putT]
    rw [next_tm, get?_killT]
    simp
theorem app_hp (dst : Option Nat) (l : Nat) : get? (S.app dst G r).hp l = match get? r.upd l with
    | some x => x
    | none => (get? S.hp l).map (Chunk.kill r.kill) := by
  have : get? (S.app dst G r).hp l = get? (S.next r).hp l := by cases dst <;> rfl
  rw [this, next_hp, get?_applyUpd, get?_killH]
  cases get? r.upd l <;> rfl
theorem app_gh (dst : Option Nat) : (S.app dst G r).gh = S.gh.map (AV.kill r.kill) := by
  cases dst <;> exact next_gh r
theorem app_n (dst : Option Nat) : (S.app dst G r).n = S.n := by
  cases dst <;> exact next_n r
structure Same (S S' : AState) : Prop where
  tm : ∀ t, get? S.tm t = get? S'.tm t
  hp : ∀ l, get? S.hp l = get? S'.hp l
  n : S.n = S'.n
  gh : S.gh = S'.gh
theorem Same.rfl' (S : AState) : Same S S := ⟨fun _ => rfl, fun _ => rfl, rfl, rfl⟩
theorem Same.trans {S1 S2 S3 : AState} (h : Same S1 S2) (k : Same S2 S3) : Same S1 S3 := ⟨fun t => (h.tm t).trans (k.tm t), fun t => (h.hp t).trans (k.hp t), h.n.trans k.n, h.gh.trans k.gh⟩
theorem Same.app (h : Same S S') (x : RI) : Same (S.appI x) (S'.appI x) :=
  ⟨fun t => by simp only [AState.appI, app_tm, h.tm], fun l => by simp only [AState.appI, app_hp, h.hp], by simp only [AState.appI, app_n, h.n], by simp only [AState.appI, app_gh, h.gh]⟩
theorem noTouch_spec {x y : RI} (h : noTouch x y = true) : x.r.kill = [] ∧ (∀ d, x.dst = some d → d ∉ y.looks ∧ y.dst ≠ some d) ∧ ∀ l, (get? x.r.upd l).isSome = true → l ∉ y.fp ∧ get? y.r.upd l = none := by
  unfold noTouch at h
  simp only [Bool.and_eq_true] at h
  obtain ⟨⟨h1, h2⟩, h3⟩ := h
  refine ⟨List.isEmpty_iff.1 h1, fun d hd => ?_, fun l hl => ?_⟩
  · rw [hd] at h2
    simpa using h2
  · obtain ⟨u, hu, he⟩ := get?_mem hl
    have := List.all_eq_true.1 h3 u hu
    rw [he] at this
    simpa using this
theorem map_kill_nilT (x : Option AV) : x.map (AV.kill []) = x := by cases x <;> simp [AV.kill_nil]
theorem map_kill_nilH (x : Option Chunk) : x.map (Chunk.kill []) = x := by cases x <;> simp [Chunk.kill_nil]
theorem map_kill_gh (l : List AV) : l.map (AV.kill []) = l := by
  have : AV.kill [] = id := by funext x; exact AV.kill_nil x
  rw [this]; simp
theorem commute {x y : RI} (h : noTouch x y = true) (k : noTouch y x = true) : Same ((S.appI x).appI y) ((S.appI y).appI x) := by
  obtain ⟨h1, h2, h3⟩ := noTouch_spec h
  obtain ⟨k1, k2, k3⟩ := noTouch_spec k
  refine ⟨fun t => ?_, fun l => ?_, by simp only [AState.appI, app_n], by simp only [AState.appI, app_gh, h1, k1]⟩
  · simp only [AState.appI, app_tm, h1, k1, map_kill_nilT]
    by_cases hx : x.dst = some t
    · rw [if_pos hx, if_pos hx, if_neg (h2 t hx).2]
    · rw [if_neg hx, if_neg hx]
  · simp only [AState.appI, app_hp, h1, k1, map_kill_nilH]
    cases hx : get? x.r.upd l with
    | none => rfl
    | some c =>
      rw [(h3 l (by rw [hx]; rfl)).2]
structure EqOn (x : RI) (S S' : AState) : Prop where
  tm : ∀ t ∈ x.looks, get? S.tm t = get? S'.tm t
  hp : ∀ l ∈ x.fp, get? S.hp l = get? S'.hp l
  n : S.n = S'.n
  gh : S.gh = S'.gh
theorem EqOn.app {x : RI} (h : EqOn x S S') (y : RI) : EqOn x (S.appI y) (S'.appI y) :=
  ⟨fun t ht => by simp only [AState.appI, app_tm, h.tm t ht], fun l hl => by simp only [AState.appI, app_hp, h.hp l hl], by simp only [AState.appI, app_n, h.n], by simp only [AState.appI, app_gh, h.gh]⟩
theorem EqOn.skip {x y : RI} (h : noTouch y x = true) : EqOn x S (S.appI y) := by
  obtain ⟨h1, h2, h3⟩ := noTouch_spec h
  refine ⟨fun t ht => ?_, fun l hl => ?_, by simp only [AState.appI, app_n], by simp only [AState.appI, app_gh, h1]; exact (map_kill_gh _).symm⟩
  · simp only [AState.appI, app_tm, h1, map_kill_nilT]
    rw [if_neg fun hd => (h2 t hd).1 ht]
  · simp only [AState.appI, app_hp, h1, map_kill_nilH]
    cases hg : get? y.r.upd l with
    | none => rfl
    | some c => exact absurd hl (h3 l (by rw [hg]; rfl)).1
theorem EqOn.symm {x : RI} (h : EqOn x S S') : EqOn x S' S := ⟨fun t ht => (h.tm t ht).symm, fun t ht => (h.hp t ht).symm, h.n.symm, h.gh.symm⟩
theorem EqOn.trans {x : RI} {S1 S2 S3 : AState} (h : EqOn x S1 S2) (k : EqOn x S2 S3) : EqOn x S1 S3 := ⟨fun t ht => (h.tm t ht).trans (k.tm t ht), fun t ht => (h.hp t ht).trans (k.hp t ht), h.n.trans k.n, h.gh.trans k.gh⟩
theorem pick?_congr {α : Type} {H H' : List (Nat × α)} : ∀ (l : List Nat), (∀ t ∈ l, get? H t = get? H' t) → pick? H l = pick? H' l
  | [], _ => rfl
  | t :: r, h => by
    unfold pick?
    rw [h t (by simp), pick?_congr r fun u hu => h u (by simp [hu])]
theorem get?_pick? {α : Type} {H : List (Nat × α)} {t : Nat} {x : α} : ∀ (l : List Nat), get? (pick? H l) t = some x → get? H t = some x
  | [], h => by cases h
  | u :: r, h => by
    unfold pick? at h
    split at h
    · rename_i c hc
      simp only [get?] at h
      split at h
      · rename_i he
        subst he
        injection h with h; subst h
        exact hc
      · exact get?_pick? r h
    · exact get?_pick? r h
theorem partOf_eq {x : RI} (h : EqOn x S S') : partOf x.looks x.fp S = partOf x.looks x.fp S' := by
  unfold partOf
  rw [pick?_congr _ h.tm, pick?_congr _ h.hp, h.n, h.gh]
theorem part_partOf (looks fp : List Nat) (S : AState) : Part (partOf looks fp S) S := ⟨fun t x h => get?_pick? _ h, fun t x h => get?_pick? _ h, rfl, rfl⟩

theorem SD_n : ∀ (l : List RI) (k : Nat) (D : Nat → Bool) (S : AState), (SD k l D S).n = S.n
  | [], k, D, S => rfl
  | x :: r, k, D, S => by
    unfold SD
    rw [SD_n]
    split
    · exact app_n _
    · rfl
theorem SD_eqOn {x : RI} {D D' : Nat → Bool} : ∀ (l : List RI) (k : Nat) (S S' : AState), EqOn x S S' → (∀ j y, l[j]? = some y → D (k + j) ≠ D' (k + j) → noTouch y x = true) → EqOn x (SD k l D S) (SD k l D' S')
  | [], k, S, S', h, _ => h
  | y :: r, k, S, S', h, hn => by
    unfold SD
    refine SD_eqOn r (k + 1) _ _ ?_ fun j z hj hd => hn (j + 1) z (by simpa using hj) (by rw [show k + (j + 1) = k + 1 + j by omega]; exact hd)
    have h0 := hn 0 y rfl
    simp only [Nat.add_zero] at h0
    cases hD : D k <;> cases hD' : D' k <;> simp only
    · exact h
    · exact h.trans (EqOn.skip (h0 (by rw [hD, hD']; simp)))
    · exact (EqOn.skip (h0 (by rw [hD, hD']; simp))).symm.trans h
    · exact h.app y
theorem SD_same {D D' : Nat → Bool} : ∀ (l : List RI) (k : Nat) (S S' : AState), Same S S' → (∀ j, j < l.length → D (k + j) = D' (k + j)) → Same (SD k l D S) (SD k l D' S')
  | [], k, S, S', h, _ => h
  | y :: r, k, S, S', h, hn => by
    unfold SD
    have h0 := hn 0 (by simp)
    simp only [Nat.add_zero] at h0
    refine SD_same r (k + 1) _ _ ?_ fun j hj => by rw [show k + 1 + j = k + (j + 1) by omega]; exact hn (j + 1) (by simpa using hj)
    rw [← h0]
    cases D k
    · exact h
    · exact h.app y
theorem SD_push {x : RI} {D D' : Nat → Bool} : ∀ (l : List RI) (k : Nat) (S S1 : AState), Same S1 (S.appI x) → (∀ j, j < l.length → D (k + j) = D' (k + j)) → (∀ j y, l[j]? = some y → D (k + j) = true → noTouch x y = true ∧ noTouch y x = true) →
    Same (SD k l D' S1) ((SD k l D S).appI x)
  | [], k, S, S1, h, _, _ => h
  | y :: r, k, S, S1, h, hd, hn => by
    unfold SD
    have h0 := hd 0 (by simp)
    have hn0 := hn 0 y rfl
    simp only [Nat.add_zero] at h0 hn0
    refine SD_push r (k + 1) _ _ ?_ (fun j hj => by rw [show k + 1 + j = k + (j + 1) by omega]; exact hd (j + 1) (by simpa using hj)) fun j z hj hz => hn (j + 1) z (by simpa using hj) (by rw [show k + (j + 1) = k + 1 + j by omega]; exact hz)
    rw [← h0]
    cases hD : D k
    · exact h
    · obtain ⟨n1, n2⟩ := hn0 hD
      exact (h.app y).trans (commute n1 n2)
theorem SD_insert {x : RI} {D D' : Nat → Bool} : ∀ (l : List RI) (k i : Nat) (S : AState), l[i]? = some x → D (k + i) = false → D' (k + i) = true → (∀ j, j ≠ i → D (k + j) = D' (k + j)) →
    (∀ j y, i < j → l[j]? = some y → D (k + j) = true → noTouch x y = true ∧ noTouch y x = true) → Same (SD k l D' S) ((SD k l D S).appI x)
  | [], k, i, S, h, _, _, _, _ => by simp at h
  | y :: r, k, 0, S, h, h1, h2, h3, h4 => by
    simp only [List.getElem?_cons_zero, Option.some.injEq] at h
    subst h
    unfold SD
    simp only [Nat.add_zero] at h1 h2
    rw [h1, h2]
    exact SD_push r (k + 1) _ _ (Same.rfl' _) (fun j hj => by rw [show k + 1 + j = k + (j + 1) by omega]; exact h3 (j + 1) (by omega)) fun j z hj hz => h4 (j + 1) z (by omega) (by simpa using hj) (by rw [show k + (j + 1) = k + 1 + j by omega]; exact hz)
  | y :: r, k, i + 1, S, h, h1, h2, h3, h4 => by
    unfold SD
    have h0 := h3 0 (by omega)
    simp only [Nat.add_zero] at h0
    rw [← h0]
    exact SD_insert r (k + 1) i _ (by simpa using h) (by rw [show k + 1 + i = k + (i + 1) by omega]; exact h1) (by rw [show k + 1 + i = k + (i + 1) by omega]; exact h2)
      (fun j hj => by rw [show k + 1 + j = k + (j + 1) by omega]; exact h3 (j + 1) (by omega)) fun j z hij hj hz => h4 (j + 1) z (by omega) (by simpa using hj) (by rw [show k + (j + 1) = k + 1 + j by omega]; exact hz)
end
end Go.E

/-
  EngT: a region in any order.
-/
namespace Go.E
open Go.RowKit
set_option linter.unusedVariables false
set_option linter.unusedSimpArgs false
theorem AV.has_condOf {l : Nat} {G : List (Nat × Bool)} {x : AV} : (condOf G x).has l = x.has l := by cases G <;> rfl
theorem tmHas_set {l d : Nat} {x : AV} : ∀ {T : Temps}, tmHas l T = false → x.has l = false → tmHas l (set T d x) = false
  | [], _, hx => by simp [set, tmHas, hx]
  | (k, y) :: r, h, hx => by
    simp only [tmHas, Bool.or_eq_false_iff] at h
    simp only [set]
    split
    · simp [tmHas, hx, h.2]
    · simp [tmHas, h.1, tmHas_set h.2 hx]
theorem tmHas_kill {l : Nat} {K : List Nat} : ∀ {T : Temps}, tmHas l T = false → tmHas l (killT K T) = false
  | [], _ => rfl
  | (k, y) :: r, h => by
    simp only [tmHas, Bool.or_eq_false_iff] at h
    simp only [killT, tmHas, tmHas_kill h.2, Bool.or_false]
    cases hh : (y.kill K).has l with
    | false => rfl
    | true => rw [(AV.has_kill hh).2] at h; cases h.1
theorem hpHas_kill {l : Nat} {K : List Nat} : ∀ {T : Heap}, hpHas l T = false → hpHas l (killH K T) = false
  | [], _ => rfl
  | (k, y) :: r, h => by
    simp only [hpHas, Bool.or_eq_false_iff] at h
    simp only [killH, hpHas, hpHas_kill h.2, Bool.or_false]
    cases hh : (y.kill K).has l with
    | false => rfl
    | true => rw [(Chunk.has_kill hh).2] at h; cases h.1
theorem hpHas_set {l d : Nat} {x : Chunk} : ∀ {T : Heap}, hpHas l T = false → x.has l = false → hpHas l (set T d x) = false
  | [], _, hx => by simp [set, hpHas, hx]
  | (k, y) :: r, h, hx => by
    simp only [hpHas, Bool.or_eq_false_iff] at h
    simp only [set]
    split
    · simp [hpHas, hx, h.2]
    · simp [hpHas, h.1, hpHas_set h.2 hx]
theorem hpHas_del {l d : Nat} : ∀ {T : Heap}, hpHas l T = false → hpHas l (del T d) = false
  | [], _ => by simp [del, hpHas]
  | (k, y) :: r, h => by
    simp only [hpHas, Bool.or_eq_false_iff] at h
    simp only [del]
    split
    · exact hpHas_del h.2
    · simp [hpHas, h.1, hpHas_del h.2]
theorem hpHas_applyUpd {l : Nat} : ∀ (u : List (Nat × Option Chunk)) {H : Heap}, hpHas l H = false → (∀ x ∈ u, ∀ c, x.2 = some c → c.has l = false) → hpHas l (applyUpd u H) = false
  | [], H, h, _ => h
  | (k, none) :: r, H, h, hu => by
    simp only [applyUpd]
    exact hpHas_del (hpHas_applyUpd r h fun x hx => hu x (by simp [hx]))
  | (k, some c) :: r, H, h, hu => by
    simp only [applyUpd]
    exact hpHas_set (hpHas_applyUpd r h fun x hx => hu x (by simp [hx])) (hu (k, some c) (by simp) c rfl)
theorem fresh_iff {S : AState} {l : Nat} : S.fresh l = true ↔ AV.hass l S.gh = false ∧ tmHas l S.tm = false ∧ hpHas l S.hp = false ∧ get? S.hp l = none := by
  unfold AState.fresh
  simp [and_assoc]
theorem fresh_app {S : AState} {x : RI} {l : Nat} (h : S.fresh l = true) (hm : mentions l x = false) : (S.appI x).fresh l = true := by
  rw [fresh_iff] at h ⊢
  obtain ⟨h0, h1, h2, h3⟩ := h
  unfold mentions at hm
  simp only [Bool.or_eq_false_iff, List.any_eq_false] at hm
  obtain ⟨m1, m2⟩ := hm
  have m3 : ∀ u ∈ x.r.upd, u.1 ≠ l ∧ ∀ c, u.2 = some c → c.has l = false := by
    intro u hu
    have := m2 u hu
    simp only [Bool.or_eq_true, beq_iff_eq, not_or] at this
    refine ⟨this.1, fun c hc => ?_⟩
    have h4 := this.2
    rw [hc] at h4
    simpa using h4
  have hn : tmHas l (S.next x.r).tm = false ∧ hpHas l (S.next x.r).hp = false := by
    unfold AState.next
    split
    · exact ⟨h1, hpHas_applyUpd _ h2 fun u hu => (m3 u hu).2⟩
    · exact ⟨tmHas_kill h1, hpHas_applyUpd _ (hpHas_kill h2) fun u hu => (m3 u hu).2⟩
  refine ⟨?_, ?_, ?_, ?_⟩
  · simp only [AState.appI, app_gh]
    cases hh : AV.hass l (S.gh.map (AV.kill x.r.kill)) with
    | false => rfl
    | true => rw [(AV.hass_map_kill _ hh).2] at h0; cases h0
  · unfold AState.appI AState.app
    split
    · exact hn.1
    · unfold putT
      split
      · exact tmHas_set hn.1 (by rw [AV.has_condOf]; exact m1)
      · simp only [tmHas, Bool.or_eq_false_iff]
        exact ⟨by rw [AV.has_condOf]; exact m1, hn.1⟩
  · unfold AState.appI AState.app
    split
    · exact hn.2
    · exact hn.2
  · simp only [AState.appI, app_hp]
    cases hg : get? x.r.upd l with
    | none => simp [h3]
    | some c =>
      obtain ⟨u, hu, he⟩ := get?_mem (by rw [hg]; rfl)
      exact absurd he (m3 u hu).1
theorem on_kill {d : Nat} {K : List Nat} {x : AV} (h : x.on d = false) : (x.kill K).on d = false := by
  unfold AV.kill
  split
  · rfl
  · exact h
theorem tmOn_kill {d : Nat} {K : List Nat} : ∀ {T : Temps}, tmOn d T = false → tmOn d (killT K T) = false
  | [], _ => rfl
  | (k, y) :: r, h => by
    simp only [tmOn, Bool.or_eq_false_iff] at h
    simp [killT, tmOn, tmOn_kill h.2, on_kill h.1]
theorem tmOn_set {d e : Nat} {x : AV} : ∀ {T : Temps}, tmOn d T = false → x.on d = false → tmOn d (set T e x) = false
  | [], _, hx => by simp [set, tmOn, hx]
  | (k, y) :: r, h, hx => by
    simp only [tmOn, Bool.or_eq_false_iff] at h
    simp only [set]
    split
    · simp [tmOn, hx, h.2]
    · simp [tmOn, h.1, tmOn_set h.2 hx]
theorem tmOn_next {S : AState} {d : Nat} (r : Res) (h : tmOn d S.tm = false) : tmOn d (S.next r).tm = false := by
  unfold AState.next
  split
  · exact h
  · exact tmOn_kill h
end Go.E

/-
  EngU: a region in any order is sound.
-/
namespace Go.E
open Go.RowKit
set_option linter.unusedVariables false
set_option linter.unusedSimpArgs false
def cnt : Nat → (Nat → Bool) → Nat
  | 0, _ => 0
  | n + 1, D => cnt n D + if D n = true then 0 else 1
theorem cnt_zero {D : Nat → Bool} : ∀ {n : Nat}, cnt n D = 0 → ∀ i, i < n → D i = true
  | n + 1, h, i, hi => by
    simp only [cnt] at h
    split at h
    · rename_i hd
      rcases Nat.lt_or_ge i n with h' | h'
      · exact cnt_zero (by omega) i h'
      · have : i = n := by omega
        subst this; exact hd
    · omega
theorem cnt_congr {D D' : Nat → Bool} : ∀ {n : Nat}, (∀ i, i < n → D i = D' i) → cnt n D = cnt n D'
  | 0, _ => rfl
  | n + 1, h => by simp only [cnt]; rw [h n (by omega), cnt_congr fun i hi => h i (by omega)]
theorem cnt_step {D D' : Nat → Bool} {i : Nat} (h1 : D i = false) (h2 : D' i = true) (h : ∀ j, j ≠ i → D j = D' j) : ∀ {n : Nat}, i < n → cnt n D' + 1 = cnt n D
  | n + 1, hi => by
    simp only [cnt]
    by_cases he : i = n
    · subst he
      rw [h1, h2, cnt_congr (D := D) (D' := D') fun j hj => h j (by omega)]
      simp
    · rw [← h n (by omega)]
      have := cnt_step h1 h2 h (n := n) (by omega)
      omega
theorem SD_none {D : Nat → Bool} : ∀ (l : List RI) (k : Nat) (S : AState), (∀ j, D (k + j) = false) → SD k l D S = S
  | [], _, _, _ => rfl
  | x :: r, k, S, h => by
    unfold SD
    have := h 0
    simp only [Nat.add_zero] at this
    rw [this]
    exact SD_none r (k + 1) S fun j => by rw [show k + 1 + j = k + (j + 1) by omega]; exact h _
theorem SD_shift {D : Nat → Bool} : ∀ (l : List RI) (k : Nat) (S : AState), SD (k + 1) l D S = SD k l (fun j => D (j + 1)) S
  | [], _, _ => rfl
  | x :: r, k, S => by
    unfold SD
    exact SD_shift r (k + 1) _
theorem zip_mem {α : Type} : ∀ (l : List α) (k j : Nat) (x : α), l[j]? = some x → (k + j, x) ∈ zipIdx' k l
  | [], k, j, x, h => by simp at h
  | y :: r, k, 0, x, h => by
    simp only [List.getElem?_cons_zero, Option.some.injEq] at h
    subst h
    simp [zipIdx']
  | y :: r, k, j + 1, x, h => by
    have := zip_mem r (k + 1) j x (by simpa using h)
    rw [show k + 1 + j = k + (j + 1) by omega] at this
    simp [zipIdx', this]
theorem fresh_SD {S : AState} {l : Nat} {D : Nat → Bool} : ∀ (rs : List RI) (k : Nat) (S : AState), S.fresh l = true → (∀ j y, rs[j]? = some y → D (k + j) = true → mentions l y = false) → (SD k rs D S).fresh l = true
  | [], k, S, h, _ => h
  | y :: r, k, S, h, hn => by
    unfold SD
    have h0 := hn 0 y rfl
    simp only [Nat.add_zero] at h0
    refine fresh_SD (S := S) r (k + 1) _ ?_ fun j z hj hz => hn (j + 1) z (by simpa using hj) (by rw [show k + (j + 1) = k + 1 + j by omega]; exact hz)
    cases hD : D k
    · exact h
    · exact fresh_app h (h0 hD)
theorem tmOn_app {S : AState} {x : RI} {d : Nat} (h : tmOn d S.tm = false) (hg : (condOf x.G x.r.val).on d = false) : tmOn d (S.appI x).tm = false := by
  unfold AState.appI AState.app
  have hn := tmOn_next x.r h
  split
  · exact hn
  · unfold putT
    split
    · exact tmOn_set hn hg
    · simp only [tmOn, Bool.or_eq_false_iff]
      exact ⟨hg, hn⟩
theorem tmOn_SD {d : Nat} {D : Nat → Bool} : ∀ (rs : List RI) (k : Nat) (S : AState), tmOn d S.tm = false → (∀ j y, rs[j]? = some y → D (k + j) = true → (condOf y.G y.r.val).on d = false) → tmOn d (SD k rs D S).tm = false
  | [], k, S, h, _ => h
  | y :: r, k, S, h, hn => by
    unfold SD
    have h0 := hn 0 y rfl
    simp only [Nat.add_zero] at h0
    refine tmOn_SD r (k + 1) _ ?_ fun j z hj hz => hn (j + 1) z (by simpa using hj) (by rw [show k + (j + 1) = k + 1 + j by omega]; exact hz)
    cases hD : D k
    · exact h
    · exact tmOn_app h (h0 hD)
section
variable {P : Program} {A : Nat → Prop} {w0 w : World} {M : Own} {S : AState} {ρ : Nat → Value} {a : Act} {Γ : Cons} {ops : Array Oper} {rs : List RI} {an : List (List Nat)}
theorem drawRun_spec : ∀ (l : List Oper) (S : AState) (rs : List RI), drawRun P Γ ops l S = some rs → rs.length = l.length ∧ ∀ i x, rs[i]? = some x → ∃ o, l[i]? = some o ∧ x.dst = o.dst ∧ x.R = partOf x.looks x.fp (SD 0 rs (fun j => decide (j < i)) S) ∧ opRes P Γ ops x.R o = some (x.G, x.r)
  | [], S, rs, h => by
    unfold drawRun at h
    injection h with h; subst h
    exact ⟨rfl, fun i x hx => by simp at hx⟩
  | o :: rest, S, rs, h => by
    unfold drawRun at h
    simp only at h
    split at h
    · rename_i G r hr
      split at h
      · rename_i rs' hrs
        injection h with h; subst h
        obtain ⟨h1, h2⟩ := drawRun_spec rest _ rs' hrs
        refine ⟨by simp [h1], fun i x hx => ?_⟩
        cases i with
        | zero =>
          simp only [List.getElem?_cons_zero, Option.some.injEq] at hx
          subst hx
          refine ⟨o, rfl, rfl, ?_, hr⟩
          rw [SD_none _ _ _ fun j => by simp]
        | succ i =>
          obtain ⟨o', g1, g2, g3, g4⟩ := h2 i x (by simpa using hx)
          refine ⟨o', by simpa using g1, g2, ?_, g4⟩
          rw [g3]
          congr 1
          show _ = SD (0 + 1) rs' _ (S.appI _)
          rw [SD_shift]
          congr 1
          funext j
          simp
      · cases h
    · cases h
theorem obls_at : ∀ (rs : List RI), oblsOf rs → ∀ (i : Nat) (x : RI), rs[i]? = some x → under x.R x.G x.r.obl
  | [], _, i, x, h => by simp at h
  | y :: r, h, 0, x, hx => by
    simp only [List.getElem?_cons_zero, Option.some.injEq] at hx
    subst hx
    exact h.1
  | y :: r, h, i + 1, x, hx => obls_at r h.2 i x (by simpa using hx)
theorem ancOk_at : ∀ (l : List (Nat × Oper)), ancOk an l = true → ∀ i o, (i, o) ∈ l → (∀ p ∈ preOf o, p < i) ∧ ∀ x ∈ an.getD i [], x ∈ preOf o ∨ ∃ p ∈ preOf o, x ∈ an.getD p []
  | [], _, i, o, h => by cases h
  | (k, y) :: r, h, i, o, hm => by
    simp only [ancOk, Bool.and_eq_true] at h
    obtain ⟨⟨h1, h2⟩, h3⟩ := h
    rcases List.mem_cons.1 hm with he | hm
    · injection he with e1 e2; subst e1; subst e2
      refine ⟨fun p hp => by simpa using List.all_eq_true.1 h1 p hp, fun x hx => ?_⟩
      have := List.all_eq_true.1 h2 x hx
      simp only [Bool.or_eq_true, List.contains_iff_mem, List.any_eq_true] at this
      rcases this with h | ⟨p, hp, h⟩
      · exact .inl h
      · exact .inr ⟨p, hp, h⟩
    · exact ancOk_at r h3 i o hm
theorem pairs_at (h : pairsOk S an rs = true) {i : Nat} {x : RI} (hx : rs[i]? = some x) : newOk S x = true ∧ ∀ j y, rs[j]? = some y → i = j ∨ i ∈ an.getD j [] ∨ (aheadOk x y = true ∧ (j < i ∨ noTouch x y = true ∧ noTouch y x = true)) := by
  unfold pairsOk at h
  have h1 := List.all_eq_true.1 h _ (by have := zip_mem rs 0 i x hx; rw [Nat.zero_add] at this; exact this)
  simp only [Bool.and_eq_true] at h1
  refine ⟨h1.1, fun j y hy => ?_⟩
  have h2 := List.all_eq_true.1 h1.2 _ (by have := zip_mem rs 0 j y hy; rw [Nat.zero_add] at this; exact this)
  simp only [Bool.or_eq_true, Bool.and_eq_true, beq_iff_eq, List.contains_iff_mem, decide_eq_true_eq] at h2
  rcases h2 with (h | h) | h
  · exact .inl h
  · exact .inr (.inl h)
  · exact .inr (.inr h)
theorem Rep.drawn (hR : Rep P A w0 M S ρ a w) (n : Nat) : Rep P A w0 M S ρ a { w with drawn := n } := by
  have e : Ext w (imm A S.hp ρ w) { w with drawn := n } (imm A S.hp ρ { w with drawn := n }) := ⟨Nat.le_refl _, fun b hb => ⟨hb, rfl⟩⟩
  exact ⟨fun t v hv => TR.ext e (fun _ _ => rfl) (hR.tm t v hv), ⟨fun l c hl => (hR.hp.chunk l c hl).ext e (fun _ _ => rfl) (fun _ _ => rfl), hR.hp.ok, hR.hp.fresh, hR.hp.apart⟩, ⟨hR.keep.os, hR.keep.tape, hR.keep.output, hR.keep.size, hR.keep.blk⟩, hR.mine, VRs.ext e _ _ (fun _ _ => rfl) hR.gh, hR.defers, hR.sz⟩
theorem draw_any (hΓ : ∀ g C, get? Γ g = some C → Sound P g C) {Q : Exit → Act → World → Prop} {K : AState → Prop} (hQ : ∀ ρ' a' w', Rep P A w0 M (SD 0 rs (fun _ => true) S) ρ' a' w' → Q .normal a' w')
    (hrun : drawRun P Γ ops ops.toList S = some rs) (han : ancOk an (zipIdx' 0 ops.toList) = true) (hpairs : pairsOk S an rs = true) (hob : oblsOf rs) :
    ∀ (fuel : Nat) (listed : Array Bool) (ρ : Nat → Value) (a : Act) (w : World), listed.size = ops.size → cnt ops.size (fun k => listed.getD k false) ≤ fuel →
      (∀ i, listed.getD i false = true → ∀ x ∈ an.getD i [], listed.getD x false = true) → Rep P A w0 M (SD 0 rs (fun k => listed.getD k false) S) ρ a w → wpAny P .any ops Q fuel listed a w := by
  obtain ⟨hlen, hspec⟩ := drawRun_spec _ _ _ hrun
  have hlen : rs.length = ops.size := by simpa using hlen
  have hanc : ∀ i o, ops[i]? = some o → (∀ p ∈ preOf o, p < i) ∧ ∀ x ∈ an.getD i [], x ∈ preOf o ∨ ∃ p ∈ preOf o, x ∈ an.getD p [] := fun i o ho =>
    ancOk_at _ han i o (by have := zip_mem ops.toList 0 i o (by simpa using ho); rw [Nat.zero_add] at this; exact this)
  have hdone : ∀ (listed : Array Bool), listed.size = ops.size → Region.ready .any ops listed = [] → ∀ i, i < ops.size → listed.getD i false = true := by
    intro listed hsz hr i
    induction i using Nat.strongRecOn with
    | _ i ih =>
      intro hi
      cases hc : listed.getD i false with
      | true => rfl
      | false =>
        exfalso
        have hmem : i ∈ Region.ready .any ops listed := by
          rw [mem_ready]
          refine ⟨?_, ops[i], by simp [hi], fun e he hb => ?_⟩
          · have : i < listed.size := by omega
            simp [this] at hc ⊢
            exact hc
          · have hpre : e.on ∈ preOf ops[i] := by
              unfold preOf
              exact List.mem_map.2 ⟨e, List.mem_filter.2 ⟨by simpa using he, hb⟩, rfl⟩
            have hlt := (hanc i ops[i] (by simp [hi])).1 _ hpre
            exact ih _ hlt (by omega)
        rw [hr] at hmem
        cases hmem
  have hfin : ∀ (listed : Array Bool) (ρ : Nat → Value) (a : Act) (w : World), listed.size = ops.size → (∀ i, i < ops.size → listed.getD i false = true) → Rep P A w0 M (SD 0 rs (fun k => listed.getD k false) S) ρ a w → Q .normal a w := by
    intro listed ρ a w hsz hall hR
    have hs : Same (SD 0 rs (fun k => listed.getD k false) S) (SD 0 rs (fun _ => true) S) := SD_same rs 0 S S (Same.rfl' S) fun j hj => by rw [Nat.zero_add]; exact hall j (by omega)
    exact hQ ρ a w (hR.congr hs.tm hs.hp hs.n hs.gh)
  intro fuel
  induction fuel with
  | zero =>
    intro listed ρ a w hsz hc hcl hR
    have hall := cnt_zero (Nat.le_zero.1 hc)
    refine ⟨?_, hfin listed ρ a w hsz hall hR⟩
    rw [List.eq_nil_iff_forall_not_mem]
    intro j hj
    rw [mem_ready] at hj
    obtain ⟨h1, o, ho, _⟩ := hj
    have hlt : j < ops.size := (Array.getElem?_eq_some_iff.1 ho).1
    have h2 := hall j hlt
    have : j < listed.size := by omega
    simp [this] at h1 h2
    rw [h1] at h2
    cases h2
  | succ fuel ih =>
    intro listed ρ a w hsz hc hcl hR
    refine ⟨fun hr => hfin listed ρ a w hsz (hdone listed hsz hr) hR, fun i hi => ?_⟩
    rw [mem_ready] at hi
    obtain ⟨h1, o, ho, hpre⟩ := hi
    have hlt : i < ops.size := (Array.getElem?_eq_some_iff.1 ho).1
    have hD : listed.getD i false = false := by
      have : i < listed.size := by omega
      simp [this] at h1 ⊢
      exact h1
    have hpre' : ∀ p ∈ preOf o, listed.getD p false = true := by
      intro p hp
      unfold preOf at hp
      obtain ⟨e, he, rfl⟩ := List.mem_map.1 hp
      obtain ⟨he1, he2⟩ := List.mem_filter.1 he
      exact hpre e (by simpa using he1) he2
    have hancD : ∀ x ∈ an.getD i [], listed.getD x false = true := by
      intro x hx
      rcases (hanc i o ho).2 x hx with h | ⟨p, hp, h⟩
      · exact hpre' x h
      · exact hcl p (hpre' p hp) x h
    obtain ⟨x, hx⟩ : ∃ x, rs[i]? = some x := ⟨rs[i]'(by omega), List.getElem?_eq_getElem _⟩
    obtain ⟨o', ho', hdst, hRx, hres⟩ := hspec i x hx
    have : o' = o := by
      have : ops.toList[i]? = some o := by simpa using ho
      rw [this] at ho'
      injection ho' with ho'; exact ho'.symm
    subst this
    obtain ⟨hnew, hpair⟩ := pairs_at hpairs hx
    -- the state there, on what x looks at
    have heq : EqOn x (SD 0 rs (fun j => decide (j < i)) S) (SD 0 rs (fun k => listed.getD k false) S) := by
      refine SD_eqOn rs 0 S S ⟨fun _ _ => rfl, fun _ _ => rfl, rfl, rfl⟩ fun j y hj hne => ?_
      rw [Nat.zero_add] at hne
      rcases Nat.lt_or_ge j i with hji | hji
      · have hDj : listed.getD j false = false := by
          cases hh : listed.getD j false with
          | false => rfl
          | true => rw [hh] at hne; simp [hji] at hne
        rcases (pairs_at hpairs hj).2 i x hx with h | h | ⟨_, h⟩
        · omega
        · rw [hancD j h] at hDj; cases hDj
        · rcases h with h | h
          · omega
          · exact h.1
      · have hDj : listed.getD j false = true := by
          cases hh : listed.getD j false with
          | true => rfl
          | false => rw [hh] at hne; simp [Nat.not_lt.2 hji] at hne
        have hij : i ≠ j := fun he => by subst he; rw [hD] at hDj; cases hDj
        rcases hpair j y hj with h | h | ⟨_, h⟩
        · exact absurd h hij
        · rw [hcl j hDj i h] at hD; cases hD
        · rcases h with h | h
          · omega
          · exact h.2
    have hRpart : x.R = partOf x.looks x.fp (SD 0 rs (fun k => listed.getD k false) S) := by rw [hRx]; exact partOf_eq heq
    have hpart : Part x.R (SD 0 rs (fun k => listed.getD k false) S) := by rw [hRpart]; exact part_partOf _ _ _
    have hR0 := hR.part hpart
    obtain ⟨g1, g2, g3⟩ := opRes_sound hΓ hR0 hres (obls_at rs hob i x hx)
    -- new numbers
    have hahead : ∀ j y, rs[j]? = some y → listed.getD j false = true → aheadOk x y = true := by
      intro j y hj hDj
      rcases hpair j y hj with h | h | ⟨h, _⟩
      · subst h; rw [hD] at hDj; cases hDj
      · rw [hcl j hDj i h] at hD; cases hD
      · exact h
    unfold newOk at hnew
    simp only [Bool.and_eq_true] at hnew
    have hids : x.r.upd.all (fun u => (get? x.R.hp u.1).isSome || (SD 0 rs (fun k => listed.getD k false) S).fresh u.1) = true := by
      refine List.all_eq_true.2 fun u hu => ?_
      have h2 := List.all_eq_true.1 hnew.1 u hu
      simp only [Bool.or_eq_true] at h2 ⊢
      rcases h2 with h2 | h2
      · exact .inl h2
      · by_cases h3 : (get? x.R.hp u.1).isSome = true
        · exact .inl h3
        · refine .inr (fresh_SD (S := S) rs 0 S h2 fun j y hj hDj => ?_)
          rw [Nat.zero_add] at hDj
          have := hahead j y hj hDj
          unfold aheadOk at this
          simp only [Bool.and_eq_true] at this
          have := List.all_eq_true.1 this.1 u hu
          simp only [Bool.or_eq_true, Bool.not_eq_true'] at this
          exact this.resolve_left h3
    have hokd : okDst ((SD 0 rs (fun k => listed.getD k false) S).next x.r) x.G o'.dst = true := by
      rw [← hdst]
      have h2 := hnew.2
      cases hd : x.dst with
      | none => rfl
      | some d =>
        rw [hd] at h2
        simp only [okDst, Bool.and_eq_true, decide_eq_true_eq, Bool.not_eq_true'] at h2 ⊢
        refine ⟨⟨by rw [next_n, SD_n]; exact h2.1.1, tmOn_next _ (tmOn_SD rs 0 S h2.1.2 fun j y hj hDj => ?_)⟩, h2.2⟩
        rw [Nat.zero_add] at hDj
        have := hahead j y hj hDj
        unfold aheadOk at this
        simp only [Bool.and_eq_true, hd, Bool.not_eq_true'] at this
        exact this.2
    -- the state behind
    have hsame : Same (SD 0 rs (fun k => (listed.setIfInBounds i true).getD k false) S) ((SD 0 rs (fun k => listed.getD k false) S).appI x) := by
      refine SD_insert rs 0 i S hx (by rw [Nat.zero_add]; exact hD) ?_ (fun j hj => ?_) fun j y hij hj hDj => ?_
      · rw [Nat.zero_add]
        have : i < listed.size := by omega
        simp [this]
      · rw [Nat.zero_add]
        exact (getD_set_ne false (Ne.symm hj)).symm
      · rw [Nat.zero_add] at hDj
        rcases hpair j y hj with h | h | ⟨_, h⟩
        · omega
        · rw [hcl j hDj i h] at hD; cases hD
        · rcases h with h | h
          · omega
          · exact h
    have hgo : ∀ ρ' a' w', Rep P A w0 M ((SD 0 rs (fun k => listed.getD k false) S).app o'.dst x.G x.r) ρ' a' w' → wpAny P .any ops Q fuel (listed.setIfInBounds i true) a' w' := by
      intro ρ' a' w' hR'
      refine ih _ ρ' a' w' (by simp [hsz]) ?_ (fun j hj y hy => ?_) ?_
      · have := cnt_step (D := fun k => listed.getD k false) (D' := fun k => (listed.setIfInBounds i true).getD k false) hD (by
            have : i < listed.size := by omega
            simp [this]) (fun j hj => (getD_set_ne false (Ne.symm hj)).symm) hlt
        omega
      · by_cases hji : j = i
        · subst hji
          exact getD_set_true (hancD y hy)
        · rw [getD_set_ne false (Ne.symm hji)] at hj
          exact getD_set_true (hcl j hj y hy)
      · rw [← hdst] at hR'
        exact hR'.congr (fun t => (hsame.tm t).symm) (fun l => (hsame.hp l).symm) hsame.n.symm hsame.gh.symm
    unfold wpOp
    rw [ho]
    simp only
    split
    · rename_i hw
      refine .inl (g2 hw _ Q fun v w' hout => ?_)
      obtain ⟨ρ', hR'⟩ := app_ran hR (g1.1 hw) hokd (OutOk.whole hpart hR.hp hids hout)
      exact hgo ρ' _ w' hR'
    · rename_i hw
      exact hgo ρ _ w (app_skip hR (fun hh => hw (g1.2 hh)) hokd fun hn => ⟨(g3 hn).1, fun l x hx => by obtain ⟨c, h1, h2⟩ := (g3 hn).2 l x hx; exact ⟨c, h1, hpart.hp l c h2⟩⟩)
theorem draw_sound (hΓ : ∀ g C, get? Γ g = some C → Sound P g C) {Q : Exit → Act → World → Prop} {K : AState → Prop} {id : Nat} (hm : P.follows .mixedOrders = true) (h : drawVC P Γ ops S K) (hR : Rep P A w0 M S ρ a w)
    (hQ : ∀ S' ρ' a' w', K S' → Rep P A w0 M S' ρ' a' w' → Q .normal a' w') : (Code.region id ops true).wp P Q a w := by
  unfold drawVC at h
  split at h
  · rename_i rs hrun
    split at h
    · rename_i hok
      obtain ⟨hob, hK⟩ := h
      unfold drawOk at hok
      rw [Bool.and_eq_true] at hok
      have hf : ∀ k, (Array.replicate ops.size false).getD k false = false := by
        intro k
        rw [Array.getD_eq_getD_getElem?]
        cases hg : (Array.replicate ops.size false)[k]? with
        | none => rfl
        | some b =>
          have := Array.mem_of_getElem? hg
          rw [Array.mem_replicate] at this
          simp [this.2]
      refine wp_region_any hm (draw_any (an := ancs [] ops.toList) (rs := rs) (S := S) (A := A) (w0 := w0) (M := M) (K := K) hΓ (fun ρ' a' w' hR' => hQ _ ρ' a' w' hK hR') hrun hok.1 ((Bool.or_eq_true _ _ ▸ hok.2).elim pairs_fast fun h => h) hob ops.size _ ρ a _ (by simp) ?_ (fun i hi => by rw [hf] at hi; cases hi) ?_)
      · have : ∀ (n : Nat) (D : Nat → Bool), cnt n D ≤ n := by
          intro n D
          induction n with
          | zero => exact Nat.le_refl _
          | succ n ih => simp only [cnt]; split <;> omega
        exact this _ _
      · rw [SD_none rs 0 S fun j => by rw [Nat.zero_add]; exact hf j]
        exact hR.drawn _
    · cases h
  · cases h
end
end Go.E

/-
  EngV: a state that says less.
-/
namespace Go.E
open Go.RowKit
set_option linter.unusedVariables false
set_option linter.unusedSimpArgs false
abbrev Ren := List (Nat × Option Nat)
def Ren.is (σ : Ren) (l : Nat) (x : Option Nat) : Bool := match get? σ l with
  | some y => decide (y = x)
  | none => false
mutual
def leAV (σ : Ren) : AV → AV → Prop
  | y, .int k m => match y with | .int k' n => if k' = k then n = m else False | _ => False
  | y, .bool c => match y with | .bool b => b = c | _ => False
  | y, .str c => match y with | .str b => b = c | _ => False
  | y, .nilp => match y with | .nilp => True | _ => False
  | y, .nils => match y with | .nils => True | _ => False
  | y, .nilm => match y with | .nilm => True | _ => False
  | y, .nilf => match y with | .nilf => True | _ => False
  | y, .ptr l o => match y with | .ptr l' o' => if o' = o ∧ σ.is l (some l') = true then True else False | _ => False
  | y, .pel l t b i o => match y with | .pel l' t' b' i' o' => if t' = t ∧ b' = b ∧ o' = o ∧ σ.is l (some l') = true then i' = i else False | _ => False
  | y, .sl l => match y with
    | .sl l' => if σ.is l (some l') = true then True else False
    | .nils => if σ.is l none = true then True else False
    | _ => False
  | y, .mp l => match y with | .mp l' => if σ.is l (some l') = true then True else False | _ => False
  | y, .arr t xs => match y with
    | .arr t' ys => if h : t' = t then h ▸ ys = xs else False
    | .nils => xs = []
    | _ => False
  | y, .own _ _ => False
  | y, .cp t x o => match y with | .cp t' x' o' => if h : t' = t then (if o' = o then h ▸ x' = x else False) else False | _ => False
  | y, .av t xs => match y with | .av t' ys => if h : t' = t then h ▸ ys = xs else False | _ => False
  | y, .fn f a b => match y with | .fn f' a' b' => if f' = f then leAVs σ a' a ∧ leAVs σ b' b else False | _ => False
  | y, .pfn as r g => match y with | .pfn as' r' g' => if h : as' = as ∧ r' = r then h.1 ▸ h.2 ▸ g' = g else False | _ => False
  | y, .agg a => match y with | .agg a' => leAVs σ a' a | _ => False
  | y, .tup a => match y with | .tup a' => leAVs σ a' a | _ => False
  | y, .cond _ _ => False
  | y, .junk => True
termination_by structural _ y => y
def leAVs (σ : Ren) : List AV → List AV → Prop
  | y, [] => match y with | [] => True | _ => False
  | y, x :: r => match y with | x' :: r' => leAV σ x' x ∧ leAVs σ r' r | _ => False
termination_by structural _ y => y
end
def decRow (t : Ty) : Nat → List AV → Option (List t.T)
  | 0, cs => if cs.isEmpty then some [] else none
  | n + 1, cs => if cs.isEmpty then some [] else match dec t (cs.take t.size), decRow t n (cs.drop t.size) with
    | some x, some r => some (x :: r)
    | _, _ => none
def leC (σ : Ren) : Chunk → Chunk → Prop
  | .blk cs, .blk ds => leAVs σ cs ds
  | .row t xs, .row t' ys => if h : t = t' then h ▸ xs = ys else False
  | .mix p t xs, .mix q t' ys => if h : t = t' then leAVs σ p q ∧ h ▸ xs = ys else False
  | .map k v es c, .map k' v' es' c' => if h : k = k' ∧ v = v' then h.1 ▸ h.2 ▸ es = es' ∧ c = c' else False
  | .itr m s q seen, .itr m' s' q' seen' => if σ.is m' (some m) = true then s = s' ∧ q = q' ∧ seen = seen' else False
  | .blk cs, .mix q t ys => leAVs σ (cs.take q.length) q ∧ match decRow t (cs.drop q.length).length (cs.drop q.length) with
    | some zs => zs = ys
    | none => False
  | _, _ => False
def leT (σ : Ren) (S : Temps) : Temps → Prop
  | [] => True
  | (t, y) :: r => match get? S t with
    | some x => leAV σ x y ∧ leT σ S r
    | none => False
def leH (σ : Ren) (S : Heap) : Heap → Prop
  | [] => True
  | (l, d) :: r => match get? σ l with
    | some (some k) => match get? S k with
      | some c => leC σ c d ∧ leH σ S r
      | none => False
    | some none => match d with
      | .row t xs => xs = [] ∧ leH σ S r
      | _ => False
    | none => False
def addR (σ : Ren) (l : Nat) (x : Option Nat) : Ren := match get? σ l with
  | some _ => σ
  | none => (l, x) :: σ
mutual
def colAV (σ : Ren) : AV → AV → Ren
  | x, .ptr l _ => match x with | .ptr k _ => addR σ l (some k) | _ => σ
  | x, .pel l _ _ _ _ => match x with | .pel k _ _ _ _ => addR σ l (some k) | _ => σ
  | x, .sl l => match x with
    | .sl k => addR σ l (some k)
    | .nils => addR σ l none
    | _ => σ
  | x, .mp l => match x with | .mp k => addR σ l (some k) | _ => σ
  | x, .fn _ a b => match x with | .fn _ a' b' => colAVs (colAVs σ a' a) b' b | _ => σ
  | x, .agg a => match x with | .agg a' => colAVs σ a' a | _ => σ
  | x, .tup a => match x with | .tup a' => colAVs σ a' a | _ => σ
  | _, _ => σ
termination_by structural _ y => y
def colAVs (σ : Ren) : List AV → List AV → Ren
  | _, [] => σ
  | x, y :: r => match x with
    | x' :: r' => colAVs (colAV σ x' y) r' r
    | [] => σ
termination_by structural _ y => y
end
def colT (S : Temps) : Ren → Temps → Ren
  | σ, [] => σ
  | σ, (t, y) :: r => match get? S t with
    | some x => colT S (colAV σ x y) r
    | none => colT S σ r
def colC (σ : Ren) : Chunk → Chunk → Ren
  | .blk cs, .blk ds => colAVs σ cs ds
  | .mix p _ _, .mix q _ _ => colAVs σ p q
  | .blk cs, .mix q _ _ => colAVs σ (cs.take q.length) q
  | .itr m _ _ _, .itr m' _ _ _ => addR σ m' (some m)
  | _, _ => σ
def colH (S : Heap) : Ren → Heap → Ren
  | σ, [] => σ
  | σ, (l, d) :: r => match get? σ l with
    | some (some k) => match get? S k with
      | some c => colH S (colC σ c d) r
      | none => colH S σ r
    | _ => colH S σ r
def colN : Nat → Heap → Ren → Heap → Ren
  | 0, _, σ, _ => σ
  | n + 1, S, σ, T => colN n S (colH S σ T) T
def colI (S : Heap) : Ren → Heap → Ren
  | σ, [] => σ
  | σ, (l, d) :: r => match get? σ l with
    | some _ => colI S σ r
    | none => match get? S l with
      | some _ => colI S ((l, some l) :: σ) r
      | none => colI S ((l, none) :: σ) r
def renOf (S T : AState) : Ren := colI S.hp (colN 3 S.hp (colT S.tm (colAVs [] S.gh T.gh) T.tm) T.hp) T.hp
def injR : Ren → Bool
  | [] => true
  | (l, x) :: r => (match x with
    | some k => r.all fun y => !decide (y.2 = some k) || decide (y.1 = l)
    | none => true) && injR r
def leS0 (S T : AState) : Prop := match Nat.beq S.n T.n && injR (renOf S T) with
  | true => leAVs (renOf S T) S.gh T.gh ∧ leT (renOf S T) S.tm T.tm ∧ leH (renOf S T) S.hp T.hp
  | false => False
def frzT (l : Nat) (y : AV) : Temps → Temps
  | [] => []
  | (t, x) :: r => (t, match x with
    | .sl k => match Nat.beq k l with
      | true => y
      | false => .sl k
    | x => x) :: frzT l y r
def frz1 (S : AState) (l : Nat) : AState := match get? S.hp l with
  | some (.row t xs) => { S with tm := frzT l (.arr t xs) S.tm, hp := del S.hp l }
  | _ => S
def frzL (S : Temps) : Temps → List Nat
  | [] => []
  | (t, y) :: r => match y with
    | .arr _ _ => match get? S t with
      | some (.sl l) => l :: frzL S r
      | _ => frzL S r
    | _ => frzL S r
def frzS (S : AState) : List Nat → AState
  | [] => S
  | l :: r => frzS (frz1 S l) r
def leS (S T : AState) : Prop := leS0 (frzS S (frzL S.tm T.tm)) T
def renρ (σ : Ren) (ρ : Nat → Value) (l : Nat) : Value := match get? σ l with
  | some (some k) => ρ k
  | some none => .slice none 0 0
  | none => ρ l
section
variable {P : Program} {A : Nat → Prop} {w0 w : World} {M : Own} {S T : AState} {ρ : Nat → Value} {a : Act} {I : Nat → Prop} {σ : Ren}
theorem ren_is {l : Nat} {x : Option Nat} (h : σ.is l x = true) : get? σ l = some x := by
  unfold Ren.is at h
  split at h
  · rename_i y hy; rw [hy]; simpa using h
  · cases h
theorem renρ_some {l k : Nat} (h : σ.is l (some k) = true) : renρ σ ρ l = ρ k := by unfold renρ; rw [ren_is h]
theorem renρ_none {l : Nat} (h : σ.is l none = true) : renρ σ ρ l = .slice none 0 0 := by unfold renρ; rw [ren_is h]
mutual
theorem leAV_sound : ∀ (y x : AV) (v : Value), leAV σ x y → VR P w I ρ x v → VR P w I (renρ σ ρ) y v
  | .int k m, x, v, h, hv => by
    cases x <;> simp only [leAV] at h
    split at h
    · rename_i he; subst he; subst h; exact hv
    · exact h.elim
  | .bool m, x, v, h, hv => by
    cases x <;> simp only [leAV] at h
    subst h; exact hv
  | .str m, x, v, h, hv => by
    cases x <;> simp only [leAV] at h
    subst h; exact hv
  | .nilp, x, v, h, hv => by cases x <;> simp only [leAV] at h; exact hv
  | .nils, x, v, h, hv => by cases x <;> simp only [leAV] at h; exact hv
  | .nilm, x, v, h, hv => by cases x <;> simp only [leAV] at h; exact hv
  | .nilf, x, v, h, hv => by cases x <;> simp only [leAV] at h; exact hv
  | .ptr l o, x, v, h, hv => by
    cases x <;> simp only [leAV] at h
    split at h
    · rename_i he
      obtain ⟨rfl, h3⟩ := he
      simp only [VR, renρ_some h3] at hv ⊢
      exact hv
    · exact h.elim
  | .pel l t b i o, x, v, h, hv => by
    cases x <;> simp only [leAV] at h
    split at h
    · rename_i he
      obtain ⟨rfl, rfl, rfl, h3⟩ := he
      subst h
      simp only [VR, renρ_some h3] at hv ⊢
      exact hv
    · exact h.elim
  | .sl l, x, v, h, hv => by
    cases x <;> simp only [leAV] at h
    · split at h
      · rename_i he
        simp only [VR] at hv ⊢
        rw [renρ_none he, hv]
      · exact h.elim
    · split at h
      · rename_i h3
        simp only [VR, renρ_some h3] at hv ⊢
        exact hv
      · exact h.elim
  | .mp l, x, v, h, hv => by
    cases x <;> simp only [leAV] at h
    split at h
    · rename_i h3
      simp only [VR, renρ_some h3] at hv ⊢
      exact hv
    · exact h.elim
  | .arr t xs, x, v, h, hv => by
    cases x <;> simp only [leAV] at h
    · subst h
      simp only [VR] at hv ⊢
      subst hv
      exact ⟨none, 0, by simp, by simp, fun hh => absurd hh (by simp)⟩
    · split at h
      · rename_i he; subst he; simp only at h; subst h; exact hv
      · exact h.elim
  | .own _ _, x, v, h, hv => by simp [leAV] at h
  | .cp t y o, x, v, h, hv => by
    cases x <;> simp only [leAV] at h
    split at h
    · rename_i he
      subst he
      split at h
      · rename_i he; subst he; simp only at h; subst h; exact hv
      · exact h.elim
    · exact h.elim
  | .av t xs, x, v, h, hv => by
    cases x <;> simp only [leAV] at h
    split at h
    · rename_i he; subst he; simp only at h; subst h; exact hv
    · exact h.elim
  | .fn f a b, x, v, h, hv => by
    cases x <;> simp only [leAV] at h
    split at h
    · rename_i he
      subst he
      simp only [VR] at hv ⊢
      obtain ⟨vs, us, h1, h2, h3⟩ := hv
      exact ⟨vs, us, h1, leAVs_sound a _ vs h.1 h2, leAVs_sound b _ us h.2 h3⟩
    · exact h.elim
  | .pfn as r g, x, v, h, hv => by
    cases x <;> simp only [leAV] at h
    split at h
    · rename_i he
      obtain ⟨rfl, rfl⟩ := he
      simp only at h
      subst h
      exact hv
    · exact h.elim
  | .agg a, x, v, h, hv => by
    cases x <;> simp only [leAV] at h
    simp only [VR] at hv ⊢
    obtain ⟨vs, h1, h2⟩ := hv
    exact ⟨vs, h1, leAVs_sound a _ vs h h2⟩
  | .tup a, x, v, h, hv => by
    cases x <;> simp only [leAV] at h
    simp only [VR] at hv ⊢
    obtain ⟨vs, h1, h2⟩ := hv
    exact ⟨vs, h1, leAVs_sound a _ vs h h2⟩
  | .cond _ _, x, v, h, hv => by simp [leAV] at h
  | .junk, x, v, h, hv => by simp [VR]
theorem leAVs_sound : ∀ (y x : List AV) (v : List Value), leAVs σ x y → VRs P w I ρ x v → VRs P w I (renρ σ ρ) y v
  | [], x, v, h, hv => by
    cases x <;> simp only [leAVs] at h
    exact hv
  | y :: r, x, v, h, hv => by
    cases x with
    | nil => simp only [leAVs] at h
    | cons x' r' =>
      simp only [leAVs] at h
      obtain ⟨u, us, h1, h2, h3⟩ := VRs_cons.1 hv
      exact VRs_cons.2 ⟨u, us, h1, leAV_sound y x' u h.1 h2, leAVs_sound r r' us h.2 h3⟩
end
theorem leAVs_length : ∀ (y x : List AV), leAVs σ x y → x.length = y.length
  | [], [], _ => rfl
  | [], _ :: _, h => by simp [leAVs] at h
  | _ :: _, [], h => by simp [leAVs] at h
  | _ :: r, _ :: r', h => by simp only [leAVs] at h; simp [leAVs_length r r' h.2]
theorem decRow_sound (t : Ty) : ∀ (n : Nat) (cs : List AV) (ys : List t.T) (vs : List Value), decRow t n cs = some ys → VRs P w I ρ cs vs →
    vs.length = ys.length * t.size ∧ ∀ i x, nth ys i = some x → ∃ us : List Value, us.length = t.size ∧ (∀ j u, us[j]? = some u → vs[i * t.size + j]? = some u) ∧ DR w I t x us
  | 0, cs, ys, vs, h, hv => by
    unfold decRow at h
    split at h
    · rename_i he
      injection h with h; subst h
      have : cs = [] := by simpa using he
      subst this
      rw [VRs_nil] at hv
      subst hv
      exact ⟨by simp, fun i x hi => by simp [nth] at hi⟩
    · cases h
  | n + 1, cs, ys, vs, h, hv => by
    unfold decRow at h
    split at h
    · rename_i he
      injection h with h; subst h
      have : cs = [] := by simpa using he
      subst this
      rw [VRs_nil] at hv
      subst hv
      exact ⟨by simp, fun i x hi => by simp [nth] at hi⟩
    split at h
    · rename_i x r hx hr
      injection h with h; subst h
      have hd := dec_sound t _ x _ hx (hv.take t.size)
      obtain ⟨k1, k2⟩ := decRow_sound t n _ r _ hr (hv.drop t.size)
      have hlen := DR.length _ _ _ hd
      have hvl : t.size ≤ vs.length := by rw [List.length_take] at hlen; omega
      refine ⟨?_, fun i y hi => ?_⟩
      · rw [List.length_drop] at k1
        simp only [List.length_cons, Nat.succ_mul]
        omega
      · cases i with
        | zero =>
          have : x = y := by simpa [nth] using hi
          subst this
          refine ⟨_, hlen, fun j u hj => ?_, hd⟩
          rw [List.getElem?_take] at hj
          split at hj
          · simpa using hj
          · cases hj
        | succ i =>
          obtain ⟨us, m1, m2, m3⟩ := k2 i y (by simpa [nth] using hi)
          refine ⟨us, m1, fun j u hj => ?_, m3⟩
          have := m2 j u hj
          rw [List.getElem?_drop] at this
          rw [Nat.succ_mul, show i * t.size + t.size + j = t.size + (i * t.size + j) from by omega]
          exact this
    · cases h
theorem leC_sound {c d : Chunk} {rv : Value} (h : leC σ c d) (hc : ChunkR P w I ρ c rv) : ChunkR P w I (renρ σ ρ) d rv := by
  unfold leC at h
  split at h
  · obtain ⟨b, vs, e, h1, h2, h3⟩ := hc
    exact ⟨b, vs, e, h1, h2, leAVs_sound _ _ vs h h3⟩
  · split at h
    · rename_i he; subst he; simp only at h; subst h; exact hc
    · exact h.elim
  · split at h
    · rename_i he
      subst he
      obtain ⟨h0, h⟩ := h
      simp only at h
      subst h
      obtain ⟨b, vs, arr, e, h1, h2, h3, h4, h5, h6⟩ := hc
      refine ⟨b, vs, arr, e, h1, h2, leAVs_sound _ _ vs h0 h3, h4, ?_, ?_⟩
      · rw [← leAVs_length _ _ h0]; exact h5
      · rw [← leAVs_length _ _ h0]; exact h6
    · exact h.elim
  · split at h
    · rename_i he; obtain ⟨rfl, rfl⟩ := he; simp only at h; obtain ⟨h1, h2⟩ := h; subst h1; subst h2; exact hc
    · exact h.elim
  · split at h
    · rename_i he
      obtain ⟨rfl, rfl, rfl⟩ := h
      obtain ⟨b, bm, h1, h2, h3⟩ := hc
      exact ⟨b, bm, h1, h2, by rw [renρ_some he]; exact h3⟩
    · exact h.elim
  · rename_i cs q t ys
    obtain ⟨h0, h1⟩ := h
    split at h1
    case h_2 => exact h1.elim
    rename_i zs hzs
    subst h1
    have h1 := hzs
    clear hzs
    obtain ⟨b, vs, e, g1, g2, g3⟩ := hc
    have hl := leAVs_length _ _ h0
    have hq : q.length ≤ cs.length := by rw [List.length_take] at hl; omega
    have hvl := g3.length
    obtain ⟨k1, k2⟩ := decRow_sound (P := P) (w := w) (I := I) (ρ := ρ) t (cs.drop q.length).length (cs.drop q.length) zs (vs.drop q.length) h1 (g3.drop _)
    refine ⟨b, vs.take q.length, vs.toArray, e, g1, g2, leAVs_sound _ _ _ h0 (g3.take _), fun j u hj => ?_, ?_, fun i x hi => ?_⟩
    · rw [List.getElem?_take] at hj
      split at hj
      · simpa using hj
      · cases hj
    · rw [List.length_drop] at k1
      simp only [List.size_toArray]
      omega
    · obtain ⟨us, m1, m2, m3⟩ := k2 i x hi
      refine ⟨us, m1, fun j u hj => ?_, m3⟩
      have := m2 j u hj
      rw [List.getElem?_drop] at this
      simpa [Nat.add_assoc] using this
  · exact h.elim
theorem leT_at {S : Temps} : ∀ {T : Temps} {t : Nat} {y : AV}, leT σ S T → get? T t = some y → ∃ x, get? S t = some x ∧ leAV σ x y
  | [], t, y, h, ht => by simp [get?] at ht
  | (k, z) :: r, t, y, h, ht => by
    simp only [leT] at h
    split at h
    · rename_i x hx
      simp only [get?] at ht
      split at ht
      · rename_i he; subst he; injection ht with ht; subst ht; exact ⟨x, hx, h.1⟩
      · exact leT_at h.2 ht
    · exact h.elim
theorem leH_at {S : Heap} : ∀ {T : Heap} {l : Nat} {d : Chunk}, leH σ S T → get? T l = some d → (∃ k c, get? σ l = some (some k) ∧ get? S k = some c ∧ leC σ c d) ∨ (get? σ l = some none ∧ ∃ t, d = .row t [])
  | [], t, y, h, ht => by simp [get?] at ht
  | (k, z) :: r, l, d, h, ht => by
    simp only [leH] at h
    split at h
    · rename_i k' hk'
      split at h
      · rename_i x hx
        simp only [get?] at ht
        split at ht
        · rename_i he; subst he; injection ht with ht; subst ht; exact .inl ⟨k', x, hk', hx, h.1⟩
        · exact leH_at h.2 ht
      · exact h.elim
    · rename_i hn
      split at h
      · rename_i t xs
        simp only [get?] at ht
        split at ht
        · rename_i he; subst he; injection ht with ht; subst ht; exact .inr ⟨hn, t, by rw [h.1]⟩
        · exact leH_at h.2 ht
      · exact h.elim
    · exact h.elim
theorem injR_spec : ∀ {σ : Ren}, injR σ = true → ∀ {l l' k : Nat}, get? σ l = some (some k) → get? σ l' = some (some k) → l = l'
  | [], _, l, l', k, h, _ => by simp [get?] at h
  | (a, x) :: r, hi, l, l', k, h, h' => by
    simp only [injR, Bool.and_eq_true] at hi
    obtain ⟨h1, h2⟩ := hi
    have hmem : ∀ {r : Ren} {b : Nat}, get? r b = some (some k) → (b, some k) ∈ r := by
      intro r
      induction r with
      | nil => intro b hb; simp [get?] at hb
      | cons y r ih =>
        intro b hb
        obtain ⟨c, z⟩ := y
        simp only [get?] at hb
        split at hb
        · rename_i he; subst he; injection hb with hb; subst hb; simp
        · simp [ih hb]
    simp only [get?] at h h'
    split at h
    · rename_i he
      subst he
      injection h with h; subst h
      split at h'
      · rename_i he'; exact he'
      · have := List.all_eq_true.1 h1 _ (hmem h')
        simp at this
        exact this.symm
    · split at h'
      · rename_i he'
        subst he'
        injection h' with h'; subst h'
        have := List.all_eq_true.1 h1 _ (hmem h)
        simp at this
        exact this
      · exact injR_spec h2 h h'
theorem leS_ren (hR : Rep P A w0 M S ρ a w) (h : leS0 S T) : Rep P A w0 M T (renρ (renOf S T) ρ) a w := by
  unfold leS0 at h
  generalize renOf S T = σ at h ⊢
  split at h
  case h_2 => exact h.elim
  rename_i hnb
  simp only [Bool.and_eq_true] at hnb
  have hn : S.n = T.n := Nat.eq_of_beq_eq_true hnb.1
  have hinj := hnb.2
  obtain ⟨hg, ht, hh⟩ := h
  have hcase : ∀ l d, get? T.hp l = some d → (∃ k c, get? σ l = some (some k) ∧ get? S.hp k = some c ∧ leC σ c d ∧ renρ σ ρ l = ρ k) ∨ (renρ σ ρ l = .slice none 0 0 ∧ ∃ t, d = .row t []) := by
    intro l d hl
    rcases leH_at hh hl with ⟨k, c, h0, h1, h2⟩ | ⟨h1, h2⟩
    · exact .inl ⟨k, c, h0, h1, h2, by unfold renρ; rw [h0]⟩
    · exact .inr ⟨by unfold renρ; rw [h1], h2⟩
  have hext : Ext w (imm A S.hp ρ w) w (imm A T.hp (renρ σ ρ) w) := by
    refine ⟨Nat.le_refl _, fun b hb => ⟨⟨hb.1, fun l d hl hbl => ?_⟩, rfl⟩⟩
    rcases hcase l d hl with ⟨k, c, h0, h1, h2, h3⟩ | ⟨h1, _⟩
    · rw [h3] at hbl; exact hb.2 k c h1 hbl
    · rw [h1] at hbl; cases hbl
  refine ⟨fun t y hy => ?_, ⟨fun l d hl => ?_, fun l d b hl hb => ?_, hR.hp.fresh, fun l c l' c' hl hl' hne b hb hb' => ?_⟩, hR.keep, fun l d hl b hb => ?_, VRs.ext hext _ _ (fun _ _ => rfl) (leAVs_sound _ _ _ hg hR.gh), hR.defers, by rw [← hn]; exact hR.sz⟩
  · obtain ⟨x, hx, hle⟩ := leT_at ht hy
    have := hR.tm t x hx
    have hVR : ∀ y x, leAV σ x y → TR P w (imm A S.hp ρ w) ρ a.tmps x (a.tmps.getD t undef) → TR P w (imm A T.hp (renρ σ ρ) w) (renρ σ ρ) a.tmps y (a.tmps.getD t undef) := by
      intro y x hle hx
      have hy : ∀ z, VR P w (imm A S.hp ρ w) (renρ σ ρ) y z → TR P w (imm A T.hp (renρ σ ρ) w) (renρ σ ρ) a.tmps y z := by
        intro z hz
        have := VR.ext hext y z (fun _ _ => rfl) hz
        cases y <;> first | exact this | (simp only [VR] at this)
      cases x with
      | cond gs z =>
        have : y = .junk := by
          cases y <;> simp only [leAV] at hle
          rfl
        subst this
        simp [TR, VR]
      | _ => exact hy _ (leAV_sound y _ _ hle hx)
    exact hVR y x hle this
  · rcases hcase l d hl with ⟨k, c, h0, h1, h2, h3⟩ | ⟨h1, t, h2⟩
    · rw [h3]
      exact (leC_sound h2 (hR.hp.chunk k c h1)).ext hext (fun _ _ => rfl) (fun _ _ => rfl)
    · rw [h1, h2]
      exact .inl ⟨rfl, rfl⟩
  · rcases hcase l d hl with ⟨k, c, h0, h1, h2, h3⟩ | ⟨h1, _⟩
    · rw [h3] at hb; exact hR.hp.ok k c b h1 hb
    · rw [h1] at hb; cases hb
  · rcases hcase l c hl with ⟨k1, c1, h0, h1, h2, h3⟩ | ⟨h1, _⟩
    · rcases hcase l' c' hl' with ⟨k2, c2, g0, k1', k2', k3⟩ | ⟨k1', _⟩
      · rw [h3] at hb; rw [k3] at hb'
        refine hR.hp.apart k1 c1 k2 c2 h1 k1' (fun he => ?_) b hb hb'
        subst he
        exact hne (injR_spec hinj h0 g0)
      · rw [k1'] at hb'; cases hb'
    · rw [h1] at hb; cases hb
  · rcases hcase l d hl with ⟨k, c, h0, h1, h2, h3⟩ | ⟨h1, _⟩
    · rw [h3] at hb; exact hR.mine k c h1 b hb
    · rw [h1] at hb; cases hb
theorem get?_frzT (l : Nat) (y : AV) : ∀ (T : Temps) (t : Nat) (v : AV), get? (frzT l y T) t = some v → ∃ x, get? T t = some x ∧ (v = x ∨ x = .sl l ∧ v = y)
  | [], t, v, h => by simp [frzT, get?] at h
  | (s, x) :: r, t, v, h => by
    simp only [frzT, get?] at h ⊢
    split at h
    · rename_i hs
      rw [if_pos hs]
      injection h with h
      refine ⟨x, rfl, ?_⟩
      cases x with
      | sl k =>
        simp only at h
        split at h
        · rename_i hk
          exact .inr ⟨by rw [Nat.eq_of_beq_eq_true hk], h.symm⟩
        · exact .inl h.symm
      | _ => exact .inl h.symm
    · rename_i hs
      rw [if_neg hs]
      exact get?_frzT l y r t v h
theorem rep_frz1 (hR : Rep P A w0 M S ρ a w) (l : Nat) : Rep P A w0 M (frz1 S l) ρ a w := by
  unfold frz1
  split
  · rename_i t xs hc
    have hget : ∀ j c, get? (del S.hp l) j = some c → l ≠ j ∧ get? S.hp j = some c := fun j c h => by
      rw [get?_del] at h
      split at h
      · cases h
      · rename_i hj
        exact ⟨hj, h⟩
    have hext : Ext w (imm A S.hp ρ w) w (imm A (del S.hp l) ρ w) := ⟨Nat.le_refl _, fun b hb => ⟨⟨hb.1, fun j c hj => hb.2 j c (hget j c hj).2⟩, rfl⟩⟩
    refine ⟨fun s v hv => ?_, ⟨fun j c hj => ?_, fun j c b hj hb => hR.hp.ok j c b (hget j c hj).2 hb, hR.hp.fresh, fun j c j' c' hj hj' hne b hb => hR.hp.apart j c j' c' (hget j c hj).2 (hget j' c' hj').2 hne b hb⟩, hR.keep, fun j c hj b hb => hR.mine j c (hget j c hj).2 b hb, VRs.ext hext _ _ (fun _ _ => rfl) hR.gh, hR.defers, hR.sz⟩
    · obtain ⟨x, hx, hv⟩ := get?_frzT l _ S.tm s v hv
      have hT := hR.tm s x hx
      rcases hv with rfl | ⟨rfl, rfl⟩
      · exact TR.ext hext (fun _ _ => rfl) hT
      · have hr := resAV_gen (P := P) (Hn := [(l, .row t xs)]) hext (fun k t' ys hk => ?_) (.sl l) _ hT
        · simpa [resAV, get?, TR] using hr
        · simp only [get?] at hk
          split at hk
          · rename_i hkl
            subst hkl
            injection hk with hk
            rw [← hk]
            refine ⟨hR.hp.chunk _ _ hc, fun b hb => ⟨⟨?_, hR.hp.ok _ _ b hc hb⟩, fun j c hj hjb => ?_⟩⟩
            · rcases hR.hp.chunk _ _ hc with ⟨h0, _⟩ | ⟨b', off, cap, arr, e, h1, h2, _⟩
              · rw [h0] at hb
                cases hb
              · rw [h1] at hb
                simp only [blkOf, Option.some.injEq] at hb
                rw [← hb]
                exact (Array.getElem?_eq_some_iff.1 h2).1
            · exact hR.hp.apart _ _ j c hc (hget j c hj).2 (hget j c hj).1 b hb hjb
          · cases hk
    · exact (hR.hp.chunk j c (hget j c hj).2).ext hext (fun _ _ => rfl) (fun _ _ => rfl)
  · exact hR
theorem rep_frzS : ∀ (L : List Nat) {S : AState}, Rep P A w0 M S ρ a w → Rep P A w0 M (frzS S L) ρ a w
  | [], S, h => h
  | l :: r, S, h => rep_frzS r (rep_frz1 h l)
theorem leS_sound (hR : Rep P A w0 M S ρ a w) (h : leS S T) : ∃ ρ', Rep P A w0 M T ρ' a w := ⟨_, leS_ren (rep_frzS _ hR) h⟩
theorem leS_inj (h : leS0 S T) : injR (renOf S T) = true := by
  unfold leS0 at h
  split at h
  · rename_i hb
    simp only [Bool.and_eq_true] at hb
    exact hb.2
  · exact h.elim
end
end Go.E

/-
  EngW: code.
-/
namespace Go.E
open Go.RowKit
set_option linter.unusedVariables false
set_option linter.unusedSimpArgs false
inductive Ex where
  | normal | exit (id : Nat) | ret
structure Ann where
  X : Type
  rd : AState → Option X
  st : Code → AState → X → AState
  inv : X → X → Prop
  μ : X → Nat
abbrev Anns := List (Nat × Ann)
def key : Code → Option Nat
  | .region id _ _ => some id
  | .seq a b => match key a with | some k => some k | none => key b
  | .cond _ a b => match key a with | some k => some k | none => key b
  | .block _ c => key c | .loop c => key c | .scope c => key c
  | _ => none
def getN? : Anns → Nat → Option Ann
  | [], _ => none
  | (k, v) :: r, l => if k = l then some v else getN? r l
def annOf (L : Anns) (c : Code) : Option Ann := match key c with
  | some k => getN? L k
  | none => none
def cutOf (L : Anns) (c : Code) : Option Ann := match c with
  | .region id _ _ => getN? L (2000000 + id)
  | c => match key c with
    | some k => getN? L (1000000 + k)
    | none => none
def Exit.rel (Q : Ex → AState → Prop) (T : AState → Act → World → Prop) : Exit → Act → World → Prop
  | .normal, a, w => ∃ S, Q .normal S ∧ T S a w
  | .exit id, a, w => ∃ S, Q (.exit id) S ∧ T S a w
  | .ret, a, w => ∃ S, Q .ret S ∧ T S a w
  | _, _, _ => False
def vc (P : Program) (Γ : Cons) (Γr : RCons) (L : Anns) : Code → AState → (Ex → AState → Prop) → Prop
  | .skip, S, Q => Q .normal S
  | .label _, S, Q => Q .normal S
  | .region _ ops false, S, Q => regionVC P Γ Γr ops ops.toList S fun S' => Q .normal S'
  | .region _ ops true, S, Q => drawVC P Γ ops S fun S' => Q .normal S'
  | .seq x y, S, Q => match cutOf L x with
    | some A => (vc P Γ Γr L x S fun e S' => match e with
      | .normal => match A.rd S' with
        | some v => leS S' (A.st x S v) ∧ A.inv ((A.rd S).getD v) v
        | none => False
      | e => Q e S') ∧ ∀ v, A.inv ((A.rd S).getD v) v → vc P Γ Γr L y (A.st x S v) Q
    | none => vc P Γ Γr L x S fun e S' => match e with
      | .normal => vc P Γ Γr L y S' Q
      | e => Q e S'
  | .cond c x y, S, Q => match strip (evOp S c) with
    | ([], .bool b) => (b = true → vc P Γ Γr L x S Q) ∧ (b = false → vc P Γ Γr L y S Q)
    | _ => False
  | .block id c, S, Q => vc P Γ Γr L c S fun e S' => match e with
    | .exit id' => match id' == id with
      | true => Q .normal S'
      | false => Q (.exit id') S'
    | e => Q e S'
  | .loop c, S, Q => match annOf L c with
    | some A => match A.rd S with
      | some x0 => (leS S (A.st c S x0) ∧ A.inv x0 x0) ∧ ∀ x, A.inv x0 x → vc P Γ Γr L c (A.st c S x) fun e S' => match e with
        | .normal => match A.rd S' with
          | some x' => leS S' (A.st c S x') ∧ A.inv x0 x' ∧ A.μ x' < A.μ x
          | none => False
        | e => Q e S'
      | none => False
    | none => False
  | .exit id, S, Q => Q (.exit id) S
  | .scope c, S, Q => vc P Γ Γr L c S Q
  | .ret, S, Q => Q .ret S
  | _, _, _ => False

section
variable {P : Program} {A : Nat → Prop} {w0 : World} {M : Own} {Γ : Cons} {Γr : RCons} {L : Anns}
def RepE (P : Program) (A : Nat → Prop) (w0 : World) (M : Own) (S : AState) (a : Act) (w : World) : Prop := ∃ ρ, Rep P A w0 M S ρ a w
theorem vc_sound (hm : P.follows .mixedOrders = true) (hΓ : ∀ g C, get? Γ g = some C → Sound P g C) (hΓr : ∀ g C, getR? Γr g = some C → RSound P g C) : ∀ (c : Code) (S : AState) (Q : Ex → AState → Prop) (ρ : Nat → Value) (a : Act) (w : World), vc P Γ Γr L c S Q → Rep P A w0 M S ρ a w →
    c.wp P (Exit.rel Q (RepE P A w0 M)) a w := by
  intro c
  induction c with
  | skip => intro S Q ρ a w h hR; exact wp_skip ⟨S, h, ρ, hR⟩
  | label l => intro S Q ρ a w h hR; exact wp_label ⟨S, h, ρ, hR⟩
  | region id ops d =>
    intro S Q ρ a w h hR
    cases d with
    | false => exact region_sound hΓ hΓr h hR fun S' ρ' a' w' hk hR' => ⟨S', hk, ρ', hR'⟩
    | true => exact draw_sound hΓ hm h hR fun S' ρ' a' w' hk hR' => ⟨S', hk, ρ', hR'⟩
  | seq x y ihx ihy =>
    intro S Q ρ a w h hR
    simp only [vc] at h
    split at h
    · rename_i N hN
      obtain ⟨h1, h2⟩ := h
      refine wp_seq (wp_mono (ihx S _ ρ a w h1 hR) ?_)
      intro e a' w' hq
      cases e with
      | normal =>
        obtain ⟨S', hq, ρ', hR'⟩ := hq
        simp only at hq
        split at hq
        · rename_i v hv
          obtain ⟨k1, k2⟩ := hq
          obtain ⟨ρ2, hR2⟩ := leS_sound hR' k1
          exact ihy _ Q ρ2 a' w' (h2 v k2) hR2
        · exact hq.elim
      | exit id => exact hq
      | ret => exact hq
      | goto l => exact hq
      | panic ch => exact hq
      | outgrown => exact hq
    refine wp_seq (wp_mono (ihx S _ ρ a w h hR) ?_)
    intro e a' w' hq
    cases e with
    | normal =>
      obtain ⟨S', hq, ρ', hR'⟩ := hq
      exact ihy S' Q ρ' a' w' hq hR'
    | exit id => exact hq
    | ret => exact hq
    | goto l => exact hq
    | panic ch => exact hq
    | outgrown => exact hq
  | cond c x y ihx ihy =>
    intro S Q ρ a w h hR
    simp only [vc] at h
    split at h
    · rename_i b hs
      have hv := evOp_sound (G := []) hR (fun _ hx => by cases hx) (x := c) (by rw [hs]; rfl)
      rw [hs] at hv
      exact wp_cond_split hv (fun hb => ihx S Q ρ a w (h.1 hb) hR) fun hb => ihy S Q ρ a w (h.2 hb) hR
    · exact h.elim
  | block id c ih =>
    intro S Q ρ a w h hR
    refine wp_block (wp_mono (ih S _ ρ a w h hR) ?_)
    intro e a' w' hq
    cases e with
    | normal => exact hq
    | exit id' =>
      obtain ⟨S', hq, hR'⟩ := hq
      simp only at hq
      show if id' = id then _ else _
      split
      · rename_i he
        rw [show (id' == id) = true by simpa using he] at hq
        exact ⟨S', hq, hR'⟩
      · rename_i he
        rw [show (id' == id) = false by simpa using he] at hq
        exact ⟨S', hq, hR'⟩
    | ret => exact hq
    | goto l => exact hq
    | panic ch => exact hq
    | outgrown => exact hq
  | loop c ih =>
    intro S Q ρ a w h hR
    simp only [vc] at h
    split at h
    · rename_i N hN
      split at h
      · rename_i x0 hx
        obtain ⟨⟨hle, hinv⟩, hround⟩ := h
        refine wp_loop_ghost (fun n a w => ∃ x, N.μ x = n ∧ N.inv x0 x ∧ RepE P A w0 M (N.st c S x) a w) (N.μ x0) ⟨x0, rfl, hinv, leS_sound hR hle⟩ ?_
        rintro n a w ⟨x, rfl, hinv, ρ, hR⟩
        refine wp_mono (ih (N.st c S x) _ ρ a w (hround x hinv) hR) ?_
        intro e a' w' hq
        cases e with
        | normal =>
          obtain ⟨S', hq, ρ', hR'⟩ := hq
          simp only at hq
          split at hq
          · rename_i x' hx'
            obtain ⟨h1, h2, h3⟩ := hq
            exact ⟨N.μ x', h3, x', rfl, h2, leS_sound hR' h1⟩
          · exact hq.elim
        | exit id => exact hq
        | ret => exact hq
        | goto l => exact hq
        | panic ch => exact hq
        | outgrown => exact hq
      · exact h.elim
    · exact h.elim
  | exit id => intro S Q ρ a w h hR; exact wp_exit ⟨S, h, ρ, hR⟩
  | scope c ih =>
    intro S Q ρ a w h hR
    refine wp_scope_straight (wp_mono (ih S Q ρ a w h hR) ?_)
    intro e a' w' hq
    cases e <;> first | exact hq | exact hq.elim
  | ret => intro S Q ρ a w h hR; exact wp_ret ⟨S, h, ρ, hR⟩
  | goto l => intro S Q ρ a w h hR; exact h.elim
  | refuse s => intro S Q ρ a w h hR; exact h.elim
  | rangeFunc f ps x y ihx ihy => intro S Q ρ a w h hR; exact h.elim
end
end Go.E

