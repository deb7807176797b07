/-
  The engine, part 2: a function's code over abstract states gives conditions in plain Lean.
-/
import Derived.Test.YtogbocplojbdjaaW1
import Derived.IntWalk
import Derived.MapKept
/-
  EngI: rows of cells.
-/
namespace Go.E
open Go.RowKit
set_option linter.unusedVariables false
set_option linter.unusedSimpArgs false
section
variable {P : Program} {A : Nat → Prop} {w w' : World} {I : Nat → Prop} {ρ : Nat → Value}
theorem DR.one : ∀ (t : Ty) (x : t.T) (vs : List Value), DR w I t x vs → ∀ v ∈ vs, v.oneCell' = true
  | .int k, x, vs, h => by have : vs = _ := h; subst this; simp [Value.oneCell']
  | .bool, x, vs, h => by have : vs = _ := h; subst this; simp [Value.oneCell']
  | .str, x, vs, h => by have : vs = _ := h; subst this; simp [Value.oneCell']
  | .list t, xs, vs, h => by obtain ⟨a, c, hv, _⟩ := h; subst hv; simp [Value.oneCell']
  | .prod a b, x, vs, h => by
    obtain ⟨us, ws, hv, h1, h2⟩ := h
    subst hv
    intro v hv
    rcases List.mem_append.1 hv with hv | hv
    · exact DR.one a x.1 us h1 v hv
    · exact DR.one b x.2 ws h2 v hv
def Rows (w : World) (I : Nat → Prop) (t : Ty) (xs : List t.T) (cs : List Value) (off : Nat) : Prop :=
  ∀ i x, nth xs i = some x → ∃ us : List Value, us.length = t.size ∧ (∀ j u, us[j]? = some u → cs[off + i * t.size + j]? = some u) ∧ DR w I t x us
theorem Rows.at_ {t : Ty} {xs : List t.T} {cs : List Value} {off : Nat} (h : Rows w I t xs cs off) : RowAt w I t xs cs.toArray off := by
  intro i x hx
  obtain ⟨us, hl, hc, hd⟩ := h i x hx
  exact ⟨us, hl, fun j u hj => by simpa using hc j u hj, hd⟩
theorem RowAt.rows {t : Ty} {xs : List t.T} {arr : Array Value} {off : Nat} (h : RowAt w I t xs arr off) : Rows w I t xs arr.toList off := by
  intro i x hx
  obtain ⟨us, hl, hc, hd⟩ := h i x hx
  exact ⟨us, hl, fun j u hj => by simpa using hc j u hj, hd⟩
theorem Rows.ext {t : Ty} {xs : List t.T} {cs : List Value} {off : Nat} {I' : Nat → Prop} (e : Ext w I w' I') (h : Rows w I t xs cs off) : Rows w' I' t xs cs off := by
  intro i x hx
  obtain ⟨us, hl, hc, hd⟩ := h i x hx
  exact ⟨us, hl, hc, DR.ext e t x us hd⟩
theorem nth_lt {α : Type} {xs : List α} {i : Nat} {x : α} (h : nth xs i = some x) : i < xs.length := by
  rcases Nat.lt_or_ge i xs.length with h1 | h1
  · exact h1
  · simp [nth, List.getElem?_eq_none h1] at h
theorem mul_lt_of {i n s j : Nat} (hi : i < n) (hj : j < s) : i * s + j < n * s := by
  calc i * s + j < i * s + s := by omega
    _ = (i + 1) * s := by rw [Nat.succ_mul]
    _ ≤ n * s := Nat.mul_le_mul_right _ hi
theorem Rows.append {t : Ty} {xs ys : List t.T} {cs ds es : List Value} {off : Nat} (h : Rows w I t xs cs off) (hc : cs.length = off + xs.length * t.size) (k : Rows w I t ys ds 0) (hd : ds.length = ys.length * t.size) :
    Rows w I t (xs ++ ys) (cs ++ ds ++ es) off := by
  intro i x hx
  by_cases hi : i < xs.length
  · have hx' : nth xs i = some x := by simpa [nth, List.getElem?_append_left hi] using hx
    obtain ⟨us, hl, hu, hdr⟩ := h i x hx'
    refine ⟨us, hl, fun j u hj => ?_, hdr⟩
    have hj' : j < us.length := nth_lt (xs := us) hj
    have := mul_lt_of hi (hl ▸ hj')
    rw [List.append_assoc, List.getElem?_append_left (by omega)]
    exact hu j u hj
  · have hx' : nth ys (i - xs.length) = some x := by simpa [nth, List.getElem?_append_right (Nat.le_of_not_lt hi)] using hx
    obtain ⟨us, hl, hu, hdr⟩ := k _ x hx'
    refine ⟨us, hl, fun j u hj => ?_, hdr⟩
    have hj' : j < us.length := nth_lt (xs := us) hj
    have hlt := mul_lt_of (nth_lt hx') (hl ▸ hj')
    have hm : i * t.size = xs.length * t.size + (i - xs.length) * t.size := by rw [← Nat.add_mul]; congr 1; omega
    rw [List.append_assoc, List.getElem?_append_right (by omega), List.getElem?_append_left (by omega)]
    have := hu j u hj
    rw [show off + i * t.size + j - cs.length = 0 + (i - xs.length) * t.size + j by omega]
    exact this
theorem gather {t : Ty} {b : Nat} : ∀ (xs : List t.T) (off : Nat), (∀ i x, nth xs i = some x → ∃ us : List Value, us.length = t.size ∧ CellsAt w b (off + i * t.size) us ∧ DR w I t x us) →
    ∃ cs : List Value, cs.length = xs.length * t.size ∧ CellsAt w b off cs ∧ Rows w I t xs cs 0 ∧ ∀ v ∈ cs, v.oneCell' = true
  | [], off, h => ⟨[], by simp, fun j v hj => by simp at hj, fun i x hx => by simp [nth] at hx, by simp⟩
  | x :: r, off, h => by
    obtain ⟨us, hl, hc, hd⟩ := h 0 x (by simp [nth])
    obtain ⟨cs, h1, h2, h3, h4⟩ := gather r (off + t.size) (fun i y hy => by
      obtain ⟨us, hl, hc, hd⟩ := h (i + 1) y (by simpa [nth] using hy)
      exact ⟨us, hl, by rw [show off + t.size + i * t.size = off + (i + 1) * t.size by rw [Nat.succ_mul]; omega]; exact hc, hd⟩)
    refine ⟨us ++ cs, ?_, ?_, ?_, ?_⟩
    · rw [List.length_append, hl, h1, List.length_cons, Nat.succ_mul]; omega
    · intro j v hj
      rcases Nat.lt_or_ge j us.length with hlt | hge
      · rw [List.getElem?_append_left hlt] at hj
        simpa using hc j v hj
      · rw [List.getElem?_append_right hge] at hj
        have := h2 _ v hj
        rwa [show off + t.size + (j - us.length) = off + j by omega] at this
    · intro i y hy
      cases i with
      | zero =>
        have : x = y := by simpa [nth] using hy
        subst this
        refine ⟨us, hl, fun j u hj => ?_, hd⟩
        have hj' : j < us.length := nth_lt (xs := us) hj
        simp only [Nat.zero_mul, Nat.add_zero, Nat.zero_add]
        rw [List.getElem?_append_left hj']
        exact hj
      | succ i =>
        obtain ⟨vs, hvl, hvc, hvd⟩ := h3 i y (by simpa [nth] using hy)
        refine ⟨vs, hvl, fun j u hj => ?_, hvd⟩
        have := hvc j u hj
        rw [List.getElem?_append_right (by rw [hl, Nat.succ_mul]; omega)]
        rw [show 0 + (i + 1) * t.size + j - us.length = 0 + i * t.size + j by rw [hl, Nat.succ_mul]; omega]
        exact this
    · intro v hv
      rcases List.mem_append.1 hv with hv | hv
      · exact DR.one t x us hd v hv
      · exact h4 v hv
theorem Rows.set {t : Ty} {xs : List t.T} {cs : List Value} {off i : Nat} {y : t.T} {us : List Value} (h : Rows w I t xs cs off) (hi : i < xs.length) (hu : us.length = t.size) (hd : DR w I t y us) (hlen : off + xs.length * t.size ≤ cs.length) :
    Rows w I t (xs.set i y) (cs.take (off + i * t.size) ++ us ++ cs.drop (off + i * t.size + us.length)) off := by
  have hb : i * t.size + t.size ≤ xs.length * t.size := by rw [← Nat.succ_mul]; exact Nat.mul_le_mul_right _ hi
  have ht : (cs.take (off + i * t.size)).length = off + i * t.size := by rw [List.length_take]; omega
  intro j x hx
  by_cases hij : i = j
  · subst hij
    have : y = x := by simpa [nth, List.getElem?_set, hi] using hx
    subst this
    refine ⟨us, hu, fun k u hk => ?_, hd⟩
    have hk' : k < us.length := nth_lt (xs := us) hk
    rw [List.append_assoc, List.getElem?_append_right (by omega), List.getElem?_append_left (by omega)]
    rw [show off + i * t.size + k - (cs.take (off + i * t.size)).length = k by omega]
    exact hk
  · have hx' : nth xs j = some x := by simpa [nth, List.getElem?_set_ne hij] using hx
    obtain ⟨vs, hvl, hvc, hvd⟩ := h j x hx'
    refine ⟨vs, hvl, fun k u hk => ?_, hvd⟩
    have hk' : k < vs.length := nth_lt (xs := vs) hk
    have hc := hvc k u hk
    rcases Nat.lt_or_ge j i with h1 | h1
    · have hlt : j * t.size + k < i * t.size := mul_lt_of h1 (hvl ▸ hk')
      rw [List.append_assoc, List.getElem?_append_left (by omega), List.getElem?_take, if_pos (by omega)]
      exact hc
    · have h2 : i + 1 ≤ j := by omega
      have hge : (i + 1) * t.size ≤ j * t.size := Nat.mul_le_mul_right _ h2
      rw [Nat.succ_mul] at hge
      rw [List.getElem?_append_right (by simp [ht, hu]; omega), List.getElem?_drop]
      rw [← hc]
      congr 1
      simp [ht, hu]
      omega
end
end Go.E

/-
  EngJ: operations on memory, one by one.
-/
namespace Go.E
open Go.RowKit
set_option linter.unusedVariables false
set_option linter.unusedSimpArgs false

def decs (H : Heap) (t : Ty) : List AV → Option (List t.T)
  | [] => some []
  | x :: r => match dec t (cellsOf (resAV H x)), decs H t r with
    | some y, some ys => if (cellsOf (resAV H x)).all (isCell H) then some (y :: ys) else none
    | _, _ => none
def partsInOrder : Nat → List (Nat × Operand) → Bool
  | _, [] => true
  | k, (i, _) :: r => i == k && partsInOrder (k + 1) r
def storeTo (P : Program) (S : AState) (t : TypeId) (a x : AV) : Option Res := match P.info? t with
  | some inf => match a with
    | .ptr l o => match get? S.hp l with
      | some (.blk cs) => if (cellsOf x).length = inf.size ∧ o + inf.size ≤ cs.length ∧ (cellsOf x).all (isCell S.hp) then
          some ⟨True, .junk, [(l, some (.blk (setCells cs o (cellsOf x))))], []⟩ else none
      | some (.mix pre t' xs) => if (cellsOf x).length = inf.size ∧ o + inf.size ≤ pre.length ∧ (cellsOf x).all (isCell S.hp) then
          some ⟨True, .junk, [(l, some (.mix (setCells pre o (cellsOf x)) t' xs))], []⟩ else none
      | _ => none
    | .pel l t' base i o => match get? S.hp l with
      | some (.row t2 xs) =>
        let cs := cellsOf (resAV S.hp x)
        if t2 = t' ∧ base = 0 ∧ cs.length = inf.size ∧ o + inf.size ≤ t2.size ∧ cs.all (isCell S.hp) ∧ !(refs S.hp x).contains l then
          match dec t2 (setCells (enc t2 (elemAt xs i)) o cs) with
          | some y => some ⟨i < xs.length, .junk, drops (refs S.hp x) ++ [(l, some (.row t2 (xs.set i y)))], []⟩
          | none => none
        else none
      | some (.mix pre t2 xs) =>
        let cs := cellsOf (resAV S.hp x)
        if t2 = t' ∧ base = pre.length ∧ cs.length = inf.size ∧ o + inf.size ≤ t2.size ∧ cs.all (isCell S.hp) ∧ !(refs S.hp x).contains l then
          match dec t2 (setCells (enc t2 (elemAt xs i)) o cs) with
          | some y => some ⟨i < xs.length, .junk, drops (refs S.hp x) ++ [(l, some (.mix pre t2 (xs.set i y)))], []⟩
          | none => none
        else none
      | _ => none
    | _ => none
  | none => none
def rowOf (H : Heap) : AV → Option (Σ t : Ty, List t.T)
  | .arr t xs => some ⟨t, xs⟩
  | .sl l => match get? H l with
    | some (.row t xs) => some ⟨t, xs⟩
    | _ => none
  | _ => none
def ownOp : Operand → AV → Bool
  | .tmp k, .sl l => l == k
  | _, _ => false
def appendTo (P : Program) (S : AState) (d : Nat) (nw : Bool) (t tx : TypeId) (s x : AV) : Option Res := match P.underlying t, P.underlying tx with
  | some (.slice e), some (.slice _) => match P.info? e with
    | some inf => match inf.zero with
      | some z => match rowOf S.hp x with
        | some ⟨t', ys⟩ => if inf.size = t'.size ∧ z.cells.size = t'.size ∧ 0 < inf.bytes ∧ z.cells.all (·.oneCell') then match s with
            | .nils => if S.fresh d then some ⟨ys.length * inf.bytes ≤ 140737488355328, .sl d, [(d, some (.row t' ys))], []⟩ else none
            | .sl l => match get? S.hp l with
              | some (.row t2 xs) => if h : t2 = t' then (if x.has l then none else if nw = true ∧ S.fresh d = true ∧ d ≠ l then some ⟨(xs.length + ys.length) * inf.bytes ≤ 140737488355328, .sl d, drops [l] ++ [(d, some (.row t2 (xs ++ h ▸ ys)))], []⟩
              else some ⟨(xs.length + ys.length) * inf.bytes ≤ 140737488355328, .sl l, [(l, some (.row t2 (xs ++ h ▸ ys)))], [l]⟩) else none
              | _ => none
            | _ => none
          else none
        | none => none
      | none => none
    | none => none
  | _, _ => none
def hop (P : Program) (S : AState) (f : Operand → AV) (d : Nat) : Op → Option Res
  | .alloc e => match zeroAV P e with
    | some z => if S.fresh d ∧ z.all (isCell []) then some ⟨True, .ptr d 0, [(d, some (.blk z))], []⟩ else none
    | none => none
  | .box e x => if S.fresh d ∧ (cellsOf (f x)).all (isCell S.hp) then some ⟨True, .ptr d 0, [(d, some (.blk (cellsOf (f x))))], []⟩ else none
  | .buildSlice t n parts => match P.underlying t with
    | some (.slice e) => match P.info? e, ty P e with
      | some inf, some t' => match inf.zero with
        | some z => if S.fresh d ∧ inf.size = t'.size ∧ z.cells.size = t'.size ∧ partsInOrder 0 parts.toList ∧ parts.size = n ∧ n * inf.size ≤ 16777216 then
            match decs S.hp t' (parts.toList.map fun x => f x.2) with
            | some xs => some ⟨True, .sl d, drops (refss S.hp (parts.toList.map fun x => f x.2)) ++ [(d, some (.row t' xs))], []⟩
            | none => none
          else none
        | none => none
      | _, _ => none
    | _ => none
  | .makeSlice t l c => match P.underlying t with
    | some (.slice e) => match P.info? e, ty P e, zeroAV P e, f l, f c with
      | some inf, some t', some z, .int _ n, .int _ m => match inf.zero with
        | some zv => if S.fresh d ∧ inf.size = t'.size ∧ zv.cells.size = t'.size ∧ 0 < t'.size ∧ 0 < inf.bytes then match dec t' z with
          | some x => some ⟨0 ≤ n ∧ m = n ∧ n * inf.bytes ≤ 140737488355328, .sl d, [(d, some (.row t' (List.replicate n.toNat x)))], []⟩
          | none => none
          else none
        | none => none
      | _, _, _, _, _ => none
    | _ => none
  | .store t a x => storeTo P S t (f a) (f x)
  | .call { callee := .builtin .append, args := args, argTypes := ts } => match args.toList, ts.toList with
    | [s, x], [t, tx] => appendTo P S d (ownOp s (f s)) t tx (f s) (f x)
    | _, _ => none
  | _ => none
def HopOk (P : Program) (A : Nat → Prop) (S : AState) (ρ : Nat → Value) (w : World) (ev : Operand → Value) (o : Oper) (r : Res) : Prop :=
  ∃ (nx : Next) (v : Value) (w' : World) (ρ' : Nat → Value) (U : List Nat), (execOp ev o).run P w = .ok nx w' ∧ (nx = .value v ∨ nx = .skip ∧ v = undef) ∧
    Step P S ρ w U r.kill (applyUpd r.upd (killH r.kill S.hp)) ρ' w' ∧
    (∀ l c, l ∈ U → get? (applyUpd r.upd (killH r.kill S.hp)) l = some c → ChunkR P w' (imm A (applyUpd r.upd (killH r.kill S.hp)) ρ' w') ρ' c (ρ' l)) ∧
    VR P w' (imm A (applyUpd r.upd (killH r.kill S.hp)) ρ' w') ρ' r.val v ∧ ∀ l ∈ U, (get? r.upd l).isSome = true
section
variable {P : Program} {A : Nat → Prop} {w : World} {S : AState} {ρ : Nat → Value} {ev : Operand → Value}
theorem alloc_heap_lt (o : Obj) (b : Nat) (h : b < w.heap.size) : (w.alloc o).heap[b]? = w.heap[b]? := heap_alloc_old w o b h
theorem alloc_size (o : Obj) : (w.alloc o).heap.size = w.heap.size + 1 := Array.size_push ..
theorem has_ofConst (l : Nat) (v : Value) : (ofConst v).has l = false := by
  unfold ofConst
  split <;> first | rfl | skip
  split <;> rfl
theorem hass_ofConst (l : Nat) : ∀ (vs : List Value), AV.hass l (vs.map ofConst) = false
  | [] => rfl
  | v :: r => by simp [AV.hass, has_ofConst, hass_ofConst l r]
theorem hass_cellsOf {l : Nat} {x : AV} (h : x.has l = false) : AV.hass l (cellsOf x) = false := by
  cases x <;> simp_all [cellsOf, AV.hass, AV.has]
theorem hop_blk {d : Nat} {cs : List AV} {o : Oper} {e : TypeId} {vs : List Value} (hH : HeapR P A S.hp ρ w) (hf : S.fresh d = true) (hcs : AV.hass d cs = false) (hrun : (execOp ev o).run P w = .ok (.value (.pointer (some ⟨w.heap.size, 0, none⟩))) (w.alloc (.cells vs.toArray e)))
    (hv : VRs P w (imm A S.hp ρ w) ρ cs vs) : HopOk P A S ρ w ev o ⟨True, .ptr d 0, [(d, some (.blk cs))], []⟩ := by
  have st := step_new (P := P) (S := S) (ρ := ρ) (w := w) (w' := w.alloc (.cells vs.toArray e)) (d := d) (C := []) (c := .blk cs) (rv := .pointer (some ⟨w.heap.size, 0, none⟩)) (by simp) hf rfl rfl rfl (by rw [alloc_size]; omega) (alloc_heap_lt _) (by simp [blkOf])
  refine ⟨_, _, _, _, _, hrun, .inl rfl, st, ?_, ?_, by simp [get?]⟩
  · intro l c hl hc
    simp only [List.nil_append, List.mem_singleton] at hl
    subst hl
    simp only [applyUpd, get?_set, if_true, Option.some.injEq] at hc
    subst hc
    rw [upρ_same]
    refine ⟨w.heap.size, vs, e, rfl, by rw [heap_alloc_new], ?_⟩
    have ex := st.ext hH
    refine VRs.ext ex cs vs (fun l' hl => upρ_ne _ _ _ ?_) hv
    intro he
    subst he
    rw [hcs] at hl
    cases hl
  · simp only [VR]
    exact ⟨w.heap.size, by rw [upρ_same]; rfl, rfl⟩
theorem hop_alloc {f : Operand → AV} {d : Nat} {e : TypeId} {o : Oper} {r : Res} (ho : o.op = .alloc e) (hH : HeapR P A S.hp ρ w) (h : hop P S f d (.alloc e) = some r) : HopOk P A S ρ w ev o r := by
  simp only [hop] at h
  split at h
  · rename_i z hz
    split at h
    · rename_i hc
      injection h with h; subst h
      unfold zeroAV at hz
      split at hz
      · rename_i inf hinf
        split at hz
        · rename_i zv hzv
          injection hz with hz; subst hz
          refine hop_blk (e := e) (vs := zv.cells.toList) hH hc.1 (hass_ofConst _ _) ?_ (ofConsts_sound _)
          obtain ⟨dst, op, oty, pos, after, guard⟩ := o
          simp only at ho
          subst ho
          simp [execOp, Instr.alloc, zeroValue, typeInfo, hinf, hzv, newVar, newRow]
        · cases hz
      · cases hz
    · cases h
  · cases h
theorem hop_box {f : Operand → AV} {d : Nat} {e : TypeId} {x : Operand} {o : Oper} {r : Res} (ho : o.op = .box e x) (hH : HeapR P A S.hp ρ w) (h : hop P S f d (.box e x) = some r)
    (hf : VR P w (imm A S.hp ρ w) ρ (f x) (ev x)) (hfr : ∀ l, S.fresh l = true → (f x).has l = false) : HopOk P A S ρ w ev o r := by
  simp only [hop] at h
  split at h
  · rename_i hc
    injection h with h; subst h
    refine hop_blk (e := e) (vs := (ev x).cells.toList) hH hc.1 (hass_cellsOf (hfr d hc.1)) ?_ (cellsOf_sound hH hc.2 hf)
    obtain ⟨dst, op, oty, pos, after, guard⟩ := o
    simp only at ho
    subst ho
    simp [execOp, Instr.box, newVar, newRow]
  · cases h
def immC (A : Nat → Prop) (H : Heap) (ρ : Nat → Value) (w : World) (C : List Nat) (b : Nat) : Prop := imm A H ρ w b ∨ ∃ l c, l ∈ C ∧ get? H l = some c ∧ blkOf (ρ l) = some b
theorem ext_give {w' : World} {d : Nat} {C K : List Nat} {c : Chunk} {rv : Value} (hH : HeapR P A S.hp ρ w) (hd : ∀ b, blkOf rv = some b → w.heap.size ≤ b ∨ ∃ c0, get? S.hp d = some c0 ∧ blkOf (ρ d) = some b) (hdC : d ∉ C)
    (hsize : w.heap.size ≤ w'.heap.size) (hblk : ∀ b, b < w.heap.size → (∀ c0, get? S.hp d = some c0 → blkOf (ρ d) ≠ some b) → w'.heap[b]? = w.heap[b]?) :
    Ext w (immC A S.hp ρ w C) w' (imm A (applyUpd (drops C ++ [(d, some c)]) (killH K S.hp)) (upρ ρ d rv) w') := by
  refine ⟨hsize, fun b hb => ?_⟩
  have hlt : b < w.heap.size := by
    rcases hb with hb | ⟨l, c1, _, h1, h2⟩
    · exact hb.1.1
    · exact (hH.chunk l c1 h1).lt h2
  have hnd : ∀ c0, get? S.hp d = some c0 → blkOf (ρ d) ≠ some b := by
    intro c0 h0
    rcases hb with hb | ⟨l, c1, hl, h1, h2⟩
    · exact hb.2 d c0 h0
    · exact hH.apart l c1 d c0 h1 h0 (fun he => hdC (he ▸ hl)) b h2
  have hA : A b := by
    rcases hb with hb | ⟨l, c1, _, h1, h2⟩
    · exact hb.1.2
    · exact hH.ok l c1 b h1 h2
  refine ⟨⟨⟨Nat.lt_of_lt_of_le hlt hsize, hA⟩, fun l c' hc' hbl => ?_⟩, hblk b hlt hnd⟩
  rw [get?_upd1 _ _ _ hdC] at hc'
  by_cases hl : d = l
  · subst hl
    rw [upρ_same] at hbl
    rcases hd b hbl with h | ⟨c0, h0, h1⟩
    · omega
    · exact hnd c0 h0 h1
  · rw [if_neg hl] at hc'
    split at hc'
    · cases hc'
    · rename_i hC
      rw [upρ_ne _ _ _ (Ne.symm hl)] at hbl
      rw [get?_killH] at hc'
      obtain ⟨c0, h0, _⟩ := Option.map_eq_some_iff.1 hc'
      rcases hb with hb | ⟨l2, c1, hl2, h1, h2⟩
      · exact hb.2 l c0 h0 hbl
      · exact hH.apart l2 c1 l c0 h1 h0 (fun he => hC (he ▸ hl2)) b h2 hbl
theorem ext_immC {H : Heap} {C : List Nat} : Ext w (imm A H ρ w) w (immC A H ρ w C) := ⟨Nat.le_refl _, fun b hb => ⟨.inl hb, rfl⟩⟩
mutual
theorem refs_get {H : Heap} {l : Nat} : ∀ (x : AV), l ∈ refs H x → ∃ c, get? H l = some c
  | .sl l', h => by
    unfold refs at h
    split at h
    · rename_i t xs hc
      simp only [List.mem_singleton] at h
      subst h
      exact ⟨_, hc⟩
    · cases h
  | .agg cs, h => refss_get cs (by simpa [refs] using h)
  | .int _ _, h => by simp [refs] at h
  | .bool _, h => by simp [refs] at h
  | .str _, h => by simp [refs] at h
  | .nilp, h => by simp [refs] at h
  | .nils, h => by simp [refs] at h
  | .nilm, h => by simp [refs] at h
  | .nilf, h => by simp [refs] at h
  | .ptr _ _, h => by simp [refs] at h
  | .pel _ _ _ _ _, h => by simp [refs] at h
  | .mp _, h => by simp [refs] at h
  | .arr _ _, h => by simp [refs] at h
  | .own _ _, h => by simp [refs] at h
  | .cp _ _ _, h => by simp [refs] at h
  | .av _ _, h => by simp [refs] at h
  | .fn _ _ _, h => by simp [refs] at h
  | .pfn _ _ _, h => by simp [refs] at h
  | .tup _, h => by simp [refs] at h
  | .cond _ _, h => by simp [refs] at h
  | .junk, h => by simp [refs] at h
theorem refss_get {H : Heap} {l : Nat} : ∀ (xs : List AV), l ∈ refss H xs → ∃ c, get? H l = some c
  | [], h => by simp [refss] at h
  | x :: r, h => by
    simp only [refss, List.mem_append] at h
    rcases h with h | h
    · exact refs_get x h
    · exact refss_get r h
end
theorem res_immC {H : Heap} {C : List Nat} (hH : HeapR P A H ρ w) {x : AV} {v : Value} (hC : ∀ l ∈ refs H x, l ∈ C) (hv : VR P w (imm A H ρ w) ρ x v) : VR P w (immC A H ρ w C) ρ (resAV H x) v :=
  resAV_sound hH (fun b hb => .inl hb) x v (fun l hl b hb => by
    obtain ⟨c, hc⟩ := refs_get x hl
    exact .inr ⟨l, c, hC l hl, hc, hb⟩) hv
theorem upd_isSome {C : List Nat} {d : Nat} {c : Option Chunk} : ∀ l ∈ C ++ [d], (get? (drops C ++ [(d, c)]) l).isSome = true := by
  intro l hl
  rw [get?_append, get?_dropsL]
  by_cases h : l ∈ C
  · simp [h]
  · have : l = d := by simpa [h] using hl
    subst this
    simp [h, get?]
theorem hop_row {w' : World} {d : Nat} {C : List Nat} {t : Ty} {xs : List t.T} {o : Oper} {e : TypeId} {arr : Array Value} {cap : Nat} {obl : Prop} (hH : HeapR P A S.hp ρ w) (hf : S.fresh d = true) (hdC : d ∉ C)
    (hos : w'.os = w.os) (htape : w'.tape = w.tape) (hout : w'.output = w.output) (hheap : w'.heap = w.heap.push (.cells arr e))
    (hrun : (execOp ev o).run P w = .ok (.value (.slice (some ⟨w.heap.size, 0, none⟩) xs.length cap)) w')
    (hcap : xs.length ≤ cap) (hsz : cap * t.size ≤ arr.size) (hrows : Rows w (immC A S.hp ρ w C) t xs arr.toList 0) : HopOk P A S ρ w ev o ⟨obl, .sl d, drops C ++ [(d, some (.row t xs))], []⟩ := by
  have hsize : w'.heap.size = w.heap.size + 1 := by rw [hheap]; exact Array.size_push ..
  have hold : ∀ b, b < w.heap.size → w'.heap[b]? = w.heap[b]? := by
    intro b hb
    rw [hheap, Array.getElem?_push]
    rw [if_neg (by omega)]
  have hnew : w'.heap[w.heap.size]? = some (.cells arr e (0, 0)) := by
    rw [hheap, Array.getElem?_push, if_pos rfl]
  have st := step_new (P := P) (S := S) (ρ := ρ) (w := w) (w' := w') (d := d) (C := C) (c := .row t xs) (rv := .slice (some ⟨w.heap.size, 0, none⟩) xs.length cap) hdC hf hos htape hout (by omega) hold (by simp [blkOf])
  have ex := ext_give (P := P) (w := w) (w' := w') (S := S) (ρ := ρ) (d := d) (C := C) (K := []) (c := .row t xs) (rv := .slice (some ⟨w.heap.size, 0, none⟩) xs.length cap) hH (by simp [blkOf]) hdC (by omega) (fun b hb _ => hold b hb)
  refine ⟨_, _, _, _, _, hrun, .inl rfl, st, ?_, ?_, upd_isSome⟩
  · intro l c hl hc
    rw [get?_upd1 _ _ _ hdC] at hc
    simp only [List.mem_append, List.mem_singleton] at hl
    by_cases h : d = l
    · subst h
      rw [if_pos rfl] at hc
      injection hc with hc; subst hc
      rw [upρ_same]
      refine .inr ⟨w.heap.size, 0, cap, arr, e, rfl, hnew, hcap, by omega, ?_⟩
      have := (hrows.ext ex).at_
      simpa using this
    · rw [if_neg h] at hc
      split at hc
      · cases hc
      · rename_i hC
        rcases hl with hl | hl
        · exact absurd hl hC
        · exact absurd hl.symm h
  · simp only [VR]
    rw [upρ_same]
theorem decs_length {H : Heap} {t : Ty} : ∀ (l : List AV) (xs : List t.T), decs H t l = some xs → xs.length = l.length
  | [], xs, h => by simp only [decs, Option.some.injEq] at h; subst h; rfl
  | x :: r, xs, h => by
    simp only [decs] at h
    split at h
    · split at h
      · injection h with h; subst h
        rename_i hh _
        simp [decs_length r _ hh]
      · cases h
    · cases h
theorem splice (cs B ds : List Value) (n m : Nat) (h : n + B.length + m ≤ cs.length) :
    (cs.take n ++ B ++ cs.drop (n + B.length)).take (n + B.length) ++ ds ++ (cs.take n ++ B ++ cs.drop (n + B.length)).drop (n + B.length + m) = cs.take n ++ (B ++ ds) ++ cs.drop (n + B.length + m) := by
  have h1 : (cs.take n ++ B).length = n + B.length := by rw [List.length_append, List.length_take]; omega
  rw [← h1, List.take_left, List.drop_append, h1, List.drop_of_length_le (by omega)]
  simp
theorem fill_rows (H : Heap) (f : Operand → AV) {t : Ty} (hH : HeapR P A H ρ w) {I : Nat → Prop} : ∀ (parts : List (Nat × Operand)) (k : Nat) (cs : List Value) (xs : List t.T), partsInOrder k parts = true → decs H t (parts.map fun x => f x.2) = some xs →
    (∀ p ∈ parts, VR P w I ρ (resAV H (f p.2)) (ev p.2)) → (k + parts.length) * t.size ≤ cs.length →
    ∃ ds : List Value, ds.length = parts.length * t.size ∧ Rows w I t xs ds 0 ∧ Instr.fill (fun i => some (i * t.size, t.size)) cs.toArray (parts.map fun x => (x.1, ev x.2)) = some (cs.take (k * t.size) ++ ds ++ cs.drop ((k + parts.length) * t.size)).toArray
  | [], k, cs, xs, hp, hd, hv, hl => by
    simp only [List.map_nil, decs, Option.some.injEq] at hd
    subst hd
    refine ⟨[], by simp, fun i x hx => by simp [nth] at hx, by simp [Instr.fill]⟩
  | p :: rest, k, cs, xs, hp, hd, hv, hl => by
    obtain ⟨i, x⟩ := p
    simp only [List.map_cons, decs] at hd
    split at hd
    · rename_i y ys hy hys
      split at hd
      · rename_i hcell
        injection hd with hd; subst hd
        simp only [partsInOrder, Bool.and_eq_true, beq_iff_eq] at hp
        obtain ⟨rfl, hp⟩ := hp
        have hx := hv (i, x) (by simp)
        have hcs := cellsOf_sound hH hcell hx
        have hdr := dec_sound t _ y _ hy hcs
        have hlen := DR.length _ _ _ hdr
        simp only at hlen hdr
        simp only [List.length_cons] at hl
        have hmul : (i + (rest.length + 1)) * t.size = i * t.size + t.size + rest.length * t.size := by
          rw [Nat.add_mul, Nat.succ_mul]; omega
        have hmul2 : (i + 1 + rest.length) * t.size = i * t.size + t.size + rest.length * t.size := by rw [Nat.add_mul, Nat.succ_mul]
        obtain ⟨ds, h1, h2, h3⟩ := fill_rows H f hH rest (i + 1) (cs.take (i * t.size) ++ (ev x).cells.toList ++ cs.drop (i * t.size + (ev x).cells.toList.length)) ys hp hys (fun q hq => hv q (by simp [hq])) (by
          rw [List.length_append, List.length_append, List.length_take, List.length_drop, hlen]
          omega)
        have ht : (cs.take (i * t.size)).length = i * t.size := by rw [List.length_take]; omega
        refine ⟨(ev x).cells.toList ++ ds, ?_, ?_, ?_⟩
        · rw [List.length_append, hlen, h1, List.length_cons, Nat.succ_mul]; omega
        · have hr1 : Rows w I t [y] (ev x).cells.toList 0 := by
            intro j z hz
            cases j with
            | zero =>
              have : y = z := by simpa [nth] using hz
              subst this
              exact ⟨_, hlen, fun j u hj => by simpa using hj, hdr⟩
            | succ j => simp [nth] at hz
          have := hr1.append (es := []) (by simp [hlen]) h2 (by rw [h1, decs_length _ _ hys, List.length_map])
          simpa using this
        · simp only [List.map_cons, Instr.fill]
          have hsz : (ev x).cells.size = t.size := by rw [← Array.length_toList, hlen]
          have hnot : ¬ ((decide ((ev x).cells.size ≠ t.size) || decide (i * t.size + (ev x).cells.size > cs.toArray.size)) = true) := by
            rw [hsz]
            simp
            omega
          rw [if_neg hnot]
          have hfold : (ev x).cells.zipIdx.foldl (fun cs (c, j) => cs.setIfInBounds (i * t.size + j) c) cs.toArray = (cs.take (i * t.size) ++ (ev x).cells.toList ++ cs.drop (i * t.size + (ev x).cells.toList.length)).toArray := by
            have := foldl_set (ev x).cells.toList (i * t.size) 0 cs (by rw [hlen]; omega)
            rw [← Array.foldl_toList]
            simpa using this
          rw [hfold, h3]
          congr 2
          have e1 : (i + 1) * t.size = i * t.size + (ev x).cells.toList.length := by rw [hlen, Nat.succ_mul]
          have e2 : (i + 1 + rest.length) * t.size = i * t.size + (ev x).cells.toList.length + rest.length * t.size := by rw [hlen, hmul2]
          have e3 : (i + (rest.length + 1)) * t.size = i * t.size + (ev x).cells.toList.length + rest.length * t.size := by rw [hlen, hmul]
          rw [e1, e2, List.length_cons, e3]
          exact splice cs _ ds _ _ (by rw [hlen]; omega)
      · cases hd
    · cases hd
end
end Go.E

/-
  EngK: buildSlice, makeSlice, store, append.
-/
namespace Go.E
open Go.RowKit
set_option linter.unusedVariables false
set_option linter.unusedSimpArgs false
section
variable {P : Program} {A : Nat → Prop} {w : World} {S : AState} {ρ : Nat → Value} {ev : Operand → Value}
theorem fresh_none {d : Nat} (h : S.fresh d = true) : get? S.hp d = none := by
  simp [AState.fresh] at h
  exact h.2
theorem hop_buildSlice {f : Operand → AV} {d n : Nat} {t : TypeId} {parts : Array (Nat × Operand)} {o : Oper} {r : Res} (ho : o.op = .buildSlice t n parts) (hH : HeapR P A S.hp ρ w) (h : hop P S f d (.buildSlice t n parts) = some r)
    (hf : ∀ p ∈ parts, VR P w (imm A S.hp ρ w) ρ (f p.2) (ev p.2)) : HopOk P A S ρ w ev o r := by
  simp only [hop] at h
  split at h
  · rename_i e he
    split at h
    · rename_i inf t' hinf ht
      split at h
      · rename_i z hz
        split at h
        · rename_i hc
          obtain ⟨hfresh, hsz, hzs, hord, hn, hmax⟩ := hc
          split at h
          · rename_i xs hxs
            injection h with h; subst h
            obtain ⟨dst, op, oty, pos, after, guard⟩ := o
            simp only at ho
            subst ho
            let C := refss S.hp (parts.toList.map fun x => f x.2)
            have hmem : ∀ p ∈ parts.toList, ∀ l ∈ refs S.hp (f p.2), l ∈ C := by
              intro p hp
              show ∀ l ∈ refs S.hp (f p.2), l ∈ refss S.hp (parts.toList.map fun x => f x.2)
              generalize parts.toList = ps at hp
              induction ps with
              | nil => cases hp
              | cons q r ih =>
                intro l hl
                simp only [List.map_cons, refss, List.mem_append]
                rcases List.mem_cons.1 hp with rfl | hp
                · exact .inl hl
                · exact .inr (ih hp l hl)
            have hdC : d ∉ C := by
              intro hd
              obtain ⟨c, hc⟩ := refss_get _ hd
              rw [fresh_none hfresh] at hc
              cases hc
            let cells := (Array.range (n * inf.size)).map (z.cells[· % z.cells.size]!)
            have hcl : cells.toList.length = n * inf.size := by simp [cells]
            obtain ⟨ds, h1, h2, h3⟩ := fill_rows (P := P) (w := w) (ρ := ρ) (ev := ev) S.hp f hH (I := immC A S.hp ρ w C) parts.toList 0 cells.toList xs hord hxs
              (fun p hp => res_immC hH (hmem p hp) (hf p (by simpa using hp))) (by rw [hcl, hsz]; simp [hn])
            have hds : ds = (cells.toList.take (0 * t'.size) ++ ds ++ cells.toList.drop ((0 + parts.toList.length) * t'.size)) := by
              have : cells.toList.drop ((0 + parts.toList.length) * t'.size) = [] := List.drop_of_length_le (by rw [hcl, hsz]; simp [hn])
              rw [this]
              simp
            rw [← hds] at h3
            have hxl : xs.length = n := by rw [decs_length _ _ hxs]; simp [hn]
            refine hop_row (e := e) (arr := ds.toArray) (cap := xs.length) (w' := w.alloc (.cells ds.toArray e)) hH hfresh hdC rfl rfl rfl rfl ?_ (Nat.le_refl _) (by simp [h1, hxl, hn]) (by simpa using h2)
            simp only [execOp, Instr.buildSlice]
            have hm : ¬ (n * inf.size > 2 ^ 24) := by simp; omega
            have hzv : (zeroValue e).run P w = .ok z w := by
              unfold zeroValue
              rw [run_bind_ok (run_typeInfo' hinf), hz]
              rfl
            have hl : (parts.map fun (x : Nat × Operand) => (x.1, ev x.2)).toList = parts.toList.map fun x => (x.1, ev x.2) := by simp
            have h3' : Instr.fill (fun i => some (i * inf.size, inf.size)) cells (parts.toList.map fun x => (x.1, ev x.2)) = some ds.toArray := by
              rw [hsz]
              simpa using h3
            by_cases h0 : n * inf.size = 0
            · simp only [Sem.run_bind, run_underlying he, run_sizeOf' hinf, Result.andThen_ok, if_neg hm, if_pos h0, Sem.run_pure, hl]
              have hc0 : (Array.range (n * inf.size)).map ((#[] : Array Value)[· % (#[] : Array Value).size]!) = cells := by simp [cells, h0]
              rw [hc0]
              simp only [h3']
              simp [newRow, hxl]
            · simp only [Sem.run_bind, run_underlying he, run_sizeOf' hinf, Result.andThen_ok, if_neg hm, if_neg h0, hzv, Sem.run_pure, hl]
              have h3'' : Instr.fill (fun i => some (i * inf.size, inf.size)) ((Array.range (n * inf.size)).map (z.cells[· % z.cells.size]!)) (parts.toList.map fun x => (x.1, ev x.2)) = some ds.toArray := h3'
              simp only [h3'']
              simp [newRow, hxl]
          · cases h
        · cases h
      · cases h
    · cases h
  · cases h
theorem rows_replicate {I : Nat → Prop} {t : Ty} {x : t.T} {vs : List Value} (hd : DR w I t x vs) (hl : vs.length = t.size) (n : Nat) (cs : List Value) (hc : ∀ i, i < n * t.size → cs[i]? = vs[i % t.size]?) (h0 : 0 < t.size) : Rows w I t (List.replicate n x) cs 0 := by
  intro i y hy
  have hi : i < n := by simpa using nth_lt hy
  have : x = y := by
    have : (List.replicate n x)[i]? = some y := hy
    rw [List.getElem?_replicate, if_pos hi] at this
    injection this
  subst this
  refine ⟨vs, hl, fun j u hj => ?_, hd⟩
  have hj' : j < vs.length := nth_lt (xs := vs) hj
  rw [hl] at hj'
  have := mul_lt_of hi hj'
  rw [Nat.zero_add, hc _ this, Nat.mul_comm i, Nat.mul_add_mod, Nat.mod_eq_of_lt hj']
  exact hj
theorem hop_makeSlice {f : Operand → AV} {d : Nat} {t : TypeId} {l c : Operand} {o : Oper} {r : Res} (ho : o.op = .makeSlice t l c) (hH : HeapR P A S.hp ρ w) (h : hop P S f d (.makeSlice t l c) = some r) (hob : r.obl)
    (hl : VR P w (imm A S.hp ρ w) ρ (f l) (ev l)) (hc : VR P w (imm A S.hp ρ w) ρ (f c) (ev c)) : HopOk P A S ρ w ev o r := by
  simp only [hop] at h
  split at h
  · rename_i e he
    split at h
    · rename_i inf t' z k1 n k2 m hinf ht hz hfl hfc
      split at h
      · rename_i zv hzv
        split at h
        · rename_i hcd
          obtain ⟨hfresh, hsz, hzs, hp, hbp⟩ := hcd
          split at h
          · rename_i x hx
            injection h with h; subst h
            obtain ⟨h0, hmn, hb⟩ := hob
            rw [hfl] at hl
            rw [hfc] at hc
            simp only [VR] at hl hc
            obtain ⟨dst, op, oty, pos, after, guard⟩ := o
            simp only at ho
            subst ho
            obtain ⟨q, rfl⟩ := Int.eq_ofNat_of_zero_le h0
            subst hmn
            have hbn : q * inf.bytes ≤ 140737488355328 := by
              have e1 := Int.natCast_mul q inf.bytes
              omega
            have hq : q ≤ 140737488355328 := Nat.le_trans (Nat.le_mul_of_pos_right _ hbp) hbn
            have hzq : z = zv.cells.toList.map ofConst := by
              unfold zeroAV at hz
              rw [hinf] at hz
              simp only [hzv] at hz
              injection hz with hz
              exact hz.symm
            have hdr : DR w (immC A S.hp ρ w []) t' x zv.cells.toList := dec_sound (P := P) (ρ := ρ) t' z x _ hx (by rw [hzq]; exact ofConsts_sound _)
            let cells := (Array.range (q * inf.size)).map (zv.cells[· % zv.cells.size]!)
            have hcl : cells.size = q * inf.size := by simp [cells]
            have hsp : 0 < zv.cells.size := by omega
            refine hop_row (C := []) (e := e) (arr := cells) (cap := q) (w' := w.alloc (.cells cells e)) hH hfresh (by simp) rfl rfl rfl rfl ?_ (by simp) (by rw [hcl, hsz]; exact Nat.le_refl _) ?_
            · simp only [execOp, Instr.makeSlice, hl, hc]
              have hwr : IntKind.i64.wrap (q : Int) = q := IntWalk.i64_in _ (by omega)
              have hzq2 : (zeroValue e).run P w = .ok zv w := by
                unfold zeroValue
                rw [run_bind_ok (run_typeInfo' hinf), hzv]
                rfl
              have hbi : ¬ ((inf.bytes : Int) * (q : Int) > 2 ^ 48) := by
                have e1 : (inf.bytes : Int) * (q : Int) = ((q * inf.bytes : Nat) : Int) := by rw [Int.natCast_mul, Int.mul_comm]
                rw [e1]
                omega
              have hroom : ¬ (q * inf.bytes > roomBytes) := by unfold roomBytes; omega
              have hneg : ¬ ((q : Int) < 0) := by omega
              by_cases hq0 : q * inf.size = 0
              · have hc0 : cells = #[] := by
                  apply Array.eq_empty_of_size_eq_zero
                  rw [hcl, hq0]
                simp only [Sem.run_bind, run_underlying he, run_typeInfo' hinf, run_sizeOf' hinf, Result.andThen_ok, asInt, asIntOf, Sem.run_pure, hwr, hbi, hneg, decide_false, Bool.false_or, Bool.or_self, Bool.false_eq_true, if_false, gt_iff_lt, Int.lt_irrefl, askRoom, Int.toNat_natCast, hq0, if_true, hc0]
                rw [if_neg hroom]
                simp [newRow, Array.range_zero']
              · simp only [Sem.run_bind, run_underlying he, run_typeInfo' hinf, run_sizeOf' hinf, Result.andThen_ok, asInt, asIntOf, Sem.run_pure, hwr, hbi, hneg, decide_false, Bool.false_or, Bool.or_self, Bool.false_eq_true, if_false, gt_iff_lt, Int.lt_irrefl, askRoom, Int.toNat_natCast, hq0, hzq2]
                rw [if_neg hroom]
                simp [newRow, cells, hzq2]
            · refine rows_replicate hdr (DR.length _ _ _ hdr) _ _ (fun i hi => ?_) hp
              rw [Int.toNat_natCast] at hi
              have hlt : i < cells.toList.length := by rw [Array.length_toList, hcl, hsz]; exact hi
              rw [List.getElem?_eq_getElem hlt]
              have hmod : i % zv.cells.size < zv.cells.size := Nat.mod_lt _ hsp
              have : i % t'.size = i % zv.cells.size := by rw [hzs]
              rw [this, Array.getElem?_toList, Array.getElem?_eq_getElem hmod]
              simp [cells, hmod]
          · cases h
        · cases h
      · cases h
    · cases h
  · cases h
end
end Go.E

/-
  EngL: stores and append.
-/
namespace Go.E
open Go.RowKit
set_option linter.unusedVariables false
set_option linter.unusedSimpArgs false
section
variable {P : Program} {A : Nat → Prop} {w : World} {S : AState} {ρ : Nat → Value} {ev : Operand → Value}
theorem upρ_id (ρ : Nat → Value) (l : Nat) : upρ ρ l (ρ l) = ρ := by
  funext j
  unfold upρ
  split
  · rename_i h; rw [h]
  · rfl
theorem run_store_row {t e : TypeId} {inf : TypeInfo} {b o : Nat} {arr : Array Value} {v : Value} (hi : P.info? t = some inf) (hg : w.heap[b]? = some (.cells arr e (0, 0))) (hsz : v.cells.size = inf.size) (hl : o + inf.size ≤ arr.size) (h1 : ∀ u ∈ v.cells.toList, u.oneCell' = true) :
    (Instr.storeAt t (.pointer (some ⟨b, o, none⟩)) v).run P w = .ok () (w.setRow b (arr.toList.take o ++ v.cells.toList ++ arr.toList.drop (o + v.cells.toList.length)).toArray) := by
  have hst := run_storeCells_at P b o e v.cells.toList 0 arr w hg (by rw [Array.length_toList, hsz]; omega) h1
  simp only [Nat.add_zero] at hst
  unfold Instr.storeAt Instr.sureAddr storeVar
  simp only [Sem.run_bind, Sem.run_pure, Result.andThen_ok, run_sizeOf' hi, hsz, ne_eq, not_true_eq_false, if_false, hst]
theorem hop_set {l b : Nat} {C : List Nat} {c c0 : Chunk} {arr cells : Array Value} {e : TypeId} {o : Oper} {obl : Prop} (hH : HeapR P A S.hp ρ w) (hl : get? S.hp l = some c0) (hlC : l ∉ C) (hb : blkOf (ρ l) = some b) (hg : w.heap[b]? = some (.cells arr e (0, 0)))
    (hrun : (execOp ev o).run P w = .ok .skip (w.setRow b cells))
    (hnew : ∀ w' I', Ext w (immC A S.hp ρ w C) w' I' → w'.heap[b]? = some (.cells cells e (0, 0)) → ChunkR P w' I' ρ c (ρ l)) :
    HopOk P A S ρ w ev o ⟨obl, .junk, drops C ++ [(l, some c)], []⟩ := by
  have hother : ∀ k, k ≠ b → (w.setRow b cells).heap[k]? = w.heap[k]? := fun k hk => setRow_other w b k cells hk
  have st := step_put (P := P) (S := S) (ρ := ρ) (w := w) (w' := w.setRow b cells) (l := l) (C := C) (K := []) (c := c) (c0 := c0) (rv := ρ l) hl hlC (.inr rfl) rfl rfl rfl (by rw [size_setRow]; exact Nat.le_refl _)
    (fun k _ hk => hother k (fun he => hk (he ▸ hb))) (fun k hk => .inr hk)
  have ex := ext_give (P := P) (w := w) (w' := w.setRow b cells) (S := S) (ρ := ρ) (d := l) (C := C) (K := []) (c := c) (rv := ρ l) hH (fun k hk => .inr ⟨c0, hl, hk⟩) hlC (by rw [size_setRow]; exact Nat.le_refl _)
    (fun k _ hk => hother k (fun he => hk c0 hl (he ▸ hb)))
  refine ⟨_, _, _, _, _, hrun, .inr ⟨rfl, rfl⟩, st, ?_, by simp [VR], upd_isSome⟩
  intro j c' hj hc
  rw [get?_upd1 _ _ _ hlC] at hc
  simp only [List.mem_append, List.mem_singleton] at hj
  by_cases h : l = j
  · subst h
    rw [if_pos rfl] at hc
    injection hc with hc; subst hc
    have := hnew _ _ ex (setRow_heap w b arr cells e (0, 0) hg)
    rw [upρ_id] at this ⊢
    exact this
  · rw [if_neg h] at hc
    split at hc
    · cases hc
    · rename_i hC
      rcases hj with hj | hj
      · exact absurd hj hC
      · exact absurd hj.symm h
theorem splice2 (A us B : List Value) (p s off : Nat) (hu : us = (A.drop p).take s) (hs : p + s ≤ A.length) (hB : off + B.length ≤ s) :
    A.take p ++ (us.take off ++ B ++ us.drop (off + B.length)) ++ A.drop (p + (us.take off ++ B ++ us.drop (off + B.length)).length) = A.take (p + off) ++ B ++ A.drop (p + off + B.length) := by
  have hul : us.length = s := by rw [hu, List.length_take, List.length_drop]; omega
  have hl : (us.take off ++ B ++ us.drop (off + B.length)).length = s := by
    rw [List.length_append, List.length_append, List.length_take, List.length_drop]; omega
  rw [hl, List.take_add]
  have h1 : us.take off = (A.drop p).take off := by rw [hu, List.take_take, Nat.min_eq_left (by omega)]
  have h2 : us.drop (off + B.length) ++ A.drop (p + s) = A.drop (p + off + B.length) := by
    rw [hu, List.drop_take, List.drop_drop]
    have : A.drop (p + s) = (A.drop (p + (off + B.length))).drop (s - (off + B.length)) := by rw [List.drop_drop]; congr 1; omega
    rw [this, List.take_append_drop]
    congr 1
    omega
  rw [h1, List.append_assoc, List.append_assoc, List.append_assoc, h2]
  simp [List.append_assoc]
theorem cells_eq {A us : List Value} {p s : Nat} (hl : us.length = s) (h : ∀ j u, us[j]? = some u → A[p + j]? = some u) : us = (A.drop p).take s := by
  apply List.ext_getElem?
  intro j
  rw [List.getElem?_take, List.getElem?_drop]
  rcases Nat.lt_or_ge j us.length with hj | hj
  · rw [if_pos (by omega), List.getElem?_eq_getElem hj]
    exact (h j _ (List.getElem?_eq_getElem hj)).symm
  · rw [if_neg (by omega), List.getElem?_eq_none hj]
theorem refs_imm_self {H : Heap} {C : List Nat} {I' : Nat → Prop} {w' : World} (ex : Ext w (immC A H ρ w C) w' I') : Ext w (imm A H ρ w) w' I' := ext_immC.trans ex
theorem hop_store {f : Operand → AV} {d : Nat} {t : TypeId} {a x : Operand} {o : Oper} {r : Res} (ho : o.op = .store t a x) (hH : HeapR P A S.hp ρ w) (h : hop P S f d (.store t a x) = some r) (hob : r.obl)
    (ha : VR P w (imm A S.hp ρ w) ρ (f a) (ev a)) (hx : VR P w (imm A S.hp ρ w) ρ (f x) (ev x)) : HopOk P A S ρ w ev o r := by
  obtain ⟨dst, op, oty, pos, after, guard⟩ := o
  simp only at ho
  subst ho
  have hrun : ∀ {w'}, (Instr.storeAt t (ev a) (ev x)).run P w = .ok () w' → (execOp ev ⟨dst, .store t a x, oty, pos, after, guard⟩).run P w = .ok .skip w' := by
    intro w' h
    simp only [execOp, Sem.run_bind, h, Result.andThen_ok, Sem.run_pure]
  simp only [hop, storeTo] at h
  split at h
  · rename_i inf hinf
    split at h
    · rename_i l off hfa
      rw [hfa] at ha
      simp only [VR] at ha
      obtain ⟨b, hb, hea⟩ := ha
      split at h
      · rename_i cs hc
        split at h
        · rename_i hcd
          obtain ⟨h1, h2, h3⟩ := hcd
          injection h with h; subst h
          obtain ⟨b', vs, e, hrv, hh, hvs⟩ := hH.chunk _ _ hc
          have : b' = b := by simpa [hrv, blkOf] using hb
          subst this
          have hcl := cellsOf_sound hH h3 hx
          have hlen := hcl.length
          have hst := run_store_row (P := P) (t := t) (b := b') (o := off) (v := ev x) hinf hh (by rw [← Array.length_toList, hlen, h1]) (by have := hvs.length; simp; omega) (all_cells hH h3 hcl)
          rw [hea] at hrun
          refine hop_set (C := []) (c0 := .blk cs) hH hc (by simp) hb hh (hrun hst) ?_
          intro w' I' ex hw'
          have ex' := refs_imm_self ex
          refine ⟨b', _, e, hrv, hw', ?_⟩
          have hcl' := VRs.ext ex' _ _ (fun _ _ => rfl) hcl
          have hvs' := VRs.ext ex' _ _ (fun _ _ => rfl) hvs
          unfold setCells
          have := ((hvs'.take off).append hcl').append (hvs'.drop (off + (cellsOf (f x)).length))
          rw [← hlen] at this ⊢
          simpa using this
        · cases h
      · rename_i pre t' xs hc
        split at h
        · rename_i hcd
          obtain ⟨h1, h2, h3⟩ := hcd
          injection h with h; subst h
          obtain ⟨b', vs, arr, e, hrv, hh, hvs, hp, hs, hr⟩ := hH.chunk _ _ hc
          have : b' = b := by simpa [hrv, blkOf] using hb
          subst this
          have hcl := cellsOf_sound hH h3 hx
          have hlen := hcl.length
          have hvl := hvs.length
          have hst := run_store_row (P := P) (t := t) (b := b') (o := off) (v := ev x) hinf hh (by rw [← Array.length_toList, hlen, h1]) (by omega) (all_cells hH h3 hcl)
          rw [hea] at hrun
          refine hop_set (C := []) (c0 := .mix pre t' xs) hH hc (by simp) hb hh (hrun hst) ?_
          intro w' I' ex hw'
          have ex' := refs_imm_self ex
          have hcl' := VRs.ext ex' _ _ (fun _ _ => rfl) hcl
          have hvs' := VRs.ext ex' _ _ (fun _ _ => rfl) hvs
          have hlt : (arr.toList.take off).length = off := by rw [List.length_take, Array.length_toList]; omega
          have hsl : (setCells pre off (cellsOf (f x))).length = pre.length := by
            unfold setCells
            rw [List.length_append, List.length_append, List.length_take, List.length_drop]
            omega
          refine ⟨b', vs.take off ++ (ev x).cells.toList ++ vs.drop (off + (ev x).cells.toList.length), _, e, hrv, hw', ?_, ?_, ?_, ?_⟩
          · unfold setCells
            have := ((hvs'.take off).append hcl').append (hvs'.drop (off + (cellsOf (f x)).length))
            rw [← hlen] at this ⊢
            exact this
          · intro j u hj
            rw [List.getElem?_toArray]
            have e1 : (vs.take off).length = off := by rw [List.length_take]; omega
            rcases Nat.lt_or_ge j off with hj1 | hj1
            · rw [List.append_assoc, List.getElem?_append_left (by omega), List.getElem?_take, if_pos hj1] at hj
              rw [List.append_assoc, List.getElem?_append_left (by omega), List.getElem?_take, if_pos hj1, Array.getElem?_toList]
              exact hp j u hj
            · rcases Nat.lt_or_ge j (off + (ev x).cells.toList.length) with hj2 | hj2
              · rw [List.append_assoc, List.getElem?_append_right (by omega), e1, List.getElem?_append_left (by omega)] at hj
                rw [List.append_assoc, List.getElem?_append_right (by omega), hlt, List.getElem?_append_left (by omega)]
                exact hj
              · rw [List.getElem?_append_right (by rw [List.length_append]; omega), List.length_append, e1, List.getElem?_drop] at hj
                rw [List.getElem?_append_right (by rw [List.length_append]; omega), List.length_append, hlt, List.getElem?_drop, Array.getElem?_toList]
                exact hp _ u hj
          · rw [hsl, List.size_toArray, List.length_append, List.length_append, hlt, List.length_drop]
            have e1 : arr.toList.length = arr.size := Array.length_toList
            have e2 : (ev x).cells.toList.length = (ev x).cells.size := Array.length_toList
            omega
          · rw [hsl]
            intro i y hy
            obtain ⟨us, hul, huc, hud⟩ := hr i y hy
            refine ⟨us, hul, fun j u hj => ?_, DR.ext ex' _ _ _ hud⟩
            have := huc j u hj
            rw [List.getElem?_toArray]
            rw [List.getElem?_append_right (by rw [List.length_append]; omega), List.length_append, hlt, List.getElem?_drop, Array.getElem?_toList]
            rw [← this]
            congr 1
            have e2 : (ev x).cells.toList.length = (ev x).cells.size := Array.length_toList
            omega
        · cases h
      · cases h
    · rename_i l t' base i off hfa
      rw [hfa] at ha
      simp only [VR] at ha
      obtain ⟨b, hb, hea⟩ := ha
      split at h
      · rename_i t2 xs hc
        split at h
        · rename_i hcd
          obtain ⟨rfl, rfl, h1, h2, h3, h4⟩ := hcd
          split at h
          · rename_i y hy
            injection h with h; subst h
            have hlC : l ∉ refs S.hp (f x) := by
              intro hm
              simp only [Bool.not_eq_true', List.contains_eq_mem, decide_eq_false_iff_not] at h4
              exact h4 hm
            rcases hH.chunk _ _ hc with ⟨hrv, hnil⟩ | ⟨b', off0, cap, arr, e, hrv, hh, hcap, hsz, hr⟩
            · simp [hrv, blkOf] at hb
            · have : b' = b := by simpa [hrv, blkOf] using hb
              subst this
              have hres := res_immC hH (C := refs S.hp (f x)) (fun _ h => h) hx
              have hcl := cellsOf_sound hH h3 hres
              have hlen := hcl.length
              have hi : i < xs.length := hob
              have hbd : i * t2.size + t2.size ≤ cap * t2.size := by rw [← Nat.succ_mul]; exact Nat.mul_le_mul_right _ (by omega)
              have hst := run_store_row (P := P) (t := t) (b := b') (o := off0 + i * t2.size + off) (v := ev x) hinf hh (by rw [← Array.length_toList, hlen, h1]) (by omega) (all_cells hH h3 hcl)
              rw [hea, hrv] at hrun
              simp only [baseOf, Nat.add_zero] at hrun
              refine hop_set (C := refs S.hp (f x)) (c0 := .row t2 xs) hH hc hlC hb hh (hrun hst) ?_
              intro w' I' ex hw'
              obtain ⟨us, hul, huc, hud⟩ := hr i _ (elemAt_of hi)
              have hudw := DR.ext (ext_immC (H := S.hp) (C := refs S.hp (f x))) _ _ _ hud
              have henc := enc_sound (P := P) (ρ := ρ) _ _ _ hudw
              have hel := enc_length t2 (elemAt xs i)
              have hnew := ((henc.take off).append hcl).append (henc.drop (off + (cellsOf (resAV S.hp (f x))).length))
              have hdy := dec_sound t2 _ y _ hy hnew
              have hdyl := DR.length _ _ _ hdy
              refine .inr ⟨b', off0, cap, _, e, by rw [hrv]; simp, hw', by simpa using hcap, ?_, ?_⟩
              · rw [List.size_toArray, List.length_append, List.length_append, List.length_take, List.length_drop, Array.length_toList]
                omega
              · have hrows : Rows w' I' t2 xs arr.toList off0 := (hr.ext (refs_imm_self ex)).rows
                have hset := hrows.set (i := i) (y := y) hi hdyl (DR.ext ex _ _ _ hdy) (by have e1 : arr.toList.length = arr.size := Array.length_toList; have := Nat.mul_le_mul_right t2.size hcap; omega)
                have heq : arr.toList.take (off0 + i * t2.size) ++ (us.take off ++ (ev x).cells.toList ++ us.drop (off + (cellsOf (resAV S.hp (f x))).length)) ++ arr.toList.drop (off0 + i * t2.size + (us.take off ++ (ev x).cells.toList ++ us.drop (off + (cellsOf (resAV S.hp (f x))).length)).length)
                    = arr.toList.take (off0 + i * t2.size + off) ++ (ev x).cells.toList ++ arr.toList.drop (off0 + i * t2.size + off + (ev x).cells.toList.length) := by
                  rw [← hlen]
                  exact splice2 arr.toList us (ev x).cells.toList (off0 + i * t2.size) t2.size off (cells_eq hul (fun j u hj => by simpa using huc j u hj)) (by rw [Array.length_toList]; omega) (by rw [hlen, h1]; exact h2)
                rw [heq] at hset
                exact hset.at_
          · cases h
        · cases h
      · rename_i pre t2 xs hc
        split at h
        · rename_i hcd
          obtain ⟨rfl, rfl, h1, h2, h3, h4⟩ := hcd
          split at h
          · rename_i y hy
            injection h with h; subst h
            have hlC : l ∉ refs S.hp (f x) := by
              intro hm
              simp only [Bool.not_eq_true', List.contains_eq_mem, decide_eq_false_iff_not] at h4
              exact h4 hm
            obtain ⟨b', vs, arr, e, hrv, hh, hvs, hp, hs, hr⟩ := hH.chunk _ _ hc
            have : b' = b := by simpa [hrv, blkOf] using hb
            subst this
            have hvl := hvs.length
            have hres := res_immC hH (C := refs S.hp (f x)) (fun _ h => h) hx
            have hcl := cellsOf_sound hH h3 hres
            have hlen := hcl.length
            have hi : i < xs.length := hob
            have hbd : i * t2.size + t2.size ≤ xs.length * t2.size := by rw [← Nat.succ_mul]; exact Nat.mul_le_mul_right _ (by omega)
            have hst := run_store_row (P := P) (t := t) (b := b') (o := pre.length + i * t2.size + off) (v := ev x) hinf hh (by rw [← Array.length_toList, hlen, h1]) (by omega) (all_cells hH h3 hcl)
            rw [hea, hrv] at hrun
            simp only [baseOf, Nat.zero_add] at hrun
            refine hop_set (C := refs S.hp (f x)) (c0 := .mix pre t2 xs) hH hc hlC hb hh (hrun hst) ?_
            intro w' I' ex hw'
            obtain ⟨us, hul, huc, hud⟩ := hr i _ (elemAt_of hi)
            have hudw := DR.ext (ext_immC (H := S.hp) (C := refs S.hp (f x))) _ _ _ hud
            have henc := enc_sound (P := P) (ρ := ρ) _ _ _ hudw
            have hnew := ((henc.take off).append hcl).append (henc.drop (off + (cellsOf (resAV S.hp (f x))).length))
            have hdy := dec_sound t2 _ y _ hy hnew
            have hdyl := DR.length _ _ _ hdy
            have e1 : arr.toList.length = arr.size := Array.length_toList
            have heq : arr.toList.take (pre.length + i * t2.size) ++ (us.take off ++ (ev x).cells.toList ++ us.drop (off + (cellsOf (resAV S.hp (f x))).length)) ++ arr.toList.drop (pre.length + i * t2.size + (us.take off ++ (ev x).cells.toList ++ us.drop (off + (cellsOf (resAV S.hp (f x))).length)).length)
                = arr.toList.take (pre.length + i * t2.size + off) ++ (ev x).cells.toList ++ arr.toList.drop (pre.length + i * t2.size + off + (ev x).cells.toList.length) := by
              rw [← hlen]
              exact splice2 arr.toList us (ev x).cells.toList (pre.length + i * t2.size) t2.size off (cells_eq hul (fun j u hj => by simpa using huc j u hj)) (by omega) (by rw [hlen, h1]; exact h2)
            refine ⟨b', vs, _, e, hrv, hw', VRs.ext (refs_imm_self ex) _ _ (fun _ _ => rfl) hvs, ?_, ?_, ?_⟩
            · intro j u hj
              have hj' : j < vs.length := nth_lt (xs := vs) hj
              rw [List.getElem?_toArray, List.append_assoc, List.getElem?_append_left (by rw [List.length_take]; omega), List.getElem?_take, if_pos (by omega), Array.getElem?_toList]
              exact hp j u hj
            · rw [List.size_toArray, List.length_append, List.length_append, List.length_take, List.length_drop, List.length_set]
              omega
            · have hrows : Rows w' I' t2 xs arr.toList pre.length := (hr.ext (refs_imm_self ex)).rows
              have hset := hrows.set (i := i) (y := y) hi hdyl (DR.ext ex _ _ _ hdy) (by omega)
              rw [heq] at hset
              exact hset.at_
          · cases h
        · cases h
      · cases h
    · cases h
  · cases h
end
end Go.E

/-
  EngM: append.
-/
namespace Go.E
open Go.RowKit
set_option linter.unusedVariables false
set_option linter.unusedSimpArgs false
section
variable {P : Program} {A : Nat → Prop} {w : World} {S : AState} {ρ : Nat → Value} {ev : Operand → Value}
theorem src_of {H : Heap} {tx e' : TypeId} {x : AV} {v : Value} {t : Ty} {ys : List t.T} {size : Nat} (hH : HeapR P A H ρ w) (hk : P.underlying tx = some (.slice e')) (hs : size = t.size) (hr : rowOf H x = some ⟨t, ys⟩) (hv : VR P w (imm A H ρ w) ρ x v) :
    ∃ a c news, v = .slice a ys.length c ∧ Src P size tx v ys.length news w ∧ Rows w (imm A H ρ w) t ys news 0 ∧ news.length = ys.length * t.size := by
  subst hs
  have key : ∀ (b off c : Nat), (∀ i y, nth ys i = some y → ∃ us : List Value, us.length = t.size ∧ CellsAt w b (off + i * t.size) us ∧ DR w (imm A H ρ w) t y us) → v = .slice (some ⟨b, off, none⟩) ys.length c →
      ∃ a c news, v = .slice a ys.length c ∧ Src P t.size tx v ys.length news w ∧ Rows w (imm A H ρ w) t ys news 0 ∧ news.length = ys.length * t.size := by
    intro b off c h hv
    obtain ⟨cs, h1, h2, h3, h4⟩ := gather ys off h
    subst hv
    exact ⟨_, c, cs, rfl, Src.ofSlice w hk _ _ _ cs h1 (cells_add h2) h4, h3, h1⟩
  have none_ : ∀ c, ys = [] → v = .slice none ys.length c → ∃ a c news, v = .slice a ys.length c ∧ Src P t.size tx v ys.length news w ∧ Rows w (imm A H ρ w) t ys news 0 ∧ news.length = ys.length * t.size := by
    intro c hy hv
    subst hy
    subst hv
    exact ⟨_, c, [], rfl, Src.ofNil w hk c, fun i x hx => by simp [nth] at hx, by simp⟩
  unfold rowOf at hr
  split at hr
  · rename_i tz zs
    injection hr with hr
    injection hr with h1 h2
    subst h1
    have h2 := eq_of_heq h2
    subst h2
    simp only [VR] at hv
    obtain ⟨a, c, hva, hc, hn⟩ := hv
    injection hva with hva
    rcases Nat.eq_zero_or_pos (List.length zs) with h0 | h0
    · cases a with
      | none => exact none_ c (List.eq_nil_of_length_eq_zero h0) hva
      | some ad =>
        subst hva
        refine ⟨_, c, [], rfl, Src.ofSlice w hk _ _ _ [] (by simp [h0]) (by simp) (by simp), fun i x hx => ?_, by simp [h0]⟩
        have := nth_lt hx
        omega
    · obtain ⟨b, off, rfl, hI, hel⟩ := hn h0
      exact key b off c hel hva
  · rename_i l
    split at hr
    · rename_i t2 xs hc
      injection hr with hr
      injection hr with h1 h2
      subst h1
      have h2 := eq_of_heq h2
      subst h2
      simp only [VR] at hv
      rcases hH.chunk _ _ hc with ⟨hrv, hnil⟩ | ⟨b', off0, cap, arr, e, hrv, hh, hcap, hsz, hrow⟩
      · exact none_ 0 hnil (by rw [hv, hrv, hnil]; rfl)
      · refine key b' off0 cap (fun i y hy => ?_) (by rw [hv, hrv])
        obtain ⟨us, hl, hca, hd⟩ := hrow i y hy
        exact ⟨us, hl, fun j u hj => by simp [World.cell?, hh, hca j u hj], hd⟩
    · cases hr
  · cases hr
theorem hop_put_row {w' : World} {l : Nat} {t : Ty} {xs : List t.T} {c0 : Chunk} {o : Oper} {rv : Value} {obl : Prop} (hH : HeapR P A S.hp ρ w) (hl : get? S.hp l = some c0) (hos : w'.os = w.os) (htape : w'.tape = w.tape) (hout : w'.output = w.output)
    (hsize : w.heap.size ≤ w'.heap.size) (hblk : ∀ b, b < w.heap.size → blkOf (ρ l) ≠ some b → w'.heap[b]? = w.heap[b]?) (hrv : ∀ b, blkOf rv = some b → w.heap.size ≤ b ∨ blkOf (ρ l) = some b)
    (hrun : (execOp ev o).run P w = .ok (.value rv) w') (hnew : ∀ I', Ext w (imm A S.hp ρ w) w' I' → ChunkR P w' I' ρ (.row t xs) rv) :
    HopOk P A S ρ w ev o ⟨obl, .sl l, [(l, some (.row t xs))], [l]⟩ := by
  have st := step_put (P := P) (S := S) (ρ := ρ) (w := w) (w' := w') (l := l) (C := []) (K := [l]) (c := .row t xs) (c0 := c0) (rv := rv) hl (by simp) (.inl (by simp)) hos htape hout hsize hblk hrv
  have ex := st.ext hH
  refine ⟨_, _, _, _, _, hrun, .inl rfl, st, ?_, ?_, by simp [get?]⟩
  · intro j c' hj hc
    simp only [List.nil_append, List.mem_singleton] at hj
    subst hj
    simp only [applyUpd, get?_set, if_true, Option.some.injEq] at hc
    subst hc
    rw [upρ_same]
    have := hnew _ ex
    rcases this with h | ⟨b, off, cap, arr, e, h1, h2, h3, h4, h5⟩
    · exact .inl h
    · exact .inr ⟨b, off, cap, arr, e, h1, h2, h3, h4, h5⟩
  · simp only [VR]
    rw [upρ_same]
theorem hop_put_any {w' : World} {l d : Nat} {t : Ty} {xs : List t.T} {c0 : Chunk} {o : Oper} {rv : Value} {obl : Prop} {r : Res} (hr : r = ⟨obl, .sl l, [(l, some (.row t xs))], [l]⟩ ∨ (S.fresh d = true ∧ d ≠ l) ∧ r = ⟨obl, .sl d, drops [l] ++ [(d, some (.row t xs))], []⟩)
    (hH : HeapR P A S.hp ρ w) (hl : get? S.hp l = some c0) (hos : w'.os = w.os) (htape : w'.tape = w.tape) (hout : w'.output = w.output)
    (hsize : w.heap.size ≤ w'.heap.size) (hblk : ∀ b, b < w.heap.size → blkOf (ρ l) ≠ some b → w'.heap[b]? = w.heap[b]?) (hrv : ∀ b, blkOf rv = some b → w.heap.size ≤ b ∨ blkOf (ρ l) = some b)
    (hrun : (execOp ev o).run P w = .ok (.value rv) w') (hnew : ∀ I', Ext w (imm A S.hp ρ w) w' I' → ChunkR P w' I' ρ (.row t xs) rv) :
    HopOk P A S ρ w ev o r := by
  rcases hr with rfl | ⟨⟨hf, hdl⟩, rfl⟩
  · exact hop_put_row hH hl hos htape hout hsize hblk hrv hrun hnew
  have st := step_move (P := P) (S := S) (ρ := ρ) (w := w) (w' := w') (l := l) (d := d) (c := .row t xs) (c0 := c0) (rv := rv) hl hdl hf hos htape hout hsize hblk hrv
  have ex := st.ext hH
  refine ⟨_, _, _, _, _, hrun, .inl rfl, st, ?_, ?_, ?_⟩
  · intro j c' hj hc
    rw [get?_upd1 _ _ _ (by simpa using hdl)] at hc
    by_cases h : d = j
    · subst h
      rw [if_pos rfl] at hc
      injection hc with hc
      subst hc
      rw [upρ_same]
      have := hnew _ ex
      rcases this with h | ⟨b, off, cap, arr, e, h1, h2, h3, h4, h5⟩
      · exact .inl h
      · exact .inr ⟨b, off, cap, arr, e, h1, h2, h3, h4, h5⟩
    · rw [if_neg h] at hc
      simp only [List.mem_append, List.mem_singleton] at hj
      rcases hj with hj | hj
      · rw [if_pos (by simpa using hj)] at hc
        cases hc
      · exact absurd hj.symm h
  · simp only [VR]
    rw [upρ_same]
  · intro j hj
    simp only [List.mem_append, List.mem_singleton] at hj
    rcases hj with rfl | rfl
    · simp [drops, get?]
    · simp only [drops, List.map_cons, List.map_nil, List.cons_append, List.nil_append, get?]
      split
      · rfl
      · simp
theorem Rows.at_arr {I : Nat → Prop} {t : Ty} {xs : List t.T} {arr : Array Value} {off : Nat} (h : Rows w I t xs arr.toList off) : RowAt w I t xs arr off := by
  intro i x hx
  obtain ⟨us, hl, hc, hd⟩ := h i x hx
  exact ⟨us, hl, fun j u hj => by simpa using hc j u hj, hd⟩
theorem grown_row {w' : World} {I' : Nat → Prop} {t : Ty} {xs ys : List t.T} {olds news : List Value} {z : Array Value} {nc : Nat} {e : TypeId} (hx : Rows w' I' t xs olds 0) (hol : olds.length = xs.length * t.size) (hy : Rows w' I' t ys news 0) (hnl : news.length = ys.length * t.size)
    (hz : z.size = t.size) (hnc : xs.length + ys.length ≤ nc) :
    Rows w' I' t (xs ++ ys) ((olds ++ news).toArray ++ Builtin.zeroCells z (nc - (xs.length + ys.length))).toList 0 ∧ nc * t.size ≤ ((olds ++ news).toArray ++ Builtin.zeroCells z (nc - (xs.length + ys.length))).size := by
  constructor
  · have := hx.append (es := (Builtin.zeroCells z (nc - (xs.length + ys.length))).toList) (by omega) hy hnl
    simpa using this
  · rw [Array.size_append, size_zeroCells, List.size_toArray, List.length_append, hol, hnl, hz, ← Nat.add_mul, ← Nat.add_mul]
    exact Nat.mul_le_mul_right _ (by omega)
theorem hop_append {f : Operand → AV} {d : Nat} {args : Array Operand} {ts : Array TypeId} {o : Oper} {r : Res} (ho : o.op = .call { callee := .builtin .append, args := args, argTypes := ts }) (hH : HeapR P A S.hp ρ w)
    (h : hop P S f d (.call { callee := .builtin .append, args := args, argTypes := ts }) = some r) (hob : r.obl) (hf : ∀ x ∈ args, VR P w (imm A S.hp ρ w) ρ (f x) (ev x)) : HopOk P A S ρ w ev o r := by
  obtain ⟨dst, op, oty, pos, after, guard⟩ := o
  simp only at ho
  subst ho
  simp only [hop] at h
  split at h
  · rename_i s x t tx hargs hts
    have hargs' : args = #[s, x] := by apply Array.ext'; simpa using hargs
    have hts' : ts = #[t, tx] := by apply Array.ext'; simpa using hts
    subst hargs'
    subst hts'
    have hs := hf s (by simp)
    have hx := hf x (by simp)
    have hrun : ∀ {v w'}, (Builtin.append_ #[t, tx] oty #[ev s, ev x]).run P w = .ok v w' → (execOp ev ⟨dst, .call { callee := .builtin .append, args := #[s, x], argTypes := #[t, tx] }, oty, pos, after, guard⟩).run P w = .ok (.value v) w' := by
      intro v w' h
      simp only [execOp, resolve, Sem.run_bind, Sem.run_pure, Result.andThen_ok, invoke, builtin, List.map_toArray, List.map_cons, List.map_nil, h]
    simp only [appendTo] at h
    split at h
    · rename_i e e' he he'
      split at h
      · rename_i inf hinf
        split at h
        · rename_i z hz
          split at h
          · rename_i t' ys hr
            split at h
            · rename_i hcd
              obtain ⟨hsz, hzs, hbp, hz1⟩ := hcd
              obtain ⟨a, c, news, hvx, hsrc, hrows, hnl⟩ := src_of hH he' hsz hr hx
              have h63 : ∀ n : Nat, n * inf.bytes ≤ 140737488355328 → ((n : Nat) : Int) ≤ 9223372036854775807 := by
                intro n hn
                have : n ≤ 140737488355328 := Nat.le_trans (Nat.le_mul_of_pos_right _ hbp) hn
                omega
              have hgc : ∀ n old : Nat, n ≤ grownCap w n old e := by
                intro n old
                exact Nat.le_add_right _ _
              split at h
              · -- nil
                rename_i hfs
                rw [hfs] at hs
                simp only [VR] at hs
                split at h
                · rename_i hfresh
                  injection h with h; subst h
                  simp only at hob
                  rcases Nat.eq_zero_or_pos ys.length with h0 | h0
                  · have hy : ys = [] := List.eq_nil_of_length_eq_zero h0
                    subst hy
                    have hap : (Builtin.append_ #[t, tx] oty #[ev s, ev x]).run P w = .ok (.slice none 0 0) w := by
                      have hc0 := hsrc.cells
                      simp only [List.length_nil] at hc0
                      simp [Builtin.append_, hs, run_underlying he, run_underlying he', run_sizeOf' hinf, hsrc.len, hc0]
                    have st := step_new (P := P) (S := S) (ρ := ρ) (w := w) (w' := w) (d := d) (C := []) (c := .row t' []) (rv := .slice none 0 0) (by simp) hfresh rfl rfl rfl (Nat.le_refl _) (fun _ _ => rfl) (by simp [blkOf])
                    refine ⟨_, _, _, _, _, hrun hap, .inl rfl, st, ?_, ?_, by simp [get?]⟩
                    · intro j c' hj hc
                      simp only [List.nil_append, List.mem_singleton] at hj
                      subst hj
                      simp only [applyUpd, get?_set, if_true, Option.some.injEq] at hc
                      subst hc
                      rw [upρ_same]
                      exact .inl ⟨rfl, rfl⟩
                    · simp only [VR]
                      rw [upρ_same]
                  · have hap := run_append_grow_src (P := P) w t tx oty e inf z he hinf hz none 0 0 [] (run_firstCells_none w.drew inf.size 0 0 0) (ev x) ys.length news (hsz ▸ hsrc) (by omega) (by rw [Nat.zero_add]; exact h63 _ hob)
                      (growslice_fits (by omega) (by rw [Nat.zero_add]; exact hob))
                    rw [Nat.zero_add] at hap
                    have hg := grown_row (w' := w) (I' := immC A S.hp ρ w []) (xs := ([] : List t'.T)) (ys := ys) (olds := []) (news := news) (z := z.cells) (nc := grownCap w ys.length 0 e) (e := e) (fun i x hx => by simp [nth] at hx) (by simp) (hrows.ext ext_immC) hnl hzs (by simpa using hgc _ _)
                    simp only [List.nil_append, List.length_nil, Nat.zero_add] at hg
                    rw [← hs] at hap
                    refine hop_row (C := []) (e := e) (w' := w.drew.alloc (.cells (news.toArray ++ Builtin.zeroCells z.cells (grownCap w ys.length 0 e - ys.length)) e)) hH hfresh (by simp) rfl rfl rfl rfl (hrun (by simpa using hap)) (hgc _ _) hg.2 hg.1
                · cases h
              · -- own
                rename_i l hfs
                rw [hfs] at hs
                simp only [VR] at hs
                split at h
                · rename_i t2 xs hc
                  split at h
                  · rename_i ht
                    subst ht
                    split at h
                    · cases h
                    · rename_i hxl
                      have hany : r.obl = ((xs.length + ys.length) * inf.bytes ≤ 140737488355328) ∧ (r = ⟨(xs.length + ys.length) * inf.bytes ≤ 140737488355328, .sl l, [(l, some (.row t2 (xs ++ ys)))], [l]⟩ ∨ (S.fresh d = true ∧ d ≠ l) ∧ r = ⟨(xs.length + ys.length) * inf.bytes ≤ 140737488355328, .sl d, drops [l] ++ [(d, some (.row t2 (xs ++ ys)))], []⟩) := by
                        split at h
                        · rename_i hnw
                          injection h with h; subst h
                          exact ⟨rfl, .inr ⟨hnw.2, rfl⟩⟩
                        · injection h with h; subst h
                          exact ⟨rfl, .inl rfl⟩
                      obtain ⟨hobe, hany⟩ := hany
                      rw [hobe] at hob
                      clear h hobe
                      rcases hH.chunk _ _ hc with ⟨hrv, hnil⟩ | ⟨b, off, cap, arr, e2, hrv, hh, hcap, hsa, hrow⟩
                      · subst hnil
                        simp only [List.nil_append, List.length_nil, Nat.zero_add] at hob hany
                        rcases Nat.eq_zero_or_pos ys.length with h0 | h0
                        · have hy : ys = [] := List.eq_nil_of_length_eq_zero h0
                          subst hy
                          have hap : (Builtin.append_ #[t, tx] oty #[ev s, ev x]).run P w = .ok (.slice none 0 0) w := by
                            have hc0 := hsrc.cells
                            simp only [List.length_nil] at hc0
                            simp [Builtin.append_, hs, hrv, run_underlying he, run_underlying he', run_sizeOf' hinf, hsrc.len, hc0]
                          exact hop_put_any (hr := hany) (w' := w) (rv := .slice none 0 0) hH hc rfl rfl rfl (Nat.le_refl _) (fun _ _ _ => rfl) (by simp [blkOf]) (hrun hap) (fun I' ex => .inl ⟨rfl, rfl⟩)
                        · have hap := run_append_grow_src (P := P) w t tx oty e inf z he hinf hz none 0 0 [] (run_firstCells_none w.drew inf.size 0 0 0) (ev x) ys.length news (hsz ▸ hsrc) (by omega) (by rw [Nat.zero_add]; exact h63 _ hob)
                            (growslice_fits (by omega) (by rw [Nat.zero_add]; exact hob))
                          rw [Nat.zero_add, ← hrv, ← hs] at hap
                          refine hop_put_any (hr := hany) (rv := .slice (some ⟨w.heap.size, 0, none⟩) ys.length (grownCap w ys.length 0 e)) (w' := w.drew.alloc (.cells (news.toArray ++ Builtin.zeroCells z.cells (grownCap w ys.length 0 e - ys.length)) e)) hH hc rfl rfl rfl (by rw [alloc_size]; exact Nat.le_succ _) (fun k hk _ => alloc_heap_lt _ k hk) (by simp [blkOf]) (hrun (by simpa using hap)) ?_
                          intro I' ex
                          have hg := grown_row (w' := w.drew.alloc (.cells (news.toArray ++ Builtin.zeroCells z.cells (grownCap w ys.length 0 e - ys.length)) e)) (I' := I') (xs := ([] : List t2.T)) (ys := ys) (olds := []) (news := news) (z := z.cells) (nc := grownCap w ys.length 0 e) (e := e) (fun i x hx => by simp [nth] at hx) (by simp) (hrows.ext ex) hnl hzs (by simpa using hgc _ _)
                          simp only [List.nil_append, List.length_nil, Nat.zero_add] at hg
                          exact .inr ⟨w.heap.size, 0, _, _, e, rfl, heap_alloc_new w.drew _, hgc _ _, by rw [Nat.zero_add]; exact hg.2, hg.1.at_arr⟩
                      · by_cases hroom : xs.length + ys.length ≤ cap
                        · -- there is room
                          have hbd : xs.length * t2.size + ys.length * t2.size ≤ cap * t2.size := by rw [← Nat.add_mul]; exact Nat.mul_le_mul_right _ hroom
                          have hst := run_storeCells_at P b (off + xs.length * inf.size) e2 news 0 arr w hh (by rw [hnl, hsz]; omega) hsrc.one
                          simp only [Nat.add_zero] at hst
                          have hap : (Builtin.append_ #[t, tx] oty #[ev s, ev x]).run P w = .ok (.slice (some ⟨b, off, none⟩) (xs.length + ys.length) cap) (w.setRow b (arr.toList.take (off + xs.length * inf.size) ++ news ++ arr.toList.drop (off + xs.length * inf.size + news.length)).toArray) := by
                            have hc0 := hsrc.cells
                            simp [Builtin.append_, hs, hrv, run_underlying he, run_underlying he', run_sizeOf' hinf, hsrc.len, hroom, hc0, ptr_add, hst]
                          rw [hsz] at hap
                          have hother : ∀ k cells, k ≠ b → (w.setRow b cells).heap[k]? = w.heap[k]? := fun k cells hk => setRow_other w b k cells hk
                          refine hop_put_any (hr := hany) (w' := w.setRow b (arr.toList.take (off + xs.length * t2.size) ++ news ++ arr.toList.drop (off + xs.length * t2.size + news.length)).toArray) (rv := .slice (some ⟨b, off, none⟩) (xs.length + ys.length) cap) hH hc rfl rfl rfl (by rw [size_setRow]; exact Nat.le_refl _) (fun k _ hk => hother k _ (fun he => hk (by rw [hrv, he]; rfl))) (fun k hk => .inr (by rw [hrv]; exact hk)) (hrun hap) ?_
                          intro I' ex
                          refine .inr ⟨b, off, cap, _, e2, by simp, setRow_heap w b arr _ e2 (0, 0) hh, by simpa using hroom, ?_, ?_⟩
                          · have e1 : arr.toList.length = arr.size := Array.length_toList
                            rw [List.size_toArray, List.length_append, List.length_append, List.length_take, List.length_drop]
                            omega
                          · have htk : Rows (w.setRow b (arr.toList.take (off + xs.length * t2.size) ++ news ++ arr.toList.drop (off + xs.length * t2.size + news.length)).toArray) I' t2 xs (arr.toList.take (off + xs.length * t2.size)) off := by
                              intro i y hy
                              obtain ⟨us, hul, huc, hud⟩ := hrow i y hy
                              refine ⟨us, hul, fun j u hj => ?_, DR.ext ex _ _ _ hud⟩
                              have hj' : j < us.length := nth_lt (xs := us) hj
                              have := mul_lt_of (nth_lt hy) (hul ▸ hj')
                              rw [List.getElem?_take, if_pos (by omega), Array.getElem?_toList]
                              exact huc j u hj
                            exact (htk.append (by have e1 : arr.toList.length = arr.size := Array.length_toList; rw [List.length_take]; omega) (hrows.ext ex) hnl).at_
                        · -- a new block
                          obtain ⟨olds, ho1, ho2, ho3, ho4⟩ := gather (b := b) xs off (fun i y hy => by
                            obtain ⟨us, hul, huc, hud⟩ := hrow i y hy
                            exact ⟨us, hul, fun j u hj => by simp [World.cell?, hh, huc j u hj], hud⟩)
                          have hold : (Builtin.firstCells inf.size xs.length (.slice (some ⟨b, off, none⟩) xs.length cap)).run P w.drew = .ok olds.toArray w.drew :=
                            run_firstCells_some w.drew inf.size xs.length _ _ _ olds (by rw [hsz]; exact ho1) (by simpa using cells_add ho2)
                          have hap := run_append_grow_src (P := P) w t tx oty e inf z he hinf hz (some ⟨b, off, none⟩) xs.length cap olds hold (ev x) ys.length news (hsz ▸ hsrc) (by omega) (h63 _ hob) (growslice_fits (by omega) hob)
                          rw [← hrv, ← hs] at hap
                          refine hop_put_any (hr := hany) (rv := .slice (some ⟨w.heap.size, 0, none⟩) (xs.length + ys.length) (grownCap w (xs.length + ys.length) cap e)) (w' := w.drew.alloc (.cells ((olds ++ news).toArray ++ Builtin.zeroCells z.cells (grownCap w (xs.length + ys.length) cap e - (xs.length + ys.length))) e)) hH hc rfl rfl rfl (by rw [alloc_size]; exact Nat.le_succ _) (fun k hk _ => alloc_heap_lt _ k hk) (by simp [blkOf]) (hrun hap) ?_
                          intro I' ex
                          have hg := grown_row (w' := w.drew.alloc (.cells ((olds ++ news).toArray ++ Builtin.zeroCells z.cells (grownCap w (xs.length + ys.length) cap e - (xs.length + ys.length))) e)) (I' := I') (xs := xs) (ys := ys) (olds := olds) (news := news) (z := z.cells) (nc := grownCap w (xs.length + ys.length) cap e) (e := e) (ho3.ext ex) ho1 (hrows.ext ex) hnl hzs (hgc _ _)
                          exact .inr ⟨w.heap.size, 0, grownCap w (xs.length + ys.length) cap e, _, e, by simp, heap_alloc_new w.drew _, by simpa using hgc (xs.length + ys.length) cap, by rw [Nat.zero_add]; exact hg.2, hg.1.at_arr⟩
                  · cases h
                · cases h
              · cases h
            · cases h
          · cases h
        · cases h
      · cases h
    · cases h
  · cases h
end
end Go.E

/-
  EngMa: maps with whole numbers as keys.
-/
namespace Go.E
open Go.RowKit
set_option linter.unusedVariables false
set_option linter.unusedSimpArgs false
def decV (t : Ty) : AV → Option t.T
  | .agg cs => if t.isAgg = true then dec t cs else none
  | x => if t.isAgg = true then none else dec t [x]
section
variable {P : Program} {w : World} {ρ : Nat → Value}
theorem decV_sound {I : Nat → Prop} {t : Ty} {x : AV} {p : t.T} {v : Value} (h : decV t x = some p) (hv : VR P w I ρ x v) : DRV w I t p v := by
  unfold decV at h
  unfold DRV
  split at h
  · split at h
    · rename_i ha
      rw [if_pos ha]
      simp only [VR] at hv
      obtain ⟨vs, h1, h2⟩ := hv
      exact ⟨vs, h1, dec_sound t _ p vs h h2⟩
    · cases h
  · split at h
    · cases h
    · rename_i ha
      rw [if_neg ha]
      exact dec_sound t _ p [v] h (VRs_cons.2 ⟨v, [], rfl, hv, by simp [VRs]⟩)
theorem shut_one {I : Nat → Prop} {t : Ty} {x : t.T} {v : Value} (ht : t.isAgg = false) (h : DR w I t x [v]) : VR P w I ρ (shut t (enc t x)) v := by
  obtain ⟨u, us, he, hv, _⟩ := VRs_cons.1 (show VRs P w I ρ (((enc t x).headD .junk) :: []) [v] by
    have := enc_sound (P := P) (ρ := ρ) t x [v] h
    cases t <;> first | exact this | cases ht)
  injection he with he
  subst he
  cases t <;> first | exact hv | cases ht
theorem shut_sound {I : Nat → Prop} (t : Ty) (x : t.T) (v : Value) (h : DRV w I t x v) : VR P w I ρ (shut t (enc t x)) v := by
  unfold DRV at h
  split at h
  · rename_i ha
    obtain ⟨us, rfl, h⟩ := h
    cases t with
    | prod a b =>
      simp only [shut, VR]
      exact ⟨us, rfl, enc_sound _ x us h⟩
    | _ => cases ha
  · rename_i ha
    exact shut_one (by simpa using ha) h
end
def mGet {V : Type} : List (Nat × Int × V) → Int → Option V
  | [], _ => none
  | e :: r, n => if e.2.1 == n then some e.2.2 else mGet r n
def mBorn {V : Type} : List (Nat × Int × V) → Int → Option Nat
  | [], _ => none
  | e :: r, n => if e.2.1 == n then some e.1 else mBorn r n
def mPut {V : Type} : List (Nat × Int × V) → Nat → Int → V → List (Nat × Int × V)
  | [], c, n, x => [(c, n, x)]
  | e :: r, c, n, x => if e.2.1 == n then (e.1, n, x) :: r else e :: mPut r c n x
def mDel {V : Type} : List (Nat × Int × V) → Int → List (Nat × Int × V)
  | [], _ => []
  | e :: r, n => if e.2.1 == n then r else e :: mDel r n
def mStamp {V : Type} : List (Nat × Int × V) → Int → V → List (Nat × Int × V)
  | [], _, _ => []
  | e :: r, b, x => if (e.1 : Int) == b then (e.1, e.2.1, x) :: r else e :: mStamp r b x
def mHasB {V : Type} (es : List (Nat × Int × V)) (b : Int) : Bool := es.any fun e => (e.1 : Int) == b
def mClk {V : Type} (es : List (Nat × Int × V)) (n : Int) (c : Nat) : Nat := if (mGet es n).isSome then c else c + 1
def mAt {V : Type} (es : List (Nat × Int × V)) (b : Nat) : Option (Nat × Int × V) := es.find? fun e => e.1 == b
def EntR (w : World) (I : Nat → Prop) (k v : Ty) (e : Nat × k.T × v.T) (x : MapEntry) : Prop := x.born = e.1 ∧ DRV w I k e.2.1 x.key ∧ DRV w I v e.2.2 x.val
def EntsR (w : World) (I : Nat → Prop) (k v : Ty) : List (Nat × k.T × v.T) → List MapEntry → Prop
  | [], l => l = []
  | e :: r, l => ∃ x l', l = x :: l' ∧ EntR w I k v e x ∧ EntsR w I k v r l'
theorem entsR_of {w : World} {I : Nat → Prop} {k v : Ty} : ∀ (es : List (Nat × k.T × v.T)) (l : List MapEntry), l.length = es.length → (∀ i e, nth es i = some e → ∃ x, l[i]? = some x ∧ EntR w I k v e x) → EntsR w I k v es l
  | [], l, hl, _ => by simpa [EntsR] using hl
  | e :: r, l, hl, h => by
    cases l with
    | nil => simp at hl
    | cons x l' =>
      refine ⟨x, l', rfl, ?_, entsR_of r l' (by simpa using hl) fun i e he => by simpa using h (i + 1) e (by simpa [nth] using he)⟩
      obtain ⟨y, hy, h2⟩ := h 0 e (by simp [nth])
      simp at hy
      subst hy
      exact h2
theorem entsR_at {w : World} {I : Nat → Prop} {k v : Ty} : ∀ (es : List (Nat × k.T × v.T)) (l : List MapEntry), EntsR w I k v es l → l.length = es.length ∧ ∀ i e, nth es i = some e → ∃ x, l[i]? = some x ∧ EntR w I k v e x
  | [], l, h => by
    have : l = [] := h
    subst this
    exact ⟨rfl, fun i e he => by simp [nth] at he⟩
  | e :: r, l, h => by
    obtain ⟨x, l', rfl, h1, h2⟩ := h
    obtain ⟨g1, g2⟩ := entsR_at r l' h2
    refine ⟨by simp [g1], fun i e' he => ?_⟩
    cases i with
    | zero =>
      have : e = e' := by simpa [nth] using he
      subst this
      exact ⟨x, by simp, h1⟩
    | succ i => simpa using g2 i e' (by simpa [nth] using he)
theorem EntR.ext {w w' : World} {I I' : Nat → Prop} (ex : Ext w I w' I') {k v : Ty} {e : Nat × k.T × v.T} {x : MapEntry} (h : EntR w I k v e x) : EntR w' I' k v e x := ⟨h.1, h.2.1.ext ex, h.2.2.ext ex⟩
theorem EntsR.ext {w w' : World} {I I' : Nat → Prop} (ex : Ext w I w' I') {k v : Ty} : ∀ {es : List (Nat × k.T × v.T)} {l : List MapEntry}, EntsR w I k v es l → EntsR w' I' k v es l
  | [], l, h => h
  | e :: r, l, h => by
    obtain ⟨x, l', rfl, h1, h2⟩ := h
    exact ⟨x, l', rfl, h1.ext ex, h2.ext ex⟩
theorem entsR_append {w : World} {I : Nat → Prop} {k v : Ty} : ∀ {es fs : List (Nat × k.T × v.T)} {l m : List MapEntry}, EntsR w I k v es l → EntsR w I k v fs m → EntsR w I k v (es ++ fs) (l ++ m)
  | [], fs, l, m, h, h2 => by
    have : l = [] := h
    subst this
    simpa using h2
  | e :: r, fs, l, m, h, h2 => by
    obtain ⟨x, l', rfl, h1, h3⟩ := h
    exact ⟨x, l' ++ m, rfl, h1, entsR_append h3 h2⟩
theorem key_of {w : World} {I : Nat → Prop} {kk : IntKind} {n : Int} {u : Value} (h : DRV w I (.int kk) n u) : u = .int kk n := by
  have h : DR w I (.int kk) n [u] := h
  have : [u] = [.int kk n] := h
  simpa using this
theorem key_mk {w : World} {I : Nat → Prop} (kk : IntKind) (n : Int) : DRV w I (.int kk) n (.int kk n) := rfl
theorem find_ents {w : World} {I : Nat → Prop} {kk : IntKind} {v : Ty} (n : Int) : ∀ (es : List (Nat × Int × v.T)) (l : List MapEntry) (i : Nat), EntsR w I (.int kk) v es l →
    (mGet es n = none ∧ mBorn es n = none ∧ Instr.findNow (.int kk) (.int kk n) l i = some none ∧ mDel es n = es ∧ (∀ c x, mPut es c n x = es ++ [(c, n, x)])) ∨
    ∃ j x y, mGet es n = some y ∧ mBorn es n = some x.born ∧ Instr.findNow (.int kk) (.int kk n) l i = some (some (i + j, x.val)) ∧ l[j]? = some x ∧ x.key = .int kk n ∧ DRV w I v y x.val ∧ EntsR w I (.int kk) v (mDel es n) (l.eraseIdx j) ∧
      (∀ c z u, DRV w I v z u → EntsR w I (.int kk) v (mPut es c n z) (l.modify j fun e => { e with key := .int kk n, val := u })) ∧ ∀ c, mPut es c n y = es
  | [], l, i, h => by
    have : l = [] := h
    subst this
    exact .inl ⟨rfl, rfl, rfl, rfl, fun _ _ => rfl⟩
  | e :: r, l, i, h => by
    obtain ⟨x, l', rfl, ⟨h0, h1, h2⟩, h3⟩ := h
    have hk := key_of h1
    have hs : Instr.sameNow (.int kk) (.int kk n) x.key = some (n == e.2.1) := by rw [hk]; simp [Instr.sameNow]
    by_cases he : e.2.1 = n
    · have hb : (e.2.1 == n) = true := by simpa using he
      have hb' : (n == e.2.1) = true := by simpa using he.symm
      refine .inr ⟨0, x, e.2.2, by simp only [mGet, hb, if_true], by simp only [mBorn, hb, if_true, h0], by simp [Instr.findNow, hs, hb'], rfl, by rw [hk, he], h2, by simpa only [mDel, hb, if_true, List.eraseIdx] using h3, fun c z u hz => ?_, fun c => ?_⟩
      · simp only [mPut, hb, if_true]
        exact ⟨{ key := .int kk n, val := u, born := x.born }, l', by simp, ⟨h0, key_mk kk n, hz⟩, h3⟩
      · simp only [mPut, hb, if_true]
        subst he
        rfl
    · have hb : (e.2.1 == n) = false := by simpa using he
      have hb' : (n == e.2.1) = false := by simpa using (fun hh => he hh.symm)
      rcases find_ents n r l' (i + 1) h3 with ⟨g1, g2, g3, g4, g5⟩ | ⟨j, y, z, g1, g2, g3, g4, g5, g6, g7, g8, g9⟩
      · exact .inl ⟨by simp [mGet, hb, g1], by simp [mBorn, hb, g2], by simp [Instr.findNow, hs, hb', g3], by simp [mDel, hb, g4], fun c x => by simp [mPut, hb, g5]⟩
      · refine .inr ⟨j + 1, y, z, by simp [mGet, hb, g1], by simp [mBorn, hb, g2], by simp [Instr.findNow, hs, hb', g3]; omega, by simpa using g4, g5, g6, ?_, fun c z u hz => ?_, fun c => by simp [mPut, hb, g9]⟩
        · simp only [mDel, hb]
          exact ⟨x, l'.eraseIdx j, by simp, ⟨h0, h1, h2⟩, g7⟩
        · simp only [mPut, hb]
          exact ⟨x, _, by simp, ⟨h0, h1, h2⟩, g8 c z u hz⟩
theorem stamp_ents {w : World} {I : Nat → Prop} {kk : IntKind} {v : Ty} (b : Int) {z : v.T} {u : Value} (hz : DRV w I v z u) : ∀ (es : List (Nat × Int × v.T)) (l : List MapEntry), EntsR w I (.int kk) v es l → mHasB es b = true →
    ∃ j, l.findIdx? (fun e => (e.born : Int) == b) = some j ∧ EntsR w I (.int kk) v (mStamp es b z) (l.modify j fun e => { e with val := u })
  | [], l, h, hb => by simp [mHasB] at hb
  | e :: r, l, h, hb => by
    obtain ⟨x, l', rfl, ⟨h0, h1, h2⟩, h3⟩ := h
    by_cases he : (e.1 : Int) = b
    · have hx : ((x.born : Int) == b) = true := by rw [h0]; simpa using he
      have hx' : ((e.1 : Int) == b) = true := by simpa using he
      refine ⟨0, by simp [List.findIdx?_cons, hx], ?_⟩
      simp only [mStamp, hx', if_true]
      exact ⟨{ x with val := u }, l', by simp, ⟨h0, h1, hz⟩, h3⟩
    · have hx : ((x.born : Int) == b) = false := by rw [h0]; simpa using he
      have hx' : ((e.1 : Int) == b) = false := by simpa using he
      obtain ⟨j, g1, g2⟩ := stamp_ents b hz r l' h3 (by simpa [mHasB, hx'] using hb)
      refine ⟨j + 1, by simp [List.findIdx?_cons, hx, g1], ?_⟩
      simp only [mStamp, hx']
      exact ⟨x, _, by simp, ⟨h0, h1, h2⟩, g2⟩
theorem at_ents {w : World} {I : Nat → Prop} {k v : Ty} (b : Nat) : ∀ (es : List (Nat × k.T × v.T)) (l : List MapEntry), EntsR w I k v es l → ∀ e, es.find? (fun e => e.1 == b) = some e →
    ∃ x, l.find? (fun x => x.born == b) = some x ∧ EntR w I k v e x
  | [], l, h, e, he => by simp at he
  | f :: r, l, h, e, he => by
    obtain ⟨x, l', rfl, h1, h3⟩ := h
    by_cases hb : f.1 = b
    · have hx : (x.born == b) = true := by rw [h1.1]; simpa using hb
      have hx' : (f.1 == b) = true := by simpa using hb
      simp only [List.find?_cons, hx'] at he
      injection he with he
      subst he
      exact ⟨x, by simp [List.find?_cons, hx], h1⟩
    · have hx : (x.born == b) = false := by rw [h1.1]; simpa using hb
      have hx' : (f.1 == b) = false := by simpa using hb
      simp only [List.find?_cons, hx'] at he
      obtain ⟨y, g1, g2⟩ := at_ents b r l' h3 e he
      exact ⟨y, by simp [List.find?_cons, hx, g1], g2⟩
def mapElem (P : Program) (t : TypeId) (kk : IntKind) : Option TypeId := match P.underlying t with
  | some (.map kt e) => match P.underlying kt with
    | some (.int k') => if k' = kk then some e else none
    | _ => none
  | _ => none
def zeroD (P : Program) (e : TypeId) (v : Ty) : Option v.T := match P.info? e with
  | some i => match i.zero with
    | some (.agg cs) => if v.isAgg = true then dec v (cs.toList.map ofConst) else none
    | some z => if v.isAgg = true then none else dec v [ofConst z]
    | none => none
  | none => none
def mop (P : Program) (S : AState) (f : Operand → AV) (d : Nat) : Op → Option Res
  | .makeMap t none => match P.underlying t with
    | some (.map kt e) => match ty P kt, ty P e with
      | some (.int kk), some v => if S.fresh d then some ⟨True, .mp d, [(d, some (.map (.int kk) v [] 0))], []⟩ else none
      | _, _ => none
    | _ => none
  | .lookup t x k ok => match f x, f k with
    | .mp l, .int k1 n => match get? S.hp l with
      | some (.map (.int kk) v es c) => if k1 = kk then match mapElem P t kk with
        | some e => match zeroD P e v with
          | some z0 => some ⟨True, match ok with
            | true => .tup [shut v (enc v ((mGet es n).getD z0)), .bool (mGet es n).isSome]
            | false => shut v (enc v ((mGet es n).getD z0)), [], []⟩
          | none => none
        | none => none
        else none
      | _ => none
    | _, _ => none
  | .mapUpdate t m k x => match f m, f k with
    | .mp l, .int k1 n => match get? S.hp l with
      | some (.map (.int kk) v es c) => if k1 = kk ∧ (mapElem P t kk).isSome = true ∧ !(refs S.hp (f x)).contains l then match decV v (resAV S.hp (f x)) with
        | some y => some ⟨True, .junk, drops (refs S.hp (f x)) ++ [(l, some (.map (.int kk) v (mPut es c n y) (mClk es n c)))], []⟩
        | none => none
        else none
      | _ => none
    | _, _ => none
  | .mapEntry t m k => match f m, f k with
    | .mp l, .int k1 n => match get? S.hp l with
      | some (.map (.int kk) v es c) => if k1 = kk then match mapElem P t kk with
        | some e => match zeroD P e v with
          | some z0 => some ⟨c < 9223372036854775808 ∧ ∀ x ∈ es, x.1 < 9223372036854775808, .tup [shut v (enc v ((mGet es n).getD z0)), .int .i64 ((mBorn es n).getD c : Nat)], [(l, some (.map (.int kk) v (mPut es c n ((mGet es n).getD z0)) (mClk es n c)))], []⟩
          | none => none
        | none => none
        else none
      | _ => none
    | _, _ => none
  | .entryStore t m s x => match f m, f s with
    | .mp l, .int .i64 b => match get? S.hp l with
      | some (.map (.int kk) v es c) => if !(refs S.hp (f x)).contains l then match decV v (resAV S.hp (f x)) with
        | some y => some ⟨mHasB es b = true, .junk, drops (refs S.hp (f x)) ++ [(l, some (.map (.int kk) v (mStamp es b y) c))], []⟩
        | none => none
        else none
      | _ => none
    | _, _ => none
  | .range t x => match f x, P.underlying t with
    | .mp l, some (.map _ _) => match get? S.hp l with
      | some (.map k v es c) => if S.fresh d then some ⟨True, .ptr d 0, [(d, some (.itr l c c []))], []⟩ else none
      | _ => none
    | _, _ => none
  | .entry x => match f x with
    | .ptr l 0 => match get? S.hp l with
      | some (.itr m since last seen) => match get? S.hp m with
        | some (.map k v es c) => some ⟨c = last ∧ (es.find? (fun e => e.1 == seen.getLast?.getD 0)).isSome = true ∧ seen ≠ [],
            .tup [shut k (enc k ((es.find? (fun e => e.1 == seen.getLast?.getD 0)).getD (0, k.zero, v.zero)).2.1), shut v (enc v ((es.find? (fun e => e.1 == seen.getLast?.getD 0)).getD (0, k.zero, v.zero)).2.2)], [], []⟩
        | _ => none
      | _ => none
    | _ => none
  | .call { callee := .builtin .delete, args := args, argTypes := ts } => match args.toList, ts[0]? with
    | [m, k], some t => match f m, f k with
      | .mp l, .int k1 n => match get? S.hp l with
        | some (.map (.int kk) v es c) => if k1 = kk ∧ (mapElem P t kk).isSome = true then
            some ⟨True, .tup [], [(l, some (.map (.int kk) v (mDel es n) c))], []⟩ else none
        | _ => none
      | _, _ => none
    | _, _ => none
  | _ => none
section
variable {P : Program} {A : Nat → Prop} {w : World} {S : AState} {ρ : Nat → Value} {ev : Operand → Value}
theorem run_zeroD {e : TypeId} {v : Ty} {z0 : v.T} {I : Nat → Prop} (h : zeroD P e v = some z0) : ∃ z, (zeroValue e).run P w = .ok z w ∧ DRV w I v z0 z := by
  unfold zeroD at h
  split at h
  · rename_i i hi
    have hz : ∀ z, i.zero = some z → (zeroValue e).run P w = .ok z w := by
      intro z hz
      unfold zeroValue
      rw [run_bind_ok (run_typeInfo' hi), hz]
      rfl
    split at h
    · rename_i cs hcs
      split at h
      · rename_i ha
        refine ⟨_, hz _ hcs, ?_⟩
        unfold DRV
        rw [if_pos ha]
        refine ⟨cs.toList, by simp, dec_sound (P := P) (ρ := fun _ => undef) v _ z0 _ h (ofConsts_sound _)⟩
      · cases h
    · rename_i z hcs hz2
      split at h
      · cases h
      · rename_i ha
        refine ⟨_, hz _ hz2, ?_⟩
        unfold DRV
        rw [if_neg ha]
        exact dec_sound (P := P) (ρ := fun _ => undef) v _ z0 _ h (ofConsts_sound [z])
    · cases h
  · cases h
theorem hop_val {o : Oper} {obl : Prop} {x : AV} {v : Value} (hrun : (execOp ev o).run P w = .ok (.value v) w) (hv : VR P w (imm A S.hp ρ w) ρ x v) : HopOk P A S ρ w ev o ⟨obl, x, [], []⟩ := by
  have e0 : applyUpd [] (killH [] S.hp) = killH [] S.hp := rfl
  have hg : ∀ l, get? (killH [] S.hp) l = get? S.hp l := fun l => by rw [get?_killH]; cases get? S.hp l <;> simp [Chunk.kill_nil]
  have himm : ∀ b, imm A S.hp ρ w b → imm A (killH [] S.hp) ρ w b := fun b hb => ⟨hb.1, fun l c hl => hb.2 l c (by rw [← hg]; exact hl)⟩
  refine ⟨_, _, w, ρ, [], hrun, .inl rfl, ⟨fun l _ => get?_killH [] S.hp l, fun _ _ => rfl, fun l hl => by (cases hl), rfl, rfl, rfl, Nat.le_refl _, fun b hb _ => rfl, fun l c b hl => by (cases hl), fun l c l' c' hl => by (cases hl)⟩, fun l c hl => by (cases hl), ?_, fun l hl => by (cases hl)⟩
  exact VR.ext ⟨Nat.le_refl _, fun b hb => ⟨himm b hb, rfl⟩⟩ x v (fun _ _ => rfl) hv
theorem hop_obj' {w' : World} {l b : Nat} {C : List Nat} {c c0 : Chunk} {o : Oper} {ob : Obj} {obl : Prop} {x : AV} {nx : Next} {v : Value} (hH : HeapR P A S.hp ρ w) (hl : get? S.hp l = some c0) (hlC : l ∉ C) (hb : blkOf (ρ l) = some b) (hlt : b < w.heap.size)
    (hheap : w'.heap = w.heap.setIfInBounds b ob) (hos : w'.os = w.os) (htape : w'.tape = w.tape) (hout : w'.output = w.output)
    (hrun : (execOp ev o).run P w = .ok nx w') (hnx : nx = .value v ∨ nx = .skip ∧ v = undef)
    (hnew : ∀ w' I', Ext w (immC A S.hp ρ w C) w' I' → w'.heap[b]? = some ob → ChunkR P w' I' ρ c (ρ l))
    (hx : ∀ w' I', Ext w (immC A S.hp ρ w C) w' I' → VR P w' I' ρ x v) :
    HopOk P A S ρ w ev o ⟨obl, x, drops C ++ [(l, some c)], []⟩ := by
  have hother : ∀ k, k ≠ b → w'.heap[k]? = w.heap[k]? := fun k hk => by rw [hheap]; simp [Ne.symm hk]
  have hsz : w'.heap.size = w.heap.size := by rw [hheap]; simp
  have st := step_put (P := P) (S := S) (ρ := ρ) (w := w) (w' := w') (l := l) (C := C) (K := []) (c := c) (c0 := c0) (rv := ρ l) hl hlC (.inr rfl) hos htape hout (by rw [hsz]; exact Nat.le_refl _)
    (fun k _ hk => hother k (fun he => hk (he ▸ hb))) (fun k hk => .inr hk)
  have ex := ext_give (P := P) (w := w) (w' := w') (S := S) (ρ := ρ) (d := l) (C := C) (K := []) (c := c) (rv := ρ l) hH (fun k hk => .inr ⟨c0, hl, hk⟩) hlC (by rw [hsz]; exact Nat.le_refl _)
    (fun k _ hk => hother k (fun he => hk c0 hl (he ▸ hb)))
  refine ⟨_, _, _, _, _, hrun, hnx, st, ?_, ?_, upd_isSome⟩
  · intro j c' hj hc
    rw [get?_upd1 _ _ _ hlC] at hc
    simp only [List.mem_append, List.mem_singleton] at hj
    by_cases h : l = j
    · subst h
      rw [if_pos rfl] at hc
      injection hc with hc; subst hc
      have := hnew _ _ ex (by rw [hheap]; simp [hlt])
      rw [upρ_id] at this ⊢
      exact this
    · rw [if_neg h] at hc
      split at hc
      · cases hc
      · rename_i hC
        rcases hj with hj | hj
        · exact absurd hj hC
        · exact absurd hj.symm h
  · have := hx _ _ ex
    rw [upρ_id] at this ⊢
    exact this
theorem hop_obj {l b : Nat} {C : List Nat} {c c0 : Chunk} {o : Oper} {ob : Obj} {obl : Prop} {x : AV} {nx : Next} {v : Value} (hH : HeapR P A S.hp ρ w) (hl : get? S.hp l = some c0) (hlC : l ∉ C) (hb : blkOf (ρ l) = some b) (hlt : b < w.heap.size)
    (hrun : (execOp ev o).run P w = .ok nx { w with heap := w.heap.setIfInBounds b ob }) (hnx : nx = .value v ∨ nx = .skip ∧ v = undef)
    (hnew : ∀ w' I', Ext w (immC A S.hp ρ w C) w' I' → w'.heap[b]? = some ob → ChunkR P w' I' ρ c (ρ l))
    (hx : ∀ w' I', Ext w (immC A S.hp ρ w C) w' I' → VR P w' I' ρ x v) :
    HopOk P A S ρ w ev o ⟨obl, x, drops C ++ [(l, some c)], []⟩ := hop_obj' (w' := { w with heap := w.heap.setIfInBounds b ob }) hH hl hlC hb hlt rfl rfl rfl rfl hrun hnx hnew hx
theorem hop_newobj {d : Nat} {c : Chunk} {o : Oper} {ob : Obj} {obl : Prop} {x : AV} {v rv : Value} (hH : HeapR P A S.hp ρ w) (hf : S.fresh d = true) (hrv : ∀ b, blkOf rv = some b → b = w.heap.size)
    (hrun : (execOp ev o).run P w = .ok (.value v) (w.alloc ob))
    (hnew : ∀ w' I', Ext w (imm A S.hp ρ w) w' I' → w'.heap[w.heap.size]? = some ob → ChunkR P w' I' (upρ ρ d rv) c rv)
    (hx : ∀ w' I', VR P w' I' (upρ ρ d rv) x v) :
    HopOk P A S ρ w ev o ⟨obl, x, [(d, some c)], []⟩ := by
  have st := step_new (P := P) (S := S) (ρ := ρ) (w := w) (w' := w.alloc ob) (d := d) (C := []) (c := c) (rv := rv) (by simp) hf rfl rfl rfl (by rw [alloc_size]; omega) (alloc_heap_lt _) (fun b hb => Nat.le_of_eq (hrv b hb).symm)
  have ex := st.ext hH
  refine ⟨_, _, _, _, _, hrun, .inl rfl, st, ?_, hx _ _, by simp [get?]⟩
  intro l c' hl hc
  simp only [List.nil_append, List.mem_singleton] at hl
  subst hl
  have e : get? (applyUpd (drops [] ++ [(l, some c)]) (killH [] S.hp)) l = some c := by rw [get?_upd1 _ _ _ (by simp)]; simp
  have e2 : some c = some c' := by rw [← e]; exact hc
  injection e2 with e2
  subst e2
  rw [upρ_same]
  exact hnew _ _ ex (by have : (w.alloc ob).heap = w.heap.push ob := rfl; rw [this]; simp)
end
end Go.E

/-
  EngMb: operations on maps are sound.
-/
namespace Go.E
open Go.RowKit
set_option linter.unusedVariables false
set_option linter.unusedSimpArgs false
section
variable {P : Program} {A : Nat → Prop} {w : World} {S : AState} {ρ : Nat → Value} {ev : Operand → Value}
theorem mapElem_spec {t e : TypeId} {kk : IntKind} (h : mapElem P t kk = some e) : ∃ kt, P.underlying t = some (.map kt e) ∧ P.underlying kt = some (.int kk) := by
  unfold mapElem at h
  split at h
  · rename_i kt e' h1
    split at h
    · rename_i k' h2
      split at h
      · rename_i h3
        subst h3
        injection h with h; subst h
        exact ⟨kt, h1, h2⟩
      · cases h
    · cases h
  · cases h
theorem map_open {I : Nat → Prop} {k v : Ty} {es : List (Nat × k.T × v.T)} {c : Nat} {rv : Value} (h : ChunkR P w I ρ (.map k v es c) rv) :
    ∃ (b : Nat) (ents : Array MapEntry), rv = .map (some b) ∧ w.heap[b]? = some (.map ents c) ∧ EntsR w I k v es ents.toList := by
  obtain ⟨b, ents, h1, h2, h3, h4⟩ := h
  refine ⟨b, ents, h1, h2, entsR_of _ _ (by simpa using h3) fun i e he => ?_⟩
  obtain ⟨x, g1, g2⟩ := h4 i e he
  exact ⟨x, by simpa using g1, g2⟩
theorem map_shut {I : Nat → Prop} {k v : Ty} {es : List (Nat × k.T × v.T)} {c b : Nat} {ents : Array MapEntry} {rv : Value} (h1 : rv = .map (some b)) (h2 : w.heap[b]? = some (.map ents c)) (h3 : EntsR w I k v es ents.toList) : ChunkR P w I ρ (.map k v es c) rv := by
  obtain ⟨g1, g2⟩ := entsR_at _ _ h3
  refine ⟨b, ents, h1, h2, by simpa using g1, fun i e he => ?_⟩
  obtain ⟨x, m1, m2⟩ := g2 i e he
  exact ⟨x, by simpa using m1, m2⟩
theorem isKey_int (kk : IntKind) (n : Int) : MapKept.IsKey (.int kk) (.int kk n) := by simp [MapKept.IsKey]
theorem lt_of_some {b : Nat} {o : Obj} (h : w.heap[b]? = some o) : b < w.heap.size := (Array.getElem?_eq_some_iff.1 h).1
variable {f : Operand → AV} {d : Nat} {o : Oper} {r : Res}
theorem mop_lookup {t : TypeId} {x k : Operand} {ok : Bool} (ho : o.op = .lookup t x k ok) (hH : HeapR P A S.hp ρ w) (h : mop P S f d (.lookup t x k ok) = some r)
    (hx : VR P w (imm A S.hp ρ w) ρ (f x) (ev x)) (hk : VR P w (imm A S.hp ρ w) ρ (f k) (ev k)) : HopOk P A S ρ w ev o r := by
  obtain ⟨dst, op, oty, pos, after, guard⟩ := o
  simp only at ho
  subst ho
  simp only [mop] at h
  split at h
  · rename_i l k1 n hfx hfk
    split at h
    · rename_i kk v es c hc
      split at h
      · rename_i he; subst he
        split at h
        · rename_i e hme
          split at h
          · rename_i z0 hz0
            injection h with h; subst h
            rw [hfx] at hx
            rw [hfk] at hk
            simp only [VR] at hx hk
            obtain ⟨kt, ht1, ht2⟩ := mapElem_spec hme
            obtain ⟨b, ents, hb1, hb2, hb3⟩ := map_open (hH.chunk l _ hc)
            obtain ⟨z, hz1, hz2⟩ := run_zeroD (w := w) (I := imm A S.hp ρ w) hz0
            have hres : ∀ (u : Value) (fd : Bool), DRV w (imm A S.hp ρ w) v ((mGet es n).getD z0) u → fd = (mGet es n).isSome →
                VR P w (imm A S.hp ρ w) ρ (match ok with | true => AV.tup [shut v (enc v ((mGet es n).getD z0)), .bool (mGet es n).isSome] | false => shut v (enc v ((mGet es n).getD z0))) (if ok then .tuple #[u, .bool fd] else u) := by
              intro u fd hu hfd
              cases ok with
              | true =>
                simp only [if_true, VR]
                refine ⟨[u, .bool fd], by simp, ?_⟩
                exact VRs_cons.2 ⟨_, _, rfl, shut_sound v _ _ hu, VRs_cons.2 ⟨_, _, rfl, by simp [VR, hfd], by simp [VRs]⟩⟩
              | false => simpa using shut_sound v _ _ hu
            rcases find_ents n es ents.toList 0 hb3 with ⟨g1, g2, g3, _, _⟩ | ⟨j, x', y, g1, g2, g3, g4, g5, g6, _⟩
            · refine hop_val (v := if ok then .tuple #[z, .bool false] else z) ?_ (hres z false (by rw [g1]; exact hz2) (by rw [g1]; rfl))
              simp [execOp, Instr.lookup, hx, hk, hb1, run_underlying ht1, MapKept.run_getObj_map hb2, MapKept.run_checkKey ht2 (isKey_int _ n), MapKept.run_findKey ht2 g3, hz1, Result.andThen]
            · refine hop_val (v := if ok then .tuple #[x'.val, .bool true] else x'.val) ?_ (hres x'.val true (by rw [g1]; exact g6) (by rw [g1]; rfl))
              simp [execOp, Instr.lookup, hx, hk, hb1, run_underlying ht1, MapKept.run_getObj_map hb2, MapKept.run_checkKey ht2 (isKey_int _ n), MapKept.run_findKey ht2 g3, Result.andThen]
          · cases h
        · cases h
      · cases h
    · cases h
  · cases h
theorem mop_makeMap {t : TypeId} (ho : o.op = .makeMap t none) (hH : HeapR P A S.hp ρ w) (h : mop P S f d (.makeMap t none) = some r) : HopOk P A S ρ w ev o r := by
  obtain ⟨dst, op, oty, pos, after, guard⟩ := o
  simp only at ho
  subst ho
  simp only [mop] at h
  split at h
  · rename_i kt e ht
    split at h
    · rename_i kk v hk hv
      split at h
      · rename_i hf
        injection h with h; subst h
        refine hop_newobj (ob := .map #[] 0) (v := .map (some w.heap.size)) (rv := .map (some w.heap.size)) hH hf (fun b hb => by simpa [blkOf] using hb.symm) ?_ (fun w' I' _ hw' => ?_) (fun w' I' => by simp [VR, upρ])
        · simp [execOp, Instr.makeMap, newObj, Sem.run, Result.andThen]
        · exact map_shut rfl hw' rfl
      · cases h
    · cases h
  · cases h
theorem mop_mapUpdate {t : TypeId} {m k x : Operand} (ho : o.op = .mapUpdate t m k x) (hH : HeapR P A S.hp ρ w) (h : mop P S f d (.mapUpdate t m k x) = some r)
    (hm : VR P w (imm A S.hp ρ w) ρ (f m) (ev m)) (hk : VR P w (imm A S.hp ρ w) ρ (f k) (ev k)) (hx : VR P w (imm A S.hp ρ w) ρ (f x) (ev x)) : HopOk P A S ρ w ev o r := by
  obtain ⟨dst, op, oty, pos, after, guard⟩ := o
  simp only at ho
  subst ho
  simp only [mop] at h
  split at h
  · rename_i l k1 n hfm hfk
    split at h
    · rename_i kk v es c hc
      split at h
      · rename_i hcond
        obtain ⟨he, hme, hl⟩ := hcond
        subst he
        split at h
        · rename_i y hy
          injection h with h; subst h
          rw [hfm] at hm
          rw [hfk] at hk
          simp only [VR] at hm hk
          obtain ⟨e, hme⟩ := Option.isSome_iff_exists.1 hme
          obtain ⟨kt, ht1, ht2⟩ := mapElem_spec hme
          obtain ⟨b, ents, hb1, hb2, hb3⟩ := map_open (hH.chunk l _ hc)
          have hy2 : DRV w (immC A S.hp ρ w (refs S.hp (f x))) v y (ev x) := decV_sound hy (res_immC hH (fun l hl => hl) hx)
          have hlC : l ∉ refs S.hp (f x) := by simpa using hl
          have hrunbase : ∀ w', (Instr.mapUpdate t (ev m) (ev k) (ev x)).run P w = .ok () w' → (execOp ev ⟨dst, .mapUpdate t m k x, oty, pos, after, guard⟩).run P w = .ok .skip w' := by
            intro w' h
            simp only [execOp]
            rw [run_bind_ok h]
            rfl
          rcases find_ents n es ents.toList 0 hb3 with ⟨g1, g2, g3, _, g5⟩ | ⟨j, x', y', g1, g2, g3, g4, g5, g6, g7, g8, g9⟩
          · refine hop_obj (b := b) (ob := .map (ents.push { key := .int k1 n, val := ev x, born := c }) (c + 1)) (nx := .skip) (v := undef) hH hc hlC (by rw [hb1]; rfl) (lt_of_some hb2) ?_ (.inr ⟨rfl, rfl⟩) (fun w' I' ex hw' => ?_) (fun w' I' _ => by simp [VR])
            · apply hrunbase
              simp [Instr.mapUpdate, hm, hk, hb1, run_underlying ht1, MapKept.run_getObj_map hb2, MapKept.run_checkKey ht2 (isKey_int _ n), MapKept.run_findKey ht2 g3, MapKept.run_setObj_map _ hb2, Result.andThen]
            · have hclk : mClk es n c = c + 1 := by unfold mClk; rw [g1]; rfl
              rw [hclk, g5]
              refine map_shut hb1 hw' ?_
              rw [Array.toList_push]
              exact entsR_append ((hb3.ext (ext_immC (C := refs S.hp (f x)))).ext ex) ⟨_, [], rfl, ⟨rfl, rfl, hy2.ext ex⟩, rfl⟩
          · have hj : ents[j]? = some x' := by simpa using g4
            refine hop_obj (b := b) (ob := .map (ents.modify j fun e => { e with key := .int k1 n, val := ev x }) c) (nx := .skip) (v := undef) hH hc hlC (by rw [hb1]; rfl) (lt_of_some hb2) ?_ (.inr ⟨rfl, rfl⟩) (fun w' I' ex hw' => ?_) (fun w' I' _ => by simp [VR])
            · apply hrunbase
              simp only [Nat.zero_add] at g3
              simp [Instr.mapUpdate, hm, hk, hb1, run_underlying ht1, MapKept.run_getObj_map hb2, MapKept.run_checkKey ht2 (isKey_int _ n), MapKept.run_findKey ht2 g3, hj, g5, MapKept.run_keyThatStays (isKey_int k1 n), MapKept.run_setObj_map _ hb2, Result.andThen]
            · have hclk : mClk es n c = c := by unfold mClk; rw [g1]; rfl
              rw [hclk]
              refine map_shut hb1 hw' ?_
              rw [Array.toList_modify]
              rcases find_ents n es ents.toList 0 ((hb3.ext (ext_immC (C := refs S.hp (f x)))).ext ex) with ⟨m1, _⟩ | ⟨j', x2, y2, m1, m2, m3, m4, m5, m6, m7, m8, m9⟩
              · rw [g1] at m1; cases m1
              · have : j' = j := by rw [g3] at m3; simp only [Option.some.injEq, Prod.mk.injEq] at m3; omega
                subst this
                exact m8 c y (ev x) (hy2.ext ex)
        · cases h
      · cases h
    · cases h
  · cases h
theorem mop_mapEntry {t : TypeId} {m k : Operand} (ho : o.op = .mapEntry t m k) (hH : HeapR P A S.hp ρ w) (h : mop P S f d (.mapEntry t m k) = some r) (hob : r.obl)
    (hm : VR P w (imm A S.hp ρ w) ρ (f m) (ev m)) (hk : VR P w (imm A S.hp ρ w) ρ (f k) (ev k)) : HopOk P A S ρ w ev o r := by
  obtain ⟨dst, op, oty, pos, after, guard⟩ := o
  simp only at ho
  subst ho
  simp only [mop] at h
  split at h
  · rename_i l k1 n hfm hfk
    split at h
    · rename_i kk v es c hc
      split at h
      · rename_i he
        subst he
        split at h
        · rename_i e hme
          split at h
          · rename_i z0 hz0
            injection h with h; subst h
            rw [hfm] at hm
            rw [hfk] at hk
            simp only [VR] at hm hk
            obtain ⟨kt, ht1, ht2⟩ := mapElem_spec hme
            obtain ⟨b, ents, hb1, hb2, hb3⟩ := map_open (hH.chunk l _ hc)
            obtain ⟨z, hz1, hz2⟩ := run_zeroD (w := w) (I := immC A S.hp ρ w []) hz0
            have hrunbase : ∀ u w', (Instr.mapEntry t (ev m) (ev k)).run P w = .ok u w' → (execOp ev ⟨dst, .mapEntry t m k, oty, pos, after, guard⟩).run P w = .ok (.value u) w' := by
              intro u w' h
              simp only [execOp]
              rw [run_bind_ok h]
              rfl
            have hd0 : drops [] ++ [(l, some (Chunk.map (.int k1) v (mPut es c n ((mGet es n).getD z0)) (mClk es n c)))] = [(l, some (Chunk.map (.int k1) v (mPut es c n ((mGet es n).getD z0)) (mClk es n c)))] := rfl
            rw [← hd0]
            rcases find_ents n es ents.toList 0 hb3 with ⟨g1, g2, g3, _, g5⟩ | ⟨j, x', y', g1, g2, g3, g4, g5, g6, g7, g8, g9⟩
            · refine hop_obj (b := b) (ob := .map (ents.push { key := .int k1 n, val := z, born := c }) (c + 1)) (nx := .value (.tuple #[z, goInt c])) (v := .tuple #[z, goInt c]) hH hc (by simp) (by rw [hb1]; rfl) (lt_of_some hb2) ?_ (.inl rfl) (fun w' I' ex hw' => ?_) (fun w' I' ex => ?_)
              · apply hrunbase
                simp [Instr.mapEntry, hm, hk, hb1, run_underlying ht1, MapKept.run_getObj_map hb2, MapKept.run_checkKey ht2 (isKey_int _ n), MapKept.run_findKey ht2 g3, hz1, MapKept.run_setObj_map _ hb2, Result.andThen]
              · have hclk : mClk es n c = c + 1 := by unfold mClk; rw [g1]; rfl
                rw [hclk, g5, g1]
                refine map_shut hb1 hw' ?_
                rw [Array.toList_push]
                exact entsR_append ((hb3.ext (ext_immC (C := []))).ext ex) ⟨_, [], rfl, ⟨rfl, rfl, hz2.ext ex⟩, rfl⟩
              · rw [g1, g2]
                simp only [VR]
                refine ⟨[z, goInt c], by simp, VRs_cons.2 ⟨_, _, rfl, shut_sound v _ _ (hz2.ext ex), VRs_cons.2 ⟨_, _, rfl, ?_, by simp [VRs]⟩⟩⟩
                simp [VR, goInt]
            · have hj : ents[j]? = some x' := by simpa using g4
              refine hop_obj (b := b) (ob := .map (ents.modify j fun e => { e with key := .int k1 n }) c) (nx := .value (.tuple #[x'.val, goInt x'.born])) (v := .tuple #[x'.val, goInt x'.born]) hH hc (by simp) (by rw [hb1]; rfl) (lt_of_some hb2) ?_ (.inl rfl) (fun w' I' ex hw' => ?_) (fun w' I' ex => ?_)
              · apply hrunbase
                simp only [Nat.zero_add] at g3
                simp [Instr.mapEntry, hm, hk, hb1, run_underlying ht1, MapKept.run_getObj_map hb2, MapKept.run_checkKey ht2 (isKey_int _ n), MapKept.run_findKey ht2 g3, hj, g5, MapKept.run_keyThatStays (isKey_int k1 n), MapKept.run_setObj_map _ hb2, Result.andThen]
              · have hclk : mClk es n c = c := by unfold mClk; rw [g1]; rfl
                rw [hclk]
                refine map_shut hb1 hw' ?_
                rw [Array.toList_modify]
                rcases find_ents n es ents.toList 0 ((hb3.ext (ext_immC (C := []))).ext ex) with ⟨m1, _⟩ | ⟨j', x2, y2, m1, m2, m3, m4, m5, m6, m7, m8, m9⟩
                · rw [g1] at m1; cases m1
                · have : j' = j := by rw [g3] at m3; simp only [Option.some.injEq, Prod.mk.injEq] at m3; omega
                  subst this
                  have hxx : x2 = x' := by rw [g4] at m4; injection m4 with m4; exact m4.symm
                  subst hxx
                  rw [m1]
                  have := m8 c y2 x2.val m6
                  have e2 : (ents.toList.modify j' fun e => { e with key := .int k1 n, val := x2.val }) = ents.toList.modify j' fun e => { e with key := .int k1 n } := by
                    apply List.ext_getElem?
                    intro i
                    rw [List.getElem?_modify, List.getElem?_modify]
                    by_cases hi : j' = i
                    · subst hi; rw [g4]; rfl
                    · simp [hi]
                  rw [← e2]
                  exact this
              · rw [g1, g2]
                simp only [VR]
                exact ⟨[x'.val, goInt x'.born], by simp, VRs_cons.2 ⟨_, _, rfl, shut_sound v _ _ ((g6.ext (ext_immC (C := []))).ext ex), VRs_cons.2 ⟨_, _, rfl, by simp [VR, goInt], by simp [VRs]⟩⟩⟩
          · cases h
        · cases h
      · cases h
    · cases h
  · cases h
end
end Go.E

