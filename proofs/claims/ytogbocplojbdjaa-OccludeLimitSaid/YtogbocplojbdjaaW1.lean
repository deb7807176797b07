/-
  The engine, part 1: a function's code over abstract states gives conditions in plain Lean.
-/
import Derived.Tactics
import Derived.Below
import Derived.Scope
import Derived.Orders
import Derived.Deep.LoopGhost
import Derived.KernelRfl
import Derived.Laws.StructEq
import Derived.Laws.Pointers
import Derived.Laws.Small
import Derived.Laws.Slices
import Derived.Deep.AppendSrc
import Derived.Laws.CopyRow
/-
  EngA: an abstract machine over typed data, and what its values say of the model's memory.
-/
namespace Go.E
open Go.RowKit
set_option linter.unusedVariables false

inductive Ty where
  | int (k : IntKind) | bool | str | list (t : Ty) | prod (a b : Ty)
  deriving DecidableEq
@[reducible] def Ty.T : Ty → Type
  | .int _ => Int | .bool => Bool | .str => ByteArray | .list t => List t.T | .prod a b => a.T × b.T
def Ty.size : Ty → Nat
  | .prod a b => a.size + b.size | _ => 1
def Ty.zero : (t : Ty) → t.T
  | .int _ => (0 : Int) | .bool => false | .str => ⟨#[]⟩ | .list _ => [] | .prod a b => (a.zero, b.zero)
def Ty.isAgg : Ty → Bool
  | .prod _ _ => true | _ => false
@[reducible] def Ts : List Ty → Type
  | [] => Unit
  | t :: ts => t.T × Ts ts

inductive AV where
  | int (k : IntKind) (n : Int) | bool (b : Bool) | str (s : ByteArray)
  | nilp | nils | nilm | nilf
  | ptr (l o : Nat)                         -- cell o of block l
  | pel (l : Nat) (t : Ty) (base i o : Nat) -- cell o of element i of the row of block l that begins at base
  | sl (l : Nat)                            -- the slice that is row l
  | mp (l : Nat)
  | arr (t : Ty) (xs : List t.T)            -- a slice that is only read
  | own (t : Ty) (xs : List t.T)            -- (in results) a slice in new memory
  | cp (t : Ty) (x : t.T) (o : Nat)         -- cell o of a datum that is only read
  | av (t : Ty) (xs : List t.T)             -- an array's value
  | fn (f : Nat) (first cap : List AV)
  | pfn (as : List Ty) (r : Ty) (g : Ts as → r.T)
  | agg (cs : List AV) | tup (cs : List AV)
  | cond (gs : List (Nat × Bool)) (v : AV)   -- (of a slot) v, if these slots hold these bools
  | junk
inductive Chunk where
  | blk (cs : List AV)
  | row (t : Ty) (xs : List t.T)
  | mix (pre : List AV) (t : Ty) (xs : List t.T)
  | map (k v : Ty) (es : List (Nat × k.T × v.T)) (clock : Nat)
  | itr (m since last : Nat) (seen : List Nat)   -- an iterator over map m
  | dead

def enc : (t : Ty) → t.T → List AV
  | .int k, x => [.int k x]
  | .bool, x => [.bool x]
  | .str, x => [.str x]
  | .list t, xs => [.arr t xs]
  | .prod a b, x => enc a x.1 ++ enc b x.2
def dec : (t : Ty) → List AV → Option t.T
  | .int k, cs => match cs with
    | [.int k' n] => if k' = k then some n else none
    | _ => none
  | .bool, cs => match cs with
    | [.bool b] => some b
    | _ => none
  | .str, cs => match cs with
    | [.str s] => some s
    | _ => none
  | .list t, cs => match cs with
    | [.arr t' xs] => if h : t' = t then some (h ▸ xs) else none
    | [.nils] => some []
    | _ => none
  | .prod a b, cs => match dec a (cs.take a.size), dec b (cs.drop a.size) with
    | some x, some y => some (x, y)
    | _, _ => none
def shut : Ty → List AV → AV
  | .prod _ _, cs => .agg cs
  | _, cs => cs.headD .junk
def cellsOf : AV → List AV
  | .agg cs => cs
  | v => [v]

def blkOf : Value → Option Nat
  | .pointer (some a) => some a.block | .slice (some a) _ _ => some a.block | .map (some b) => some b | _ => none
def baseOf : Value → Addr
  | .pointer (some a) => a | .slice (some a) _ _ => a | _ => ⟨0, 0, none⟩
abbrev nth {α : Type} (xs : List α) (i : Nat) : Option α := xs[i]?
def CellsAt (w : World) (b off : Nat) (vs : List Value) : Prop := ∀ j v, vs[j]? = some v → w.cell? ⟨b, off + j, none⟩ = some v
def DR (w : World) (I : Nat → Prop) : (t : Ty) → t.T → List Value → Prop
  | .int k, x, vs => vs = [.int k x]
  | .bool, x, vs => vs = [.bool x]
  | .str, x, vs => vs = [.string x]
  | .list t, xs, vs => ∃ a c, vs = [.slice a (List.length xs) c] ∧ List.length xs ≤ c ∧
      (0 < List.length xs → ∃ b off, a = some ⟨b, off, none⟩ ∧ I b ∧
        ∀ i x, nth xs i = some x → ∃ us, us.length = t.size ∧ CellsAt w b (off + i * t.size) us ∧ DR w I t x us)
  | .prod a b, x, vs => ∃ us ws, vs = us ++ ws ∧ DR w I a x.1 us ∧ DR w I b x.2 ws
def DRV (w : World) (I : Nat → Prop) (t : Ty) (x : t.T) (v : Value) : Prop :=
  if t.isAgg then ∃ us : List Value, v = .agg us.toArray ∧ DR w I t x us else DR w I t x [v]
def DRVs (w : World) (I : Nat → Prop) : (as : List Ty) → Ts as → List Value → Prop
  | [], _, vs => vs = []
  | t :: ts, x, vs => ∃ v us, vs = v :: us ∧ DRV w I t x.1 v ∧ DRVs w I ts x.2 us
def all (w : World) (b : Nat) : Prop := b < w.heap.size
structure Ext (w : World) (I : Nat → Prop) (w' : World) (I' : Nat → Prop) : Prop where
  size : w.heap.size ≤ w'.heap.size
  blk : ∀ b, I b → I' b ∧ w'.heap[b]? = w.heap[b]?
def Enters (P : Program) (f : FuncId) : Prop := ∀ args w, (callFunc f args).run P w = .ok (.enter f args) w
def PureFn (P : Program) (w : World) (I : Nat → Prop) (as : List Ty) (r : Ty) (g : Ts as → r.T) (v : Value) : Prop :=
  ∃ (f : FuncId) (first cap : Array Value), v = .func (.func f) first cap ∧ Enters P f ∧
    ∀ w', Ext w I w' (all w') → ∀ xs vals, DRVs w' (all w') as xs vals →
      Calls P f (first ++ vals.toArray ++ cap) w' fun e w'' => ∃ u, e = .returned u ∧ Below w'.heap.size w' w'' ∧ DRV w'' (all w'') r (g xs) u
mutual
def VR (P : Program) (w : World) (I : Nat → Prop) (ρ : Nat → Value) : AV → Value → Prop
  | .int k n, v => v = .int k n
  | .bool b, v => v = .bool b
  | .str s, v => v = .string s
  | .nilp, v => v = .pointer none
  | .nils, v => v = .slice none 0 0
  | .nilm, v => v = .map none
  | .nilf, v => v = .nilFunc
  | .ptr l o, v => ∃ b, blkOf (ρ l) = some b ∧ v = .pointer (some ⟨b, o, none⟩)
  | .pel l t base i o, v => ∃ b, blkOf (ρ l) = some b ∧ v = .pointer (some ⟨b, (baseOf (ρ l)).off + base + i * t.size + o, none⟩)
  | .sl l, v => v = ρ l
  | .mp l, v => v = ρ l
  | .arr t xs, v => DR w I (.list t) xs [v]
  | .own _ _, _ => False
  | .cp t x o, v => ∃ b off us, v = .pointer (some ⟨b, off + o, none⟩) ∧ I b ∧ us.length = t.size ∧ CellsAt w b off us ∧ DR w I t x us
  | .av t xs, v => ∃ vss : List (List Value), v = .agg vss.flatten.toArray ∧ vss.length = xs.length ∧ ∀ i x us, nth xs i = some x → vss[i]? = some us → us.length = t.size ∧ DR w I t x us
  | .fn f first cap, v => ∃ vs us : List Value, v = .func (.func f) vs.toArray us.toArray ∧ VRs P w I ρ first vs ∧ VRs P w I ρ cap us
  | .pfn as r g, v => PureFn P w I as r g v
  | .agg cs, v => ∃ vs : List Value, v = .agg vs.toArray ∧ VRs P w I ρ cs vs
  | .tup cs, v => ∃ vs : List Value, v = .tuple vs.toArray ∧ VRs P w I ρ cs vs
  | .cond gs x, v => False
  | .junk, _ => True
def VRs (P : Program) (w : World) (I : Nat → Prop) (ρ : Nat → Value) : List AV → List Value → Prop
  | [], vs => vs = []
  | a :: r, vs => ∃ v us, vs = v :: us ∧ VR P w I ρ a v ∧ VRs P w I ρ r us
end
abbrev Temps := List (Nat × AV)
def hold (tmps : Array Value) (gs : List (Nat × Bool)) : Prop := ∀ x ∈ gs, tmps.getD x.1 undef = .bool x.2
def TR (P : Program) (w : World) (I : Nat → Prop) (ρ : Nat → Value) (tmps : Array Value) : AV → Value → Prop
  | .cond gs x, v => (hold tmps gs → VR P w I ρ x v) ∧ (¬ hold tmps gs → v = undef)
  | x, v => VR P w I ρ x v
def AV.on (d : Nat) : AV → Bool
  | .cond gs _ => gs.any fun x => x.1 == d
  | _ => false
def tmOn (d : Nat) : Temps → Bool
  | [] => false | (_, x) :: r => x.on d || tmOn d r
mutual
def AV.has (l : Nat) : AV → Bool
  | .ptr l' _ => l' == l | .pel l' _ _ _ _ => l' == l | .sl l' => l' == l | .mp l' => l' == l
  | .fn _ a b => AV.hass l a || AV.hass l b
  | .agg a => AV.hass l a | .tup a => AV.hass l a
  | .cond _ v => v.has l
  | _ => false
def AV.hass (l : Nat) : List AV → Bool
  | [] => false
  | a :: r => a.has l || AV.hass l r
end
def Chunk.has (l : Nat) : Chunk → Bool
  | .blk cs => AV.hass l cs | .mix pre _ _ => AV.hass l pre | .itr m _ _ _ => m == l | _ => false

def get? {α : Type} : List (Nat × α) → Nat → Option α
  | [], _ => none
  | (k, v) :: r, l => if k = l then some v else get? r l
def set {α : Type} : List (Nat × α) → Nat → α → List (Nat × α)
  | [], l, x => [(l, x)]
  | (k, v) :: r, l, x => if k = l then (k, x) :: r else (k, v) :: set r l x
def del {α : Type} : List (Nat × α) → Nat → List (Nat × α)
  | [], _ => []
  | (k, v) :: r, l => if k = l then del r l else (k, v) :: del r l
abbrev Heap := List (Nat × Chunk)

theorem get?_set {α : Type} (H : List (Nat × α)) (l : Nat) (x : α) (j : Nat) : get? (set H l x) j = if l = j then some x else get? H j := by
  induction H with
  | nil => simp [set, get?]
  | cons y r ih =>
    obtain ⟨k, v⟩ := y
    simp only [set]
    by_cases hk : k = l
    · subst hk
      simp only [if_true, get?]
      by_cases hj : k = j <;> simp [hj]
    · simp only [if_neg hk, get?, ih]
      by_cases hj : k = j
      · subst hj
        simp [Ne.symm hk]
      · simp [hj]
theorem get?_del {α : Type} (H : List (Nat × α)) (l : Nat) (j : Nat) : get? (del H l) j = if l = j then none else get? H j := by
  induction H with
  | nil => simp [del, get?]
  | cons y r ih =>
    obtain ⟨k, v⟩ := y
    simp only [del]
    by_cases hk : k = l
    · subst hk
      simp only [if_true, ih, get?]
      by_cases hj : k = j <;> simp [hj]
    · simp only [if_neg hk, get?, ih]
      by_cases hj : k = j
      · subst hj
        simp [Ne.symm hk]
      · simp [hj]

def RowAt (w : World) (I : Nat → Prop) (t : Ty) (xs : List t.T) (arr : Array Value) (off : Nat) : Prop :=
  ∀ i x, nth xs i = some x → ∃ us : List Value, us.length = t.size ∧ (∀ j u, us[j]? = some u → arr[off + i * t.size + j]? = some u) ∧ DR w I t x us
def ChunkR (P : Program) (w : World) (I : Nat → Prop) (ρ : Nat → Value) : Chunk → Value → Prop
  | .blk cs, rv => ∃ (b : Nat) (vs : List Value) (e : TypeId), rv = .pointer (some ⟨b, 0, none⟩) ∧ w.heap[b]? = some (.cells vs.toArray e (0, 0)) ∧ VRs P w I ρ cs vs
  | .row t xs, rv => (rv = .slice none 0 0 ∧ xs = []) ∨ ∃ (b off cap : Nat) (arr : Array Value) (e : TypeId),
      rv = .slice (some ⟨b, off, none⟩) xs.length cap ∧ w.heap[b]? = some (.cells arr e (0, 0)) ∧ xs.length ≤ cap ∧ off + cap * t.size ≤ arr.size ∧ RowAt w I t xs arr off
  | .mix pre t xs, rv => ∃ (b : Nat) (vs : List Value) (arr : Array Value) (e : TypeId), rv = .pointer (some ⟨b, 0, none⟩) ∧ w.heap[b]? = some (.cells arr e (0, 0)) ∧
      VRs P w I ρ pre vs ∧ (∀ (j : Nat) (u : Value), vs[j]? = some u → arr[j]? = some u) ∧ arr.size = pre.length + xs.length * t.size ∧ RowAt w I t xs arr pre.length
  | .map k v es clock, rv => ∃ (b : Nat) (ents : Array MapEntry), rv = .map (some b) ∧ w.heap[b]? = some (.map ents clock) ∧ ents.size = es.length ∧
      ∀ i e, nth es i = some e → ∃ ent, ents[i]? = some ent ∧ ent.born = e.1 ∧ DRV w I k e.2.1 ent.key ∧ DRV w I v e.2.2 ent.val
  | .itr m since last seen, rv => ∃ b bm : Nat, rv = .pointer (some ⟨b, 0, none⟩) ∧ w.heap[b]? = some (.mapIter (some bm) since seen.toArray last) ∧ blkOf (ρ m) = some bm
  | .dead, rv => ∃ b : Nat, rv = .pointer (some ⟨b, 0, none⟩) ∧ b < w.heap.size
def imm (A : Nat → Prop) (H : Heap) (ρ : Nat → Value) (w : World) (b : Nat) : Prop := (b < w.heap.size ∧ A b) ∧ ∀ l c, get? H l = some c → blkOf (ρ l) ≠ some b
structure HeapR (P : Program) (A : Nat → Prop) (H : Heap) (ρ : Nat → Value) (w : World) : Prop where
  chunk : ∀ l c, get? H l = some c → ChunkR P w (imm A H ρ w) ρ c (ρ l)
  ok : ∀ l c b, get? H l = some c → blkOf (ρ l) = some b → A b
  fresh : ∀ b, w.heap.size ≤ b → A b
  apart : ∀ l c l' c', get? H l = some c → get? H l' = some c' → l ≠ l' → ∀ b, blkOf (ρ l) = some b → blkOf (ρ l') ≠ some b
structure AState where
  tm : Temps
  hp : Heap
  n : Nat
  gh : List AV
def AV.kill (K : List Nat) (x : AV) : AV := if K.any (fun l => x.has l) then .junk else x
def Chunk.kill (K : List Nat) : Chunk → Chunk
  | .blk cs => .blk (cs.map (AV.kill K)) | .mix pre t xs => .mix (pre.map (AV.kill K)) t xs
  | .itr m s q seen => if K.contains m then .dead else .itr m s q seen
  | c => c
def killT (K : List Nat) : Temps → Temps
  | [] => [] | (t, x) :: r => (t, x.kill K) :: killT K r
def killH (K : List Nat) : Heap → Heap
  | [] => [] | (t, x) :: r => (t, x.kill K) :: killH K r
def tmHas (l : Nat) : Temps → Bool
  | [] => false | (_, x) :: r => x.has l || tmHas l r
def hpHas (l : Nat) : Heap → Bool
  | [] => false | (_, c) :: r => c.has l || hpHas l r
def AState.fresh (S : AState) (l : Nat) : Bool := !AV.hass l S.gh && !tmHas l S.tm && !hpHas l S.hp && (get? S.hp l).isNone
structure Keep (M : Nat → Prop) (w0 w : World) : Prop where
  os : w.os = w0.os
  tape : w.tape = w0.tape
  output : w.output = w0.output
  size : w0.heap.size ≤ w.heap.size
  blk : ∀ b, b < w0.heap.size → ¬ M b → w.heap[b]? = w0.heap[b]?
structure Own where
  M : Nat → Prop
  gv : List Value
structure Rep (P : Program) (A : Nat → Prop) (w0 : World) (M : Own) (S : AState) (ρ : Nat → Value) (a : Act) (w : World) : Prop where
  tm : ∀ t v, get? S.tm t = some v → TR P w (imm A S.hp ρ w) ρ a.tmps v (a.tmps.getD t undef)
  hp : HeapR P A S.hp ρ w
  keep : Keep M.M w0 w
  mine : ∀ l c, get? S.hp l = some c → ∀ b, blkOf (ρ l) = some b → w0.heap.size ≤ b ∨ M.M b
  gh : VRs P w (imm A S.hp ρ w) ρ S.gh M.gv
  defers : a.defers = []
  sz : a.tmps.size = S.n
end Go.E

/-
  EngB: how readings last; encoding and decoding.
-/
namespace Go.E
open Go.RowKit
set_option linter.unusedVariables false

theorem CellsAt.ext {w w' : World} {b off : Nat} {vs : List Value} (h : CellsAt w b off vs) (e : w'.heap[b]? = w.heap[b]?) : CellsAt w' b off vs := by
  intro j v hj
  have := h j v hj
  unfold World.cell? at *
  simpa [e] using this
theorem Ext.refl (w : World) (I : Nat → Prop) : Ext w I w I := ⟨Nat.le_refl _, fun _ h => ⟨h, rfl⟩⟩
theorem Ext.trans {w w' w'' : World} {I I' I'' : Nat → Prop} (h : Ext w I w' I') (k : Ext w' I' w'' I'') : Ext w I w'' I'' :=
  ⟨Nat.le_trans h.size k.size, fun b hb => ⟨(k.blk b (h.blk b hb).1).1, (k.blk b (h.blk b hb).1).2.trans (h.blk b hb).2⟩⟩

theorem DR.ext {w w' : World} {I I' : Nat → Prop} (e : Ext w I w' I') : ∀ (t : Ty) (x : t.T) (vs : List Value), DR w I t x vs → DR w' I' t x vs
  | .int k, x, vs, h => h
  | .bool, x, vs, h => h
  | .str, x, vs, h => h
  | .list t, xs, vs, h => by
    obtain ⟨a, c, hv, hc, hn⟩ := h
    refine ⟨a, c, hv, hc, fun hp => ?_⟩
    obtain ⟨b, off, ha, hI, hel⟩ := hn hp
    refine ⟨b, off, ha, (e.blk b hI).1, fun i x hi => ?_⟩
    obtain ⟨us, hl, hcell, hd⟩ := hel i x hi
    exact ⟨us, hl, hcell.ext (e.blk b hI).2, DR.ext e t x us hd⟩
  | .prod a b, x, vs, h => by
    obtain ⟨us, ws, hv, h1, h2⟩ := h
    exact ⟨us, ws, hv, DR.ext e a x.1 us h1, DR.ext e b x.2 ws h2⟩
theorem DR.length {w : World} {I : Nat → Prop} : ∀ (t : Ty) (x : t.T) (vs : List Value), DR w I t x vs → vs.length = t.size
  | .int k, x, vs, h => by have : vs = _ := h; subst this; rfl
  | .bool, x, vs, h => by have : vs = _ := h; subst this; rfl
  | .str, x, vs, h => by have : vs = _ := h; subst this; rfl
  | .list t, xs, vs, h => by obtain ⟨a, c, hv, _⟩ := h; subst hv; rfl
  | .prod a b, x, vs, h => by
    obtain ⟨us, ws, hv, h1, h2⟩ := h
    subst hv
    simp [Ty.size, DR.length a x.1 us h1, DR.length b x.2 ws h2]
theorem DRV.ext {w w' : World} {I I' : Nat → Prop} (e : Ext w I w' I') {t : Ty} {x : t.T} {v : Value} (h : DRV w I t x v) : DRV w' I' t x v := by
  unfold DRV at *
  split
  · rename_i ht
    rw [if_pos ht] at h
    obtain ⟨us, hv, hd⟩ := h
    exact ⟨us, hv, DR.ext e t x us hd⟩
  · rename_i ht
    rw [if_neg ht] at h
    exact DR.ext e t x _ h
theorem PureFn.ext {P : Program} {w w' : World} {I I' : Nat → Prop} (e : Ext w I w' I') {as : List Ty} {r : Ty} {g : Ts as → r.T} {v : Value} (h : PureFn P w I as r g v) : PureFn P w' I' as r g v := by
  obtain ⟨f, first, cap, hv, he, hc⟩ := h
  exact ⟨f, first, cap, hv, he, fun w2 e2 => hc w2 (e.trans e2)⟩
mutual
theorem VR.ext {P : Program} {w w' : World} {I I' : Nat → Prop} {ρ ρ' : Nat → Value} (e : Ext w I w' I') : ∀ (x : AV) (v : Value), (∀ l, x.has l = true → ρ' l = ρ l) → VR P w I ρ x v → VR P w' I' ρ' x v
  | .int _ _, v, hr, h => by simpa [VR] using h
  | .bool _, v, hr, h => by simpa [VR] using h
  | .str _, v, hr, h => by simpa [VR] using h
  | .nilp, v, hr, h => by simpa [VR] using h
  | .nils, v, hr, h => by simpa [VR] using h
  | .nilm, v, hr, h => by simpa [VR] using h
  | .nilf, v, hr, h => by simpa [VR] using h
  | .ptr l o, v, hr, h => by
    have : ρ' l = ρ l := hr l (by simp [AV.has])
    simpa [VR, this] using h
  | .pel l t base i o, v, hr, h => by
    have : ρ' l = ρ l := hr l (by simp [AV.has])
    simpa [VR, this] using h
  | .sl l, v, hr, h => by
    have : ρ' l = ρ l := hr l (by simp [AV.has])
    simpa [VR, this] using h
  | .mp l, v, hr, h => by
    have : ρ' l = ρ l := hr l (by simp [AV.has])
    simpa [VR, this] using h
  | .arr t xs, v, hr, h => by
    simp only [VR] at h ⊢
    exact DR.ext e (.list t) xs _ h
  | .own _ _, v, hr, h => by simp [VR] at h
  | .cp t x o, v, hr, h => by
    simp only [VR] at h ⊢
    obtain ⟨b, off, us, hv, hI, hl, hc, hd⟩ := h
    exact ⟨b, off, us, hv, (e.blk b hI).1, hl, hc.ext (e.blk b hI).2, DR.ext e t x us hd⟩
  | .av t xs, v, hr, h => by
    simp only [VR] at h ⊢
    obtain ⟨vss, hv, hl, hd⟩ := h
    exact ⟨vss, hv, hl, fun i x us hi hu => ⟨(hd i x us hi hu).1, DR.ext e t x us (hd i x us hi hu).2⟩⟩
  | .fn f first cap, v, hr, h => by
    simp only [VR] at h ⊢
    obtain ⟨vs, us, hv, h1, h2⟩ := h
    exact ⟨vs, us, hv, VRs.ext e first vs (fun l hl => hr l (by simp [AV.has, hl])) h1, VRs.ext e cap us (fun l hl => hr l (by simp [AV.has, hl])) h2⟩
  | .pfn as r g, v, hr, h => by
    simp only [VR] at h ⊢
    exact h.ext e
  | .agg cs, v, hr, h => by
    simp only [VR] at h ⊢
    obtain ⟨vs, hv, h1⟩ := h
    exact ⟨vs, hv, VRs.ext e cs vs (fun l hl => hr l (by simpa [AV.has] using hl)) h1⟩
  | .tup cs, v, hr, h => by
    simp only [VR] at h ⊢
    obtain ⟨vs, hv, h1⟩ := h
    exact ⟨vs, hv, VRs.ext e cs vs (fun l hl => hr l (by simpa [AV.has] using hl)) h1⟩
  | .cond gs x, v, hr, h => by simp [VR] at h
  | .junk, v, hr, h => by simp [VR]
theorem VRs.ext {P : Program} {w w' : World} {I I' : Nat → Prop} {ρ ρ' : Nat → Value} (e : Ext w I w' I') : ∀ (xs : List AV) (vs : List Value), (∀ l, AV.hass l xs = true → ρ' l = ρ l) → VRs P w I ρ xs vs → VRs P w' I' ρ' xs vs
  | [], vs, hr, h => by simpa [VRs] using h
  | x :: r, vs, hr, h => by
    simp only [VRs] at h ⊢
    obtain ⟨v, us, hv, h1, h2⟩ := h
    exact ⟨v, us, hv, VR.ext e x v (fun l hl => hr l (by simp [AV.hass, hl])) h1, VRs.ext e r us (fun l hl => hr l (by simp [AV.hass, hl])) h2⟩
end
theorem TR.ext {P : Program} {w w' : World} {I I' : Nat → Prop} {ρ ρ' : Nat → Value} {tmps : Array Value} (e : Ext w I w' I') {x : AV} {v : Value} (hr : ∀ l, x.has l = true → ρ' l = ρ l) (h : TR P w I ρ tmps x v) : TR P w' I' ρ' tmps x v := by
  cases x with
  | cond gs x => exact ⟨fun hg => VR.ext e x v (fun l hl => hr l (by simpa [AV.has] using hl)) (h.1 hg), h.2⟩
  | _ => exact VR.ext e _ v hr h
section
variable {P : Program} {A : Nat → Prop} {w : World} {I : Nat → Prop} {ρ : Nat → Value}
theorem VRs_nil {vs : List Value} : VRs P w I ρ [] vs ↔ vs = [] := by simp [VRs]
theorem VRs_cons {x : AV} {r : List AV} {vs : List Value} : VRs P w I ρ (x :: r) vs ↔ ∃ v us, vs = v :: us ∧ VR P w I ρ x v ∧ VRs P w I ρ r us := by simp [VRs]
theorem VRs.append {xs ys : List AV} {vs us : List Value} (h : VRs P w I ρ xs vs) (k : VRs P w I ρ ys us) : VRs P w I ρ (xs ++ ys) (vs ++ us) := by
  induction xs generalizing vs with
  | nil => rw [VRs_nil] at h; subst h; simpa using k
  | cons x r ih =>
    obtain ⟨v, us', hv, h1, h2⟩ := VRs_cons.1 h
    subst hv
    exact VRs_cons.2 ⟨v, us' ++ us, rfl, h1, ih h2⟩
theorem VRs.length {xs : List AV} {vs : List Value} (h : VRs P w I ρ xs vs) : vs.length = xs.length := by
  induction xs generalizing vs with
  | nil => rw [VRs_nil] at h; subst h; rfl
  | cons x r ih =>
    obtain ⟨v, us', hv, h1, h2⟩ := VRs_cons.1 h
    subst hv
    simp [ih h2]
theorem VRs.split {xs ys : List AV} {vs : List Value} (h : VRs P w I ρ (xs ++ ys) vs) : ∃ us ws, vs = us ++ ws ∧ VRs P w I ρ xs us ∧ VRs P w I ρ ys ws := by
  induction xs generalizing vs with
  | nil => exact ⟨[], vs, rfl, by simp [VRs], by simpa using h⟩
  | cons x r ih =>
    obtain ⟨v, us', hv, h1, h2⟩ := VRs_cons.1 (by simpa using h)
    obtain ⟨us, ws, hu, h3, h4⟩ := ih h2
    exact ⟨v :: us, ws, by simp [hv, hu], VRs_cons.2 ⟨v, us, rfl, h1, h3⟩, h4⟩
theorem VRs.take {xs : List AV} {vs : List Value} (h : VRs P w I ρ xs vs) (n : Nat) : VRs P w I ρ (xs.take n) (vs.take n) := by
  induction xs generalizing vs n with
  | nil => rw [VRs_nil] at h; subst h; simp [VRs]
  | cons x r ih =>
    obtain ⟨v, us', hv, h1, h2⟩ := VRs_cons.1 h
    subst hv
    cases n with
    | zero => simp [VRs]
    | succ n => simpa using VRs_cons.2 ⟨v, us'.take n, rfl, h1, ih h2 n⟩
theorem VRs.drop {xs : List AV} {vs : List Value} (h : VRs P w I ρ xs vs) (n : Nat) : VRs P w I ρ (xs.drop n) (vs.drop n) := by
  induction xs generalizing vs n with
  | nil => rw [VRs_nil] at h; subst h; simp [VRs]
  | cons x r ih =>
    obtain ⟨v, us', hv, h1, h2⟩ := VRs_cons.1 h
    subst hv
    cases n with
    | zero => simpa using VRs_cons.2 ⟨v, us', rfl, h1, h2⟩
    | succ n => simpa using ih h2 n
theorem VRs.at_ {xs : List AV} {vs : List Value} (h : VRs P w I ρ xs vs) {i : Nat} {x : AV} (hx : xs[i]? = some x) : ∃ v, vs[i]? = some v ∧ VR P w I ρ x v := by
  induction xs generalizing vs i with
  | nil => simp at hx
  | cons y r ih =>
    obtain ⟨v, us', hv, h1, h2⟩ := VRs_cons.1 h
    subst hv
    cases i with
    | zero => simp at hx; subst hx; exact ⟨v, by simp, h1⟩
    | succ i => simpa using ih h2 (by simpa using hx)

theorem enc_length : ∀ (t : Ty) (x : t.T), (enc t x).length = t.size
  | .int _, _ => rfl
  | .bool, _ => rfl
  | .str, _ => rfl
  | .list _, _ => rfl
  | .prod a b, x => by simp [enc, Ty.size, enc_length a, enc_length b]
theorem enc_sound : ∀ (t : Ty) (x : t.T) (vs : List Value), DR w I t x vs → VRs P w I ρ (enc t x) vs
  | .int k, x, vs, h => by have : vs = _ := h; subst this; simp [enc, VRs, VR]
  | .bool, x, vs, h => by have : vs = _ := h; subst this; simp [enc, VRs, VR]
  | .str, x, vs, h => by have : vs = _ := h; subst this; simp [enc, VRs, VR]
  | .list t, xs, vs, h => by
    have h0 := h
    obtain ⟨a, c, hv, _⟩ := h
    subst hv
    simpa [enc, VRs, VR] using h0
  | .prod a b, x, vs, h => by
    obtain ⟨us, ws, hv, h1, h2⟩ := h
    subst hv
    exact (enc_sound a x.1 us h1).append (enc_sound b x.2 ws h2)
theorem dec_sound : ∀ (t : Ty) (cs : List AV) (x : t.T) (vs : List Value), dec t cs = some x → VRs P w I ρ cs vs → DR w I t x vs
  | .int k, cs, x, vs, hd, h => by
    unfold dec at hd
    split at hd
    · split at hd
      · rename_i hk; subst hk; injection hd with hd; subst hd
        obtain ⟨v, us, hv, h1, h2⟩ := VRs_cons.1 h
        rw [VRs_nil] at h2
        subst h2
        simp only [VR] at h1
        subst h1
        exact hv
      · simp at hd
    · simp at hd
  | .bool, cs, x, vs, hd, h => by
    unfold dec at hd
    split at hd
    · injection hd with hd; subst hd
      obtain ⟨v, us, hv, h1, h2⟩ := VRs_cons.1 h
      rw [VRs_nil] at h2
      subst h2
      simp only [VR] at h1
      subst h1
      exact hv
    · simp at hd
  | .str, cs, x, vs, hd, h => by
    unfold dec at hd
    split at hd
    · injection hd with hd; subst hd
      obtain ⟨v, us, hv, h1, h2⟩ := VRs_cons.1 h
      rw [VRs_nil] at h2
      subst h2
      simp only [VR] at h1
      subst h1
      exact hv
    · simp at hd
  | .list t, cs, x, vs, hd, h => by
    unfold dec at hd
    split at hd
    · split at hd
      · rename_i hk; subst hk; injection hd with hd; subst hd
        obtain ⟨v, us, hv, h1, h2⟩ := VRs_cons.1 h
        rw [VRs_nil] at h2
        subst h2
        simp only [VR] at h1
        subst hv
        exact h1
      · simp at hd
    · injection hd with hd; subst hd
      obtain ⟨v, us, hv, h1, h2⟩ := VRs_cons.1 h
      rw [VRs_nil] at h2
      subst h2
      simp only [VR] at h1
      subst h1
      subst hv
      exact ⟨none, 0, rfl, Nat.le_refl _, fun h => by simp at h⟩
    · simp at hd
  | .prod a b, cs, x, vs, hd, h => by
    simp only [dec] at hd
    split at hd
    · rename_i x1 x2 h1 h2
      injection hd with hd; subst hd
      exact ⟨vs.take a.size, vs.drop a.size, (List.take_append_drop _ _).symm, dec_sound a _ x1 _ h1 (h.take _), dec_sound b _ x2 _ h2 (h.drop _)⟩
    · simp at hd
end
end Go.E

/-
  EngC: one step of the abstract state.
-/
namespace Go.E
open Go.RowKit
set_option linter.unusedVariables false

theorem AV.hass_map_kill {K : List Nat} {l : Nat} : ∀ (cs : List AV), AV.hass l (cs.map (AV.kill K)) = true → l ∉ K ∧ AV.hass l cs = true
  | [], h => by simp [AV.hass] at h
  | x :: r, h => by
    simp only [List.map_cons, AV.hass, Bool.or_eq_true] at h
    rcases h with h | h
    · unfold AV.kill at h
      split at h
      · simp [AV.has] at h
      · rename_i hk
        refine ⟨fun hm => hk (List.any_eq_true.2 ⟨l, hm, h⟩), by simp [AV.hass, h]⟩
    · obtain ⟨h1, h2⟩ := AV.hass_map_kill r h
      exact ⟨h1, by simp [AV.hass, h2]⟩
theorem AV.has_kill {K : List Nat} {l : Nat} {x : AV} (h : (x.kill K).has l = true) : l ∉ K ∧ x.has l = true := by
  unfold AV.kill at h
  split at h
  · simp [AV.has] at h
  · rename_i hk
    exact ⟨fun hm => hk (List.any_eq_true.2 ⟨l, hm, h⟩), h⟩
theorem Chunk.has_kill {K : List Nat} {l : Nat} {c : Chunk} (h : (c.kill K).has l = true) : l ∉ K ∧ c.has l = true := by
  cases c with
  | blk cs => exact AV.hass_map_kill _ h
  | row t xs => simp [Chunk.kill, Chunk.has] at h
  | mix pre t xs => exact AV.hass_map_kill _ h
  | map k v es clock => simp [Chunk.kill, Chunk.has] at h
  | itr m s q seen =>
    simp only [Chunk.kill] at h
    split at h
    · simp [Chunk.has] at h
    · rename_i hm
      simp only [Chunk.has, beq_iff_eq] at h ⊢
      subst h
      exact ⟨by simpa using hm, rfl⟩
  | dead => simp [Chunk.kill, Chunk.has] at h
theorem get?_killT (K : List Nat) : ∀ (T : Temps) (t : Nat), get? (killT K T) t = (get? T t).map (AV.kill K)
  | [], t => rfl
  | (k, x) :: r, t => by
    simp only [killT, get?]
    split
    · rfl
    · exact get?_killT K r t
theorem get?_killH (K : List Nat) : ∀ (T : Heap) (t : Nat), get? (killH K T) t = (get? T t).map (Chunk.kill K)
  | [], t => rfl
  | (k, x) :: r, t => by
    simp only [killH, get?]
    split
    · rfl
    · exact get?_killH K r t
theorem tmHas_of {l : Nat} : ∀ {T : Temps} {t : Nat} {x : AV}, get? T t = some x → x.has l = true → tmHas l T = true
  | [], t, x, h, _ => by simp [get?] at h
  | (k, y) :: r, t, x, h, hx => by
    simp only [get?] at h
    split at h
    · injection h with h; subst h; simp [tmHas, hx]
    · simp [tmHas, tmHas_of h hx]
theorem hpHas_of {l : Nat} : ∀ {T : Heap} {t : Nat} {x : Chunk}, get? T t = some x → x.has l = true → hpHas l T = true
  | [], t, x, h, _ => by simp [get?] at h
  | (k, y) :: r, t, x, h, hx => by
    simp only [get?] at h
    split at h
    · injection h with h; subst h; simp [hpHas, hx]
    · simp [hpHas, hpHas_of h hx]

section
variable {P : Program} {A : Nat → Prop} {w w' : World} {I I' : Nat → Prop} {ρ ρ' : Nat → Value}
theorem VR.kill {K : List Nat} {x : AV} {v : Value} (h : VR P w I ρ x v) : VR P w I ρ (x.kill K) v := by
  unfold AV.kill
  split
  · simp [VR]
  · exact h
theorem TR.kill {K : List Nat} {tmps : Array Value} {x : AV} {v : Value} (h : TR P w I ρ tmps x v) : TR P w I ρ tmps (x.kill K) v := by
  unfold AV.kill
  split
  · simp [TR, VR]
  · exact h
theorem VRs.kill {K : List Nat} : ∀ {xs : List AV} {vs : List Value}, VRs P w I ρ xs vs → VRs P w I ρ (xs.map (AV.kill K)) vs
  | [], vs, h => by simpa using h
  | x :: r, vs, h => by
    obtain ⟨v, us, hv, h1, h2⟩ := VRs_cons.1 h
    exact VRs_cons.2 ⟨v, us, hv, h1.kill, VRs.kill h2⟩
theorem RowAt.ext {t : Ty} {xs : List t.T} {arr : Array Value} {off : Nat} (e : Ext w I w' I') (h : RowAt w I t xs arr off) : RowAt w' I' t xs arr off := by
  intro i x hx
  obtain ⟨us, hl, hc, hd⟩ := h i x hx
  exact ⟨us, hl, hc, DR.ext e t x us hd⟩
theorem ChunkR.ext {c : Chunk} {rv : Value} (e : Ext w I w' I') (hρ : ∀ l, c.has l = true → ρ' l = ρ l) (hb : ∀ b, blkOf rv = some b → w'.heap[b]? = w.heap[b]?) (h : ChunkR P w I ρ c rv) : ChunkR P w' I' ρ' c rv := by
  cases c with
  | blk cs =>
    obtain ⟨b, vs, ety, hrv, hh, hv⟩ := h
    exact ⟨b, vs, ety, hrv, by rw [hb b (by simp [hrv, blkOf])]; exact hh, VRs.ext e cs vs (fun l hl => hρ l (by simpa [Chunk.has] using hl)) hv⟩
  | row t xs =>
    rcases h with h | ⟨b, off, cap, arr, ety, hrv, hh, hc, hs, hr⟩
    · exact .inl h
    · exact .inr ⟨b, off, cap, arr, ety, hrv, by rw [hb b (by simp [hrv, blkOf])]; exact hh, hc, hs, hr.ext e⟩
  | mix pre t xs =>
    obtain ⟨b, vs, arr, ety, hrv, hh, hv, hp, hs, hr⟩ := h
    exact ⟨b, vs, arr, ety, hrv, by rw [hb b (by simp [hrv, blkOf])]; exact hh, VRs.ext e pre vs (fun l hl => hρ l (by simpa [Chunk.has] using hl)) hv, hp, hs, hr.ext e⟩
  | map k v es clock =>
    obtain ⟨b, ents, hrv, hh, hl, hd⟩ := h
    refine ⟨b, ents, hrv, by rw [hb b (by simp [hrv, blkOf])]; exact hh, hl, fun i x hx => ?_⟩
    obtain ⟨ent, h1, h2, h3, h4⟩ := hd i x hx
    exact ⟨ent, h1, h2, h3.ext e, h4.ext e⟩
  | itr m s q seen =>
    obtain ⟨b, bm, hrv, hh, hm⟩ := h
    exact ⟨b, bm, hrv, by rw [hb b (by simp [hrv, blkOf])]; exact hh, by rw [hρ m (by simp [Chunk.has])]; exact hm⟩
  | dead =>
    obtain ⟨b, hrv, hh⟩ := h
    exact ⟨b, hrv, Nat.lt_of_lt_of_le hh e.size⟩
theorem ChunkR.kill {K : List Nat} {c : Chunk} {rv : Value} (h : ChunkR P w I ρ c rv) : ChunkR P w I ρ (c.kill K) rv := by
  cases c with
  | blk cs =>
    obtain ⟨b, vs, ety, hrv, hh, hv⟩ := h
    exact ⟨b, vs, ety, hrv, hh, hv.kill⟩
  | row t xs => exact h
  | mix pre t xs =>
    obtain ⟨b, vs, arr, ety, hrv, hh, hv, hp, hs, hr⟩ := h
    refine ⟨b, vs, arr, ety, hrv, hh, hv.kill, hp, by simpa using hs, by simpa using hr⟩
  | map k v es clock => exact h
  | dead => exact h
  | itr m s q seen =>
    simp only [Chunk.kill]
    split
    · obtain ⟨b, bm, hrv, hh, hm⟩ := h
      exact ⟨b, hrv, (Array.getElem?_eq_some_iff.1 hh).1⟩
    · exact h
theorem ChunkR.lt {c : Chunk} {rv : Value} {b : Nat} (h : ChunkR P w I ρ c rv) (hb : blkOf rv = some b) : b < w.heap.size := by
  have key : ∀ {o : Obj}, w.heap[b]? = some o → b < w.heap.size := fun h => (Array.getElem?_eq_some_iff.1 h).1
  cases c with
  | blk cs =>
    obtain ⟨b', vs, ety, hrv, hh, hv⟩ := h
    subst hrv
    have : b' = b := by simpa [blkOf] using hb
    subst this
    exact key hh
  | row t xs =>
    rcases h with ⟨h, _⟩ | ⟨b', off, cap, arr, ety, hrv, hh, hc, hs, hr⟩
    · subst h; simp [blkOf] at hb
    · subst hrv
      have : b' = b := by simpa [blkOf] using hb
      subst this
      exact key hh
  | mix pre t xs =>
    obtain ⟨b', vs, arr, ety, hrv, hh, hv, hp, hs, hr⟩ := h
    subst hrv
    have : b' = b := by simpa [blkOf] using hb
    subst this
    exact key hh
  | map k v es clock =>
    obtain ⟨b', ents, hrv, hh, hl, hd⟩ := h
    subst hrv
    have : b' = b := by simpa [blkOf] using hb
    subst this
    exact key hh
  | itr m s q seen =>
    obtain ⟨b', bm, hrv, hh, hm⟩ := h
    subst hrv
    have : b' = b := by simpa [blkOf] using hb
    subst this
    exact key hh
  | dead =>
    obtain ⟨b', hrv, hh⟩ := h
    subst hrv
    have : b' = b := by simpa [blkOf] using hb
    subst this
    exact hh
end
theorem Keep.refl (M : Nat → Prop) (w : World) : Keep M w w := ⟨rfl, rfl, rfl, Nat.le_refl _, fun _ _ _ => rfl⟩
structure Step (P : Program) (S : AState) (ρ : Nat → Value) (w : World) (U K : List Nat) (H' : Heap) (ρ' : Nat → Value) (w' : World) : Prop where
  same : ∀ l, l ∉ U → get? H' l = (get? S.hp l).map (Chunk.kill K)
  refs : ∀ l, l ∉ U → ρ' l = ρ l
  free : ∀ l, l ∈ U → l ∈ K ∨ S.fresh l = true ∨ ρ' l = ρ l
  os : w'.os = w.os
  tape : w'.tape = w.tape
  output : w'.output = w.output
  size : w.heap.size ≤ w'.heap.size
  blk : ∀ b, b < w.heap.size → (∀ l c, l ∈ U → get? S.hp l = some c → blkOf (ρ l) ≠ some b) → w'.heap[b]? = w.heap[b]?
  new : ∀ l c b, l ∈ U → get? H' l = some c → blkOf (ρ' l) = some b → w.heap.size ≤ b ∨ ∃ l0 c0, l0 ∈ U ∧ get? S.hp l0 = some c0 ∧ blkOf (ρ l0) = some b
  apart : ∀ l c l' c', l ∈ U → l' ∈ U → get? H' l = some c → get? H' l' = some c' → l ≠ l' → ∀ b, blkOf (ρ' l) = some b → blkOf (ρ' l') ≠ some b

section
variable {P : Program} {A : Nat → Prop} {w0 w w' : World} {M : Own} {S : AState} {ρ ρ' : Nat → Value} {a : Act} {U K : List Nat} {H' : Heap}
theorem Step.ext (s : Step P S ρ w U K H' ρ' w') (h : HeapR P A S.hp ρ w) : Ext w (imm A S.hp ρ w) w' (imm A H' ρ' w') := by
  refine ⟨s.size, fun b hb => ⟨⟨⟨Nat.lt_of_lt_of_le hb.1.1 s.size, hb.1.2⟩, fun l c hl hbl => ?_⟩, s.blk b hb.1.1 fun l c _ hl => hb.2 l c hl⟩⟩
  by_cases hu : l ∈ U
  · rcases s.new l c b hu hl hbl with h1 | ⟨l0, c0, _, h2, h3⟩
    · exact absurd hb.1.1 (by omega)
    · exact hb.2 l0 c0 h2 h3
  · rw [s.same l hu] at hl
    rw [s.refs l hu] at hbl
    obtain ⟨c0, h0, _⟩ := Option.map_eq_some_iff.1 hl
    exact hb.2 l c0 h0 hbl
theorem Step.agree (s : Step P S ρ w U K H' ρ' w') {l : Nat} (hK : l ∉ K) (hf : S.fresh l = false) : ρ' l = ρ l := by
  by_cases hu : l ∈ U
  · rcases s.free l hu with h | h | h
    · exact absurd h hK
    · rw [hf] at h; cases h
    · exact h
  · exact s.refs l hu
theorem fresh_of_tm {l t : Nat} {x : AV} (h : get? S.tm t = some x) (hx : x.has l = true) : S.fresh l = false := by
  simp [AState.fresh, tmHas_of h hx]
theorem fresh_of_hp {l t : Nat} {c : Chunk} (h : get? S.hp t = some c) (hx : c.has l = true) : S.fresh l = false := by
  simp [AState.fresh, hpHas_of h hx]
theorem fresh_of_gh {l : Nat} (h : AV.hass l S.gh = true) : S.fresh l = false := by
  simp [AState.fresh, h]
theorem Step.heap (s : Step P S ρ w U K H' ρ' w') (h : HeapR P A S.hp ρ w)
    (hnew : ∀ l c, l ∈ U → get? H' l = some c → ChunkR P w' (imm A H' ρ' w') ρ' c (ρ' l)) : HeapR P A H' ρ' w' := by
  have e := s.ext h
  have hchunk : ∀ l c, get? H' l = some c → ChunkR P w' (imm A H' ρ' w') ρ' c (ρ' l) := by
    intro l c hl
    by_cases hu : l ∈ U
    · exact hnew l c hu hl
    · have hl' := hl
      rw [s.same l hu] at hl
      obtain ⟨c0, h0, rfl⟩ := Option.map_eq_some_iff.1 hl
      rw [s.refs l hu]
      refine ChunkR.ext e (fun l' hl' => ?_) (fun b hb => ?_) ((h.chunk l c0 h0).kill (K := K))
      · obtain ⟨h1, h2⟩ := Chunk.has_kill hl'
        exact s.agree h1 (fresh_of_hp h0 h2)
      · refine s.blk b ((h.chunk l c0 h0).lt hb) fun l2 c2 h2 h3 h4 => ?_
        exact h.apart l c0 l2 c2 h0 h3 (fun he => hu (he ▸ h2)) b hb h4
  refine ⟨hchunk, fun l c b hl hb => ?_, fun b hb => h.fresh b (Nat.le_trans s.size hb), fun l c l' c' hl hl' hne b hb hb' => ?_⟩
  · -- ok
    by_cases hu : l ∈ U
    · rcases s.new l c b hu hl hb with h1 | ⟨l0, c0, _, h2, h3⟩
      · exact h.fresh b h1
      · exact h.ok l0 c0 b h2 h3
    · rw [s.refs l hu] at hb
      rw [s.same l hu] at hl
      obtain ⟨c0, h0, _⟩ := Option.map_eq_some_iff.1 hl
      exact h.ok l c0 b h0 hb
  · -- apart
    by_cases hu : l ∈ U <;> by_cases hu' : l' ∈ U
    · exact s.apart l c l' c' hu hu' hl hl' hne b hb hb'
    · rw [s.refs l' hu'] at hb'
      rw [s.same l' hu'] at hl'
      obtain ⟨c0', h0', _⟩ := Option.map_eq_some_iff.1 hl'
      rcases s.new l c b hu hl hb with h1 | ⟨l0, c0, hl0, h2, h3⟩
      · have := (h.chunk l' c0' h0').lt hb'
        omega
      · exact h.apart l0 c0 l' c0' h2 h0' (fun he => hu' (he ▸ hl0)) b h3 hb'
    · rw [s.refs l hu] at hb
      rw [s.same l hu] at hl
      obtain ⟨c0', h0', _⟩ := Option.map_eq_some_iff.1 hl
      rcases s.new l' c' b hu' hl' hb' with h1 | ⟨l0, c0, hl0, h2, h3⟩
      · have := (h.chunk l c0' h0').lt hb
        omega
      · exact h.apart l0 c0 l c0' h2 h0' (fun he => hu (he ▸ hl0)) b h3 hb
    · rw [s.refs l hu] at hb
      rw [s.refs l' hu'] at hb'
      rw [s.same l hu] at hl
      rw [s.same l' hu'] at hl'
      obtain ⟨c0, h0, _⟩ := Option.map_eq_some_iff.1 hl
      obtain ⟨c0', h0', _⟩ := Option.map_eq_some_iff.1 hl'
      exact h.apart l c0 l' c0' h0 h0' hne b hb hb'
theorem Step.rep (s : Step P S ρ w U K H' ρ' w') (h : Rep P A w0 M S ρ a w)
    (hnew : ∀ l c, l ∈ U → get? H' l = some c → ChunkR P w' (imm A H' ρ' w') ρ' c (ρ' l)) : Rep P A w0 M ⟨killT K S.tm, H', S.n, S.gh.map (AV.kill K)⟩ ρ' a w' := by
  have e := s.ext h.hp
  refine ⟨fun t v ht => ?_, s.heap h.hp hnew, ⟨s.os.trans h.keep.os, s.tape.trans h.keep.tape, s.output.trans h.keep.output, Nat.le_trans h.keep.size s.size, fun b hb hM => ?_⟩, fun l c hl b hb => ?_, ?_, h.defers, h.sz⟩
  · simp only [get?_killT] at ht
    obtain ⟨x, hx, rfl⟩ := Option.map_eq_some_iff.1 ht
    refine TR.ext e (fun l hl => ?_) ((h.tm t x hx).kill (K := K))
    obtain ⟨h1, h2⟩ := AV.has_kill hl
    exact s.agree h1 (fresh_of_tm hx h2)
  · -- keep
    have hk := h.keep.blk b hb hM
    rw [← hk]
    refine s.blk b (Nat.lt_of_lt_of_le hb h.keep.size) fun l c _ hl hbl => ?_
    rcases h.mine l c hl b hbl with h1 | h1
    · omega
    · exact hM h1
  · -- mine
    by_cases hu : l ∈ U
    · rcases s.new l c b hu hl hb with h1 | ⟨l0, c0, _, h2, h3⟩
      · exact .inl (Nat.le_trans h.keep.size h1)
      · exact h.mine l0 c0 h2 b h3
    · rw [s.refs l hu] at hb
      simp only [s.same l hu] at hl
      obtain ⟨c0, h0, _⟩ := Option.map_eq_some_iff.1 hl
      exact h.mine l c0 h0 b hb
  · -- gh
    refine VRs.ext e _ _ (fun l hl => ?_) (h.gh.kill (K := K))
    obtain ⟨h1, h2⟩ := AV.hass_map_kill _ hl
    exact s.agree h1 (fresh_of_gh h2)
theorem tmOn_of {d t : Nat} {x : AV} : ∀ {T : Temps}, get? T t = some x → tmOn d T = false → x.on d = false
  | [], h, _ => by simp [get?] at h
  | (k, y) :: r, h, hd => by
    simp only [tmOn, Bool.or_eq_false_iff] at hd
    simp only [get?] at h
    split at h
    · injection h with h; subst h; exact hd.1
    · exact tmOn_of h hd.2
theorem getD_set_ne' {xs : Array Value} {d t : Nat} {v : Value} (h : d ≠ t) : (xs.setIfInBounds d v).getD t undef = xs.getD t undef := by
  simp only [Array.getD_eq_getD_getElem?, Array.getElem?_setIfInBounds_ne h]
theorem hold_set {xs : Array Value} {d : Nat} {v : Value} {gs : List (Nat × Bool)} (h : gs.any (fun x => x.1 == d) = false) : hold (xs.setIfInBounds d v) gs ↔ hold xs gs := by
  have key : ∀ x ∈ gs, (xs.setIfInBounds d v).getD x.1 undef = xs.getD x.1 undef := by
    intro x hx
    refine getD_set_ne' fun he => ?_
    have := List.any_eq_false.1 h x hx
    simp [he] at this
  constructor
  · intro hh x hx; rw [← key x hx]; exact hh x hx
  · intro hh x hx; rw [key x hx]; exact hh x hx
theorem TR.set {xs : Array Value} {d : Nat} {u v : Value} {x : AV} {I : Nat → Prop} (h : x.on d = false) (hx : TR P w I ρ xs x v) : TR P w I ρ (xs.setIfInBounds d u) x v := by
  cases x with
  | cond gs y =>
    have hh := hold_set (xs := xs) (v := u) (show gs.any (fun x => x.1 == d) = false from h)
    exact ⟨fun hg => hx.1 (hh.1 hg), fun hg => hx.2 fun hg' => hg (hh.2 hg')⟩
  | _ => exact hx
theorem Rep.put (h : Rep P A w0 M S ρ a w) {d : Nat} {x : AV} {v : Value} (hd : d < S.n) (hon : tmOn d S.tm = false) (hv : TR P w (imm A S.hp ρ w) ρ (a.tmps.setIfInBounds d v) x v) : Rep P A w0 M { S with tm := set S.tm d x } ρ (a.put (some d) v) w := by
  refine ⟨fun t y ht => ?_, h.hp, h.keep, h.mine, h.gh, h.defers, by simpa [Act.put] using h.sz⟩
  simp only [get?_set] at ht
  by_cases he : d = t
  · subst he
    simp only [if_true, Option.some.injEq] at ht
    subst ht
    have hsz := h.sz
    have : (a.tmps.setIfInBounds d v).getD d undef = v := by
      simp only [Array.getD_eq_getD_getElem?, Array.getElem?_setIfInBounds_self]
      rw [if_pos (by omega)]
      rfl
    show TR P w _ ρ (a.tmps.setIfInBounds d v) x ((a.tmps.setIfInBounds d v).getD d undef)
    rw [this]
    exact hv
  · rw [if_neg he] at ht
    show TR P w _ ρ (a.tmps.setIfInBounds d v) y ((a.tmps.setIfInBounds d v).getD t undef)
    rw [getD_set_ne' he]
    exact (h.tm t y ht).set (tmOn_of ht hon)
end
end Go.E

/-
  EngD: operations that give a value and leave memory as it is.
-/
namespace Go.E
open Go.RowKit
set_option linter.unusedVariables false

def tyOfs : List (Option Ty) → Option Ty
  | [] => none
  | [t] => t
  | none :: _ => none
  | some a :: r => (tyOfs r).map (Ty.prod a)
def tyOf (P : Program) : Nat → TypeId → Option Ty
  | 0, _ => none
  | n + 1, t => match P.underlying t with
    | some (.int k) => some (.int k)
    | some .bool => some .bool
    | some .string => some .str
    | some (.slice e) => (tyOf P n e).map .list
    | some (.struct fs) => if fs.size ≤ 1 then none else tyOfs (fs.toList.map fun f => tyOf P n f.type)
    | _ => none
def ty (P : Program) (t : TypeId) : Option Ty := tyOf P 12 t
def isAggT (P : Program) (t : TypeId) : Bool := match P.underlying t with
  | some (.struct _) => true | some (.array _ _) => true | _ => false
def sizeT (P : Program) (t : TypeId) : Nat := match P.info? t with
  | some i => i.size | none => 0
def ofConst : Value → AV
  | .int k n => .int k n
  | .bool b => .bool b
  | .string s => .str s
  | .pointer none => .nilp
  | .slice none 0 0 => .nils
  | .map none => .nilm
  | .nilFunc => .nilf
  | .func (.func f) first cap => if first.size = 0 ∧ cap.size = 0 then .fn f [] [] else .junk
  | _ => .junk
def zeroAV (P : Program) (t : TypeId) : Option (List AV) := match P.info? t with
  | some i => match i.zero with
    | some z => some (z.cells.toList.map ofConst)
    | none => none
  | none => none
def loadV (P : Program) (t : TypeId) (cs : List AV) : Option AV := match P.underlying t, P.info? t with
  | some d, some i => match d with
    | .struct _ => if i.size ≤ cs.length then some (.agg (cs.take i.size)) else none
    | .array _ _ => if i.size ≤ cs.length then some (.agg (cs.take i.size)) else none
    | _ => cs.head?
  | _, _ => none

section
variable {P : Program} {A : Nat → Prop} {w : World} {I : Nat → Prop} {ρ : Nat → Value}
theorem ofConst_sound (v : Value) : VR P w I ρ (ofConst v) v := by
  unfold ofConst
  split <;> first | simp [VR] | skip
  split
  · rename_i first cap h
    obtain ⟨h1, h2⟩ := h
    simp only [VR]
    refine ⟨[], [], ?_, by simp [VRs], by simp [VRs]⟩
    rw [h1, h2]
  · simp [VR]
theorem ofConsts_sound : ∀ (vs : List Value), VRs P w I ρ (vs.map ofConst) vs
  | [] => by simp [VRs]
  | v :: r => VRs_cons.2 ⟨v, r, rfl, ofConst_sound v, ofConsts_sound r⟩

theorem run_bind_ok {α β : Type} {s : Sem α} {f : α → Sem β} {x : α} {w' : World} (h : s.run P w = .ok x w') : (s >>= f).run P w = (f x).run P w' := by
  rw [Sem.run_bind, h]; rfl
theorem run_typeInfo' {t : TypeId} {i : TypeInfo} (h : P.info? t = some i) : (typeInfo t).run P w = .ok i w := by
  simp [typeInfo, h]
theorem run_sizeOf' {t : TypeId} {i : TypeInfo} (h : P.info? t = some i) : (sizeOf t).run P w = .ok i.size w := by
  unfold sizeOf; rw [run_bind_ok (run_typeInfo' h)]; rfl
theorem cells_add {b off : Nat} {vs : List Value} (h : CellsAt w b off vs) : ∀ (j : Nat) v, vs[j]? = some v → w.cell? ((⟨b, off, none⟩ : Addr).add j) = some v := by
  intro j v hj
  have := h j v hj
  have he : (⟨b, off, none⟩ : Addr).add j = ⟨b, off + j, none⟩ := by unfold Addr.add; split <;> simp_all
  rw [he]; exact this
theorem CellsAt.take {b off : Nat} {vs : List Value} (h : CellsAt w b off vs) (n : Nat) : CellsAt w b off (vs.take n) := by
  intro j v hj
  rw [List.getElem?_take] at hj
  split at hj
  · exact h j v hj
  · cases hj
theorem CellsAt.drop {b off : Nat} {vs : List Value} (h : CellsAt w b off vs) (n : Nat) : CellsAt w b (off + n) (vs.drop n) := by
  intro j v hj
  rw [List.getElem?_drop] at hj
  have := h (n + j) v hj
  rwa [← Nat.add_assoc] at this
theorem load_sound {t : TypeId} {cs : List AV} {x : AV} {b off : Nat} {vs : List Value} (hl : loadV P t cs = some x) (hc : CellsAt w b off vs) (hv : VRs P w I ρ cs vs) :
    ∃ v, (Instr.loadAt t (.pointer (some ⟨b, off, none⟩))).run P w = .ok v w ∧ VR P w I ρ x v := by
  unfold loadV at hl
  split at hl
  · rename_i d i hd hi
    have hlen := hv.length
    have agg : ∀ (hs : i.size ≤ cs.length) (ha : (isAgg t).run P w = .ok true w), ∃ v, (Instr.loadAt t (.pointer (some ⟨b, off, none⟩))).run P w = .ok v w ∧ VR P w I ρ (.agg (cs.take i.size)) v := by
      intro hs ha
      refine ⟨.agg (vs.take i.size).toArray, ?_, by simp only [VR]; exact ⟨_, rfl, hv.take _⟩⟩
      unfold Instr.loadAt Instr.sureAddr loadVar
      have h1 := run_loadCells_list (P := P) w ⟨b, off, none⟩ (vs.take i.size) (cells_add (hc.take _))
      rw [List.length_take, Nat.min_eq_left (by omega)] at h1
      simp only [Sem.run_bind, Sem.run_pure, Result.andThen_ok, ha, if_true, run_sizeOf' hi, h1]
    have sca : ∀ (ha : (isAgg t).run P w = .ok false w) (hh : cs.head? = some x), ∃ v, (Instr.loadAt t (.pointer (some ⟨b, off, none⟩))).run P w = .ok v w ∧ VR P w I ρ x v := by
      intro ha hh
      obtain ⟨v, hv1, hv2⟩ := hv.at_ (i := 0) (x := x) (by rw [← List.head?_eq_getElem?]; exact hh)
      refine ⟨v, ?_, hv2⟩
      unfold Instr.loadAt Instr.sureAddr loadVar
      have h1 := hc 0 v hv1
      simp only [Nat.add_zero] at h1
      simp only [Sem.run_bind, Sem.run_pure, Result.andThen_ok, ha, run_load, h1, Bool.false_eq_true, if_false]
    split at hl
    · rename_i fs
      split at hl
      · rename_i hs
        injection hl with hl; subst hl
        exact agg hs (by unfold isAgg; rw [run_bind_ok (run_underlying hd w)]; rfl)
      · cases hl
    · rename_i n e
      split at hl
      · rename_i hs
        injection hl with hl; subst hl
        exact agg hs (by unfold isAgg; rw [run_bind_ok (run_underlying hd w)]; rfl)
      · cases hl
    · rename_i h1 h2
      refine sca ?_ hl
      unfold isAgg
      rw [run_bind_ok (run_underlying hd w)]
      cases d <;> first | rfl | exact absurd rfl (h1 _) | exact absurd rfl (h2 _ _)
  · cases hl
end
end Go.E

/-
  EngE: the operations that give a value and leave memory as it is, one by one.
-/
namespace Go.E
open Go.RowKit
set_option linter.unusedVariables false

def ibin (op : BinOp) (k : IntKind) (x y : Int) : Option (Prop × AV) := match op with
  | .add => some (True, .int k (k.wrap (x + y)))
  | .sub => some (True, .int k (k.wrap (x - y)))
  | .mul => some (True, .int k (k.wrap (x * y)))
  | .quo => some (y ≠ 0, .int k (k.wrap (x.tdiv y)))
  | .rem => some (y ≠ 0, .int k (x.tmod y))
  | .and => some (True, .int k (k.wrap (BitVec.ofInt k.bits x &&& BitVec.ofInt k.bits y).toNat))
  | .or => some (True, .int k (k.wrap (BitVec.ofInt k.bits x ||| BitVec.ofInt k.bits y).toNat))
  | .xor => some (True, .int k (k.wrap (BitVec.ofInt k.bits x ^^^ BitVec.ofInt k.bits y).toNat))
  | .eql => some (True, .bool (x == y))
  | .neq => some (True, .bool (x != y))
  | .lss => some (True, .bool (decide (x < y)))
  | .leq => some (True, .bool (decide (x ≤ y)))
  | .gtr => some (True, .bool (decide (x > y)))
  | .geq => some (True, .bool (decide (x ≥ y)))
  | _ => none
def ishift (op : BinOp) (k : IntKind) (x y : Int) : Option (Prop × AV) := match op with
  | .shl => some (0 ≤ y, .int k (k.wrap (x * 2 ^ (min y.toNat k.bits))))
  | .shr => some (0 ≤ y, .int k (x.fdiv (2 ^ (min y.toNat k.bits))))
  | _ => none
def partV (P : Program) (t : TypeId) (cs : List AV) : Option AV := loadV P t cs
def eqF (P : Program) (g : TypeId → AV → AV → Option Bool) (xs ys : List AV) : List Field → Option Bool
  | [] => some true
  | f :: fs => if f.name ≠ "_" then match partV P f.type (xs.drop f.offset), partV P f.type (ys.drop f.offset) with
      | some a, some b => match g f.type a b with
        | some r => match fs with
          | [] => some r
          | _ :: _ => match eqF P g xs ys fs with
            | some s => some (r && s)
            | none => none
        | none => none
      | _, _ => none
    else eqF P g xs ys fs
def eqT (P : Program) : Nat → TypeId → AV → AV → Option Bool
  | 0, _, _, _ => none
  | n + 1, t, x, y => match P.underlying t with
    | some (.int _) => match x, y with
      | .int k a, .int k' b => if k = k' then some (a == b) else none
      | _, _ => none
    | some .bool => match x, y with
      | .bool a, .bool b => some (a == b)
      | _, _ => none
    | some .string => match x, y with
      | .str a, .str b => some (a == b)
      | _, _ => none
    | some (.struct fs) => match x, y with
      | .agg xs, .agg ys => if P.stoodInHeld t = false then eqF P (eqT P n) xs ys fs.toList else none
      | _, _ => none
    | _ => none
def isCell (H : Heap) : AV → Bool
  | .agg _ | .tup _ | .cond _ _ | .junk | .av _ _ | .own _ _ => false
  | .sl l => match get? H l with
    | some (.row _ _) => true
    | _ => false
  | .mp l => match get? H l with
    | some (.map _ _ _ _) => true
    | _ => false
  | _ => true
def setCells (cs : List AV) (o : Nat) (x : List AV) : List AV := cs.take o ++ x ++ cs.drop (o + x.length)
def fillA (H : Heap) (place : Nat → Option (Nat × Nat)) (cs : List AV) : List (Nat × AV) → Option (List AV)
  | [] => some cs
  | (i, v) :: rest => match place i with
    | none => none
    | some (off, size) =>
      let x := cellsOf v
      if x.length = size ∧ off + size ≤ cs.length ∧ x.all (isCell H) then fillA H place (setCells cs off x) rest else none
def bin (P : Program) (op : BinOp) (t : TypeId) (x y : AV) : Option (Prop × AV) := match x, y with
  | .int k a, .int k' b => if op = .shl ∨ op = .shr then ishift op k a b else if k = k' then ibin op k a b else none
  | .bool a, .bool b => match P.underlying t with
    | some .bool => match op with
      | .eql => some (True, .bool (a == b))
      | .neq => some (True, .bool (!(a == b)))
      | _ => none
    | _ => none
  | .agg xs, .agg ys => if P.eqGuardType P.depth t = false then match op with
      | .eql => (eqT P 12 t (.agg xs) (.agg ys)).map fun b => (True, .bool b)
      | .neq => (eqT P 12 t (.agg xs) (.agg ys)).map fun b => (True, .bool (!b))
      | _ => none
    else none
  | .ptr _ _, .nilp => match P.underlying t with
    | some (.pointer _) => match op with
      | .eql => some (True, .bool false)
      | .neq => some (True, .bool true)
      | _ => none
    | _ => none
  | .nilp, .nilp => match P.underlying t with
    | some (.pointer _) => match op with
      | .eql => some (True, .bool true)
      | .neq => some (True, .bool false)
      | _ => none
    | _ => none
  | _, _ => none
section
variable {P : Program} {A : Nat → Prop} {w : World} {I : Nat → Prop} {ρ : Nat → Value}
theorem ibin_sound {op : BinOp} {k : IntKind} {a b : Int} {r : Prop × AV} {t : TypeId} (hop : ¬ (op = .shl ∨ op = .shr)) (h : ibin op k a b = some r) (ho : r.1) :
    ∃ v, (binOp op t (.int k a) (.int k b)).run P w = .ok v w ∧ VR P w I ρ r.2 v := by
  cases op <;> simp only [ibin, Option.some.injEq, reduceCtorEq] at h <;> (try subst h) <;> (try simp only [ne_eq] at ho) <;>
    simp_all [binOp, Op.intArith, Op.intDiv, Op.intBits, Op.intCmp, VR]
theorem ishift_sound {op : BinOp} {k k' : IntKind} {a b : Int} {r : Prop × AV} {t : TypeId} (h : ishift op k a b = some r) (ho : r.1) :
    ∃ v, (binOp op t (.int k a) (.int k' b)).run P w = .ok v w ∧ VR P w I ρ r.2 v := by
  cases op <;> simp only [ishift, Option.some.injEq, reduceCtorEq] at h <;> (try subst h) <;> (try simp only at ho) <;>
    simp [binOp, Op.shift, VR, show ¬ b < 0 by omega]
theorem part_sound {t : TypeId} {cs : List AV} {x : AV} {vs : List Value} {off : Nat} (hl : partV P t (cs.drop off) = some x) (hv : VRs P w I ρ cs vs) :
    ∃ v, (part t vs.toArray off).run P w = .ok v w ∧ VR P w I ρ x v := by
  unfold partV loadV at hl
  have hlen := hv.length
  split at hl
  · rename_i d i hd hi
    have agg : ∀ (hs : i.size ≤ (cs.drop off).length) (ha : (isAgg t).run P w = .ok true w), ∃ v, (part t vs.toArray off).run P w = .ok v w ∧ VR P w I ρ (.agg ((cs.drop off).take i.size)) v := by
      intro hs ha
      refine ⟨.agg ((vs.drop off).take i.size).toArray, ?_, by simp only [VR]; exact ⟨_, rfl, (hv.drop _).take _⟩⟩
      unfold part
      simp only [Sem.run_bind, ha, Result.andThen_ok, if_true, run_sizeOf' hi, Sem.run_pure]
      congr 2
      apply Array.ext'
      simp [List.extract_toArray]
    have sca : ∀ (ha : (isAgg t).run P w = .ok false w) (hh : (cs.drop off).head? = some x), ∃ v, (part t vs.toArray off).run P w = .ok v w ∧ VR P w I ρ x v := by
      intro ha hh
      obtain ⟨v, hv1, hv2⟩ := (hv.drop off).at_ (i := 0) (x := x) (by rw [← List.head?_eq_getElem?]; exact hh)
      refine ⟨v, ?_, hv2⟩
      rw [List.getElem?_drop, Nat.add_zero] at hv1
      unfold part
      simp only [Sem.run_bind, ha, Result.andThen_ok, Bool.false_eq_true, if_false, List.getElem?_toArray, hv1, Sem.run_pure]
    split at hl
    · split at hl
      · rename_i hs
        injection hl with hl; subst hl
        exact agg hs (by unfold isAgg; rw [run_bind_ok (run_underlying hd w)]; rfl)
      · cases hl
    · split at hl
      · rename_i hs
        injection hl with hl; subst hl
        exact agg hs (by unfold isAgg; rw [run_bind_ok (run_underlying hd w)]; rfl)
      · cases hl
    · rename_i h1 h2
      refine sca ?_ hl
      unfold isAgg
      rw [run_bind_ok (run_underlying hd w)]
      cases d <;> first | rfl | exact absurd rfl (h1 _) | exact absurd rfl (h2 _ _)
  · cases hl
theorem eqF_sound {g : TypeId → AV → AV → Option Bool} {d : Nat}
    (hg : ∀ t x y b u v, g t x y = some b → VR P w I ρ x u → VR P w I ρ y v → (Op.equalIn d t u v).run P w = .ok b w)
    {xs ys : List AV} {us vs : List Value} (hx : VRs P w I ρ xs us) (hy : VRs P w I ρ ys vs) :
    ∀ (fs : List Field) (b : Bool), eqF P g xs ys fs = some b → (Op.eqFields d us.toArray vs.toArray fs).run P w = .ok b w
  | [], b, h => by
    simp only [eqF, Option.some.injEq] at h
    subst h
    simp [Op.eqFields]
  | f :: fs, b, h => by
    unfold eqF at h
    unfold Op.eqFields
    split at h
    · rename_i hn
      rw [if_pos hn]
      split at h
      · rename_i x y hx1 hy1
        obtain ⟨u, hu1, hu2⟩ := part_sound hx1 hx
        obtain ⟨v, hv1, hv2⟩ := part_sound hy1 hy
        split at h
        · rename_i r hr
          have he := hg _ _ _ _ _ _ hr hu2 hv2
          simp only [Sem.run_bind, hu1, hv1, he, Result.andThen_ok]
          split at h
          · injection h with h; subst h
            cases r <;> simp [Op.eqFields]
          · split at h
            · rename_i f2 fs2 s hs
              injection h with h; subst h
              have ih := eqF_sound hg hx hy _ _ hs
              cases r <;> simp [ih]
            · cases h
        · cases h
      · cases h
    · rename_i hn
      rw [if_neg hn]
      exact eqF_sound hg hx hy fs b h
theorem eqT_sound : ∀ (n d : Nat) (t : TypeId) (x y : AV) (b : Bool) (u v : Value), n ≤ d → eqT P n t x y = some b → VR P w I ρ x u → VR P w I ρ y v → (Op.equalIn d t u v).run P w = .ok b w
  | 0, d, t, x, y, b, u, v, hd, h, hu, hv => by simp [eqT] at h
  | n + 1, d, t, x, y, b, u, v, hd, h, hu, hv => by
    obtain ⟨d, rfl⟩ : ∃ m, d = m + 1 := ⟨d - 1, by omega⟩
    unfold eqT at h
    split at h
    · rename_i k hk
      split at h
      · split at h
        · rename_i hkk; subst hkk
          injection h with h; subst h
          simp only [VR] at hu hv
          subst hu; subst hv
          exact run_equalIn_int w d t _ _ _ _ hk
        · cases h
      · cases h
    · rename_i hk
      split at h
      · injection h with h; subst h
        simp only [VR] at hu hv
        subst hu; subst hv
        exact run_equalIn_bool w d t _ _ hk
      · cases h
    · rename_i hk
      split at h
      · injection h with h; subst h
        simp only [VR] at hu hv
        subst hu; subst hv
        rw [run_equalIn_string w d t _ _ hk, beq_toListBytes]
      · cases h
    · rename_i fs hk
      split at h
      · split at h
        · rename_i hs
          simp only [VR] at hu hv
          obtain ⟨us, rfl, hus⟩ := hu
          obtain ⟨vs, rfl, hvs⟩ := hv
          have hf : P.fieldsOf t = fs := by simp [Program.fieldsOf, hk]
          rw [run_equalIn_struct w d t _ _ (by rw [hf]; exact hk) hs, hf]
          exact eqF_sound (fun t x y b u v h1 h2 h3 => eqT_sound n d t x y b u v (by omega) h1 h2 h3) hus hvs _ _ h
        · cases h
      · cases h
    · cases h

theorem bin_sound {op : BinOp} {t : TypeId} {x y : AV} {ox oy : Operand} {r : Prop × AV} {u v : Value} (h : bin P op t x y = some r) (ho : r.1) (hu : VR P w I ρ x u) (hv : VR P w I ρ y v) :
    ∃ z, (do eqGuard op t ox oy u v; binOp op t u v : Sem Value).run P w = .ok z w ∧ VR P w I ρ r.2 z := by
  unfold bin at h
  split at h
  · rename_i k a k' b
    simp only [VR] at hu hv
    subst hu; subst hv
    rw [eqGuard_at_int]
    simp only [Sem.run_bind, Sem.run_pure, Result.andThen_ok]
    split at h
    · exact ishift_sound h ho
    · rename_i hop
      split at h
      · rename_i hk; subst hk
        exact ibin_sound hop h ho
      · cases h
  · simp only [VR] at hu hv
    subst hu; subst hv
    rw [eqGuard_at_bool]
    simp only [Sem.run_bind, Sem.run_pure, Result.andThen_ok]
    split at h
    · rename_i hb
      cases op <;> simp only [Option.some.injEq, reduceCtorEq] at h <;> subst h
      · exact ⟨_, run_eql_bool w t _ _ hb, by simp [VR]⟩
      · exact ⟨_, run_neq_bool w t _ _ hb, by simp [VR]⟩
    · cases h
  · rename_i xs ys
    split at h
    · rename_i hg
      have hu' := hu
      have hv' := hv
      simp only [VR] at hu hv
      obtain ⟨us, rfl, hus⟩ := hu
      obtain ⟨vs, rfl, hvs⟩ := hv
      simp only [Sem.run_bind, run_eqGuard_agg w _ t ox oy _ _ hg, Result.andThen_ok]
      cases op <;> simp only [Option.map_eq_some_iff, reduceCtorEq] at h <;> obtain ⟨b, hb, rfl⟩ := h
      · exact ⟨_, by rw [run_eql_struct, eqT_sound 12 10000 t _ _ b _ _ (by omega) hb hu' hv']; rfl, by simp [VR]⟩
      · exact ⟨_, by rw [run_neq_struct, eqT_sound 12 10000 t _ _ b _ _ (by omega) hb hu' hv']; rfl, by simp [VR]⟩
    · cases h
  · simp only [VR] at hu hv
    obtain ⟨b, _, rfl⟩ := hu
    subst hv
    rw [eqGuard_at_pointer]
    simp only [Sem.run_bind, Sem.run_pure, Result.andThen_ok]
    split at h
    · rename_i e hp
      have hp' : P.underlying t = some (.pointer (P.pointee t)) := by rw [hp]; simp [Program.pointee, hp]
      cases op <;> simp only [Option.some.injEq, reduceCtorEq] at h <;> subst h
      · exact ⟨_, run_eql_pointer_nil w t _ hp', by simp [VR]⟩
      · exact ⟨_, run_neq_pointer_nil w t _ hp', by simp [VR]⟩
    · cases h
  · simp only [VR] at hu hv
    subst hu; subst hv
    rw [eqGuard_at_pointer]
    simp only [Sem.run_bind, Sem.run_pure, Result.andThen_ok]
    split at h
    · rename_i e hp
      have hp' : P.underlying t = some (.pointer (P.pointee t)) := by rw [hp]; simp [Program.pointee, hp]
      cases op <;> simp only [Option.some.injEq, reduceCtorEq] at h <;> subst h
      · exact ⟨_, run_eql_pointer_nil w t _ hp', by simp [VR]⟩
      · exact ⟨_, run_neq_pointer_nil w t _ hp', by simp [VR]⟩
    · cases h
  · cases h
end
end Go.E

/-
  EngF: 'vop', what an operation gives that leaves memory as it is; its soundness.
-/
namespace Go.E
open Go.RowKit
set_option linter.unusedVariables false

def elemAt {t : Ty} (xs : List t.T) (i : Nat) : t.T := xs.getD i t.zero
def loadOf (P : Program) (H : Heap) (t : TypeId) (a : AV) : Option (Prop × AV) := match a with
  | .ptr l o => match get? H l with
    | some (.blk cs) => (loadV P t (cs.drop o)).map fun v => (True, v)
    | some (.mix pre t' xs) => (loadV P t (pre.drop o)).map fun v => (True, v)
    | _ => none
  | .pel l t' base i o => match get? H l with
    | some (.row t2 xs) => if h : t2 = t' then if base = 0 then (loadV P t ((enc t2 (elemAt xs i)).drop o)).map fun v => (i < xs.length, v) else none else none
    | some (.mix pre t2 xs) => if h : t2 = t' then if base = pre.length then (loadV P t ((enc t2 (elemAt xs i)).drop o)).map fun v => (i < xs.length, v) else none else none
    | _ => none
  | .cp t' x o => (loadV P t ((enc t' x).drop o)).map fun v => (True, v)
  | _ => none
def fieldPt (H : Heap) (a : AV) (off : Nat) : Option AV := match a with
  | .ptr l o => match get? H l with
    | some (.mix pre t xs) => if o + off = pre.length then some (.pel l t pre.length 0 0) else some (.ptr l (o + off))
    | _ => some (.ptr l (o + off))
  | .pel l t b i o => some (.pel l t b i (o + off))
  | .cp t x o => some (.cp t x (o + off))
  | _ => none
def structField (P : Program) (t : TypeId) (i : Nat) : Option Field := match P.underlying t with
  | some (.struct fs) => fs[i]?
  | _ => none
def indexPt (P : Program) (H : Heap) (t : TypeId) (x i : AV) : Option (Prop × AV) := match i with
  | .int _ n => match P.underlying t with
    | some (.slice e) => match P.info? e with
      | some inf => match x with
        | .arr t' xs => if inf.size = t'.size then some (0 ≤ n ∧ n < (xs.length : Int), .cp t' (elemAt xs n.toNat) 0) else none
        | .sl l => match get? H l with
          | some (.row t' xs) => if inf.size = t'.size then some (0 ≤ n ∧ n < (xs.length : Int), .pel l t' 0 n.toNat 0) else none
          | _ => none
        | .nils => some (False, .junk)
        | _ => none
      | none => none
    | some (.array m e) => match P.info? e with
      | some inf => match x with
        | .pel l t' b 0 0 => if inf.size = t'.size then some (0 ≤ n ∧ n < (m : Int), .pel l t' b n.toNat 0) else none
        | _ => none
      | none => none
    | _ => none
  | _ => none
def subList {α : Type} (xs : List α) (lo hi : Int) : List α := (xs.take hi.toNat).drop lo.toNat
def sliceOf (P : Program) (H : Heap) (t : TypeId) (x : AV) (lo hi : Option AV) : Option (Prop × AV) := match P.underlying t with
  | some (.slice e) => match P.info? e with
    | some inf => match x with
      | .arr t' xs => if inf.size = t'.size then match lo, hi with
        | some (.int _ l), some (.int _ h) => some (0 ≤ l ∧ l ≤ h ∧ h ≤ (xs.length : Int), .arr t' (subList xs l h))
        | none, some (.int _ h) => some (0 ≤ h ∧ h ≤ (xs.length : Int), .arr t' (subList xs 0 h))
        | some (.int _ l), none => some (0 ≤ l ∧ l ≤ (xs.length : Int), .arr t' (subList xs l xs.length))
        | none, none => some (True, .arr t' xs)
        | _, _ => none
        else none
      | _ => none
    | none => none
  | _ => none
def lenOf (H : Heap) : AV → Option Int
  | .arr _ xs => some (xs.length : Int)
  | .nils => some 0
  | .str s => some (s.size : Int)
  | .sl l => match get? H l with
    | some (.row _ xs) => some (xs.length : Int)
    | _ => none
  | .nilm => some 0
  | .mp l => match get? H l with
    | some (.map _ _ es _) => some (es.length : Int)
    | _ => none
  | _ => none
def lenType (P : Program) (t : TypeId) (x : AV) : Bool := match P.underlying t, x with
  | some (.slice _), .arr _ _ => true
  | some (.slice _), .nils => true
  | some (.slice _), .sl _ => true
  | some .string, .str _ => true
  | some (.map _ _), .nilm => true
  | some (.map _ _), .mp _ => true
  | _, _ => false
def placeOf (P : Program) (t : TypeId) : Option (Nat → Option (Nat × Nat)) := match P.underlying t with
  | some (.struct fs) => if fs.toList.all (fun fd => (P.info? fd.type).isSome) then some fun i => (fs[i]?).map fun fd => (fd.offset, sizeT P fd.type) else none
  | _ => none
def vop (P : Program) (H : Heap) (f : Operand → AV) (ty : TypeId) : Op → Option (Prop × AV)
  | .move x => some (True, f x)
  | .assign x => some (True, f x)
  | .load t a => loadOf P H t (f a)
  | .fieldAddr s x i => match structField P s i with
    | some fd => match P.info? fd.type with
      | some inf => if inf.size = 0 then none else (fieldPt H (f x) fd.offset).map fun v => (True, v)
      | none => none
    | none => none
  | .field s x i => match structField P s i with
    | some fd => match f x with
      | .agg cs => (partV P fd.type (cs.drop fd.offset)).map fun v => (True, v)
      | _ => none
    | none => none
  | .indexAddr t x i => indexPt P H t (f x) (f i)
  | .binOp op t x y _ => bin P op t (f x) (f y)
  | .unOp op _ x => match op, f x with
    | .not, .bool b => some (True, .bool !b)
    | .neg, .int k n => some (True, .int k (k.wrap (0 - n)))
    | _, _ => none
  | .convert s d x => match P.underlying s, P.underlying d, f x with
    | some _, some (.int k), .int _ n => some (True, .int k (k.wrap n))
    | _, _, _ => none
  | .extract t i => match f t with
    | .tup vs => (vs[i]?).map fun v => (True, v)
    | _ => none
  | .makeFunc (.func g) first cap => some (True, .fn g (first.toList.map f) (cap.toList.map f))
  | .nilCheck x => match f x with
    | .ptr l o => some (True, .ptr l o)
    | .pel l t b i o => some (True, .pel l t b i o)
    | .cp t y o => some (True, .cp t y o)
    | .fn g a b => some (True, .fn g a b)
    | .pfn as r g => some (True, .pfn as r g)
    | _ => none
  | .build t parts => match zeroAV P t, placeOf P t with
    | some z, some pl => (fillA H pl z (parts.toList.map fun x => (x.1, f x.2))).map fun cs => (True, .agg cs)
    | _, _ => none
  | .slice t x lo hi none => sliceOf P H t (f x) (lo.map f) (hi.map f)
  | .call { callee := .builtin .len, args := args, argTypes := ts } => match args.toList, ts[0]? with
    | [x], some t => if lenType P t (f x) then (lenOf H (f x)).map fun n => (True, .int .i64 n) else none
    | _, _ => none
  | .call { callee := .builtin .min, args := args, argTypes := ts } => match args.toList with
    | [x, y] => match f x, f y with
      | .int k a, .int _ b => some (True, .int k (if b < a then b else a))
      | _, _ => none
    | _ => none
  | .call { callee := .builtin .max, args := args, argTypes := ts } => match args.toList with
    | [x, y] => match f x, f y with
      | .int k a, .int _ b => some (True, .int k (if b > a then b else a))
      | _, _ => none
    | _ => none
  | _ => none

section
variable {P : Program} {A : Nat → Prop} {w : World} {ρ : Nat → Value} {H : Heap}
theorem elemAt_of {t : Ty} {xs : List t.T} {i : Nat} (h : i < xs.length) : nth xs i = some (elemAt xs i) := by
  simp [nth, elemAt, List.getD, List.getElem?_eq_getElem h]
theorem RowAt.cells {I : Nat → Prop} {t : Ty} {xs : List t.T} {arr : Array Value} {off b : Nat} {e : TypeId} (hh : w.heap[b]? = some (.cells arr e (0, 0))) (hr : RowAt w I t xs arr off) {i : Nat} (hi : i < xs.length) :
    ∃ us, us.length = t.size ∧ CellsAt w b (off + i * t.size) us ∧ DR w I t (elemAt xs i) us := by
  obtain ⟨us, hl, hc, hd⟩ := hr i _ (elemAt_of hi)
  refine ⟨us, hl, fun j v hj => ?_, hd⟩
  simp [World.cell?, hh, hc j v hj]
theorem ptr_add (b off n : Nat) : (⟨b, off, none⟩ : Addr).add n = ⟨b, off + n, none⟩ := by unfold Addr.add; split <;> simp_all
theorem loadOf_sound (hH : HeapR P A H ρ w) {t : TypeId} {a : AV} {r : Prop × AV} {v : Value} (h : loadOf P H t a = some r) (ho : r.1) (hv : VR P w (imm A H ρ w) ρ a v) :
    ∃ u, (Instr.loadAt t v).run P w = .ok u w ∧ VR P w (imm A H ρ w) ρ r.2 u := by
  unfold loadOf at h
  split at h
  · rename_i l o
    simp only [VR] at hv
    obtain ⟨b, hb, rfl⟩ := hv
    split at h
    · rename_i cs hc
      obtain ⟨x, hx, rfl⟩ := Option.map_eq_some_iff.1 h
      obtain ⟨b', vs, e, hrv, hh, hvs⟩ := hH.chunk _ _ hc
      have : b' = b := by simpa [hrv, blkOf] using hb
      subst this
      have hca : CellsAt w b' 0 vs := fun j v hj => by simp [World.cell?, hh, hj]
      have := load_sound hx (hca.drop o) (hvs.drop o)
      simpa using this
    · rename_i pre t' xs hc
      obtain ⟨x, hx, rfl⟩ := Option.map_eq_some_iff.1 h
      obtain ⟨b', vs, arr, e, hrv, hh, hvs, hp, _, _⟩ := hH.chunk _ _ hc
      have : b' = b := by simpa [hrv, blkOf] using hb
      subst this
      have hca : CellsAt w b' 0 vs := fun j v hj => by simp [World.cell?, hh, hp j v hj]
      have := load_sound hx (hca.drop o) (hvs.drop o)
      simpa using this
    · cases h
  · rename_i l t' base i o
    simp only [VR] at hv
    obtain ⟨b, hb, rfl⟩ := hv
    split at h
    · rename_i t2 xs hc
      split at h
      · rename_i ht; subst ht
        split at h
        · rename_i hbase; subst hbase
          obtain ⟨x, hx, rfl⟩ := Option.map_eq_some_iff.1 h
          rcases hH.chunk _ _ hc with ⟨hrv, hnil⟩ | ⟨b', off, cap, arr, e, hrv, hh, _, _, hr⟩
          · simp [hrv, blkOf] at hb
          · have : b' = b := by simpa [hrv, blkOf] using hb
            subst this
            obtain ⟨us, hl, hca, hd⟩ := hr.cells hh ho
            have := load_sound hx (hca.drop o) ((enc_sound (P := P) (ρ := ρ) _ _ _ hd).drop o)
            simpa [hrv, baseOf] using this
        · cases h
      · cases h
    · rename_i pre t2 xs hc
      split at h
      · rename_i ht; subst ht
        split at h
        · rename_i hbase; subst hbase
          obtain ⟨x, hx, rfl⟩ := Option.map_eq_some_iff.1 h
          obtain ⟨b', vs, arr, e, hrv, hh, hvs, hp, hs, hr⟩ := hH.chunk _ _ hc
          have : b' = b := by simpa [hrv, blkOf] using hb
          subst this
          obtain ⟨us, hl, hca, hd⟩ := hr.cells hh ho
          have := load_sound hx (hca.drop o) ((enc_sound (P := P) (ρ := ρ) _ _ _ hd).drop o)
          simpa [hrv, baseOf] using this
        · cases h
      · cases h
    · cases h
  · rename_i t' x o
    obtain ⟨y, hy, rfl⟩ := Option.map_eq_some_iff.1 h
    simp only [VR] at hv
    obtain ⟨b, off, us, rfl, hI, hl, hca, hd⟩ := hv
    exact load_sound hy (hca.drop o) ((enc_sound (P := P) (ρ := ρ) _ _ _ hd).drop o)
  · cases h
theorem fieldPt_sound (hH : HeapR P A H ρ w) {a x : AV} {off : Nat} {v : Value} (h : fieldPt H a off = some x) (hv : VR P w (imm A H ρ w) ρ a v) :
    ∃ b o, v = .pointer (some ⟨b, o, none⟩) ∧ VR P w (imm A H ρ w) ρ x (.pointer (some ⟨b, o + off, none⟩)) := by
  unfold fieldPt at h
  split at h
  · rename_i l o
    simp only [VR] at hv
    obtain ⟨b, hb, rfl⟩ := hv
    have plain : VR P w (imm A H ρ w) ρ (.ptr l (o + off)) (.pointer (some ⟨b, o + off, none⟩)) := by simp only [VR]; exact ⟨b, hb, rfl⟩
    split at h
    · rename_i pre t xs hc
      split at h
      · rename_i he
        injection h with h; subst h
        obtain ⟨b', vs, arr, e, hrv, hh, hvs, hp, hs, hr⟩ := hH.chunk _ _ hc
        refine ⟨b, o, rfl, ?_⟩
        simp only [VR]
        exact ⟨b, hb, by simp [hrv, baseOf, he]⟩
      · injection h with h; subst h
        exact ⟨b, o, rfl, plain⟩
    · injection h with h; subst h
      exact ⟨b, o, rfl, plain⟩
  · injection h with h; subst h
    simp only [VR] at hv ⊢
    obtain ⟨b, hb, rfl⟩ := hv
    exact ⟨b, _, rfl, b, hb, by simp [Nat.add_assoc]⟩
  · injection h with h; subst h
    simp only [VR] at hv ⊢
    obtain ⟨b, o0, us, rfl, hI, hl, hca, hd⟩ := hv
    exact ⟨b, _, rfl, b, o0, us, by simp [Nat.add_assoc], hI, hl, hca, hd⟩
  · cases h
theorem indexPt_sound (hH : HeapR P A H ρ w) {t : TypeId} {x i : AV} {r : Prop × AV} {v u : Value} (h : indexPt P H t x i = some r) (ho : r.1) (hx : VR P w (imm A H ρ w) ρ x v) (hi : VR P w (imm A H ρ w) ρ i u) :
    ∃ z, (Instr.indexAt t v u).run P w = .ok z w ∧ VR P w (imm A H ρ w) ρ r.2 z := by
  unfold indexPt at h
  split at h
  · rename_i k n
    simp only [VR] at hi
    subst hi
    split at h
    · rename_i e he
      have hel : P.elem t = e := by simp [Program.elem, he]
      have hu : P.underlying t = some (.slice (P.elem t)) := by rw [hel]; exact he
      split at h
      · rename_i inf hinf
        have key : ∀ (b off len cap : Nat), 0 ≤ n ∧ n < (len : Int) → (Instr.indexAt t (.slice (some ⟨b, off, none⟩) len cap) (.int k n)).run P w = .ok (.pointer (some ⟨b, off + n.toNat * inf.size, none⟩)) w := by
          intro b off len cap hb
          rw [run_indexAt_slice w t _ _ _ _ _ hu, if_pos hb, hel, run_sizeOf' hinf]
          simp [Result.andThen, ptr_add]
        split at h
        · rename_i t' xs
          split at h
          · rename_i hs
            injection h with h; subst h
            simp only [VR] at hx ⊢
            obtain ⟨a, c, hva, hc, hn⟩ := hx
            injection hva with hva
            subst hva
            have hlt : n.toNat < xs.length := by omega
            obtain ⟨b, off, rfl, hI, hel2⟩ := hn (by show 0 < List.length xs; omega)
            obtain ⟨us, hl, hca, hd⟩ := hel2 n.toNat (elemAt xs n.toNat) (elemAt_of hlt)
            exact ⟨_, key b off _ c ho, b, off + n.toNat * t'.size, us, by rw [hs]; rfl, hI, hl, hca, hd⟩
          · cases h
        · rename_i l
          split at h
          · rename_i t' xs hc
            split at h
            · rename_i hs
              injection h with h; subst h
              simp only [VR] at hx ⊢
              have hlt : n.toNat < xs.length := by omega
              rcases hH.chunk _ _ hc with ⟨hrv, hnil⟩ | ⟨b', off, cap, arr, e2, hrv, hh, _, _, hr⟩
              · subst hnil
                simp at hlt
              · subst hx
                rw [hrv]
                exact ⟨_, key b' off _ cap ho, b', by simp [blkOf], by simp [baseOf, hs]⟩
            · cases h
          · cases h
        · injection h with h; subst h
          exact absurd ho (by simp)
        · cases h
      · cases h
    · rename_i m e he
      have hel : P.elem t = e := by simp [Program.elem, he]
      have hal : P.arrayLen t = m := by simp [Program.arrayLen, he]
      have hu : P.underlying t = some (.array (P.arrayLen t) (P.elem t)) := by rw [hel, hal]; exact he
      split at h
      · rename_i inf hinf
        split at h
        · rename_i l t' b
          split at h
          · rename_i hs
            injection h with h; subst h
            simp only [VR] at hx ⊢
            obtain ⟨b', hb', rfl⟩ := hx
            rw [run_indexAt_array w t _ _ _ hu, hal, if_pos ho, hel, run_sizeOf' hinf]
            simp only [Result.andThen, ptr_add]
            exact ⟨_, rfl, b', hb', by simp [hs]⟩
          · cases h
        · cases h
      · cases h
    · cases h
  · cases h
theorem lenOf_sound (hH : HeapR P A H ρ w) {t oty : TypeId} {x : AV} {n : Int} {v : Value} (ht : lenType P t x = true) (h : lenOf H x = some n) (hx : VR P w (imm A H ρ w) ρ x v) :
    (Builtin.len_ #[t] oty #[v]).run P w = .ok (.int .i64 n) w := by
  unfold lenType at ht
  unfold lenOf at h
  split at ht
  · rename_i t' xs hu
    simp only [Option.some.injEq] at h
    subst h
    simp only [VR] at hx
    obtain ⟨a, c, hva, _⟩ := hx
    injection hva with hva
    subst hva
    simp [Builtin.len_, run_underlying hu, goInt]
  · rename_i hu
    simp only [Option.some.injEq] at h
    subst h
    simp only [VR] at hx
    subst hx
    simp [Builtin.len_, run_underlying hu, goInt]
  · rename_i hu
    simp only at h
    split at h
    · rename_i t' xs hc
      injection h with h; subst h
      simp only [VR] at hx
      subst hx
      rcases hH.chunk _ _ hc with ⟨hrv, hnil⟩ | ⟨b', off, cap, arr, e2, hrv, hh, _, _, hr⟩
      · subst hnil
        simp [hrv, Builtin.len_, run_underlying hu, goInt]
      · simp [hrv, Builtin.len_, run_underlying hu, goInt]
    · cases h
  · rename_i hu
    simp only [Option.some.injEq] at h
    subst h
    simp only [VR] at hx
    subst hx
    simp [Builtin.len_, run_underlying hu, goInt]
  · rename_i hu
    simp only [Option.some.injEq] at h
    subst h
    simp only [VR] at hx
    subst hx
    simp [Builtin.len_, run_underlying hu, goInt]
  · rename_i hu
    simp only at h
    split at h
    · rename_i kt vt es clock hc
      injection h with h; subst h
      simp only [VR] at hx
      subst hx
      obtain ⟨b, ents, hrv, hh, hl, _⟩ := hH.chunk _ _ hc
      simp [hrv, Builtin.len_, run_underlying hu, goInt, getObj, Sem.run, hh, hl]
    · cases h
  · cases ht
end
end Go.E

/-
  EngG: soundness of 'vop'.
-/
namespace Go.E
open Go.RowKit
set_option linter.unusedVariables false
set_option linter.unusedSimpArgs false
section
variable {P : Program} {A : Nat → Prop} {w : World} {ρ : Nat → Value} {H : Heap}
theorem DR.sub {I : Nat → Prop} {t : Ty} {xs : List t.T} {a : Option Addr} {c : Nat} (h : DR w I (.list t) xs [.slice a xs.length c]) (l m : Nat) (hlm : l ≤ m) (hm : m ≤ xs.length) :
    DR w I (.list t) ((xs.take m).drop l) [.slice (if c = l then a else a.map (·.add (l * t.size))) (m - l) (c - l)] := by
  obtain ⟨a', c', hv, hc, hn⟩ := h
  injection hv with hv
  injection hv with h1 h2 h3
  subst h1; subst h3
  have hlen : ((xs.take m).drop l).length = m - l := by simp; omega
  refine ⟨_, c - l, by rw [show List.length ((xs.take m).drop l) = m - l from hlen], by rw [show List.length ((xs.take m).drop l) = m - l from hlen]; have : xs.length ≤ c := hc; omega, fun hp => ?_⟩
  have hp' : 0 < m - l := by rw [← hlen]; exact hp
  have hc' : xs.length ≤ c := hc
  obtain ⟨b, off, ha, hI, hel⟩ := hn (by show 0 < List.length xs; omega)
  subst ha
  rw [if_neg (by omega)]
  refine ⟨b, off + l * t.size, by simp [ptr_add], hI, fun i x hi => ?_⟩
  have hi' : nth xs (l + i) = some x := by
    have : ((xs.take m).drop l)[i]? = some x := hi
    rw [List.getElem?_drop, List.getElem?_take] at this
    split at this
    · exact this
    · cases this
  obtain ⟨us, hl, hca, hd⟩ := hel (l + i) x hi'
  exact ⟨us, hl, by rw [show off + l * t.size + i * t.size = off + (l + i) * t.size by rw [Nat.add_mul]; omega]; exact hca, hd⟩
theorem run_sliceAt {t e : TypeId} {inf : TypeInfo} (hu : P.underlying t = some (.slice e)) (hi : P.info? e = some inf) (a : Option Addr) (n c : Nat) (lo hi' : Option Value) (l m : Nat)
    (hlo : (lo = none ∧ l = 0) ∨ ∃ k, lo = some (.int k (l : Int))) (hhi : (hi' = none ∧ m = n) ∨ ∃ k, hi' = some (.int k (m : Int))) (hlm : l ≤ m) (hmc : m ≤ c) :
    (Instr.sliceAt t (.slice a n c) lo hi' none).run P w = .ok (.slice (if c = l then a else a.map (·.add (l * inf.size))) (m - l) (c - l)) w := by
  unfold Instr.sliceAt
  rw [run_bind_ok (run_underlying hu w)]
  simp only [Instr.slice]
  rw [run_bind_ok (run_underlying hu w)]
  have hb : (Instr.sliceBounds true n c lo hi' none).run P w = .ok (l, m, c) w := by
    unfold Instr.sliceBounds Instr.sliceBound
    have e1 : ((l : Int) ≤ (m : Int)) := by omega
    have e2 : ((m : Int) ≤ (c : Int)) := by omega
    rcases hhi with ⟨rfl, rfl⟩ | ⟨k', rfl⟩
    · rcases hlo with ⟨rfl, h0⟩ | ⟨k, rfl⟩
      · simp [h0]
      · simp [asIntOf, e1, hlm]
    · rcases hlo with ⟨rfl, h0⟩ | ⟨k, rfl⟩
      · simp [asIntOf, e2, hmc, h0]
      · simp [asIntOf, e1, e2, hlm, hmc]
  simp only [Sem.run_bind, hb, Result.andThen_ok, run_sizeOf' hi, Sem.run_pure]
theorem sliceOf_sound {t : TypeId} {x : AV} {lo hi : Option AV} {r : Prop × AV} {v : Value} {vlo vhi : Option Value} (h : sliceOf P H t x lo hi = some r) (ho : r.1) (hx : VR P w (imm A H ρ w) ρ x v)
    (hlo : ∀ y, lo = some y → ∃ u, vlo = some u ∧ VR P w (imm A H ρ w) ρ y u) (hhi : ∀ y, hi = some y → ∃ u, vhi = some u ∧ VR P w (imm A H ρ w) ρ y u) (hlo' : lo = none → vlo = none) (hhi' : hi = none → vhi = none) :
    ∃ z, (Instr.sliceAt t v vlo vhi none).run P w = .ok z w ∧ VR P w (imm A H ρ w) ρ r.2 z := by
  unfold sliceOf at h
  split at h
  · rename_i e he
    split at h
    · rename_i inf hinf
      split at h
      · rename_i t' xs
        split at h
        · rename_i hs
          simp only [VR] at hx
          have hx0 := hx
          obtain ⟨a, c, hva, hc, hn⟩ := hx
          injection hva with hva
          subst hva
          have hc' : xs.length ≤ c := hc
          split at h
          · rename_i k1 l k2 m
            injection h with h; subst h
            obtain ⟨u1, rfl, h1⟩ := hlo _ rfl
            obtain ⟨u2, rfl, h2⟩ := hhi _ rfl
            simp only [VR] at h1 h2 ⊢
            subst h1; subst h2
            obtain ⟨hl0, hlm, hmn⟩ := ho
            refine ⟨_, run_sliceAt he hinf a xs.length c _ _ l.toNat m.toNat (.inr ⟨k1, by rw [Int.toNat_of_nonneg hl0]⟩) (.inr ⟨k2, by rw [Int.toNat_of_nonneg (by omega)]⟩) (by omega) (by omega), ?_⟩
            rw [hs]
            exact hx0.sub l.toNat m.toNat (by omega) (by omega)
          · rename_i k2 m
            injection h with h; subst h
            obtain ⟨u2, rfl, h2⟩ := hhi _ rfl
            rw [hlo' rfl]
            simp only [VR] at h2 ⊢
            subst h2
            obtain ⟨hm0, hmn⟩ := ho
            refine ⟨_, run_sliceAt he hinf a xs.length c _ _ 0 m.toNat (.inl ⟨rfl, rfl⟩) (.inr ⟨k2, by rw [Int.toNat_of_nonneg (by omega)]⟩) (by omega) (by omega), ?_⟩
            rw [hs]
            exact hx0.sub 0 m.toNat (by omega) (by omega)
          · rename_i k1 l
            injection h with h; subst h
            obtain ⟨u1, rfl, h1⟩ := hlo _ rfl
            rw [hhi' rfl]
            simp only [VR] at h1 ⊢
            subst h1
            obtain ⟨hl0, hln⟩ := ho
            refine ⟨_, run_sliceAt he hinf a xs.length c _ _ l.toNat xs.length (.inr ⟨k1, by rw [Int.toNat_of_nonneg hl0]⟩) (.inl ⟨rfl, rfl⟩) (by omega) (by omega), ?_⟩
            rw [hs]
            exact hx0.sub l.toNat xs.length (by omega) (by omega)
          · injection h with h; subst h
            rw [hlo' rfl, hhi' rfl]
            simp only [VR]
            refine ⟨_, run_sliceAt he hinf a xs.length c _ _ 0 xs.length (.inl ⟨rfl, rfl⟩) (.inl ⟨rfl, rfl⟩) (by omega) (by omega), ?_⟩
            rw [hs]
            have := hx0.sub 0 xs.length (by omega) (by omega)
            simpa using this
          · cases h
        · cases h
      · cases h
    · cases h
  · cases h

theorem isCell_one (hH : HeapR P A H ρ w) {x : AV} {v : Value} {I : Nat → Prop} (h : isCell H x = true) (hv : VR P w I ρ x v) : v.oneCell' = true ∧ v.cells = #[v] := by
  have key : ∀ {u : Value}, (∀ cs, u ≠ .agg cs) → (∀ cs, u ≠ .tuple cs) → u.oneCell' = true ∧ u.cells = #[u] := by
    intro u h1 h2
    cases u <;> first | exact ⟨rfl, rfl⟩ | exact absurd rfl (h1 _) | exact absurd rfl (h2 _)
  refine key ?_ ?_ <;> intro cs he <;> subst he <;> cases x <;> simp only [VR] at hv <;> simp only [isCell, Bool.false_eq_true] at h <;> try (simp only [reduceCtorEq] at hv)
  all_goals first
    | (obtain ⟨b, _, hb⟩ := hv; exact absurd hb (by simp))
    | (obtain ⟨a, c, hb, _⟩ := hv; simp at hb)
    | (obtain ⟨b, off, us, hb, _⟩ := hv; simp at hb)
    | (obtain ⟨vs, us, hb, _⟩ := hv; simp at hb)
    | (obtain ⟨f, fi, ca, hb, _⟩ := hv; simp at hb)
    | (split at h
       · rename_i hc
         rcases hH.chunk _ _ hc with ⟨hrv, _⟩ | ⟨b', off, cap, arr, e2, hrv, _⟩ <;> simp [hrv] at hv
       · cases h)
    | (split at h
       · rename_i hc
         obtain ⟨b1, ents, hrv, _⟩ := hH.chunk _ _ hc
         simp [hrv] at hv
       · cases h)
theorem cellsOf_sound (hH : HeapR P A H ρ w) {x : AV} {v : Value} {I : Nat → Prop} (h : (cellsOf x).all (isCell H) = true) (hv : VR P w I ρ x v) : VRs P w I ρ (cellsOf x) v.cells.toList := by
  cases x with
  | agg cs =>
    simp only [VR] at hv
    obtain ⟨vs, rfl, hvs⟩ := hv
    simpa [cellsOf, Value.cells] using hvs
  | _ =>
    simp only [cellsOf, List.all_cons, List.all_nil, Bool.and_true] at h ⊢
    rw [(isCell_one hH h hv).2]
    exact VRs_cons.2 ⟨v, [], rfl, hv, by simp [VRs]⟩
theorem all_cells (hH : HeapR P A H ρ w) {I : Nat → Prop} : ∀ {cs : List AV} {vs : List Value}, cs.all (isCell H) = true → VRs P w I ρ cs vs → ∀ v ∈ vs, v.oneCell' = true
  | [], vs, h, hv => by rw [VRs_nil] at hv; subst hv; simp
  | x :: r, vs, h, hv => by
    obtain ⟨v, us, rfl, h1, h2⟩ := VRs_cons.1 hv
    simp only [List.all_cons, Bool.and_eq_true] at h
    intro u hu
    rcases List.mem_cons.1 hu with rfl | hu
    · exact (isCell_one hH h.1 h1).1
    · exact all_cells hH h.2 h2 u hu

theorem foldl_set (x : List Value) (off : Nat) : ∀ (k : Nat) (cs : List Value), off + k + x.length ≤ cs.length →
    (x.zipIdx k).foldl (fun (a : Array Value) (c, j) => a.setIfInBounds (off + j) c) cs.toArray = (cs.take (off + k) ++ x ++ cs.drop (off + k + x.length)).toArray := by
  induction x with
  | nil => intro k cs h; simp
  | cons v r ih =>
    intro k cs h
    simp only [List.zipIdx_cons, List.foldl_cons]
    simp only [List.length_cons] at h
    rw [List.setIfInBounds_toArray, ih (k + 1) (cs.set (off + k) v) (by simp; omega)]
    congr 1
    apply List.ext_getElem?
    intro j
    simp only [List.length_cons, List.getElem?_append, List.length_append, List.length_take, List.length_set, List.getElem?_take, List.getElem?_set, List.getElem?_drop]
    have e1 : min (off + (k + 1)) cs.length = off + k + 1 := by omega
    have e2 : min (off + k) cs.length = off + k := by omega
    rw [e1, e2]
    by_cases h1 : j < off + k
    · rw [if_pos (by omega), if_pos (by omega), if_pos (by omega), if_neg (by omega), if_pos (by omega), if_pos h1, if_pos h1]
    · by_cases h2 : j = off + k
      · subst h2
        rw [if_pos (by omega), if_pos (by omega), if_pos (by omega), if_pos rfl, if_pos (by omega), if_pos (by omega), if_neg (by omega)]
        simp
      · by_cases h3 : j < off + k + 1 + r.length
        · rw [if_pos (by omega), if_neg (by omega), if_pos (by omega), if_neg (by omega)]
          rw [show j - (off + k) = (j - (off + k + 1)) + 1 by omega, List.getElem?_cons_succ]
        · rw [if_neg (by omega), if_neg (by omega)]
          rw [if_neg (by omega)]
          congr 1
          omega
theorem fill_sound (hH : HeapR P A H ρ w) {I : Nat → Prop} {place : Nat → Option (Nat × Nat)} (f : Operand → AV) (ev : Operand → Value) : ∀ (parts : List (Nat × Operand)) (cs cs' : List AV) (vs : List Value),
    (∀ p ∈ parts, VR P w I ρ (f p.2) (ev p.2)) → fillA H place cs (parts.map fun x => (x.1, f x.2)) = some cs' → VRs P w I ρ cs vs →
    ∃ vs' : List Value, Instr.fill place vs.toArray (parts.map fun x => (x.1, ev x.2)) = some vs'.toArray ∧ VRs P w I ρ cs' vs'
  | [], cs, cs', vs, hp, h, hv => by
    simp only [List.map_nil, fillA, Option.some.injEq] at h
    subst h
    exact ⟨vs, rfl, hv⟩
  | p :: rest, cs, cs', vs, hp, h, hv => by
    simp only [List.map_cons, fillA] at h
    simp only [List.map_cons, Instr.fill]
    split at h
    · cases h
    · rename_i off size hpl
      split at h
      · rename_i hc
        obtain ⟨h1, h2, h3⟩ := hc
        have hcs := cellsOf_sound hH h3 (hp p (by simp))
        have hl := hcs.length
        have hlv := hv.length
        rw [hpl]
        simp only
        have hsz : (ev p.2).cells.size = size := by rw [← Array.length_toList, hl, h1]
        have hnot : ¬ ((decide ((ev p.2).cells.size ≠ size) || decide (off + (ev p.2).cells.size > vs.toArray.size)) = true) := by
          rw [hsz]
          simp
          omega
        rw [if_neg hnot]
        have hfold : (ev p.2).cells.zipIdx.foldl (fun cs (c, j) => cs.setIfInBounds (off + j) c) vs.toArray = (vs.take off ++ (ev p.2).cells.toList ++ vs.drop (off + (ev p.2).cells.toList.length)).toArray := by
          have := foldl_set (ev p.2).cells.toList off 0 vs (by rw [hl]; omega)
          rw [← Array.foldl_toList]
          simpa using this
        rw [hfold]
        refine fill_sound hH f ev rest _ cs' _ (fun q hq => hp q (by simp [hq])) h ?_
        refine ((hv.take off).append hcs).append ?_
        rw [hl]
        exact hv.drop _
      · cases h
theorem run_places {fs : List Field} (h : ∀ fd ∈ fs, (P.info? fd.type).isSome = true) : (fs.mapM (m := Sem) fun f => do pure (f.offset, ← sizeOf f.type)).run P w = .ok (fs.map fun f => (f.offset, sizeT P f.type)) w := by
  induction fs with
  | nil => rfl
  | cons fd r ih =>
    obtain ⟨i, hi⟩ := Option.isSome_iff_exists.1 (h fd (by simp))
    simp only [List.mapM_cons, Sem.run_bind, run_sizeOf' hi, Result.andThen_ok, Sem.run_pure, ih (fun x hx => h x (by simp [hx])), List.map_cons]
    simp [sizeT, hi]
theorem build_sound (hH : HeapR P A H ρ w) {I : Nat → Prop} {t : TypeId} {z cs : List AV} {pl : Nat → Option (Nat × Nat)} (f : Operand → AV) (ev : Operand → Value) {parts : Array (Nat × Operand)}
    (hz : zeroAV P t = some z) (hpl : placeOf P t = some pl) (hf : fillA H pl z (parts.toList.map fun x => (x.1, f x.2)) = some cs) (hp : ∀ p ∈ parts, VR P w I ρ (f p.2) (ev p.2)) :
    ∃ v, (Instr.build t (parts.map fun (i, x) => (i, ev x))).run P w = .ok v w ∧ VR P w I ρ (.agg cs) v := by
  unfold zeroAV at hz
  split at hz
  · rename_i inf hinf
    split at hz
    · rename_i zv hzv
      injection hz with hz; subst hz
      unfold placeOf at hpl
      split at hpl
      · rename_i fs hfs
        split at hpl
        · rename_i hall
          injection hpl with hpl
          have hz1 : (zeroValue t).run P w = .ok zv w := by
            unfold zeroValue
            rw [run_bind_ok (run_typeInfo' hinf), hzv]
            rfl
          obtain ⟨vs', h1, h2⟩ := fill_sound hH f ev parts.toList _ cs zv.cells.toList (fun p hp' => hp p (by simpa using hp')) hf (ofConsts_sound _)
          refine ⟨.agg vs'.toArray, ?_, by simp only [VR]; exact ⟨_, rfl, h2⟩⟩
          unfold Instr.build
          simp only [Sem.run_bind, hz1, Result.andThen_ok, run_underlying hfs]
          have hm : (fs.mapM (m := Sem) fun f => do pure (f.offset, ← sizeOf f.type)).run P w = .ok (fs.map fun f => (f.offset, sizeT P f.type)) w := by
            rw [Array.mapM_eq_mapM_toList, Sem.run_map, run_places (fun fd hfd => by simpa using List.all_eq_true.1 hall fd hfd)]
            simp only [Result.andThen_ok]
            rw [← Array.toList_map, Array.toArray_toList]
          rw [hm]
          simp only [Result.andThen_ok]
          have hpe : (fun i => (fs.map fun f => (f.offset, sizeT P f.type))[i]?) = pl := by
            subst hpl
            funext i
            simp
          rw [hpe]
          have hl : (parts.map fun (x : Nat × Operand) => (x.1, ev x.2)).toList = parts.toList.map fun x => (x.1, ev x.2) := by simp
          have h1' := h1
          simp only [Array.toArray_toList] at h1'
          simp only [hl, h1', Sem.run_pure]
        · cases hpl
      · cases hpl
    · cases hz
  · cases hz

theorem vop_sound (hH : HeapR P A H ρ w) {f : Operand → AV} {ev : Operand → Value} {o : Oper} {r : Prop × AV} (h : vop P H f o.type o.op = some r) (ho : r.1) (hf : ∀ x ∈ o.op.operands, VR P w (imm A H ρ w) ρ (f x) (ev x)) :
    ∃ v, (execOp ev o).run P w = .ok (.value v) w ∧ VR P w (imm A H ρ w) ρ r.2 v := by
  have val : ∀ {s : Sem Value} {z : AV}, (∃ v, s.run P w = .ok v w ∧ VR P w (imm A H ρ w) ρ z v) → ∃ v, (do pure (.value (← s)) : Sem Next).run P w = .ok (.value v) w ∧ VR P w (imm A H ρ w) ρ z v := by
    rintro s z ⟨v, h1, h2⟩
    exact ⟨v, by rw [run_bind_ok h1]; rfl, h2⟩
  obtain ⟨dst, op, oty, pos, after, guard⟩ := o
  simp only at h hf ⊢
  unfold vop at h
  unfold execOp
  split at h
  · injection h with h; subst h
    exact ⟨_, rfl, hf _ (by simp [Op.operands])⟩
  · injection h with h; subst h
    exact ⟨_, rfl, hf _ (by simp [Op.operands])⟩
  · exact val (loadOf_sound hH h ho (hf _ (by simp [Op.operands])))
  · rename_i s x i
    split at h
    · rename_i fd hfd
      split at h
      · rename_i inf hinf
        split at h
        · cases h
        · rename_i hsz
          obtain ⟨y, hy, rfl⟩ := Option.map_eq_some_iff.1 h
          obtain ⟨b, off, hv, hy2⟩ := fieldPt_sound hH hy (hf x (by simp [Op.operands]))
          refine val ⟨_, ?_, hy2⟩
          unfold structField at hfd
          split at hfd
          · rename_i fs hfs
            unfold Instr.fieldAt
            simp only [Sem.run_bind, run_underlying hfs, Result.andThen_ok, hfd, hv, Instr.sureAddr, Sem.run_pure, fieldPlace, run_sizeOf' hinf, if_neg hsz, ptr_add]
          · cases hfd
      · cases h
    · cases h
  · rename_i s x i
    split at h
    · rename_i fd hfd
      split at h
      · rename_i cs hcs
        obtain ⟨y, hy, rfl⟩ := Option.map_eq_some_iff.1 h
        have hx := hf x (by simp [Op.operands])
        rw [hcs] at hx
        simp only [VR] at hx
        obtain ⟨vs, hev, hvs⟩ := hx
        obtain ⟨v, h1, h2⟩ := part_sound hy hvs
        refine val ⟨v, ?_, h2⟩
        unfold structField at hfd
        split at hfd
        · rename_i fs hfs
          unfold Instr.field
          simp only [Sem.run_bind, run_underlying hfs, Result.andThen_ok, hfd, hev, asAgg, Sem.run_pure, h1]
        · cases hfd
      · cases h
    · cases h
  · exact val (indexPt_sound hH h ho (hf _ (by simp [Op.operands])) (hf _ (by simp [Op.operands])))
  · exact val (bin_sound h ho (hf _ (by simp [Op.operands])) (hf _ (by simp [Op.operands])))
  · rename_i op2 t x
    have hx := hf x (by simp [Op.operands])
    split at h
    · rename_i b hb
      injection h with h; subst h
      rw [hb] at hx
      simp only [VR] at hx
      refine val ⟨_, by rw [hx]; rfl, by simp [VR]⟩
    · rename_i k n hb
      injection h with h; subst h
      rw [hb] at hx
      simp only [VR] at hx
      refine val ⟨_, by rw [hx]; rfl, by simp [VR]⟩
    · cases h
  · rename_i s d x
    have hx := hf x (by simp [Op.operands])
    split at h
    · rename_i u k k' n hs hd hb
      injection h with h; subst h
      rw [hb] at hx
      simp only [VR] at hx
      refine val ⟨.int k (k.wrap n), ?_, by simp [VR]⟩
      rw [hx]
      unfold convert
      simp only [Sem.run_bind, run_underlying hs, run_underlying hd, Result.andThen_ok]
      rfl
    · cases h
  · rename_i t i
    have hx := hf t (by simp [Op.operands])
    split at h
    · rename_i vs hb
      obtain ⟨y, hy, rfl⟩ := Option.map_eq_some_iff.1 h
      rw [hb] at hx
      simp only [VR] at hx
      obtain ⟨us, hev, hus⟩ := hx
      obtain ⟨v, h1, h2⟩ := hus.at_ hy
      refine val ⟨v, ?_, h2⟩
      simp [hev, Instr.extract, h1]
    · cases h
  · rename_i g first cap
    injection h with h; subst h
    have key : ∀ (l : List Operand), (∀ x ∈ l, VR P w (imm A H ρ w) ρ (f x) (ev x)) → VRs P w (imm A H ρ w) ρ (l.map f) (l.map ev) := by
      intro l
      induction l with
      | nil => intro _; simp [VRs]
      | cons a r ih => intro h; exact VRs_cons.2 ⟨ev a, r.map ev, rfl, h a (by simp), ih fun x hx => h x (by simp [hx])⟩
    refine val ⟨_, rfl, ?_⟩
    simp only [VR]
    refine ⟨first.toList.map ev, cap.toList.map ev, by rw [← Array.toList_map, ← Array.toList_map, Array.toArray_toList, Array.toArray_toList], key _ fun x hx => hf x ?_, key _ fun x hx => hf x ?_⟩
    · simp [Op.operands] at hx ⊢; exact .inl hx
    · simp [Op.operands] at hx ⊢; exact .inr hx
  · rename_i x
    have hx := hf x (by simp [Op.operands])
    split at h <;> first | cases h | skip
    all_goals
      rename_i hb
      rw [hb] at hx
      have hx2 := hx
      simp only [VR] at hx
    · obtain ⟨b, hbl, hev⟩ := hx
      refine ⟨ev x, ?_, hx2⟩
      simp only [hev]; rfl
    · obtain ⟨b, hbl, hev⟩ := hx
      refine ⟨ev x, ?_, hx2⟩
      simp only [hev]; rfl
    · obtain ⟨b, off, us, hev, _⟩ := hx
      refine ⟨ev x, ?_, hx2⟩
      simp only [hev]; rfl
    · obtain ⟨vs, us, hev, _⟩ := hx
      refine ⟨ev x, ?_, hx2⟩
      simp only [hev]; rfl
    · obtain ⟨g, fi, ca, hev, _⟩ := hx
      refine ⟨ev x, ?_, hx2⟩
      simp only [hev]; rfl
  · rename_i t parts
    split at h
    · rename_i z pl hz hpl
      obtain ⟨cs, hcs, rfl⟩ := Option.map_eq_some_iff.1 h
      refine val (build_sound hH f ev hz hpl hcs fun p hp => hf p.2 ?_)
      simp only [Op.operands]
      simpa using ⟨p.1, hp⟩
    · cases h
  · rename_i t x lo hi
    refine val ?_
    refine sliceOf_sound (vlo := lo.map ev) (vhi := hi.map ev) h ho (hf x (by simp [Op.operands])) ?_ ?_ ?_ ?_
    · rintro y hy
      obtain ⟨z, rfl, rfl⟩ := Option.map_eq_some_iff.1 hy
      exact ⟨ev z, rfl, hf z (by simp [Op.operands])⟩
    · rintro y hy
      obtain ⟨z, rfl, rfl⟩ := Option.map_eq_some_iff.1 hy
      exact ⟨ev z, rfl, hf z (by simp [Op.operands])⟩
    · intro hn
      simpa using hn
    · intro hn
      simpa using hn
  · rename_i args ts
    split at h
    · rename_i x t hargs ht
      split at h
      · rename_i hlt
        obtain ⟨n, hn, rfl⟩ := Option.map_eq_some_iff.1 h
        have hargs' : args = #[x] := by
          apply Array.ext'; simpa using hargs
        subst hargs'
        have hx := hf x (by simp [Op.operands, Call.operands])
        have hl := lenOf_sound (t := t) (oty := oty) hH hlt hn hx
        refine ⟨.int .i64 n, ?_, by simp [VR]⟩
        have hl2 : (Builtin.len_ ts oty #[ev x]).run P w = .ok (.int .i64 n) w := by
          rw [← hl]
          unfold Builtin.len_
          simp [ht]
        simp only [resolve, Sem.run_bind, Sem.run_pure, Result.andThen_ok, invoke, builtin, List.map_toArray, List.map_cons, List.map_nil, hl2]
      · cases h
    · cases h
  · rename_i args ts
    split at h
    · rename_i x y hargs
      have hargs' : args = #[x, y] := by apply Array.ext'; simpa using hargs
      subst hargs'
      have hx := hf x (by simp [Op.operands, Call.operands])
      have hy := hf y (by simp [Op.operands, Call.operands])
      split at h
      · rename_i k a k' b hfx hfy
        injection h with h; subst h
        rw [hfx] at hx
        rw [hfy] at hy
        simp only [VR] at hx hy
        refine ⟨.int k (if b < a then b else a), ?_, by simp only [VR]⟩
        simp [resolve, invoke, builtin, hx, hy, Builtin.min_, Builtin.min2]
      · cases h
    · cases h
  · rename_i args ts
    split at h
    · rename_i x y hargs
      have hargs' : args = #[x, y] := by apply Array.ext'; simpa using hargs
      subst hargs'
      have hx := hf x (by simp [Op.operands, Call.operands])
      have hy := hf y (by simp [Op.operands, Call.operands])
      split at h
      · rename_i k a k' b hfx hfy
        injection h with h; subst h
        rw [hfx] at hx
        rw [hfy] at hy
        simp only [VR] at hx hy
        refine ⟨.int k (if b > a then b else a), ?_, by simp only [VR]⟩
        simp [resolve, invoke, builtin, hx, hy, Builtin.max_, Builtin.max2]
      · cases h
    · cases h
  · cases h
end
end Go.E

/-
  EngH: operations on memory: new blocks, stores, append.
-/
namespace Go.E
open Go.RowKit
set_option linter.unusedVariables false
set_option linter.unusedSimpArgs false

structure Res where
  obl : Prop
  val : AV
  upd : List (Nat × Option Chunk)
  kill : List Nat
def applyUpd : List (Nat × Option Chunk) → Heap → Heap
  | [], H => H
  | (l, some c) :: r, H => set (applyUpd r H) l c
  | (l, none) :: r, H => del (applyUpd r H) l
def AState.next (S : AState) (r : Res) : AState :=
  if r.kill.isEmpty then { S with hp := applyUpd r.upd S.hp } else { S with tm := killT r.kill S.tm, hp := applyUpd r.upd (killH r.kill S.hp), gh := S.gh.map (AV.kill r.kill) }
mutual
def resAV (H : Heap) : AV → AV
  | .sl l => match get? H l with
    | some (.row t xs) => .arr t xs
    | _ => .sl l
  | .agg cs => .agg (resAVs H cs)
  | x => x
def resAVs (H : Heap) : List AV → List AV
  | [] => []
  | x :: r => resAV H x :: resAVs H r
end
mutual
def refs (H : Heap) : AV → List Nat
  | .sl l => match get? H l with
    | some (.row t xs) => [l]
    | _ => []
  | .agg cs => refss H cs
  | _ => []
def refss (H : Heap) : List AV → List Nat
  | [] => []
  | x :: r => refs H x ++ refss H r
end
def drops (C : List Nat) : List (Nat × Option Chunk) := C.map fun l => (l, none)

theorem get?_applyUpd (u : List (Nat × Option Chunk)) (H : Heap) (l : Nat) : get? (applyUpd u H) l = match get? u l with
    | some c => c
    | none => get? H l := by
  induction u with
  | nil => rfl
  | cons x r ih =>
    obtain ⟨k, c⟩ := x
    cases c with
    | some c =>
      simp only [applyUpd, get?_set, get?]
      by_cases h : k = l
      · simp [h]
      · simp [h, ih]
    | none =>
      simp only [applyUpd, get?_del, get?]
      by_cases h : k = l
      · simp [h]
      · simp [h, ih]
theorem get?_append {α : Type} (u v : List (Nat × α)) (l : Nat) : get? (u ++ v) l = match get? u l with
    | some c => some c
    | none => get? v l := by
  induction u with
  | nil => rfl
  | cons x r ih =>
    obtain ⟨k, c⟩ := x
    simp only [List.cons_append, get?]
    by_cases h : k = l
    · simp [h]
    · simp [h, ih]
theorem get?_dropsL (C : List Nat) (l : Nat) : get? (drops C) l = if l ∈ C then some none else none := by
  induction C with
  | nil => rfl
  | cons x r ih =>
    have : drops (x :: r) = (x, none) :: drops r := rfl
    rw [this]
    simp only [get?, ih]
    by_cases h : x = l
    · simp [h]
    · simp [h, Ne.symm h]
theorem get?_upd1 {C : List Nat} {d : Nat} (c : Chunk) (H : Heap) (l : Nat) (hdC : d ∉ C) : get? (applyUpd (drops C ++ [(d, some c)]) H) l = if d = l then some c else if l ∈ C then none else get? H l := by
  rw [get?_applyUpd, get?_append, get?_dropsL]
  by_cases h1 : d = l
  · subst h1
    simp [hdC, get?]
  · by_cases h2 : l ∈ C
    · simp [h1, h2]
    · simp [h1, h2, get?]
theorem AV.kill_nil (x : AV) : x.kill [] = x := by simp [AV.kill]
theorem Chunk.kill_nil (c : Chunk) : c.kill [] = c := by
  have : (AV.kill []) = id := by funext x; simp [AV.kill_nil]
  cases c <;> simp [Chunk.kill, this]
section
variable {P : Program} {A : Nat → Prop} {w : World} {ρ : Nat → Value} {H : Heap}
theorem row_DR {I I' : Nat → Prop} (e : Ext w I w I') {t : Ty} {xs : List t.T} {rv : Value} (h : ChunkR P w I ρ (.row t xs) rv) (hb : ∀ b, blkOf rv = some b → I' b) : DR w I' (.list t) xs [rv] := by
  rcases h with ⟨hrv, hnil⟩ | ⟨b, off, cap, arr, ety, hrv, hh, hc, hs, hr⟩
  · subst hnil
    subst hrv
    exact ⟨none, 0, rfl, Nat.le_refl _, fun h => by simp at h⟩
  · subst hrv
    refine ⟨_, cap, rfl, hc, fun _ => ⟨b, off, rfl, hb b (by simp [blkOf]), fun i x hi => ?_⟩⟩
    obtain ⟨us, hl, hcell, hd⟩ := hr i x hi
    exact ⟨us, hl, fun j v hj => by simp [World.cell?, hh, hcell j v hj], DR.ext e t x us hd⟩
mutual
theorem resAV_sound (hH : HeapR P A H ρ w) {I' : Nat → Prop} (h1 : ∀ b, imm A H ρ w b → I' b) : ∀ (x : AV) (v : Value), (∀ l ∈ refs H x, ∀ b, blkOf (ρ l) = some b → I' b) → VR P w (imm A H ρ w) ρ x v → VR P w I' ρ (resAV H x) v
  | .sl l, v, hr, hv => by
    unfold resAV
    split
    · rename_i t xs hc
      simp only [VR] at hv ⊢
      subst hv
      exact row_DR ⟨Nat.le_refl _, fun b hb => ⟨h1 b hb, rfl⟩⟩ (hH.chunk l _ hc) (fun b hb => hr l (by simp [refs, hc]) b hb)
    · simpa [VR] using hv
  | .agg cs, v, hr, hv => by
    unfold resAV
    simp only [VR] at hv ⊢
    obtain ⟨vs, hv1, hv2⟩ := hv
    exact ⟨vs, hv1, resAVs_sound hH h1 cs vs (fun l hl => hr l (by simpa [refs] using hl)) hv2⟩
  | .int _ _, v, hr, hv => VR.ext (w := w) (I := imm A H ρ w) (ρ := ρ) ⟨Nat.le_refl _, fun b hb => ⟨h1 b hb, rfl⟩⟩ _ v (fun _ _ => rfl) hv
  | .bool _, v, hr, hv => VR.ext (w := w) (I := imm A H ρ w) (ρ := ρ) ⟨Nat.le_refl _, fun b hb => ⟨h1 b hb, rfl⟩⟩ _ v (fun _ _ => rfl) hv
  | .str _, v, hr, hv => VR.ext (w := w) (I := imm A H ρ w) (ρ := ρ) ⟨Nat.le_refl _, fun b hb => ⟨h1 b hb, rfl⟩⟩ _ v (fun _ _ => rfl) hv
  | .nilp, v, hr, hv => VR.ext (w := w) (I := imm A H ρ w) (ρ := ρ) ⟨Nat.le_refl _, fun b hb => ⟨h1 b hb, rfl⟩⟩ _ v (fun _ _ => rfl) hv
  | .nils, v, hr, hv => VR.ext (w := w) (I := imm A H ρ w) (ρ := ρ) ⟨Nat.le_refl _, fun b hb => ⟨h1 b hb, rfl⟩⟩ _ v (fun _ _ => rfl) hv
  | .nilm, v, hr, hv => VR.ext (w := w) (I := imm A H ρ w) (ρ := ρ) ⟨Nat.le_refl _, fun b hb => ⟨h1 b hb, rfl⟩⟩ _ v (fun _ _ => rfl) hv
  | .nilf, v, hr, hv => VR.ext (w := w) (I := imm A H ρ w) (ρ := ρ) ⟨Nat.le_refl _, fun b hb => ⟨h1 b hb, rfl⟩⟩ _ v (fun _ _ => rfl) hv
  | .ptr _ _, v, hr, hv => VR.ext (w := w) (I := imm A H ρ w) (ρ := ρ) ⟨Nat.le_refl _, fun b hb => ⟨h1 b hb, rfl⟩⟩ _ v (fun _ _ => rfl) hv
  | .pel _ _ _ _ _, v, hr, hv => VR.ext (w := w) (I := imm A H ρ w) (ρ := ρ) ⟨Nat.le_refl _, fun b hb => ⟨h1 b hb, rfl⟩⟩ _ v (fun _ _ => rfl) hv
  | .mp _, v, hr, hv => VR.ext (w := w) (I := imm A H ρ w) (ρ := ρ) ⟨Nat.le_refl _, fun b hb => ⟨h1 b hb, rfl⟩⟩ _ v (fun _ _ => rfl) hv
  | .arr _ _, v, hr, hv => VR.ext (w := w) (I := imm A H ρ w) (ρ := ρ) ⟨Nat.le_refl _, fun b hb => ⟨h1 b hb, rfl⟩⟩ _ v (fun _ _ => rfl) hv
  | .own _ _, v, hr, hv => VR.ext (w := w) (I := imm A H ρ w) (ρ := ρ) ⟨Nat.le_refl _, fun b hb => ⟨h1 b hb, rfl⟩⟩ _ v (fun _ _ => rfl) hv
  | .cp _ _ _, v, hr, hv => VR.ext (w := w) (I := imm A H ρ w) (ρ := ρ) ⟨Nat.le_refl _, fun b hb => ⟨h1 b hb, rfl⟩⟩ _ v (fun _ _ => rfl) hv
  | .av _ _, v, hr, hv => VR.ext (w := w) (I := imm A H ρ w) (ρ := ρ) ⟨Nat.le_refl _, fun b hb => ⟨h1 b hb, rfl⟩⟩ _ v (fun _ _ => rfl) hv
  | .fn _ _ _, v, hr, hv => VR.ext (w := w) (I := imm A H ρ w) (ρ := ρ) ⟨Nat.le_refl _, fun b hb => ⟨h1 b hb, rfl⟩⟩ _ v (fun _ _ => rfl) hv
  | .pfn _ _ _, v, hr, hv => VR.ext (w := w) (I := imm A H ρ w) (ρ := ρ) ⟨Nat.le_refl _, fun b hb => ⟨h1 b hb, rfl⟩⟩ _ v (fun _ _ => rfl) hv
  | .tup _, v, hr, hv => VR.ext (w := w) (I := imm A H ρ w) (ρ := ρ) ⟨Nat.le_refl _, fun b hb => ⟨h1 b hb, rfl⟩⟩ _ v (fun _ _ => rfl) hv
  | .cond _ _, v, hr, hv => VR.ext (w := w) (I := imm A H ρ w) (ρ := ρ) ⟨Nat.le_refl _, fun b hb => ⟨h1 b hb, rfl⟩⟩ _ v (fun _ _ => rfl) hv
  | .junk, v, hr, hv => VR.ext (w := w) (I := imm A H ρ w) (ρ := ρ) ⟨Nat.le_refl _, fun b hb => ⟨h1 b hb, rfl⟩⟩ _ v (fun _ _ => rfl) hv
theorem resAVs_sound (hH : HeapR P A H ρ w) {I' : Nat → Prop} (h1 : ∀ b, imm A H ρ w b → I' b) : ∀ (x : List AV) (v : List Value), (∀ l ∈ refss H x, ∀ b, blkOf (ρ l) = some b → I' b) → VRs P w (imm A H ρ w) ρ x v → VRs P w I' ρ (resAVs H x) v
  | [], v, hr, hv => by simpa [resAVs, VRs] using hv
  | x :: r, v, hr, hv => by
    obtain ⟨u, us, hv1, hv2, hv3⟩ := VRs_cons.1 hv
    unfold resAVs
    exact VRs_cons.2 ⟨u, us, hv1, resAV_sound hH h1 x u (fun l hl => hr l (by simp [refss, hl])) hv2, resAVs_sound hH h1 r us (fun l hl => hr l (by simp [refss, hl])) hv3⟩
end
end

def upρ (ρ : Nat → Value) (d : Nat) (v : Value) : Nat → Value := fun l => if l = d then v else ρ l
theorem upρ_same (ρ : Nat → Value) (d : Nat) (v : Value) : upρ ρ d v d = v := by simp [upρ]
theorem upρ_ne (ρ : Nat → Value) (d : Nat) (v : Value) {l : Nat} (h : l ≠ d) : upρ ρ d v l = ρ l := by simp [upρ, h]
section
variable {P : Program} {A : Nat → Prop} {w w' : World} {S : AState} {ρ : Nat → Value}
theorem step_new {d : Nat} {C : List Nat} {c : Chunk} {rv : Value} (hdC : d ∉ C) (hf : S.fresh d = true) (hos : w'.os = w.os) (htape : w'.tape = w.tape) (hout : w'.output = w.output)
    (hsize : w.heap.size ≤ w'.heap.size) (hblk : ∀ b, b < w.heap.size → w'.heap[b]? = w.heap[b]?) (hrv : ∀ b, blkOf rv = some b → w.heap.size ≤ b) :
    Step P S ρ w (C ++ [d]) [] (applyUpd (drops C ++ [(d, some c)]) (killH [] S.hp)) (upρ ρ d rv) w' where
  same := by
    intro l hl
    simp only [List.mem_append, List.mem_singleton, not_or] at hl
    rw [get?_upd1 _ _ _ hdC, if_neg (Ne.symm hl.2), if_neg hl.1, get?_killH]
  refs := by
    intro l hl
    simp only [List.mem_append, List.mem_singleton, not_or] at hl
    exact upρ_ne _ _ _ hl.2
  free := by
    intro l hl
    by_cases h : l = d
    · subst h; exact .inr (.inl hf)
    · exact .inr (.inr (upρ_ne _ _ _ h))
  os := hos
  tape := htape
  output := hout
  size := hsize
  blk := fun b hb _ => hblk b hb
  new := by
    intro l c' b hl hc hb
    rw [get?_upd1 _ _ _ hdC] at hc
    by_cases h : d = l
    · subst h
      rw [upρ_same] at hb
      exact .inl (hrv b hb)
    · rw [if_neg h] at hc
      split at hc
      · cases hc
      · rename_i hC
        simp only [List.mem_append, List.mem_singleton] at hl
        rcases hl with hl | hl
        · exact absurd hl hC
        · exact absurd hl.symm h
  apart := by
    intro l c1 l' c2 hl hl' h1 h2 hne b hb
    rw [get?_upd1 _ _ _ hdC] at h1 h2
    simp only [List.mem_append, List.mem_singleton] at hl hl'
    by_cases h : d = l
    · by_cases h' : d = l'
      · exact absurd (h.symm.trans h') hne
      · rw [if_neg h'] at h2
        split at h2
        · cases h2
        · rename_i hC
          rcases hl' with hl' | hl'
          · exact absurd hl' hC
          · exact absurd hl'.symm h'
    · rw [if_neg h] at h1
      split at h1
      · cases h1
      · rename_i hC
        rcases hl with hl | hl
        · exact absurd hl hC
        · exact absurd hl.symm h
theorem step_move {d l : Nat} {c c0 : Chunk} {rv : Value} (hl0 : get? S.hp l = some c0) (hdl : d ≠ l) (hf : S.fresh d = true) (hos : w'.os = w.os) (htape : w'.tape = w.tape) (hout : w'.output = w.output)
    (hsize : w.heap.size ≤ w'.heap.size) (hblk : ∀ b, b < w.heap.size → blkOf (ρ l) ≠ some b → w'.heap[b]? = w.heap[b]?) (hrv : ∀ b, blkOf rv = some b → w.heap.size ≤ b ∨ blkOf (ρ l) = some b) :
    Step P S ρ w ([l] ++ [d]) [] (applyUpd (drops [l] ++ [(d, some c)]) (killH [] S.hp)) (upρ ρ d rv) w' where
  same := by
    intro j hj
    simp only [List.mem_append, List.mem_singleton, not_or] at hj
    rw [get?_upd1 _ _ _ (by simpa using hdl), if_neg (Ne.symm hj.2), if_neg (by simpa using hj.1), get?_killH]
  refs := by
    intro j hj
    simp only [List.mem_append, List.mem_singleton, not_or] at hj
    exact upρ_ne _ _ _ hj.2
  free := by
    intro j hj
    by_cases h : j = d
    · subst h; exact .inr (.inl hf)
    · exact .inr (.inr (upρ_ne _ _ _ h))
  os := hos
  tape := htape
  output := hout
  size := hsize
  blk := fun b hb h => hblk b hb (h l c0 (by simp) hl0)
  new := by
    intro j c' b hj hc hb
    rw [get?_upd1 _ _ _ (by simpa using hdl)] at hc
    by_cases h : d = j
    · subst h
      rw [upρ_same] at hb
      rcases hrv b hb with h1 | h1
      · exact .inl h1
      · exact .inr ⟨l, c0, by simp, hl0, h1⟩
    · rw [if_neg h] at hc
      split at hc
      · cases hc
      · rename_i hC
        simp only [List.mem_append, List.mem_singleton] at hj
        rcases hj with hj | hj
        · exact absurd (by simpa using hj) hC
        · exact absurd hj.symm h
  apart := by
    intro j c1 j' c2 hj hj' h1 h2 hne b hb
    rw [get?_upd1 _ _ _ (by simpa using hdl)] at h1 h2
    simp only [List.mem_append, List.mem_singleton] at hj hj'
    by_cases h : d = j
    · by_cases h' : d = j'
      · exact absurd (h.symm.trans h') hne
      · rw [if_neg h'] at h2
        split at h2
        · cases h2
        · rename_i hC
          rcases hj' with hj' | hj'
          · exact absurd (by simpa using hj') hC
          · exact absurd hj'.symm h'
    · rw [if_neg h] at h1
      split at h1
      · cases h1
      · rename_i hC
        rcases hj with hj | hj
        · exact absurd (by simpa using hj) hC
        · exact absurd hj.symm h
theorem step_put {l : Nat} {C K : List Nat} {c c0 : Chunk} {rv : Value} (hl0 : get? S.hp l = some c0) (hlC : l ∉ C) (hK : l ∈ K ∨ rv = ρ l) (hos : w'.os = w.os) (htape : w'.tape = w.tape) (hout : w'.output = w.output)
    (hsize : w.heap.size ≤ w'.heap.size) (hblk : ∀ b, b < w.heap.size → blkOf (ρ l) ≠ some b → w'.heap[b]? = w.heap[b]?) (hrv : ∀ b, blkOf rv = some b → w.heap.size ≤ b ∨ blkOf (ρ l) = some b) :
    Step P S ρ w (C ++ [l]) K (applyUpd (drops C ++ [(l, some c)]) (killH K S.hp)) (upρ ρ l rv) w' where
  same := by
    intro j hj
    simp only [List.mem_append, List.mem_singleton, not_or] at hj
    rw [get?_upd1 _ _ _ hlC, if_neg (Ne.symm hj.2), if_neg hj.1, get?_killH]
  refs := by
    intro j hj
    simp only [List.mem_append, List.mem_singleton, not_or] at hj
    exact upρ_ne _ _ _ hj.2
  free := by
    intro j hj
    by_cases h : j = l
    · subst h
      rcases hK with h | h
      · exact .inl h
      · exact .inr (.inr (by rw [upρ_same, h]))
    · exact .inr (.inr (upρ_ne _ _ _ h))
  os := hos
  tape := htape
  output := hout
  size := hsize
  blk := fun b hb h => hblk b hb (h l c0 (by simp) hl0)
  new := by
    intro j c' b hj hc hb
    rw [get?_upd1 _ _ _ hlC] at hc
    by_cases h : l = j
    · subst h
      rw [upρ_same] at hb
      rcases hrv b hb with h1 | h1
      · exact .inl h1
      · exact .inr ⟨l, c0, by simp, hl0, h1⟩
    · rw [if_neg h] at hc
      split at hc
      · cases hc
      · rename_i hC
        simp only [List.mem_append, List.mem_singleton] at hj
        rcases hj with hj | hj
        · exact absurd hj hC
        · exact absurd hj.symm h
  apart := by
    intro j c1 j' c2 hj hj' h1 h2 hne b hb
    rw [get?_upd1 _ _ _ hlC] at h1 h2
    simp only [List.mem_append, List.mem_singleton] at hj hj'
    by_cases h : l = j
    · by_cases h' : l = j'
      · exact absurd (h.symm.trans h') hne
      · rw [if_neg h'] at h2
        split at h2
        · cases h2
        · rename_i hC
          rcases hj' with hj' | hj'
          · exact absurd hj' hC
          · exact absurd hj'.symm h'
    · rw [if_neg h] at h1
      split at h1
      · cases h1
      · rename_i hC
        rcases hj with hj | hj
        · exact absurd hj hC
        · exact absurd hj.symm h
end
end Go.E

