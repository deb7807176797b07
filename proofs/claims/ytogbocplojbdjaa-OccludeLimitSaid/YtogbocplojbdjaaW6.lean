/-
  The engine, part 6: a function's code over abstract states gives conditions in plain Lean.
-/
import Derived.Test.YtogbocplojbdjaaW5
import Derived.Sort.Row
import Derived.Sort.Grow
import Derived.Shelf.GgSortFunc.RowK
import Derived.Shelf.GgSortFunc.InsertionK
import Derived.Lib.SlicesCompact
/-
  EngZi: library functions that lay a row anew.
-/
namespace Go.E
open Go.RowKit Go.Sort
set_option linter.unusedVariables false
set_option linter.unusedSimpArgs false
def fenc : (t : Ty) → t.T → List Value
  | .int k, x => [.int k x]
  | .bool, x => [.bool x]
  | .str, x => [.string x]
  | .list _, _ => []
  | .prod a b, x => fenc a x.1 ++ fenc b x.2
section
variable {P : Program} {A : Nat → Prop} {w : World} {ρ : Nat → Value} {I : Nat → Prop}
theorem DR_fenc : ∀ (t : Ty) (x : t.T) (vs : List Value), t.flat = true → (DR w I t x vs ↔ vs = fenc t x)
  | .int k, x, vs, _ => by simp [DR, fenc]
  | .bool, x, vs, _ => by simp [DR, fenc]
  | .str, x, vs, _ => by simp [DR, fenc]
  | .list t, x, vs, h => by simp [Ty.flat] at h
  | .prod a b, x, vs, h => by
    simp only [Ty.flat, Bool.and_eq_true] at h
    simp only [DR, fenc]
    constructor
    · rintro ⟨us, ws, rfl, h1, h2⟩
      rw [(DR_fenc a _ _ h.1).1 h1, (DR_fenc b _ _ h.2).1 h2]
    · rintro rfl
      exact ⟨_, _, rfl, (DR_fenc a _ _ h.1).2 rfl, (DR_fenc b _ _ h.2).2 rfl⟩
theorem fenc_len : ∀ (t : Ty) (x : t.T), t.flat = true → (fenc t x).length = t.size
  | .int k, x, _ => rfl
  | .bool, x, _ => rfl
  | .str, x, _ => rfl
  | .list t, x, h => by simp [Ty.flat] at h
  | .prod a b, x, h => by
    simp only [Ty.flat, Bool.and_eq_true] at h
    simp only [fenc, List.length_append, Ty.size, fenc_len a _ h.1, fenc_len b _ h.2]
theorem row_block {t : Ty} {xs : List t.T} {blk off cap : Nat} (hH : HeapR P A [(0, .row t xs)] ρ w) (hρ : ρ 0 = .slice (some ⟨blk, off, none⟩) xs.length cap) :
    ∃ arr e, w.heap[blk]? = some (.cells arr e (0, 0)) ∧ xs.length ≤ cap ∧ off + cap * t.size ≤ arr.size ∧ RowAt w (imm A [(0, .row t xs)] ρ w) t xs arr off := by
  have := hH.chunk 0 _ rfl
  simp only [ChunkR] at this
  rcases this with ⟨h, _⟩ | ⟨b, o, c, arr, e, h, h1, h2, h3, h4⟩
  · rw [hρ] at h; cases h
  · rw [hρ] at h
    injection h with h hl hc
    injection h with h
    injection h with hb ho
    subst hb ho hc
    exact ⟨arr, e, h1, h2, h3, h4⟩
theorem row_cases {t : Ty} {xs : List t.T} (hH : HeapR P A [(0, .row t xs)] ρ w) : (ρ 0 = .slice none 0 0 ∧ xs = []) ∨ ∃ blk off cap, ρ 0 = .slice (some ⟨blk, off, none⟩) xs.length cap := by
  have := hH.chunk 0 _ rfl
  simp only [ChunkR] at this
  rcases this with h | ⟨b, o, c, arr, e, h, _⟩
  · exact .inl h
  · exact .inr ⟨b, o, c, h⟩
theorem row_cell {t : Ty} {xs : List t.T} {blk off cap : Nat} (hf : t.flat = true) (hH : HeapR P A [(0, .row t xs)] ρ w) (hρ : ρ 0 = .slice (some ⟨blk, off, none⟩) xs.length cap)
    {i j : Nat} {x : t.T} {u : Value} (hx : xs[i]? = some x) (hu : (fenc t x)[j]? = some u) : w.cell? ⟨blk, off + (i * t.size + j), none⟩ = some u ∧ w.frozen? ⟨blk, off + (i * t.size + j), none⟩ = false ∧ blk < w.heap.size := by
  obtain ⟨arr, e, hb, _, _, hr⟩ := row_block hH hρ
  obtain ⟨us, hl, hc, hd⟩ := hr i x hx
  rw [(DR_fenc t x us hf).1 hd] at hc
  have := hc j u hu
  have hlt : blk < w.heap.size := (Array.getElem?_eq_some_iff.1 hb).1
  refine ⟨?_, ?_, hlt⟩
  · unfold World.cell?
    rw [hb]
    simp only [Option.isSome_none]
    rw [← Nat.add_assoc]
    exact this
  · unfold World.frozen?
    rw [hb]
    simp
theorem lay_heap {α : Type} [Inhabited α] {enc : α → Value} {d : Array α} {blk off n : Nat} {os : Array Obj} {b : Nat} (hb : b < w.heap.size) :
    (grow (putRow enc (Sort.ahead w n) blk off d) os).heap[b]? = if b = blk then (w.heap[b]?).map (onCells (putCells enc off d)) else w.heap[b]? := by
  unfold grow putRow mapBlock Sort.ahead
  simp only
  rw [Array.getElem?_append_left (by simpa using hb), Array.getElem?_modify]
  by_cases h : blk = b
  · rw [if_pos h, if_pos h.symm]
  · rw [if_neg h, if_neg (Ne.symm h)]
theorem rep_lay {t : Ty} {xs ys : List t.T} {blk off cap n : Nat} {os : Array Obj} {α : Type} [Inhabited α] {enc : α → Value} {d : Array α} (hf : t.flat = true) (hH : HeapR P A [(0, .row t xs)] ρ w)
    (hρ : ρ 0 = .slice (some ⟨blk, off, none⟩) xs.length cap) (hl : ys.length ≤ xs.length) (hd : ∀ i x, ys[i]? = some x → ∀ j u, (fenc t x)[j]? = some u → i * t.size + j < d.size ∧ enc d[i * t.size + j]! = u)
    (lab : Nat) {tmv : AV} {res : Value} {gh : List AV} {gv : List Value}
    (htm : ∀ w' I', VR P w' I' (fun l => if l = lab then .slice (some ⟨blk, off, none⟩) ys.length cap else ρ l) tmv res)
    (hgh : ∀ w' I', VRs P w' I' (fun l => if l = lab then .slice (some ⟨blk, off, none⟩) ys.length cap else ρ l) gh gv) (hnc : notCond tmv = true) :
    Rep P A w ⟨blksOf [(0, .row t xs)] ρ, gv⟩ ⟨[(0, tmv)], [(lab, .row t ys)], 1, gh⟩ (fun l => if l = lab then .slice (some ⟨blk, off, none⟩) ys.length cap else ρ l) { tmps := #[res], defers := [] } (grow (putRow enc (Sort.ahead w n) blk off d) os) := by
  obtain ⟨arr, e, hb, h1, h2, hr⟩ := row_block hH hρ
  have hlt : blk < w.heap.size := (Array.getElem?_eq_some_iff.1 hb).1
  have hsz : w.heap.size ≤ (grow (putRow enc (Sort.ahead w n) blk off d) os).heap.size := by
    unfold grow putRow mapBlock Sort.ahead
    simp
  have hb' : (grow (putRow enc (Sort.ahead w n) blk off d) os).heap[blk]? = some (.cells (putCells enc off d arr) e (0, 0)) := by
    rw [lay_heap hlt, if_pos rfl, hb]
    rfl
  have hok : A blk := hH.ok 0 _ blk rfl (by rw [hρ]; rfl)
  have hrow : ∀ I', RowAt (grow (putRow enc (Sort.ahead w n) blk off d) os) I' t ys (putCells enc off d arr) off := by
    intro I' i x hx
    refine ⟨fenc t x, fenc_len t x hf, fun j u hu => ?_, (DR_fenc t x _ hf).2 rfl⟩
    obtain ⟨g1, g2⟩ := hd i x hx j u hu
    have hi : i < ys.length := (List.getElem?_eq_some_iff.1 hx).1
    have hj : j < t.size := by rw [← fenc_len t x hf]; exact (List.getElem?_eq_some_iff.1 hu).1
    have hlt2 : off + i * t.size + j < arr.size := by
      have : (i + 1) * t.size ≤ cap * t.size := Nat.mul_le_mul_right _ (by omega)
      rw [Nat.add_mul, Nat.one_mul] at this
      omega
    unfold putCells
    rw [Array.getElem?_mapIdx, Array.getElem?_eq_getElem hlt2]
    simp only [Option.map_some]
    rw [if_pos ⟨by omega, by omega⟩, show off + i * t.size + j - off = i * t.size + j by omega, g2]
  have hget : ∀ l c, get? [(lab, Chunk.row t ys)] l = some c → l = lab ∧ c = .row t ys := by
    intro l c hl
    simp only [get?] at hl
    split at hl
    · rename_i h
      injection hl with hl
      exact ⟨h.symm, hl.symm⟩
    · cases hl
  refine ⟨fun s v hv => ?_, ⟨fun l c hc => ?_, fun l c b hc hbl => ?_, fun b hb2 => ?_, fun l c l' c' hc hc' hne => ?_⟩, ⟨rfl, rfl, rfl, hsz, fun b hb2 hn => ?_⟩, fun l c hc b hbl => ?_, hgh _ _, rfl, rfl⟩
  · simp only [get?] at hv
    split at hv
    · rename_i hs
      subst hs
      injection hv with hv
      subst hv
      have := htm (grow (putRow enc (Sort.ahead w n) blk off d) os) (imm A [(lab, .row t ys)] (fun l => if l = lab then .slice (some ⟨blk, off, none⟩) ys.length cap else ρ l) (grow (putRow enc (Sort.ahead w n) blk off d) os))
      cases tmv <;> first | exact this | cases hnc
    · cases hv
  · obtain ⟨rfl, rfl⟩ := hget l c hc
    simp only [ChunkR]
    refine .inr ⟨blk, off, cap, _, e, ?_, hb', by omega, ?_, hrow _⟩
    · simp
    · unfold putCells
      simpa using h2
  · obtain ⟨rfl, rfl⟩ := hget l c hc
    simp only [if_true, blkOf] at hbl
    injection hbl with hbl
    rw [← hbl]
    exact hok
  · exact hH.fresh b (by omega)
  · obtain ⟨rfl, rfl⟩ := hget l c hc
    obtain ⟨rfl, rfl⟩ := hget l' c' hc'
    exact absurd rfl hne
  · rw [lay_heap hb2, if_neg]
    rintro rfl
    exact hn ⟨0, _, rfl, by rw [hρ]; rfl⟩
  · obtain ⟨rfl, rfl⟩ := hget l c hc
    simp only [if_true, blkOf] at hbl
    injection hbl with hbl
    right
    exact ⟨0, _, rfl, by rw [hρ, ← hbl]; rfl⟩
theorem rep_none {t : Ty} (hH : HeapR P A [(0, .row t ([] : List t.T))] ρ w) (hρ : ρ 0 = .slice none 0 0)
    (lab : Nat) {tmv : AV} {res : Value} {gh : List AV} {gv : List Value}
    (htm : ∀ w' I', VR P w' I' (fun l => if l = lab then .slice none 0 0 else ρ l) tmv res)
    (hgh : ∀ w' I', VRs P w' I' (fun l => if l = lab then .slice none 0 0 else ρ l) gh gv) (hnc : notCond tmv = true) :
    Rep P A w ⟨blksOf [(0, .row t ([] : List t.T))] ρ, gv⟩ ⟨[(0, tmv)], [(lab, .row t [])], 1, gh⟩ (fun l => if l = lab then .slice none 0 0 else ρ l) { tmps := #[res], defers := [] } w := by
  have hget : ∀ l c, get? [(lab, Chunk.row t [])] l = some c → l = lab ∧ c = .row t [] := by
    intro l c hl
    simp only [get?] at hl
    split at hl
    · rename_i h
      injection hl with hl
      exact ⟨h.symm, hl.symm⟩
    · cases hl
  refine ⟨fun s v hv => ?_, ⟨fun l c hc => ?_, fun l c b hc hbl => ?_, fun b hb2 => hH.fresh b hb2, fun l c l' c' hc hc' hne => ?_⟩, ⟨rfl, rfl, rfl, Nat.le_refl _, fun b hb2 hn => rfl⟩, fun l c hc b hbl => ?_, hgh _ _, rfl, rfl⟩
  · simp only [get?] at hv
    split at hv
    · rename_i hs
      subst hs
      injection hv with hv
      subst hv
      have := htm w (imm A [(lab, .row t [])] (fun l => if l = lab then .slice none 0 0 else ρ l) w)
      cases tmv <;> first | exact this | cases hnc
    · cases hv
  · obtain ⟨rfl, rfl⟩ := hget l c hc
    simp only [ChunkR]
    exact .inl (by simp)
  · obtain ⟨rfl, rfl⟩ := hget l c hc
    simp [blkOf] at hbl
  · obtain ⟨rfl, rfl⟩ := hget l c hc
    obtain ⟨rfl, rfl⟩ := hget l' c' hc'
    exact absurd rfl hne
  · obtain ⟨rfl, rfl⟩ := hget l c hc
    simp [blkOf] at hbl
end
end Go.E

/-
  EngZj: contracts of sorting and compacting, out of what the library's own walks say.
-/
namespace Go.E
open Go.RowKit Go.Sort Go.Proofs
set_option linter.unusedVariables false
set_option linter.unusedSimpArgs false
def sortI (xs : List Int) : List Int := xs.mergeSort fun a b => decide (a ≤ b)
theorem sortI_len (xs : List Int) : (sortI xs).length = xs.length := by unfold sortI; exact List.length_mergeSort _
def g_sortI : GC where
  X := List Int
  rd := fun H ys => match ys with
    | [.sl l] => rdR ⟨[], H, 0, []⟩ l (.int .i64)
    | _ => none
  args := fun _ => [.sl 0]
  hp := fun x => [(0, .row (.int .i64) x)]
  pre := fun x => x.length < 4611686018427387904
  F := fun x => ⟨[(0, .tup [])], [(0, .row (.int .i64) (sortI x))], 1, [.sl 0]⟩
def g_compactI : GC where
  X := List Int
  rd := fun H ys => match ys with
    | [.sl l] => rdR ⟨[], H, 0, []⟩ l (.int .i64)
    | _ => none
  args := fun _ => [.sl 0]
  hp := fun x => [(0, .row (.int .i64) x)]
  pre := fun x => x.length ≤ 9223372036854775807
  F := fun x => ⟨[(0, .sl 9)], [(9, .row (.int .i64) (Lib.compact x))], 1, [.junk]⟩
def g_sortK (t : Ty) (g : Nat) (f : List t.T → List t.T) : GC where
  X := List t.T
  rd := fun H ys => match ys with
    | [.sl l, .fn g' [] []] => match Nat.beq g' g with
      | true => rdR ⟨[], H, 0, []⟩ l t
      | false => none
    | _ => none
  args := fun _ => [.sl 0, .fn g [] []]
  hp := fun x => [(0, .row t x)]
  pre := fun x => x.length < 4611686018427387904
  F := fun x => ⟨[(0, .tup [])], [(0, .row t (f x))], 1, [.sl 0, .junk]⟩
section
variable {P : Program} {f : FuncId}
theorem int_holds {A : Nat → Prop} {w : World} {ρ : Nat → Value} {xs : List Int} {blk off cap : Nat} (hH : HeapR P A [(0, .row (.int .i64) xs)] ρ w) (hρ : ρ 0 = .slice (some ⟨blk, off, none⟩) xs.length cap) : Holds (Value.int .i64) w blk off xs.toArray := by
  intro j hj
  have hj : j < xs.length := by simpa using hj
  have := row_cell (t := .int .i64) rfl hH hρ (i := j) (j := 0) (x := xs[j]) (List.getElem?_eq_getElem hj) rfl
  simp only [Ty.size, Nat.mul_one, Nat.add_zero] at this
  refine ⟨?_, this.2.1⟩
  rw [this.1, getElem!_pos _ _ (by simpa using hj)]
  simp
theorem int_lay {ys : List Int} {d : Array Int} (h : ∀ (i : Nat) (x : Int), ys[i]? = some x → d[i]? = some x) : ∀ (i : Nat) (x : Ty.T (.int .i64)), (show List Int from ys)[i]? = some x → ∀ (j : Nat) (u : Value), (fenc (.int .i64) x)[j]? = some u → i * Ty.size (.int .i64) + j < d.size ∧ Value.int .i64 d[i * Ty.size (.int .i64) + j]! = u := by
  intro i x hx j u hu
  cases j with
  | succ j => simp [fenc] at hu
  | zero =>
    have := h i x hx
    obtain ⟨h1, h2⟩ := Array.getElem?_eq_some_iff.1 this
    simp only [Ty.size, Nat.mul_one, Nat.add_zero]
    refine ⟨h1, ?_⟩
    rw [getElem!_pos d i h1, h2]
    simpa [fenc] using hu
theorem vrs_one {A : Nat → Prop} {w : World} {ρ : Nat → Value} {vs : List Value} (h : VRs P w A ρ [.sl 0] vs) : vs = [ρ 0] := by
  obtain ⟨v, us, rfl, h1, h2⟩ := VRs_cons.1 h
  have : us = [] := by simpa [VRs] using h2
  rw [this]
  have : v = ρ 0 := by simpa [VR] using h1
  rw [this]
theorem ksound_sortI (hE : Enters P f)
    (hcon : ∀ (blk off cap : Nat) (zs : List Int) (w : World), Holds (Value.int .i64) w blk off zs.toArray → blk < w.heap.size → zs.length < 4611686018427387904 →
      Calls P f #[.slice (some ⟨blk, off, none⟩) zs.length cap] w fun e w' => e = .returned (.tuple #[]) ∧ ∃ n os, w' = grow (putRow (Value.int .i64) (Sort.ahead w n) blk off (zs.mergeSort fun x y => decide (x ≤ y)).toArray) os)
    (hnil : ∀ w : World, Calls P f #[.slice none 0 0] w fun e w' => e = .returned (.tuple #[]) ∧ w' = w) : KSound P f fun Γc => gCon Γc g_sortI := by
  intro Γc hΓ
  refine gsound hE hΓ (fun x => rfl) fun (x : List Int) hx A w ρ vs us hH hv hu => ?_
  have hvs := vrs_one hv
  have hus : us = [] := by simpa [VRs, g_sortI] using hu
  subst hvs hus
  rcases row_cases hH with ⟨h0, rfl⟩ | ⟨blk, off, cap, h0⟩
  · rw [h0]
    refine (hnil w).mono ?_
    rintro e w' ⟨rfl, rfl⟩
    refine ⟨.tuple #[], (fun l => if l = 0 then .slice none 0 0 else ρ l), rfl, ?_⟩
    show Rep P A _ _ ⟨[(0, .tup [])], [(0, .row (.int .i64) (sortI []))], 1, [.sl 0]⟩ _ _ _
    have hn : sortI [] = [] := by simp [sortI]
    rw [hn]
    refine rep_none hH h0 0 (fun _ _ => ⟨[], rfl, by simp [VRs]⟩) (fun _ _ => ?_) rfl
    simp [VRs, VR, h0]
  · have hlt : blk < w.heap.size := by
      obtain ⟨arr, e, hb, _⟩ := row_block hH h0
      exact (Array.getElem?_eq_some_iff.1 hb).1
    rw [h0]
    refine (hcon blk off cap x w (int_holds hH h0) hlt hx).mono ?_
    rintro e w' ⟨rfl, n, os, rfl⟩
    refine ⟨.tuple #[], (fun l => if l = 0 then .slice (some ⟨blk, off, none⟩) (List.length (sortI x)) cap else ρ l), rfl, ?_⟩
    show Rep P A _ _ ⟨[(0, .tup [])], [(0, .row (.int .i64) (sortI x))], 1, [.sl 0]⟩ _ _ _
    refine rep_lay (t := .int .i64) (ys := sortI x) rfl hH h0 (by rw [sortI_len]; exact Nat.le_refl _) (int_lay fun i y hy => ?_) 0 (fun _ _ => ⟨[], rfl, by simp [VRs]⟩) (fun _ _ => ?_) rfl
    · rw [List.getElem?_toArray]
      exact hy
    · simp [VRs, VR, sortI_len, h0]
theorem ksound_compactI (hE : Enters P f)
    (hcon : ∀ (blk off cap : Nat) (zs : List Int) (w : World), Holds (Value.int .i64) w blk off zs.toArray → zs.length ≤ 9223372036854775807 → zs.length ≤ cap →
      Calls P f #[.slice (some ⟨blk, off, none⟩) zs.length cap] w fun e w' => e = .returned (.slice (some ⟨blk, off, none⟩) (Lib.compact zs).length cap) ∧ ∃ q, w' = putRow (Value.int .i64) (Sort.ahead w q) blk off (Lib.compact zs ++ List.replicate (zs.length - (Lib.compact zs).length) 0).toArray)
    (hnil : ∀ w : World, Calls P f #[.slice none 0 0] w fun e w' => e = .returned (.slice none 0 0) ∧ w' = w) (hlen : ∀ zs : List Int, (Lib.compact zs).length ≤ zs.length) : KSound P f fun Γc => gCon Γc g_compactI := by
  intro Γc hΓ
  refine gsound hE hΓ (fun x => rfl) fun (x : List Int) hx A w ρ vs us hH hv hu => ?_
  have hvs := vrs_one hv
  have hus : us = [] := by simpa [VRs, g_compactI] using hu
  subst hvs hus
  rcases row_cases hH with ⟨h0, rfl⟩ | ⟨blk, off, cap, h0⟩
  · rw [h0]
    refine (hnil w).mono ?_
    rintro e w' ⟨rfl, rfl⟩
    refine ⟨.slice none 0 0, (fun l => if l = 9 then .slice none 0 0 else ρ l), rfl, ?_⟩
    show Rep P A _ _ ⟨[(0, .sl 9)], [(9, .row (.int .i64) (Lib.compact ([] : List Int)))], 1, [.junk]⟩ _ _ _
    have hn : Lib.compact ([] : List Int) = [] := List.length_eq_zero_iff.1 (by have := hlen []; simpa using this)
    rw [hn]
    refine rep_none hH h0 9 (fun _ _ => by simp [VR]) (fun _ _ => ?_) rfl
    simp [VRs, VR]
  · obtain ⟨arr, e, hb, hcap, _⟩ := row_block hH h0
    rw [h0]
    refine (hcon blk off cap x w (int_holds hH h0) hx hcap).mono ?_
    rintro e w' ⟨rfl, q, rfl⟩
    rw [← grow_empty (putRow (Value.int .i64) (Sort.ahead w q) blk off _)]
    refine ⟨_, (fun l => if l = 9 then .slice (some ⟨blk, off, none⟩) (List.length (Lib.compact (show List Int from x))) cap else ρ l), rfl, ?_⟩
    show Rep P A _ _ ⟨[(0, .sl 9)], [(9, .row (.int .i64) (Lib.compact (show List Int from x)))], 1, [.junk]⟩ _ _ _
    refine rep_lay (t := .int .i64) (ys := Lib.compact (show List Int from x)) rfl hH h0 (hlen x) (int_lay fun i y hy => ?_) 9 (fun _ _ => by simp [VR]) (fun _ _ => ?_) rfl
    · rw [List.getElem?_toArray, List.getElem?_append_left (List.getElem?_eq_some_iff.1 hy).1]
      exact hy
    · simp [VRs, VR]
theorem rowK_holds {t : Ty} [Inhabited t.T] (hf : t.flat = true) {A : Nat → Prop} {w : World} {ρ : Nat → Value} {xs : List t.T} {blk off cap : Nat} (hH : HeapR P A [(0, .row t xs)] ρ w) (hρ : ρ 0 = .slice (some ⟨blk, off, none⟩) xs.length cap) : HoldsK (fenc t) t.size w blk off xs.toArray := by
  intro j hj
  have hj : j < xs.length * t.size := by simpa using hj
  have hs : 0 < t.size := Nat.pos_of_ne_zero fun h => by rw [h] at hj; omega
  have hi : j / t.size < xs.length := Nat.div_lt_of_lt_mul (by rw [Nat.mul_comm]; exact hj)
  have hm : j % t.size < (fenc t xs[j / t.size]).length := by rw [fenc_len t _ hf]; exact Nat.mod_lt _ hs
  have := row_cell hf hH hρ (i := j / t.size) (j := j % t.size) (x := xs[j / t.size]) (List.getElem?_eq_getElem hi) (List.getElem?_eq_getElem hm)
  rw [show j / t.size * t.size + j % t.size = j by rw [Nat.mul_comm]; exact Nat.div_add_mod _ _] at this
  refine ⟨?_, this.2.1⟩
  rw [this.1, get_flatK _ _ _ _ (by simpa using hj), getElem!_pos xs.toArray _ (by simpa using hi), List.getElem_toArray, getElem!_pos (fenc t xs[j / t.size]) _ hm]
  rfl
theorem rowK_lay {t : Ty} [Inhabited t.T] (hf : t.flat = true) {ys : List t.T} : ∀ (i : Nat) (x : t.T), ys[i]? = some x → ∀ (j : Nat) (u : Value), (fenc t x)[j]? = some u → i * t.size + j < (flatK (fenc t) t.size ys.toArray).size ∧ id (flatK (fenc t) t.size ys.toArray)[i * t.size + j]! = u := by
  intro i x hx j u hu
  obtain ⟨hi, hxi⟩ := List.getElem?_eq_some_iff.1 hx
  obtain ⟨hj, hu⟩ := List.getElem?_eq_some_iff.1 hu
  have hj2 : j < t.size := by rw [← fenc_len t x hf]; exact hj
  have hlt : i * t.size + j < ys.length * t.size := by
    have : (i + 1) * t.size ≤ ys.length * t.size := Nat.mul_le_mul_right _ (by omega)
    rw [Nat.add_mul, Nat.one_mul] at this
    omega
  have hd : (i * t.size + j) / t.size = i := by
    rw [Nat.add_comm, Nat.add_mul_div_right _ _ (by omega), Nat.div_eq_of_lt hj2, Nat.zero_add]
  have hmod : (i * t.size + j) % t.size = j := by
    rw [Nat.add_comm, Nat.add_mul_mod_self_right, Nat.mod_eq_of_lt hj2]
  refine ⟨by simpa using hlt, ?_⟩
  rw [get_flatK _ _ _ _ (by simpa using hlt), hd, hmod, getElem!_pos ys.toArray _ (by simpa using hi), List.getElem_toArray, hxi, getElem!_pos (fenc t x) _ hj, hu]
  rfl
theorem ksound_sortK {t : Ty} [Inhabited t.T] (hf : t.flat = true) {g : Nat} {s : List t.T → List t.T} (hs : ∀ xs, (s xs).length = xs.length) (hE : Enters P f)
    (hcon : ∀ (blk off cap : Nat) (zs : List t.T) (w : World), HoldsK (fenc t) t.size w blk off zs.toArray → blk < w.heap.size → zs.length < 4611686018427387904 →
      Calls P f #[.slice (some ⟨blk, off, none⟩) zs.length cap, .func (.func g) #[] #[]] w fun e w' => e = .returned (.tuple #[]) ∧ ∃ n os, w' = sortWorldK (fenc t) t.size w blk off n (s zs).toArray os)
    (hnil : ∀ w : World, Calls P f #[.slice none 0 0, .func (.func g) #[] #[]] w fun e w' => e = .returned (.tuple #[]) ∧ w' = w) : KSound P f fun Γc => gCon Γc (g_sortK t g s) := by
  intro Γc hΓ
  refine gsound hE hΓ (fun x => rfl) fun (x : List t.T) hx A w ρ vs us hH hv hu => ?_
  have hus : us = [] := by simpa [VRs, g_sortK] using hu
  have hvs : vs = [ρ 0, .func (.func g) #[] #[]] := by
    obtain ⟨v, r, rfl, h1, h2⟩ := VRs_cons.1 hv
    obtain ⟨v2, r2, rfl, h3, h4⟩ := VRs_cons.1 h2
    have : r2 = [] := by simpa [VRs] using h4
    subst this
    obtain ⟨a, b, rfl, ha, hb⟩ := h3
    have : a = [] := by simpa [VRs] using ha
    subst this
    have : b = [] := by simpa [VRs] using hb
    subst this
    have : v = ρ 0 := by simpa [VR] using h1
    rw [this]
  subst hvs hus
  rcases row_cases hH with ⟨h0, rfl⟩ | ⟨blk, off, cap, h0⟩
  · rw [h0]
    refine (hnil w).mono ?_
    rintro e w' ⟨rfl, rfl⟩
    have hn : s [] = [] := List.length_eq_zero_iff.1 (hs [])
    refine ⟨.tuple #[], (fun l => if l = 0 then .slice none 0 0 else ρ l), rfl, ?_⟩
    show Rep P A _ _ ⟨[(0, .tup [])], [(0, .row t (s []))], 1, [.sl 0, .junk]⟩ _ _ _
    rw [hn]
    refine rep_none hH h0 0 (fun _ _ => ⟨[], rfl, by simp [VRs]⟩) (fun _ _ => ?_) rfl
    simp [VRs, VR, h0]
    exact ⟨_, _, ⟨rfl, rfl⟩, rfl, _, rfl⟩
  · have hlt : blk < w.heap.size := by
      obtain ⟨arr, e, hb, _⟩ := row_block hH h0
      exact (Array.getElem?_eq_some_iff.1 hb).1
    rw [h0]
    refine (hcon blk off cap x w (rowK_holds hf hH h0) hlt hx).mono ?_
    rintro e w' ⟨rfl, n, os, rfl⟩
    refine ⟨.tuple #[], (fun l => if l = 0 then .slice (some ⟨blk, off, none⟩) (List.length (s x)) cap else ρ l), rfl, ?_⟩
    show Rep P A _ _ ⟨[(0, .tup [])], [(0, .row t (s x))], 1, [.sl 0, .junk]⟩ _ _ _
    refine rep_lay (ys := s x) hf hH h0 (by rw [hs]; exact Nat.le_refl _) (rowK_lay hf) 0 (fun _ _ => ⟨[], rfl, by simp [VRs]⟩) (fun _ _ => ?_) rfl
    simp [VRs, VR, hs, h0]
    exact ⟨_, _, ⟨rfl, rfl⟩, rfl, _, rfl⟩
end
end Go.E

/-
  EngZk: a row without elements in a new block.
-/
namespace Go.E
open Go.RowKit Go.Sort Go.Proofs
set_option linter.unusedVariables false
set_option linter.unusedSimpArgs false
section
variable {P : Program} {A : Nat → Prop} {w w' : World} {ρ : Nat → Value} {f : FuncId}
theorem rep_new {t : Ty} {arr : Array Value} {e : TypeId} {cap : Nat} (hH : HeapR P A [] ρ w) (hos : w'.os = w.os) (htape : w'.tape = w.tape) (hout : w'.output = w.output) (hheap : w'.heap = w.heap.push (.cells arr e (0, 0)))
    (hsz : cap * t.size ≤ arr.size) {gh : List AV} {gv : List Value} (hgh : ∀ w' I' ρ', VRs P w' I' ρ' gh gv) :
    Rep P A w ⟨blksOf [] ρ, gv⟩ ⟨[(0, .sl 9)], [(9, .row t [])], 1, gh⟩ (fun l => if l = 9 then .slice (some ⟨w.heap.size, 0, none⟩) 0 cap else ρ l) { tmps := #[.slice (some ⟨w.heap.size, 0, none⟩) 0 cap], defers := [] } w' := by
  have hget : ∀ l c, get? [(9, Chunk.row t [])] l = some c → l = 9 ∧ c = .row t [] := by
    intro l c hl
    simp only [get?] at hl
    split at hl
    · rename_i h
      injection hl with hl
      exact ⟨h.symm, hl.symm⟩
    · cases hl
  have hsize : w'.heap.size = w.heap.size + 1 := by rw [hheap]; exact Array.size_push ..
  have hb : w'.heap[w.heap.size]? = some (.cells arr e (0, 0)) := by rw [hheap, Array.getElem?_push, if_pos rfl]
  refine ⟨fun s v hv => ?_, ⟨fun l c hc => ?_, fun l c b hc hbl => ?_, fun b hb2 => hH.fresh b (by omega), fun l c l' c' hc hc' hne => ?_⟩, ⟨hos, htape, hout, by show w.heap.size ≤ w'.heap.size; omega, fun b hb2 hn => ?_⟩, fun l c hc b hbl => ?_, hgh _ _ _, rfl, rfl⟩
  · simp only [get?] at hv
    split at hv
    · rename_i hs
      subst hs
      injection hv with hv
      subst hv
      simp [TR, VR]
    · cases hv
  · obtain ⟨rfl, rfl⟩ := hget l c hc
    simp only [ChunkR]
    exact .inr ⟨w.heap.size, 0, cap, arr, e, by simp, hb, by simp, by simpa using hsz, fun i x hx => by simp [nth] at hx⟩
  · obtain ⟨rfl, rfl⟩ := hget l c hc
    simp only [if_true, blkOf] at hbl
    injection hbl with hbl
    exact hH.fresh b (by omega)
  · obtain ⟨rfl, rfl⟩ := hget l c hc
    obtain ⟨rfl, rfl⟩ := hget l' c' hc'
    exact absurd rfl hne
  · have hb2 : b < w.heap.size := hb2
    rw [hheap, Array.getElem?_push, if_neg (by omega)]
  · obtain ⟨rfl, rfl⟩ := hget l c hc
    simp only [if_true, blkOf] at hbl
    injection hbl with hbl
    left
    show w.heap.size ≤ b
    omega
theorem rep_newnil {t : Ty} (hH : HeapR P A [] ρ w) {gh : List AV} {gv : List Value} (hgh : ∀ w' I' ρ', VRs P w' I' ρ' gh gv) :
    Rep P A w ⟨blksOf [] ρ, gv⟩ ⟨[(0, .sl 9)], [(9, .row t [])], 1, gh⟩ (fun l => if l = 9 then .slice none 0 0 else ρ l) { tmps := #[.slice none 0 0], defers := [] } w := by
  have hget : ∀ l c, get? [(9, Chunk.row t [])] l = some c → l = 9 ∧ c = .row t [] := by
    intro l c hl
    simp only [get?] at hl
    split at hl
    · rename_i h
      injection hl with hl
      exact ⟨h.symm, hl.symm⟩
    · cases hl
  refine ⟨fun s v hv => ?_, ⟨fun l c hc => ?_, fun l c b hc hbl => ?_, fun b hb2 => hH.fresh b hb2, fun l c l' c' hc hc' hne => ?_⟩, ⟨rfl, rfl, rfl, Nat.le_refl _, fun b hb2 hn => rfl⟩, fun l c hc b hbl => ?_, hgh _ _ _, rfl, rfl⟩
  · simp only [get?] at hv
    split at hv
    · rename_i hs
      subst hs
      injection hv with hv
      subst hv
      simp [TR, VR]
    · cases hv
  · obtain ⟨rfl, rfl⟩ := hget l c hc
    simp only [ChunkR]
    exact .inl (by simp)
  · obtain ⟨rfl, rfl⟩ := hget l c hc
    simp [blkOf] at hbl
  · obtain ⟨rfl, rfl⟩ := hget l c hc
    obtain ⟨rfl, rfl⟩ := hget l' c' hc'
    exact absurd rfl hne
  · obtain ⟨rfl, rfl⟩ := hget l c hc
    simp [blkOf] at hbl
def g_grow (t : Ty) : GC where
  X := Int
  rd := fun H ys => match ys with
    | [.nils, .int .i64 n] => some n
    | _ => none
  args := fun n => [.nils, .int .i64 n]
  hp := fun _ => []
  pre := fun n => 0 ≤ n ∧ n ≤ 1000000
  F := fun n => ⟨[(0, .sl 9)], [(9, .row t [])], 1, [.junk, .junk]⟩
theorem ksound_grow {t : Ty} (hE : Enters P f)
    (hcon : ∀ (n : Nat) (w : World), 0 < n → n ≤ 1000000 → Calls P f #[.slice none 0 0, .int .i64 n] w fun e w' => ∃ cap arr te, e = .returned (.slice (some ⟨w.heap.size, 0, none⟩) 0 cap) ∧ w'.os = w.os ∧ w'.tape = w.tape ∧ w'.output = w.output ∧
      w'.heap = w.heap.push (.cells arr te (0, 0)) ∧ cap * t.size ≤ arr.size)
    (hnil : ∀ w : World, Calls P f #[.slice none 0 0, .int .i64 0] w fun e w' => e = .returned (.slice none 0 0) ∧ w' = w) : KSound P f fun Γc => gCon Γc (g_grow t) := by
  intro Γc hΓ
  refine gsound hE hΓ (fun x => rfl) fun (x : Int) hx A w ρ vs us hH hv hu => ?_
  have hus : us = [] := by simpa [VRs, g_grow] using hu
  have hvs : vs = [.slice none 0 0, .int .i64 x] := by
    obtain ⟨v, r, rfl, h1, h2⟩ := VRs_cons.1 hv
    obtain ⟨v2, r2, rfl, h3, h4⟩ := VRs_cons.1 h2
    have : r2 = [] := by simpa [VRs] using h4
    subst this
    have h1 : v = .slice none 0 0 := by simpa [VR] using h1
    have h3 : v2 = .int .i64 x := by simpa [VR] using h3
    rw [h1, h3]
  subst hvs hus
  obtain ⟨h0, h1⟩ : 0 ≤ x ∧ x ≤ 1000000 := hx
  have hgh : ∀ (w' : World) (I' : Nat → Prop) (ρ' : Nat → Value), VRs P w' I' ρ' [.junk, .junk] ([.slice none 0 0, .int .i64 x] ++ []) := by
    intro w' I' ρ'
    simp only [List.append_nil]
    exact ⟨_, _, rfl, trivial, _, _, rfl, trivial, rfl⟩
  by_cases hz : x = 0
  · subst hz
    refine (hnil w).mono ?_
    rintro e w' ⟨rfl, rfl⟩
    exact ⟨_, _, rfl, rep_newnil (t := t) hH hgh⟩
  · have hn := hcon x.toNat w (by omega) (by omega)
    rw [Int.toNat_of_nonneg h0] at hn
    refine hn.mono ?_
    rintro e w' ⟨cap, arr, te, rfl, k1, k2, k3, k4, k5⟩
    exact ⟨_, _, rfl, rep_new (t := t) hH k1 k2 k3 k4 k5 hgh⟩
end
end Go.E

/-
  EngZl: sorting by a comparison that is in order on some elements only.
-/
namespace Go.E
open Go.RowKit Go.Sort Go.Proofs
set_option linter.unusedVariables false
set_option linter.unusedSimpArgs false
def g_sortQ (t : Ty) (g : Nat) (Q : t.T → Prop) (f : List t.T → List t.T) : GC where
  X := List t.T
  rd := fun H ys => match ys with
    | [.sl l, .fn g' [] []] => match Nat.beq g' g with
      | true => rdR ⟨[], H, 0, []⟩ l t
      | false => none
    | _ => none
  args := fun _ => [.sl 0, .fn g [] []]
  hp := fun x => [(0, .row t x)]
  pre := fun x => x.length < 4611686018427387904 ∧ ∀ r ∈ x, Q r
  F := fun x => ⟨[(0, .tup [])], [(0, .row t (f x))], 1, [.sl 0, .junk]⟩
theorem flat_sub {α β : Type} [Inhabited α] [Inhabited β] (val : α → β) (enc : β → List Value) (k : Nat) (d : Array α) : flatK (fun a => enc (val a)) k d = flatK enc k (d.map val) := by
  unfold flatK
  rw [Array.size_map]
  apply Array.ext (by simp)
  intro i h1 h2
  simp only [Array.getElem_map, Array.getElem_range]
  have hi : i < d.size * k := by simpa using h1
  have : i / k < d.size := Nat.div_lt_of_lt_mul (by rw [Nat.mul_comm]; exact hi)
  rw [getElem!_pos (d.map val) _ (by simpa using this), getElem!_pos d _ this, Array.getElem_map]
section
variable {P : Program} {f : FuncId}
theorem ksound_sortQ {t : Ty} [Inhabited t.T] (hf : t.flat = true) {g : Nat} {Q : t.T → Prop} {s : List t.T → List t.T} (hs : ∀ xs, (s xs).length = xs.length) (hE : Enters P f)
    (hcon : ∀ (blk off cap : Nat) (zs : List t.T) (w : World), (∀ r ∈ zs, Q r) → HoldsK (fenc t) t.size w blk off zs.toArray → blk < w.heap.size → zs.length < 4611686018427387904 →
      Calls P f #[.slice (some ⟨blk, off, none⟩) zs.length cap, .func (.func g) #[] #[]] w fun e w' => e = .returned (.tuple #[]) ∧ ∃ n os, w' = sortWorldK (fenc t) t.size w blk off n (s zs).toArray os)
    (hnil : ∀ w : World, Calls P f #[.slice none 0 0, .func (.func g) #[] #[]] w fun e w' => e = .returned (.tuple #[]) ∧ w' = w) : KSound P f fun Γc => gCon Γc (g_sortQ t g Q s) := by
  intro Γc hΓ
  refine gsound hE hΓ (fun x => rfl) fun (x : List t.T) hx A w ρ vs us hH hv hu => ?_
  have hus : us = [] := by simpa [VRs, g_sortQ] using hu
  have hvs : vs = [ρ 0, .func (.func g) #[] #[]] := by
    obtain ⟨v, r, rfl, h1, h2⟩ := VRs_cons.1 hv
    obtain ⟨v2, r2, rfl, h3, h4⟩ := VRs_cons.1 h2
    have : r2 = [] := by simpa [VRs] using h4
    subst this
    obtain ⟨a, b, rfl, ha, hb⟩ := h3
    have : a = [] := by simpa [VRs] using ha
    subst this
    have : b = [] := by simpa [VRs] using hb
    subst this
    have : v = ρ 0 := by simpa [VR] using h1
    rw [this]
  subst hvs hus
  rcases row_cases hH with ⟨h0, rfl⟩ | ⟨blk, off, cap, h0⟩
  · rw [h0]
    refine (hnil w).mono ?_
    rintro e w' ⟨rfl, rfl⟩
    have hn : s [] = [] := List.length_eq_zero_iff.1 (hs [])
    refine ⟨.tuple #[], (fun l => if l = 0 then .slice none 0 0 else ρ l), rfl, ?_⟩
    show Rep P A _ _ ⟨[(0, .tup [])], [(0, .row t (s []))], 1, [.sl 0, .junk]⟩ _ _ _
    rw [hn]
    refine rep_none hH h0 0 (fun _ _ => ⟨[], rfl, by simp [VRs]⟩) (fun _ _ => ?_) rfl
    simp [VRs, VR, h0]
    exact ⟨_, _, ⟨rfl, rfl⟩, rfl, _, rfl⟩
  · have hlt : blk < w.heap.size := by
      obtain ⟨arr, e, hb, _⟩ := row_block hH h0
      exact (Array.getElem?_eq_some_iff.1 hb).1
    rw [h0]
    refine (hcon blk off cap x w hx.2 (rowK_holds hf hH h0) hlt hx.1).mono ?_
    rintro e w' ⟨rfl, n, os, rfl⟩
    refine ⟨.tuple #[], (fun l => if l = 0 then .slice (some ⟨blk, off, none⟩) (List.length (s x)) cap else ρ l), rfl, ?_⟩
    show Rep P A _ _ ⟨[(0, .tup [])], [(0, .row t (s x))], 1, [.sl 0, .junk]⟩ _ _ _
    refine rep_lay (ys := s x) hf hH h0 (by rw [hs]; exact Nat.le_refl _) (rowK_lay hf) 0 (fun _ _ => ⟨[], rfl, by simp [VRs]⟩) (fun _ _ => ?_) rfl
    simp [VRs, VR, hs, h0]
    exact ⟨_, _, ⟨rfl, rfl⟩, rfl, _, rfl⟩
end
end Go.E

