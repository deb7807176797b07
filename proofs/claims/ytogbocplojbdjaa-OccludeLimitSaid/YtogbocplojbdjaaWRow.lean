/-
  The engine, part 7: a function's code over abstract states gives conditions in plain Lean.
-/
import Derived.Test.YtogbocplojbdjaaW5
import Derived.WalkKit
import Derived.ProofKit
import Derived.OpenShut
import Derived.ChangeOld
import Derived.SizedLaws
import Derived.JoinedOf
import Derived.Carry
import GoSem.Claim
import GoSem.ClaimJoined
/-
  EngRow: from a row's arguments to data.
-/
namespace Go.E
open Go.RowKit
open Go.ChangeShapes Go.WideShapes Go.ChangeAt
set_option linter.unusedVariables false
def wfT : (t : Ty) → t.T → Prop
  | .int k, n => (Lit.int k n).wf = true
  | .bool, _ => True
  | .str, s => s.size ≤ maxLen
  | .list t, xs => List.length xs ≤ 9223372036854775807 ∧ ∀ x ∈ (xs : List t.T), wfT t x
  | .prod a b, x => wfT a x.1 ∧ wfT b x.2
def layF (P : Program) (lay : TypeId → Option Ty) : Nat → List Field → Option (List Ty)
  | _, [] => some []
  | off, f :: fs => match lay f.type with
    | some T => if f.offset = off ∧ P.cellsOf f.type = T.size then (layF P lay (off + T.size) fs).map (T :: ·) else none
    | none => none
def prods : List Ty → Option Ty
  | [] => none
  | [t] => some t
  | t :: r => (prods r).map (Ty.prod t)
def lay (P : Program) : Nat → TypeId → Option Ty
  | 0, _ => none
  | n + 1, t => match P.underlying t with
    | some (.int k) => some (.int k)
    | some .bool => some .bool
    | some .string => some .str
    | some (.slice e) => match lay P n e with
      | some T => if P.cellsOf e = T.size ∧ 0 < T.size then some (.list T) else none
      | none => none
    | some (.struct fs) => match layF P (lay P n) 0 fs.toList with
      | some ts => match prods ts with
        | some T => if P.cellsOf t = T.size ∧ 2 ≤ ts.length then some T else none
        | none => none
      | none => none
    | _ => none
def layout (P : Program) (t : TypeId) : Option Ty := lay P 12 t
section
variable {H : Type} {enc : TypeId × Value → H} {P : Program} {w : World} {sp : Nat → Bool}
theorem cells_at {b off n : Nat} {s : Option Nat} {cs : List Value} (h : w.cells? 0 ⟨b, off, s⟩ n = some cs) (hn : 0 < n) : s = none ∧ cs.length = n ∧ CellsAt w b off cs ∧ b < w.heap.size := by
  obtain ⟨_, hl, hc⟩ := World.cells?_some h
  have h0 := hc 0 hn
  have hs : s = none := by
    cases s with
    | none => rfl
    | some x =>
      have : cs[0]? = some (cs[0]'(by omega)) := List.getElem?_eq_getElem _
      rw [this] at h0
      unfold World.cell? at h0
      split at h0
      · simp [Addr.add] at h0
      · cases h0
  subst hs
  refine ⟨rfl, hl, fun j v hj => ?_, ?_⟩
  · have hj' : j < n := by rw [← hl]; exact (List.getElem?_eq_some_iff.1 hj).1
    have := hc j hj'
    rw [hj] at this
    have e : Addr.add ⟨b, off, none⟩ j = ⟨b, off + j, none⟩ := by unfold Addr.add; split <;> simp_all
    rw [e] at this
    exact this
  · have : cs[0]? = some (cs[0]'(by omega)) := List.getElem?_eq_getElem _
    rw [this] at h0
    unfold World.cell? at h0
    simp [Addr.add] at h0
    rcases Nat.lt_or_ge b w.heap.size with hb | hb
    · exact hb
    · rw [Array.getElem?_eq_none hb] at h0; simp at h0
theorem exists_list {α β : Type} {R : α → β → Prop} : ∀ (l : List α), (∀ x ∈ l, ∃ y, R x y) → ∃ m : List β, m.length = l.length ∧ ∀ (i : Nat) (x : α) (y : β), l[i]? = some x → m[i]? = some y → R x y
  | [], _ => ⟨[], rfl, fun i x y h => by simp at h⟩
  | a :: r, h => by
    obtain ⟨b, hb⟩ := h a (by simp)
    obtain ⟨m, h1, h2⟩ := exists_list r fun x hx => h x (by simp [hx])
    refine ⟨b :: m, by simp [h1], fun i x y hx hy => ?_⟩
    cases i with
    | zero => simp at hx hy; subst hx; subst hy; exact hb
    | succ i => exact h2 i x y (by simpa using hx) (by simpa using hy)
theorem fields_DR {lay : TypeId → Option Ty} {n : Nat} (ih : ∀ t T, lay t = some T → ∀ cs x, DataW.trod enc P w 0 sp true n t cs = some x → ∃ y, DR w (all w) T y cs ∧ wfT T y) (cs : List Value) :
    ∀ (fs : List Field) (off : Nat) (ts : List Ty) (T : Ty), layF P lay off fs = some ts → prods ts = some T → (∀ f ∈ fs, ∃ x, DataW.trod enc P w 0 sp true n f.type ((cs.drop f.offset).take (P.cellsOf f.type)) = some x) →
      ∃ y, DR w (all w) T y ((cs.drop off).take T.size) ∧ wfT T y
  | [], off, ts, T, h, hp, _ => by
    simp only [layF, Option.some.injEq] at h
    subst h
    simp [prods] at hp
  | f :: fs, off, ts, T, h, hp, hx => by
    simp only [layF] at h
    split at h
    · rename_i T0 hT0
      split at h
      · rename_i hc
        obtain ⟨hoff, hsz⟩ := hc
        obtain ⟨r, hr, rfl⟩ := Option.map_eq_some_iff.1 h
        obtain ⟨x, hx0⟩ := hx f (by simp)
        rw [hoff, hsz] at hx0
        obtain ⟨y, hy, hwy⟩ := ih _ _ hT0 _ _ hx0
        cases r with
        | nil =>
          simp only [prods, Option.some.injEq] at hp
          subst hp
          exact ⟨y, hy, hwy⟩
        | cons T1 r =>
          simp only [prods] at hp
          obtain ⟨T2, hT2, rfl⟩ := Option.map_eq_some_iff.1 hp
          obtain ⟨z, hz, hwz⟩ := fields_DR ih cs fs (off + T0.size) _ T2 hr hT2 fun g hg => hx g (by simp [hg])
          refine ⟨(y, z), ⟨_, _, ?_, hy, hz⟩, hwy, hwz⟩
          show (cs.drop off).take (T0.size + T2.size) = _
          rw [List.take_add, List.drop_drop]
      · cases h
    · cases h
theorem lay_DR : ∀ (m : Nat) (t : TypeId) (T : Ty), lay P m t = some T → ∀ (n : Nat) (cs : List Value) (x : DataW H × List MemPlace), DataW.trod enc P w 0 sp true n t cs = some x → ∃ y, DR w (all w) T y cs ∧ wfT T y
  | 0, t, T, h, n, cs, x, hx => by simp [lay] at h
  | m + 1, t, T, h, n, cs, x, hx => by
    unfold lay at h
    split at h
    · rename_i k hu
      injection h with h; subst h
      obtain ⟨a, rfl, _, hw⟩ := DataW.trod_int hu hx
      exact ⟨a, rfl, hw⟩
    · rename_i hu
      injection h with h; subst h
      obtain ⟨a, rfl, _⟩ := DataW.trod_bool hu hx
      exact ⟨a, rfl, trivial⟩
    · rename_i hu
      injection h with h; subst h
      obtain ⟨a, rfl, _, hw⟩ := DataW.trod_string hu hx
      exact ⟨a, rfl, hw⟩
    · rename_i e hu
      split at h
      · rename_i T0 hT0
        split at h
        · rename_i hc
          obtain ⟨hsz, hpos⟩ := hc
          injection h with h; subst h
          rcases DataW.trod_slice hu hx with ⟨rfl, _⟩ | ⟨a, len, cap, elems, rest, n', _, rfl, _, _, hl, hm, hlen, hel, _, _⟩
          · exact ⟨[], ⟨none, 0, rfl, Nat.le_refl _, fun h => by simp at h⟩, by simp, fun x hx => by cases hx⟩
          · obtain ⟨b, off, s⟩ := a
            have each : ∀ i ∈ List.range len, ∃ y : T0.T, ∃ us : List Value, w.cells? 0 (Addr.add ⟨b, off, s⟩ (i * T0.size)) T0.size = some us ∧ DR w (all w) T0 y us ∧ wfT T0 y := by
              intro i hi
              rw [List.mem_range] at hi
              have h1 := hel i hi
              rw [hsz, List.getElem?_eq_getElem (by omega)] at h1
              obtain ⟨us, hus, h2⟩ := Option.bind_eq_some_iff.1 h1
              obtain ⟨y, hy, hwy⟩ := lay_DR m e T0 hT0 _ _ _ h2
              exact ⟨y, us, hus, hy, hwy⟩
            obtain ⟨ys, hys, hR⟩ := exists_list _ each
            rw [List.length_range] at hys
            have hmx : maxLen = 9223372036854775807 := rfl
            refine ⟨ys, ⟨some ⟨b, off, s⟩, cap, by rw [hys], by omega, fun h0 => ?_⟩, by omega, fun y hy => ?_⟩
            · have hs : s = none ∧ b < w.heap.size := by
                obtain ⟨us, hus, _⟩ := hR 0 0 (ys[0]'h0) (by rw [List.getElem?_range (by omega)]) (List.getElem?_eq_getElem _)
                have e0 : Addr.add ⟨b, off, s⟩ (0 * T0.size) = ⟨b, off, s⟩ := by cases s <;> simp [Addr.add]
                rw [e0] at hus
                have := cells_at hus hpos
                exact ⟨this.1, this.2.2.2⟩
              obtain ⟨rfl, hb⟩ := hs
              refine ⟨b, off, rfl, hb, fun i y hi => ?_⟩
              have hil : i < ys.length := (List.getElem?_eq_some_iff.1 hi).1
              obtain ⟨us, hus, hd, _⟩ := hR i i y (by rw [List.getElem?_range (by omega)]) hi
              have ea : Addr.add ⟨b, off, none⟩ (i * T0.size) = ⟨b, off + i * T0.size, none⟩ := by unfold Addr.add; split <;> simp_all
              have hus' : w.cells? 0 ⟨b, off + i * T0.size, none⟩ T0.size = some us := by rw [← ea]; exact hus
              have := cells_at hus' hpos
              exact ⟨us, this.2.1, this.2.2.1, hd⟩
            · obtain ⟨i, hi, rfl⟩ := List.getElem_of_mem hy
              obtain ⟨us, _, _, hwy⟩ := hR i i ys[i] (by rw [List.getElem?_range (by omega)]) (List.getElem?_eq_getElem _)
              exact hwy
        · cases h
      · cases h
    · rename_i fs hu
      split at h
      · rename_i ts hts
        split at h
        · rename_i T0 hT0
          split at h
          · rename_i hc
            injection h with h; subst h
            obtain ⟨xs, n', rfl, _, hcl, hxl, hf⟩ := DataW.trod_struct hu hx
            obtain ⟨y, hy, hwy⟩ := fields_DR (fun t T hT cs x hx => lay_DR m t T hT n' cs x hx) cs fs.toList 0 ts T0 hts hT0 fun f hf2 => by
              obtain ⟨i, hi, he⟩ := List.getElem_of_mem hf2
              have h1 := hf i f (by simp at hi he; simp [hi, he])
              rw [List.getElem?_eq_getElem (by simp at hi; omega)] at h1
              exact ⟨_, h1⟩
            refine ⟨y, ?_, hwy⟩
            rw [List.drop_zero, List.take_of_length_le (by omega)] at hy
            exact hy
          · cases h
        · cases h
      · cases h
    · cases h
theorem lay_agg {m : Nat} {t : TypeId} {T : Ty} (h : lay P (m + 1) t = some T) : (T.isAgg = true ∧ ∃ fs, P.underlying t = some (.struct fs)) ∨ (T.isAgg = false ∧ ((∃ k, P.underlying t = some (.int k)) ∨ P.underlying t = some .bool ∨ P.underlying t = some .string ∨ ∃ e, P.underlying t = some (.slice e))) := by
  unfold lay at h
  split at h
  · rename_i k hu; injection h with h; subst h; exact .inr ⟨rfl, .inl ⟨_, hu⟩⟩
  · rename_i hu; injection h with h; subst h; exact .inr ⟨rfl, .inr (.inl hu)⟩
  · rename_i hu; injection h with h; subst h; exact .inr ⟨rfl, .inr (.inr (.inl hu))⟩
  · rename_i e hu
    split at h
    · split at h
      · injection h with h; subst h; exact .inr ⟨rfl, .inr (.inr (.inr ⟨_, hu⟩))⟩
      · cases h
    · cases h
  · rename_i fs hu
    split at h
    · rename_i ts hts
      split at h
      · rename_i T0 hT0
        split at h
        · rename_i hc
          injection h with h; subst h
          refine .inl ⟨?_, _, hu⟩
          cases ts with
          | nil => simp at hc
          | cons a r =>
            cases r with
            | nil => simp at hc
            | cons b r =>
              simp only [prods] at hT0
              obtain ⟨T2, _, rfl⟩ := Option.map_eq_some_iff.1 hT0
              rfl
        · cases h
      · cases h
    · cases h
  · cases h
theorem arg_DRV {t : TypeId} {T : Ty} (hT : layout P t = some T) {v : Value} {d : DataW H} {p : List MemPlace} {base : Nat} (hval : Value.okWide P w .any base t v) (h : DataW.Trod enc P w 0 sp true t v d p) : ∃ x, DRV w (all w) T x v ∧ wfT T x := by
  obtain ⟨n, hn⟩ := h
  obtain ⟨x, hx, hw⟩ := lay_DR _ _ _ hT _ _ _ hn
  refine ⟨x, ?_, hw⟩
  unfold Value.okWide at hval
  unfold DRV
  rcases lay_agg hT with ⟨ha, fs, hu⟩ | ⟨ha, hu⟩
  · rw [if_pos ha]
    rw [hu] at hval
    obtain ⟨cs, rfl, _⟩ := hval
    exact ⟨cs.toList, by simp, hx⟩
  · rw [if_neg (by simp [ha])]
    have hcell : v.cells.toList = [v] := by
      rcases hu with ⟨k, hu⟩ | hu | hu | ⟨e, hu⟩ <;> rw [hu] at hval <;> cases v <;> simp_all [Value.cells, Cell.okWide, Cell.ok]
    rw [hcell] at hx
    exact hx
end
def layAll (P : Program) : List TypeId → Option (List Ty)
  | [] => some []
  | t :: ts => match layout P t, layAll P ts with
    | some a, some r => some (a :: r)
    | _, _ => none
def wfAs : (as : List Ty) → ATs (as.map .d) → Prop
  | [], _ => True
  | t :: ts, x => wfT t x.1 ∧ wfAs ts x.2
section
variable {H : Type} {enc : TypeId × Value → H} {P : Program} {w w' : World}
theorem args_VRs (ρ : Nat → Value) : ∀ (ts : List TypeId) (as : List Ty) (vs : List Value) (ds : List (DataW H)) (ps : List MemPlace), layAll P ts = some as → DataW.TrodAll enc P w 0 (fun _ => true) true ts vs ds ps →
    (∀ (j : Nat) t v, ts[j]? = some t → vs[j]? = some v → ∃ base, Value.okWide P w .any base t v) → ∃ x : ATs (as.map .d), VRs P w (all w) ρ (encAs (as.map .d) x) vs ∧ wfAs as x ∧ vs.length = ts.length ∧ ds.length = ts.length
  | [], as, vs, ds, ps, h, hA, _ => by
    have h : some [] = some as := h
    injection h with h
    subst h
    obtain ⟨rfl, rfl, rfl⟩ := trodAll_nil hA
    exact ⟨(), (by show VRs P w (all w) ρ [] []; rw [VRs_nil]), trivial, rfl, rfl⟩
  | t :: ts, as, vs, ds, ps, h, hA, hval => by
    unfold layAll at h
    split at h
    · rename_i a r ha hr
      injection h with h; subst h
      obtain ⟨v, vs', d, ds', p, q, rfl, rfl, rfl, h1, h2⟩ := trodAll_cons hA
      obtain ⟨x, hx, hwx, hl1, hl2⟩ := args_VRs ρ ts r vs' ds' q hr h2 fun j t' v' ht hv => hval (j + 1) t' v' (by simpa using ht) (by simpa using hv)
      obtain ⟨base, hb⟩ := hval 0 t v rfl rfl
      obtain ⟨y, hy, hwy⟩ := arg_DRV ha hb h1
      refine ⟨(y, x), VRs_cons.2 ⟨v, vs', rfl, ?_, hx⟩, ⟨hwy, hwx⟩, by simp [hl1], by simp [hl2]⟩
      exact shut_sound a y v hy
    · cases h
theorem args_stay (laid : laidOutB P = true) (hb : Below w.heap.size w w') : ∀ (ts : List TypeId) (vs : List Value) (ds : List (DataW H)) (ps : List MemPlace), (∀ t ∈ ts, P.readableRec t = true ∧ t < P.types.size) → DataW.TrodAll enc P w 0 (fun _ => true) true ts vs ds ps →
    DataW.TrodAll enc P w' 0 (fun b => decide (b < w.heap.size)) true ts vs ds ps
  | [], vs, ds, ps, _, hA => by
    obtain ⟨rfl, rfl, rfl⟩ := trodAll_nil hA
    exact trodAll_mk0
  | t :: ts, vs, ds, ps, hr, hA => by
    obtain ⟨v, vs', d, ds', p, q, rfl, rfl, rfl, h1, h2⟩ := trodAll_cons hA
    have hlt : ∀ x ∈ p, x.block < w.heap.size := by
      obtain ⟨m, hm⟩ := h1
      exact DataW.trod_lt m _ _ _ hm
    exact ⟨p, q, Below.trod laid (hr t (by simp)).1 (hr t (by simp)).2 h1 hb hlt, args_stay laid hb ts vs' ds' q (fun t ht => hr t (by simp [ht])) h2, rfl⟩
theorem law_lifted {C : Checked} {f : FuncId} {fn : Func} {s : ChangeSpec} {ts : List TypeId} {tys : List Ty} {rt : TypeId} {pre : ATs (tys.map .d) → Prop} {os : Os}
    (own : ownKnob C.prog.godebug = none) (laid : laidOutB C.prog = true) (started : os.Started) (noInit : C.prog.inits.idxOf? f = none) (hfn : C.prog.funcs[f]? = some fn)
    (hps : fn.params = ts.toArray) (hrs : fn.resultTypes = #[rt]) (hrt : C.prog.underlying rt = some .bool) (hlay : layAll C.prog ts = some tys)
    (hread : ts.all (fun t => C.prog.readableRec t && decide (t < C.prog.types.size)) = true) (hvars : s.vars = []) (hspec : ∀ ds : List (DataW H), ds.length = ts.length → s.fn H ds = { results := [.lit (.bool true)], args := ds })
    (hP : PSound C.prog f (pcon (tys.map .d) fun x => (pre x, .bool true))) (hpre : ∀ x, wfAs tys x → pre x)
    (witness : ∃ (w : World) (tape : Tape) (i : Input), w.os = os ∧ (w.forCall tape i).Shaped C.prog ∧ i.vars = [] ∧ Input.okWide C.prog (w.forCall tape i) .any w.heap.size f i ∧
      s.pre6 enc C.prog fn [] false (w.forCall tape i).memory i.args ∧ ({} : Assume).holds C.prog (lone (Frame.enter C.prog f i.args .normal) [] (w.forCall tape i))) :
    ReturnsInHanded {} C os f .any (s.pre6 enc C.prog fn [] false) (s.post enc C.prog fn false true false false) := by
  refine returnsInHanded_of_change_sized (C := C) own started noInit hfn witness ?_
  intro W base args ds gs before hval hW _ _ _
  have hW' := hW
  obtain ⟨p, q, hA, hV, rfl, hfz, hnd⟩ := hW
  rw [hvars] at hV
  obtain ⟨rfl, rfl⟩ := trodVars_none hV
  have hps2 : fn.params.toList = ts := by rw [hps]
  rw [hps2] at hA
  obtain ⟨x, hx, hwx, hl1, hl2⟩ := args_VRs (fun _ => undef) ts tys args.toList ds p hlay hA fun j t v ht hv => ⟨base, hval j t v (by rw [hps]; simpa using ht) (by simpa using hv)⟩
  have hx2 : VRs C.prog W (allA (fun _ => True) W) (fun _ => undef) (encAs (tys.map .d) x) args.toList := VRs.ext ⟨Nat.le_refl _, fun b hb => ⟨⟨hb, trivial⟩, rfl⟩⟩ _ _ (fun _ _ => rfl) hx
  have hdec : pcon (tys.map .d) (fun x => (pre x, AV.bool true)) (encAs (tys.map .d) x) = some (pre x, .bool true) := by
    unfold pcon
    have : ∀ (as : List Ty) (x : ATs (as.map .d)), decAs (as.map .d) (encAs (as.map .d) x) = some x := by
      intro as
      induction as with
      | nil => intro x; rfl
      | cons t r ih =>
        intro x
        have h1 : decA (.d t) (encA (.d t) x.1) = some x.1 := decV_enc t x.1
        have h2 := ih x.2
        show decAs (.d t :: r.map .d) (encA (.d t) x.1 :: encAs (r.map .d) x.2) = some x
        unfold decAs
        simp only [h1, h2]
        rfl
    rw [this]
  refine ((hP.2 _ _ _ hdec (hpre x hwx) _ W _ _ hx2).mono ?_)
  rintro e W' ⟨v, rfl, hb, hout⟩
  obtain ⟨ρ', _, hv, _⟩ := hout 0
  have hv : v = .bool true := by simpa [place, VR] using hv
  subst hv
  have hread' : ∀ t ∈ ts, C.prog.readableRec t = true ∧ t < C.prog.types.size := fun t ht => by
    have := List.all_eq_true.1 hread t ht
    simpa using this
  refine ⟨_, rfl, ds, [], _, [], p, [], hW', ?_, ?_, ?_, hb.frame _, fun h => by cases h⟩
  · rw [hrs, List.append_nil, hspec ds hl2]
    exact trodAll_mk1 (shut_bool hrt _)
  · rw [hps2, List.append_nil, hspec ds hl2]
    exact args_stay laid hb ts _ _ _ hread' hA
  · rw [hvars, List.append_nil, hspec ds hl2]
    exact rfl
end
end Go.E

