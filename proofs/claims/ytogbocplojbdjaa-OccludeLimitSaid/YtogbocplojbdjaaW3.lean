/-
  The engine, part 3: a function's code over abstract states gives conditions in plain Lean.
-/
import Derived.Test.YtogbocplojbdjaaW2
/-
  EngMc: more operations on maps.
-/
namespace Go.E
open Go.RowKit
set_option linter.unusedVariables false
set_option linter.unusedSimpArgs false
section
variable {P : Program} {A : Nat → Prop} {w : World} {S : AState} {ρ : Nat → Value} {ev : Operand → Value} {f : Operand → AV} {d : Nat} {o : Oper} {r : Res}
theorem mop_entryStore {t : TypeId} {m s x : Operand} (ho : o.op = .entryStore t m s x) (hH : HeapR P A S.hp ρ w) (h : mop P S f d (.entryStore t m s x) = some r) (hob : r.obl)
    (hm : VR P w (imm A S.hp ρ w) ρ (f m) (ev m)) (hs : VR P w (imm A S.hp ρ w) ρ (f s) (ev s)) (hx : VR P w (imm A S.hp ρ w) ρ (f x) (ev x)) : HopOk P A S ρ w ev o r := by
  obtain ⟨dst, op, oty, pos, after, guard⟩ := o
  simp only at ho
  subst ho
  simp only [mop] at h
  split at h
  · rename_i l n hfm hfs
    split at h
    · rename_i kk v es c hc
      split at h
      · rename_i hl
        split at h
        · rename_i y hy
          injection h with h; subst h
          rw [hfm] at hm
          rw [hfs] at hs
          simp only [VR] at hm hs
          obtain ⟨b, ents, hb1, hb2, hb3⟩ := map_open (hH.chunk l _ hc)
          have hy2 : DRV w (immC A S.hp ρ w (refs S.hp (f x))) v y (ev x) := decV_sound hy (res_immC hH (fun l hl => hl) hx)
          have hlC : l ∉ refs S.hp (f x) := by simpa using hl
          obtain ⟨j, g1, _⟩ := stamp_ents n hy2 es ents.toList (hb3.ext (ext_immC (C := refs S.hp (f x)))) hob
          have g1' : ents.findIdx? (fun e => (e.born : Int) == n) = some j := by
            rw [← g1]
            obtain ⟨l⟩ := ents
            simp only [List.findIdx?_toArray]
          refine hop_obj (b := b) (ob := .map (ents.modify j fun e => { e with val := ev x }) c) (nx := .skip) (v := undef) hH hc hlC (by rw [hb1]; rfl) (lt_of_some hb2) ?_ (.inr ⟨rfl, rfl⟩) (fun w' I' ex hw' => ?_) (fun w' I' _ => by simp [VR])
          · have : (Instr.entryStore t (ev m) (ev s) (ev x)).run P w = .ok () { w with heap := w.heap.setIfInBounds b (.map (ents.modify j fun e => { e with val := ev x }) c) } := by
              simp only [Instr.entryStore, hm, hb1, hs, Sem.run_bind, MapKept.run_getObj_map hb2, Result.andThen, asInt, asIntOf, Sem.run_pure, g1', MapKept.run_setObj_map _ hb2]
            simp only [execOp]
            rw [run_bind_ok this]
            rfl
          · refine map_shut hb1 hw' ?_
            rw [Array.toList_modify]
            obtain ⟨j', k1, k2⟩ := stamp_ents n (hy2.ext ex) es ents.toList ((hb3.ext (ext_immC (C := refs S.hp (f x)))).ext ex) hob
            have : j' = j := by rw [g1] at k1; injection k1 with k1; exact k1.symm
            subst this
            exact k2
        · cases h
      · cases h
    · cases h
  · cases h
theorem eraseIdx_same (l : List MapEntry) (j : Nat) (a : Array MapEntry) (h : a.toList = l) (hj : j < l.length) : (a.eraseIdxIfInBounds j).toList = l.eraseIdx j := by
  subst h
  unfold Array.eraseIdxIfInBounds
  rw [dif_pos (by simpa using hj), Array.toList_eraseIdx]
theorem mop_delete {args : Array Operand} {ts : Array TypeId} (ho : o.op = .call { callee := .builtin .delete, args := args, argTypes := ts }) (hH : HeapR P A S.hp ρ w)
    (h : mop P S f d (.call { callee := .builtin .delete, args := args, argTypes := ts }) = some r) (hf : ∀ x ∈ args, VR P w (imm A S.hp ρ w) ρ (f x) (ev x)) : HopOk P A S ρ w ev o r := by
  obtain ⟨dst, op, oty, pos, after, guard⟩ := o
  simp only at ho
  subst ho
  simp only [mop] at h
  split at h
  · rename_i m k t hargs hts
    split at h
    · rename_i l k1 n hfm hfk
      split at h
      · rename_i kk v es c hc
        split at h
        · rename_i hcond
          obtain ⟨he, hme⟩ := hcond
          subst he
          injection h with h; subst h
          have ha : args = #[m, k] := by apply Array.ext'; simpa using hargs
          subst ha
          have hm := hf m (by simp)
          have hk := hf k (by simp)
          rw [hfm] at hm
          rw [hfk] at hk
          simp only [VR] at hm hk
          obtain ⟨e, hme⟩ := Option.isSome_iff_exists.1 hme
          obtain ⟨kt, ht1, ht2⟩ := mapElem_spec hme
          obtain ⟨b, ents, hb1, hb2, hb3⟩ := map_open (hH.chunk l _ hc)
          have hrunbase : ∀ w', (Builtin.delete_ ts oty #[ev m, ev k]).run P w = .ok (.tuple #[]) w' → (execOp ev ⟨dst, .call { callee := .builtin .delete, args := #[m, k], argTypes := ts }, oty, pos, after, guard⟩).run P w = .ok (.value (.tuple #[])) w' := by
            intro w' h
            simp only [execOp, resolve, Sem.run_bind, Sem.run_pure, Result.andThen_ok, invoke, builtin]
            simp [h]
          have hd0 : drops [] ++ [(l, some (Chunk.map (.int k1) v (mDel es n) c))] = [(l, some (Chunk.map (.int k1) v (mDel es n) c))] := rfl
          rw [← hd0]
          rcases find_ents n es ents.toList 0 hb3 with ⟨g1, g2, g3, g4, g5⟩ | ⟨j, x', y', g1, g2, g3, g4, g5, g6, g7, g8, g9⟩
          · refine hop_obj (b := b) (ob := .map ents c) (nx := .value (.tuple #[])) (v := .tuple #[]) hH hc (by simp) (by rw [hb1]; rfl) (lt_of_some hb2) ?_ (.inl rfl) (fun w' I' ex hw' => ?_) (fun w' I' _ => by simp [VR, VRs])
            · apply hrunbase
              simp [Builtin.delete_, hts, hm, hk, hb1, run_underlying ht1, MapKept.run_getObj_map hb2, MapKept.run_checkKey ht2 (isKey_int _ n), MapKept.run_findKey ht2 g3, MapKept.run_setObj_map _ hb2, Result.andThen]
            · refine map_shut hb1 hw' ?_
              rw [g4]
              exact (hb3.ext (ext_immC (C := []))).ext ex
          · refine hop_obj (b := b) (ob := .map (ents.eraseIdxIfInBounds j) c) (nx := .value (.tuple #[])) (v := .tuple #[]) hH hc (by simp) (by rw [hb1]; rfl) (lt_of_some hb2) ?_ (.inl rfl) (fun w' I' ex hw' => ?_) (fun w' I' _ => by simp [VR, VRs])
            · apply hrunbase
              simp only [Nat.zero_add] at g3
              simp [Builtin.delete_, hts, hm, hk, hb1, run_underlying ht1, MapKept.run_getObj_map hb2, MapKept.run_checkKey ht2 (isKey_int _ n), MapKept.run_findKey ht2 g3, MapKept.run_setObj_map _ hb2, Result.andThen]
            · refine map_shut hb1 hw' ?_
              rw [eraseIdx_same ents.toList j ents rfl (by have := (List.getElem?_eq_some_iff.1 g4).1; exact this)]
              exact (g7.ext (ext_immC (C := []))).ext ex
        · cases h
      · cases h
    · cases h
  · cases h
theorem run_getObj_it {b : Nat} {m : Option Nat} {s l : Nat} {q : Array Nat} (h : w.heap[b]? = some (.mapIter m s q l)) : (getObj b).run P w = .ok (.mapIter m s q l) w := by simp [getObj, Sem.run, h]
theorem mop_range {t : TypeId} {x : Operand} (ho : o.op = .range t x) (hH : HeapR P A S.hp ρ w) (h : mop P S f d (.range t x) = some r) (hx : VR P w (imm A S.hp ρ w) ρ (f x) (ev x)) : HopOk P A S ρ w ev o r := by
  obtain ⟨dst, op, oty, pos, after, guard⟩ := o
  simp only at ho
  subst ho
  simp only [mop] at h
  split at h
  · rename_i l kt et hfx ht
    split at h
    · rename_i k v es c hc
      split at h
      · rename_i hf
        injection h with h; subst h
        rw [hfx] at hx
        simp only [VR] at hx
        obtain ⟨b, ents, hb1, hb2, hb3⟩ := map_open (hH.chunk l _ hc)
        have hne : l ≠ d := by rintro rfl; rw [fresh_none hf] at hc; cases hc
        refine hop_newobj (ob := .mapIter (some b) c #[] c) (v := .pointer (some ⟨w.heap.size, 0, none⟩)) (rv := .pointer (some ⟨w.heap.size, 0, none⟩)) hH hf (fun b hb => by simpa [blkOf] using hb.symm) ?_ (fun w' I' _ hw' => ?_) (fun w' I' => by simp [VR, upρ, blkOf])
        · have : (Instr.range t (ev x)).run P w = .ok (.pointer (some ⟨w.heap.size, 0, none⟩)) (w.alloc (.mapIter (some b) c #[] c)) := by
            simp [Instr.range, hx, hb1, run_underlying ht, MapKept.run_getObj_map hb2, Result.andThen, newObj, Sem.run]
          simp only [execOp]
          rw [run_bind_ok this]
          rfl
        · exact ⟨_, b, rfl, hw', by rw [upρ_ne _ _ _ hne, hb1]; rfl⟩
      · cases h
    · cases h
  · cases h
theorem mop_entry {x : Operand} (ho : o.op = .entry x) (hH : HeapR P A S.hp ρ w) (h : mop P S f d (.entry x) = some r) (hob : r.obl) (hx : VR P w (imm A S.hp ρ w) ρ (f x) (ev x)) : HopOk P A S ρ w ev o r := by
  obtain ⟨dst, op, oty, pos, after, guard⟩ := o
  simp only at ho
  subst ho
  simp only [mop] at h
  split at h
  · rename_i l hfx
    split at h
    · rename_i m since last seen hc
      split at h
      · rename_i k v es c hm
        injection h with h; subst h
        obtain ⟨h1, h2, h3⟩ := hob
        subst h1
        rw [hfx] at hx
        simp only [VR] at hx
        obtain ⟨b, bm, hb1, hb2, hb3⟩ := hH.chunk l _ hc
        obtain ⟨b', ents, hm1, hm2, hm3⟩ := map_open (hH.chunk m _ hm)
        have hbb : bm = b' := by rw [hm1] at hb3; simpa [blkOf] using hb3.symm
        subst hbb
        obtain ⟨b2, hx1, hx2⟩ := hx
        have : b2 = b := by rw [hb1] at hx1; simpa [blkOf] using hx1.symm
        subst this
        obtain ⟨e, he⟩ := Option.isSome_iff_exists.1 h2
        obtain ⟨y, hy1, hy2, hy3, hy4⟩ := at_ents _ es ents.toList hm3 e he
        have hlast : seen.getLast? = some (seen.getLast?.getD 0) := by
          cases hq : seen.getLast? with
          | none => exact absurd (List.getLast?_eq_none_iff.1 hq) h3
          | some q => rfl
        refine hop_val (v := .tuple #[y.key, y.val]) ?_ ?_
        · have : (Instr.entry (ev x)).run P w = .ok (.tuple #[y.key, y.val]) w := by
            have hfind : ents.find? (fun x => x.born == seen.getLast?.getD 0) = some y := by rw [← hy1]; simp
            have hbk : seen.toArray.back? = some (seen.getLast?.getD 0) := by rw [← hlast]; simp
            simp only [Instr.entry, hx2, Sem.run_bind, run_getObj_it hb2, MapKept.run_getObj_map hm2, Result.andThen, hbk, hfind, bne_self_eq_false, Bool.false_eq_true, if_false, Sem.run_pure, ne_eq, not_true_eq_false]
          simp only [execOp]
          rw [run_bind_ok this]
          rfl
        · rw [he]
          simp only [Option.getD_some, VR]
          exact ⟨[y.key, y.val], by simp, VRs_cons.2 ⟨_, _, rfl, shut_sound k _ _ hy3, VRs_cons.2 ⟨_, _, rfl, shut_sound v _ _ hy4, by simp [VRs]⟩⟩⟩
      · cases h
    · cases h
  · cases h
theorem mop_sound {op : Op} (ho : o.op = op) (hH : HeapR P A S.hp ρ w) (h : mop P S f d op = some r) (hob : r.obl)
    (hf : ∀ x ∈ o.op.operands, VR P w (imm A S.hp ρ w) ρ (f x) (ev x)) : HopOk P A S ρ w ev o r := by
  rw [ho] at hf
  have h0 := h
  unfold Go.E.mop at h
  split at h
  · clear h; exact mop_makeMap ho hH h0
  · clear h; exact mop_lookup ho hH h0 (hf _ (by simp [Op.operands])) (hf _ (by simp [Op.operands]))
  · clear h; exact mop_mapUpdate ho hH h0 (hf _ (by simp [Op.operands])) (hf _ (by simp [Op.operands])) (hf _ (by simp [Op.operands]))
  · clear h; exact mop_mapEntry ho hH h0 hob (hf _ (by simp [Op.operands])) (hf _ (by simp [Op.operands]))
  · clear h; exact mop_entryStore ho hH h0 hob (hf _ (by simp [Op.operands])) (hf _ (by simp [Op.operands])) (hf _ (by simp [Op.operands]))
  · clear h; exact mop_range ho hH h0 (hf _ (by simp [Op.operands]))
  · clear h; exact mop_entry ho hH h0 hob (hf _ (by simp [Op.operands]))
  · clear h; exact mop_delete ho hH h0 fun x hx => hf x (by simp [Op.operands, Call.operands]; exact hx)
  · cases h
end
end Go.E

/-
  EngMd: array values.
-/
namespace Go.E
open Go.RowKit
set_option linter.unusedVariables false
set_option linter.unusedSimpArgs false
def aop (P : Program) (S : AState) (f : Operand → AV) : Op → Option Res
  | .load t a => match f a with
    | .pel l t' base 0 0 => match get? S.hp l with
      | some (.mix pre t2 xs) => if h : t2 = t' then match P.underlying t, P.info? t with
        | some (.array m e), some inf => if base = pre.length ∧ inf.size = m * t2.size then some ⟨xs.length = m, .av t2 xs, [], []⟩ else none
        | _, _ => none
        else none
      | _ => none
    | _ => none
  | .index t x i => match P.underlying t, f x, f i with
    | some (.array m e), .av t' xs, .int _ n => match P.info? e with
      | some inf => if inf.size = t'.size then match loadV P e (enc t' (elemAt xs n.toNat)) with
        | some v => some ⟨0 ≤ n ∧ n < (m : Int) ∧ xs.length = m, v, [], []⟩
        | none => none
        else none
      | none => none
    | some .string, .str s, .int _ n => some ⟨0 ≤ n ∧ n < (s.size : Int), .int .u8 ((s[n.toNat]?.getD 0).toNat : Int), [], []⟩
    | _, _, _ => none
  | _ => none
section
variable {P : Program} {A : Nat → Prop} {w : World} {S : AState} {ρ : Nat → Value} {ev : Operand → Value} {f : Operand → AV} {o : Oper} {r : Res} {I : Nat → Prop}
theorem loadV_append {t : TypeId} {cs ds : List AV} {x : AV} (h : loadV P t cs = some x) : loadV P t (cs ++ ds) = some x := by
  unfold loadV at h ⊢
  split at h
  · rename_i d i hd hi
    split at h
    · split at h
      · rename_i hs
        rw [if_pos (by rw [List.length_append]; omega), List.take_append_of_le_length hs]
        exact h
      · cases h
    · split at h
      · rename_i hs
        rw [if_pos (by rw [List.length_append]; omega), List.take_append_of_le_length hs]
        exact h
      · cases h
    · rename_i h1 h2
      have : (cs ++ ds).head? = some x := by cases cs with
        | nil => simp at h
        | cons a r => simpa using h
      cases d <;> first | exact this | exact absurd rfl (h1 _) | exact absurd rfl (h2 _ _)
  · cases h
theorem VRs_junk : ∀ (vs : List Value), VRs P w I ρ (List.replicate vs.length .junk) vs
  | [] => by simp [VRs]
  | v :: r => VRs_cons.2 ⟨v, r, rfl, by simp [VR], VRs_junk r⟩
theorem gatherV {t : Ty} {b : Nat} : ∀ (xs : List t.T) (off : Nat), (∀ i x, nth xs i = some x → ∃ us : List Value, us.length = t.size ∧ CellsAt w b (off + i * t.size) us ∧ DR w I t x us) →
    ∃ vss : List (List Value), vss.length = xs.length ∧ vss.flatten.length = xs.length * t.size ∧ CellsAt w b off vss.flatten ∧ ∀ i x us, nth xs i = some x → vss[i]? = some us → us.length = t.size ∧ DR w I t x us
  | [], off, h => ⟨[], rfl, by simp, fun j v hj => by simp at hj, fun i x us hx => by simp [nth] at hx⟩
  | x :: r, off, h => by
    obtain ⟨us, hl, hc, hd⟩ := h 0 x (by simp [nth])
    obtain ⟨vss, h1, h2, h3, h4⟩ := gatherV r (off + t.size) (fun i y hy => by
      obtain ⟨us, hl, hc, hd⟩ := h (i + 1) y (by simpa [nth] using hy)
      exact ⟨us, hl, by rw [Nat.succ_mul] at hc; rwa [show off + t.size + i * t.size = off + (i * t.size + t.size) from by omega], hd⟩)
    refine ⟨us :: vss, by simp [h1], by simp [hl, h2, Nat.succ_mul]; omega, fun j v hj => ?_, fun i y us' hi hu => ?_⟩
    · rw [List.flatten_cons, List.getElem?_append] at hj
      split at hj
      · have := hc j v hj
        simpa using this
      · rename_i hlt
        have := h3 _ v hj
        rwa [show off + t.size + (j - us.length) = off + j from by omega] at this
    · cases i with
      | zero =>
        have e1 : x = y := by simpa [nth] using hi
        have e2 : us = us' := by simpa using hu
        subst e1
        subst e2
        exact ⟨hl, hd⟩
      | succ i => exact h4 i y us' (by simpa [nth] using hi) (by simpa using hu)
theorem flatten_at {t : Ty} : ∀ (vss : List (List Value)) (i : Nat) (us : List Value), (∀ (k : Nat) (ws : List Value), vss[k]? = some ws → ws.length = t.size) → vss[i]? = some us → ∃ A B, vss.flatten = A ++ us ++ B ∧ A.length = i * t.size
  | [], i, us, h, hi => by simp at hi
  | v :: r, 0, us, h, hi => by
    have : v = us := by simpa using hi
    subst this
    exact ⟨[], r.flatten, by simp, by simp⟩
  | v :: r, i + 1, us, h, hi => by
    obtain ⟨A, B, h1, h2⟩ := flatten_at (t := t) r i us (fun k ws hk => h (k + 1) ws (by simpa using hk)) (by simpa using hi)
    exact ⟨v ++ A, B, by simp [h1], by simp [h2, h 0 v (by simp), Nat.succ_mul]; omega⟩
theorem aop_sound {op : Op} (ho : o.op = op) (hH : HeapR P A S.hp ρ w) (h : aop P S f op = some r) (hob : r.obl)
    (hf : ∀ x ∈ o.op.operands, VR P w (imm A S.hp ρ w) ρ (f x) (ev x)) : HopOk P A S ρ w ev o r := by
  obtain ⟨dst, op', oty, pos, after, guard⟩ := o
  simp only at ho
  subst ho
  unfold aop at h
  split at h
  · rename_i t a
    split at h
    · rename_i l t' base hfa
      split at h
      · rename_i pre t2 xs hc
        split at h
        · rename_i ht
          subst ht
          split at h
          · rename_i m e inf hu hi
            split at h
            · rename_i hcond
              obtain ⟨hbase, hsize⟩ := hcond
              subst hbase
              injection h with h; subst h
              have hlen : xs.length = m := hob
              have hv := hf a (by simp [Op.operands])
              rw [hfa] at hv
              simp only [VR] at hv
              obtain ⟨b, hb, hva⟩ := hv
              obtain ⟨b', vs, arr, e2, hrv, hh, hvs, hp, hs, hr⟩ := hH.chunk _ _ hc
              have : b' = b := by simpa [hrv, blkOf] using hb
              subst this
              obtain ⟨vss, g1, g2, g3, g4⟩ := gatherV (w := w) (b := b') xs pre.length (fun i x hx => by
                obtain ⟨us, h1, h2, h3⟩ := hr i x hx
                exact ⟨us, h1, fun j u hj => by simp [World.cell?, hh, h2 j u hj], h3⟩)
              refine hop_val (v := .agg vss.flatten.toArray) ?_ (by simp only [VR]; exact ⟨vss, rfl, g1, fun i x us => g4 i x us⟩)
              have h1 := run_loadCells_list (P := P) w ⟨b', pre.length, none⟩ vss.flatten (cells_add g3)
              rw [g2, hlen, ← hsize] at h1
              have hag : (isAgg t).run P w = .ok true w := by unfold isAgg; rw [run_bind_ok (run_underlying hu w)]; rfl
              have : (Instr.loadAt t (ev a)).run P w = .ok (.agg vss.flatten.toArray) w := by
                rw [hva, hrv]
                unfold Instr.loadAt Instr.sureAddr loadVar
                simp only [baseOf, Nat.zero_add, Nat.zero_mul, Nat.add_zero, Sem.run_bind, Sem.run_pure, Result.andThen_ok, hag, if_true, run_sizeOf' hi, h1]
              simp only [execOp]
              rw [run_bind_ok this]
              rfl
            · cases h
          · cases h
        · cases h
      · cases h
    · cases h
  · rename_i t x i
    split at h
    · rename_i m e t' xs kk n hu hfx hfi
      split at h
      · rename_i inf hi
        split at h
        · rename_i hsz
          split at h
          · rename_i y hy
            injection h with h; subst h
            obtain ⟨h0, hlt, hlen⟩ := hob
            have hx := hf x (by simp [Op.operands])
            have hi2 := hf i (by simp [Op.operands])
            rw [hfx] at hx
            rw [hfi] at hi2
            simp only [VR] at hx hi2
            obtain ⟨vss, hv, hvl, hvd⟩ := hx
            have hn : n.toNat < xs.length := by omega
            have hel : nth xs n.toNat = some (elemAt xs n.toNat) := by simp [nth, elemAt, hn]
            obtain ⟨us, hus⟩ : ∃ us, vss[n.toNat]? = some us := ⟨_, List.getElem?_eq_getElem (by omega)⟩
            obtain ⟨hul, hud⟩ := hvd _ _ us hel hus
            obtain ⟨A1, B1, hfl, hA1⟩ := flatten_at (t := t') vss n.toNat us (fun k ws hk => by
              have hk' : k < xs.length := by have := (List.getElem?_eq_some_iff.1 hk).1; omega
              exact (hvd k _ ws (List.getElem?_eq_getElem hk') hk).1) hus
            have hVs : VRs P w (imm A S.hp ρ w) ρ (List.replicate A1.length AV.junk ++ enc t' (elemAt xs n.toNat) ++ List.replicate B1.length AV.junk) vss.flatten := by
              rw [hfl]
              exact ((VRs_junk A1).append (enc_sound t' _ us hud)).append (VRs_junk B1)
            have hpart : partV P e ((List.replicate A1.length AV.junk ++ enc t' (elemAt xs n.toNat) ++ List.replicate B1.length AV.junk).drop A1.length) = some y := by
              unfold partV
              rw [List.append_assoc, List.drop_append, List.length_replicate, Nat.sub_self, List.drop_of_length_le (by simp), List.nil_append, List.drop_zero]
              exact loadV_append hy
            obtain ⟨u, hu1, hu2⟩ := part_sound hpart hVs
            refine hop_val (v := u) ?_ hu2
            have : (Instr.index t (ev x) (ev i)).run P w = .ok u w := by
              rw [hA1] at hu1
              simp only [Instr.index, hv, hi2, asIntOf, Sem.run_bind, Sem.run_pure, Result.andThen_ok, run_underlying hu, run_sizeOf' hi, hsz]
              rw [if_pos ⟨h0, hlt⟩]
              simp only [Sem.run_bind, run_sizeOf' hi, Result.andThen_ok, hsz]
              exact hu1
            simp only [execOp]
            rw [run_bind_ok this]
            rfl
          · cases h
        · cases h
      · cases h
    · rename_i s kk n hu hfx hfi
      injection h with h; subst h
      obtain ⟨h0, hlt⟩ := hob
      have hx := hf x (by simp [Op.operands])
      have hi2 := hf i (by simp [Op.operands])
      rw [hfx] at hx
      rw [hfi] at hi2
      simp only [VR] at hx hi2
      have hn : n.toNat < s.size := by omega
      have hs : s[n.toNat]? = some (s[n.toNat]?.getD 0) := by
        rw [getElem?_pos s n.toNat hn]
        rfl
      refine hop_val (v := .int .u8 ((s[n.toNat]?.getD 0).toNat : Int)) ?_ (by simp [VR])
      have : (Instr.index t (ev x) (ev i)).run P w = .ok (.int .u8 ((s[n.toNat]?.getD 0).toNat : Int)) w := by
        simp only [Instr.index, hx, hi2, asIntOf, Sem.run_bind, Sem.run_pure, Result.andThen_ok, run_underlying hu]
        rw [if_pos h0, hs]
        rfl
      simp only [execOp]
      rw [run_bind_ok this]
      rfl
    · cases h
  · cases h
end
end Go.E

/-
  EngN: contracts.
-/
namespace Go.E
open Go.RowKit
set_option linter.unusedVariables false
set_option linter.unusedSimpArgs false
abbrev PCon := List AV → Option (Prop × AV)
abbrev CCon := List AV → List AV → Option AV
abbrev Clos := List (Nat × CCon)
def tyAV : AV → Option Ty
  | .int k _ => some (.int k)
  | .bool _ => some .bool
  | .str _ => some .str
  | .arr t _ => some (.list t)
  | _ => none
def tyCells : List AV → Option Ty
  | [] => none
  | [x] => tyAV x
  | x :: r => match tyAV x, tyCells r with
    | some a, some b => some (.prod a b)
    | _, _ => none
mutual
def argAV (H : Heap) : AV → AV
  | .sl l => match get? H l with
    | some (.row t xs) => .arr t xs
    | _ => .sl l
  | .agg cs => .agg (argAVs H cs)
  | x => x
def argAVs (H : Heap) : List AV → List AV
  | [] => []
  | x :: r => argAV H x :: argAVs H r
end
def capAV (H : Heap) : AV → AV
  | .ptr l 0 => match get? H l with
    | some (.blk cs) => match tyCells (argAVs H cs) with
      | some t => match dec t (argAVs H cs) with
        | some x => .cp t x 0
        | none => .ptr l 0
      | none => .ptr l 0
    | _ => .ptr l 0
  | x => argAV H x
def closAV (H : Heap) (Γc : Clos) : AV → AV
  | .fn g first cap =>
    let first' := first.map (capAV H)
    let cap' := cap.map (capAV H)
    match get? Γc g with
    | some cc => match cc first' cap' with
      | some pf => pf
      | none => .fn g first' cap'
    | none => .fn g first' cap'
  | .ptr l 0 => capAV H (.ptr l 0)
  | x => argAV H x
mutual
def place : Nat → AV → AV × List (Nat × Chunk) × Nat
  | n, .own t xs => (.sl n, [(n, .row t xs)], n + 1)
  | n, .agg cs => let r := places n cs; (.agg r.1, r.2.1, r.2.2)
  | n, .tup cs => let r := places n cs; (.tup r.1, r.2.1, r.2.2)
  | n, x => (x, [], n)
def places : Nat → List AV → List AV × List (Nat × Chunk) × Nat
  | n, [] => ([], [], n)
  | n, x :: r => let a := place n x; let b := places a.2.2 r; (a.1 :: b.1, a.2.1 ++ b.2.1, b.2.2)
end
mutual
def freeze : AV → AV
  | .own t xs => .arr t xs
  | .agg cs => .agg (freezes cs)
  | .tup cs => .tup (freezes cs)
  | x => x
def freezes : List AV → List AV
  | [] => []
  | x :: r => freeze x :: freezes r
end
def Ty.flat : Ty → Bool
  | .list _ => false
  | .prod a b => a.flat && b.flat
  | _ => true
mutual
def flatAV : AV → Bool
  | .int _ _ | .bool _ | .str _ | .nilp | .nils | .nilm | .nilf => true
  | .own t _ => t.flat
  | .agg cs => flatAVs cs
  | .tup cs => flatAVs cs
  | _ => false
def flatAVs : List AV → Bool
  | [] => true
  | x :: r => flatAV x && flatAVs r
end
mutual
def noref : AV → Bool
  | .ptr _ _ | .pel _ _ _ _ _ | .sl _ | .mp _ | .cond _ _ => false
  | .fn _ a b => norefs a && norefs b
  | .agg cs => norefs cs
  | .tup cs => norefs cs
  | _ => true
def norefs : List AV → Bool
  | [] => true
  | x :: r => noref x && norefs r
end
def allA (A : Nat → Prop) (w : World) (b : Nat) : Prop := b < w.heap.size ∧ A b
def upto (A : Nat → Prop) (w : World) (b : Nat) : Prop := (b < w.heap.size ∧ A b) ∨ w.heap.size ≤ b
def OutR (P : Program) (A : Nat → Prop) (w w' : World) (r : AV) (v : Value) : Prop :=
  ∀ n, ∃ ρ', HeapR P (upto A w) (place n r).2.1 ρ' w' ∧ VR P w' (imm (upto A w) (place n r).2.1 ρ' w') ρ' (place n r).1 v ∧ ∀ l c b, get? (place n r).2.1 l = some c → blkOf (ρ' l) = some b → w.heap.size ≤ b
def PSound (P : Program) (f : FuncId) (C : PCon) : Prop :=
  Enters P f ∧ ∀ args obl r, C args = some (obl, r) → obl → ∀ A w ρ vs, VRs P w (allA A w) ρ args vs →
    Calls P f vs.toArray w fun e w' => ∃ v, e = .returned v ∧ Below w.heap.size w w' ∧ OutR P A w w' r v
def CSound (P : Program) (Γc : Clos) : Prop := ∀ g cc, get? Γc g = some cc → ∀ first cap pf, cc first cap = some pf → ∀ w I ρ v, VR P w I ρ (.fn g first cap) v → VR P w I ρ pf v
abbrev Con := Nat → Heap → List AV → Option Res
def newIds (S : AState) (u : List (Nat × Option Chunk)) : Bool := u.all fun x => (get? S.hp x.1).isSome || S.fresh x.1
def OutOk (P : Program) (A : Nat → Prop) (S : AState) (ρ : Nat → Value) (w : World) (r : Res) (v : Value) (w' : World) : Prop :=
  ∃ (ρ' : Nat → Value) (U : List Nat), Step P S ρ w U r.kill (applyUpd r.upd (killH r.kill S.hp)) ρ' w' ∧
    (∀ l c, l ∈ U → get? (applyUpd r.upd (killH r.kill S.hp)) l = some c → ChunkR P w' (imm A (applyUpd r.upd (killH r.kill S.hp)) ρ' w') ρ' c (ρ' l)) ∧
    VR P w' (imm A (applyUpd r.upd (killH r.kill S.hp)) ρ' w') ρ' r.val v ∧ ∀ l ∈ U, (get? r.upd l).isSome = true
def Sound (P : Program) (f : FuncId) (C : Con) : Prop :=
  Enters P f ∧ ∀ nid (S : AState) args r, C nid S.hp args = some r → r.obl → newIds S r.upd = true → ∀ A w ρ vs, HeapR P A S.hp ρ w → VRs P w (imm A S.hp ρ w) ρ args vs →
    Calls P f vs.toArray w fun e w' => ∃ v, e = .returned v ∧ OutOk P A S ρ w r v w'
def pure_ (Γc : Clos) (C : PCon) : Con := fun nid H args => match C (args.map (closAV H Γc)) with
  | some (obl, r) => if noref r = true ∧ (flatAV r = true ∨ norefs args = true) ∧ (place nid r).2.1.all (fun x => (get? H x.1).isNone) = true then
      some ⟨obl, (place nid r).1, (place nid r).2.1.map fun x => (x.1, some x.2), []⟩ else none
  | none => none

section
variable {P : Program} {A : Nat → Prop} {w : World} {ρ : Nat → Value} {H : Heap}
theorem imm_all (hH : HeapR P A H ρ w) : Ext w (imm A H ρ w) w (allA A w) := ⟨Nat.le_refl _, fun b hb => ⟨hb.1, rfl⟩⟩
mutual
theorem argAV_sound (hH : HeapR P A H ρ w) : ∀ (x : AV) (v : Value), VR P w (imm A H ρ w) ρ x v → VR P w (allA A w) ρ (argAV H x) v
  | .sl l, v, hv => by
    unfold argAV
    split
    · rename_i t xs hc
      simp only [VR] at hv ⊢
      subst hv
      exact row_DR (imm_all hH) (hH.chunk l _ hc) (fun b hb => ⟨(hH.chunk l _ hc).lt hb, hH.ok l _ b hc hb⟩)
    · simpa [VR] using hv
  | .agg cs, v, hv => by
    unfold argAV
    simp only [VR] at hv ⊢
    obtain ⟨vs, hv1, hv2⟩ := hv
    exact ⟨vs, hv1, argAVs_sound hH cs vs hv2⟩
  | .int _ _, v, hv => VR.ext (w := w) (I := imm A H ρ w) (ρ := ρ) (imm_all hH) _ v (fun _ _ => rfl) hv
  | .bool _, v, hv => VR.ext (w := w) (I := imm A H ρ w) (ρ := ρ) (imm_all hH) _ v (fun _ _ => rfl) hv
  | .str _, v, hv => VR.ext (w := w) (I := imm A H ρ w) (ρ := ρ) (imm_all hH) _ v (fun _ _ => rfl) hv
  | .nilp, v, hv => VR.ext (w := w) (I := imm A H ρ w) (ρ := ρ) (imm_all hH) _ v (fun _ _ => rfl) hv
  | .nils, v, hv => VR.ext (w := w) (I := imm A H ρ w) (ρ := ρ) (imm_all hH) _ v (fun _ _ => rfl) hv
  | .nilm, v, hv => VR.ext (w := w) (I := imm A H ρ w) (ρ := ρ) (imm_all hH) _ v (fun _ _ => rfl) hv
  | .nilf, v, hv => VR.ext (w := w) (I := imm A H ρ w) (ρ := ρ) (imm_all hH) _ v (fun _ _ => rfl) hv
  | .ptr _ _, v, hv => VR.ext (w := w) (I := imm A H ρ w) (ρ := ρ) (imm_all hH) _ v (fun _ _ => rfl) hv
  | .pel _ _ _ _ _, v, hv => VR.ext (w := w) (I := imm A H ρ w) (ρ := ρ) (imm_all hH) _ v (fun _ _ => rfl) hv
  | .mp _, v, hv => VR.ext (w := w) (I := imm A H ρ w) (ρ := ρ) (imm_all hH) _ v (fun _ _ => rfl) hv
  | .arr _ _, v, hv => VR.ext (w := w) (I := imm A H ρ w) (ρ := ρ) (imm_all hH) _ v (fun _ _ => rfl) hv
  | .own _ _, v, hv => VR.ext (w := w) (I := imm A H ρ w) (ρ := ρ) (imm_all hH) _ v (fun _ _ => rfl) hv
  | .cp _ _ _, v, hv => VR.ext (w := w) (I := imm A H ρ w) (ρ := ρ) (imm_all hH) _ v (fun _ _ => rfl) hv
  | .av _ _, v, hv => VR.ext (w := w) (I := imm A H ρ w) (ρ := ρ) (imm_all hH) _ v (fun _ _ => rfl) hv
  | .fn _ _ _, v, hv => VR.ext (w := w) (I := imm A H ρ w) (ρ := ρ) (imm_all hH) _ v (fun _ _ => rfl) hv
  | .pfn _ _ _, v, hv => VR.ext (w := w) (I := imm A H ρ w) (ρ := ρ) (imm_all hH) _ v (fun _ _ => rfl) hv
  | .tup _, v, hv => VR.ext (w := w) (I := imm A H ρ w) (ρ := ρ) (imm_all hH) _ v (fun _ _ => rfl) hv
  | .cond _ _, v, hv => VR.ext (w := w) (I := imm A H ρ w) (ρ := ρ) (imm_all hH) _ v (fun _ _ => rfl) hv
  | .junk, v, hv => VR.ext (w := w) (I := imm A H ρ w) (ρ := ρ) (imm_all hH) _ v (fun _ _ => rfl) hv
theorem argAVs_sound (hH : HeapR P A H ρ w) : ∀ (x : List AV) (v : List Value), VRs P w (imm A H ρ w) ρ x v → VRs P w (allA A w) ρ (argAVs H x) v
  | [], v, hv => by simpa [argAVs, VRs] using hv
  | x :: r, v, hv => by
    obtain ⟨u, us, hv1, hv2, hv3⟩ := VRs_cons.1 hv
    unfold argAVs
    exact VRs_cons.2 ⟨u, us, hv1, argAV_sound hH x u hv2, argAVs_sound hH r us hv3⟩
end
theorem capAV_sound (hH : HeapR P A H ρ w) {x : AV} {v : Value} (hv : VR P w (imm A H ρ w) ρ x v) : VR P w (allA A w) ρ (capAV H x) v := by
  unfold capAV
  split
  · rename_i l
    have hall := VR.ext (imm_all hH) _ _ (fun _ _ => rfl) hv
    split
    · rename_i cs hc
      split
      · rename_i t ht
        split
        · rename_i x hx
          simp only [VR] at hv ⊢
          obtain ⟨b, hb, rfl⟩ := hv
          obtain ⟨b', vs, e, hrv, hh, hvs⟩ := hH.chunk _ _ hc
          have : b' = b := by simpa [hrv, blkOf] using hb
          subst this
          have hd := dec_sound t _ x _ hx (argAVs_sound hH _ _ hvs)
          exact ⟨b', 0, vs, rfl, ⟨(hH.chunk _ _ hc).lt (by simp [hrv, blkOf]), hH.ok _ _ _ hc (by simp [hrv, blkOf])⟩, DR.length _ _ _ hd, fun j u hj => by simp [World.cell?, hh, hj], hd⟩
        · exact hall
      · exact hall
    · exact hall
  · exact argAV_sound hH _ _ hv
theorem capAVs_sound (hH : HeapR P A H ρ w) : ∀ {xs : List AV} {vs : List Value}, VRs P w (imm A H ρ w) ρ xs vs → VRs P w (allA A w) ρ (xs.map (capAV H)) vs
  | [], vs, h => by simpa [VRs] using h
  | x :: r, vs, h => by
    obtain ⟨v, us, hv, h1, h2⟩ := VRs_cons.1 h
    exact VRs_cons.2 ⟨v, us, hv, capAV_sound hH h1, capAVs_sound hH h2⟩
theorem closAV_sound {Γc : Clos} (hΓ : CSound P Γc) (hH : HeapR P A H ρ w) {x : AV} {v : Value} (hv : VR P w (imm A H ρ w) ρ x v) : VR P w (allA A w) ρ (closAV H Γc x) v := by
  unfold closAV
  split
  · rename_i g first cap
    have hfn : VR P w (allA A w) ρ (.fn g (first.map (capAV H)) (cap.map (capAV H))) v := by
      simp only [VR] at hv ⊢
      obtain ⟨vs, us, h1, h2, h3⟩ := hv
      exact ⟨vs, us, h1, capAVs_sound hH h2, capAVs_sound hH h3⟩
    simp only
    split
    · rename_i cc hcc
      split
      · rename_i pf hpf
        exact hΓ g cc hcc _ _ pf hpf w _ ρ v hfn
      · exact hfn
    · exact hfn
  · exact capAV_sound hH hv
  · exact argAV_sound hH _ _ hv
theorem closAVs_sound {Γc : Clos} (hΓ : CSound P Γc) (hH : HeapR P A H ρ w) : ∀ {xs : List AV} {vs : List Value}, VRs P w (imm A H ρ w) ρ xs vs → VRs P w (allA A w) ρ (xs.map (closAV H Γc)) vs
  | [], vs, h => by simpa [VRs] using h
  | x :: r, vs, h => by
    obtain ⟨v, us, hv, h1, h2⟩ := VRs_cons.1 h
    exact VRs_cons.2 ⟨v, us, hv, closAV_sound hΓ hH h1, closAVs_sound hΓ hH h2⟩

theorem DR.flat {w : World} {I I' : Nat → Prop} : ∀ (t : Ty) (x : t.T) (vs : List Value), t.flat = true → DR w I t x vs → DR w I' t x vs
  | .int k, x, vs, hf, h => h
  | .bool, x, vs, hf, h => h
  | .str, x, vs, hf, h => h
  | .list t, xs, vs, hf, h => by simp [Ty.flat] at hf
  | .prod a b, x, vs, hf, h => by
    simp only [Ty.flat, Bool.and_eq_true] at hf
    obtain ⟨us, ws, hv, h1, h2⟩ := h
    exact ⟨us, ws, hv, DR.flat a x.1 us hf.1 h1, DR.flat b x.2 ws hf.2 h2⟩
theorem get?_isSome_append {α : Type} {u v : List (Nat × α)} {l : Nat} : (get? (u ++ v) l).isSome = ((get? u l).isSome || (get? v l).isSome) := by
  rw [get?_append]
  cases get? u l <;> simp
mutual
theorem flat_place {w : World} {I I' : Nat → Prop} {ρ1 ρ2 : Nat → Value} : ∀ (r : AV) (n : Nat) (v : Value), flatAV r = true → (∀ l, (get? (place n r).2.1 l).isSome = true → ρ2 l = ρ1 l) → VR P w I ρ1 (place n r).1 v → VR P w I' ρ2 (place n r).1 v
  | .own t xs, n, v, hf, hr, h => by
    simp only [place, VR] at h ⊢
    rw [hr n (by simp [place, get?])]
    exact h
  | .agg cs, n, v, hf, hr, h => by
    simp only [place, VR] at h ⊢
    obtain ⟨vs, hv, h1⟩ := h
    exact ⟨vs, hv, flat_places cs n vs (by simpa [flatAV] using hf) (fun l hl => hr l (by simpa [place] using hl)) h1⟩
  | .tup cs, n, v, hf, hr, h => by
    simp only [place, VR] at h ⊢
    obtain ⟨vs, hv, h1⟩ := h
    exact ⟨vs, hv, flat_places cs n vs (by simpa [flatAV] using hf) (fun l hl => hr l (by simpa [place] using hl)) h1⟩
  | .int _ _, n, v, hf, hr, h => by simpa [place, VR] using h
  | .bool _, n, v, hf, hr, h => by simpa [place, VR] using h
  | .str _, n, v, hf, hr, h => by simpa [place, VR] using h
  | .nilp, n, v, hf, hr, h => by simpa [place, VR] using h
  | .nils, n, v, hf, hr, h => by simpa [place, VR] using h
  | .nilm, n, v, hf, hr, h => by simpa [place, VR] using h
  | .nilf, n, v, hf, hr, h => by simpa [place, VR] using h
  | .ptr _ _, n, v, hf, hr, h => by simp [flatAV] at hf
  | .pel _ _ _ _ _, n, v, hf, hr, h => by simp [flatAV] at hf
  | .sl _, n, v, hf, hr, h => by simp [flatAV] at hf
  | .mp _, n, v, hf, hr, h => by simp [flatAV] at hf
  | .arr _ _, n, v, hf, hr, h => by simp [flatAV] at hf
  | .cp _ _ _, n, v, hf, hr, h => by simp [flatAV] at hf
  | .av _ _, n, v, hf, hr, h => by simp [flatAV] at hf
  | .fn _ _ _, n, v, hf, hr, h => by simp [flatAV] at hf
  | .pfn _ _ _, n, v, hf, hr, h => by simp [flatAV] at hf
  | .cond _ _, n, v, hf, hr, h => by simp [flatAV] at hf
  | .junk, n, v, hf, hr, h => by simp [flatAV] at hf
theorem flat_places {w : World} {I I' : Nat → Prop} {ρ1 ρ2 : Nat → Value} : ∀ (rs : List AV) (n : Nat) (vs : List Value), flatAVs rs = true → (∀ l, (get? (places n rs).2.1 l).isSome = true → ρ2 l = ρ1 l) → VRs P w I ρ1 (places n rs).1 vs → VRs P w I' ρ2 (places n rs).1 vs
  | [], n, vs, hf, hr, h => by simpa [places, VRs] using h
  | x :: r, n, vs, hf, hr, h => by
    simp only [places] at h ⊢
    simp only [flatAVs, Bool.and_eq_true] at hf
    obtain ⟨v, us, hv, h1, h2⟩ := VRs_cons.1 h
    refine VRs_cons.2 ⟨v, us, hv, flat_place x n v hf.1 (fun l hl => hr l ?_) h1, flat_places r _ us hf.2 (fun l hl => hr l ?_) h2⟩
    · simp only [places]; rw [get?_isSome_append, hl]; rfl
    · simp only [places]; rw [get?_isSome_append, hl]; simp
end
mutual
theorem rows_place : ∀ (r : AV) (n l : Nat) (c : Chunk), get? (place n r).2.1 l = some c → ∃ t xs, c = .row t xs ∧ (flatAV r = true → t.flat = true)
  | .own t xs, n, l, c, h => by
    simp only [place, get?] at h
    split at h
    · injection h with h; subst h
      exact ⟨t, xs, rfl, fun h => by simpa [flatAV] using h⟩
    · cases h
  | .agg cs, n, l, c, h => by
    obtain ⟨t, xs, h1, h2⟩ := rows_places cs n l c (by simpa [place] using h)
    exact ⟨t, xs, h1, fun h => h2 (by simpa [flatAV] using h)⟩
  | .tup cs, n, l, c, h => by
    obtain ⟨t, xs, h1, h2⟩ := rows_places cs n l c (by simpa [place] using h)
    exact ⟨t, xs, h1, fun h => h2 (by simpa [flatAV] using h)⟩
  | .int _ _, n, l, c, h => by simp [place, get?] at h
  | .bool _, n, l, c, h => by simp [place, get?] at h
  | .str _, n, l, c, h => by simp [place, get?] at h
  | .nilp, n, l, c, h => by simp [place, get?] at h
  | .nils, n, l, c, h => by simp [place, get?] at h
  | .nilm, n, l, c, h => by simp [place, get?] at h
  | .nilf, n, l, c, h => by simp [place, get?] at h
  | .ptr _ _, n, l, c, h => by simp [place, get?] at h
  | .pel _ _ _ _ _, n, l, c, h => by simp [place, get?] at h
  | .sl _, n, l, c, h => by simp [place, get?] at h
  | .mp _, n, l, c, h => by simp [place, get?] at h
  | .arr _ _, n, l, c, h => by simp [place, get?] at h
  | .cp _ _ _, n, l, c, h => by simp [place, get?] at h
  | .av _ _, n, l, c, h => by simp [place, get?] at h
  | .fn _ _ _, n, l, c, h => by simp [place, get?] at h
  | .pfn _ _ _, n, l, c, h => by simp [place, get?] at h
  | .cond _ _, n, l, c, h => by simp [place, get?] at h
  | .junk, n, l, c, h => by simp [place, get?] at h
theorem rows_places : ∀ (rs : List AV) (n l : Nat) (c : Chunk), get? (places n rs).2.1 l = some c → ∃ t xs, c = .row t xs ∧ (flatAVs rs = true → t.flat = true)
  | [], n, l, c, h => by simp [places, get?] at h
  | x :: r, n, l, c, h => by
    simp only [places] at h
    rw [get?_append] at h
    split at h
    · rename_i c' hc
      injection h with h; subst h
      obtain ⟨t, xs, h1, h2⟩ := rows_place x n l _ hc
      exact ⟨t, xs, h1, fun h => h2 (by simp only [flatAVs, Bool.and_eq_true] at h; exact h.1)⟩
    · obtain ⟨t, xs, h1, h2⟩ := rows_places r _ l c h
      exact ⟨t, xs, h1, fun h => h2 (by simp only [flatAVs, Bool.and_eq_true] at h; exact h.2)⟩
end
mutual
theorem noref_has : ∀ (x : AV) (l : Nat), noref x = true → x.has l = false
  | .fn _ a b, l, h => by
    simp only [noref, Bool.and_eq_true] at h
    simp [AV.has, norefs_has a l h.1, norefs_has b l h.2]
  | .agg cs, l, h => by simpa [AV.has] using norefs_has cs l (by simpa [noref] using h)
  | .tup cs, l, h => by simpa [AV.has] using norefs_has cs l (by simpa [noref] using h)
  | .int _ _, l, h => by simp [AV.has]
  | .bool _, l, h => by simp [AV.has]
  | .str _, l, h => by simp [AV.has]
  | .nilp, l, h => by simp [AV.has]
  | .nils, l, h => by simp [AV.has]
  | .nilm, l, h => by simp [AV.has]
  | .nilf, l, h => by simp [AV.has]
  | .arr _ _, l, h => by simp [AV.has]
  | .own _ _, l, h => by simp [AV.has]
  | .cp _ _ _, l, h => by simp [AV.has]
  | .av _ _, l, h => by simp [AV.has]
  | .pfn _ _ _, l, h => by simp [AV.has]
  | .junk, l, h => by simp [AV.has]
  | .ptr _ _, l, h => by simp [noref] at h
  | .pel _ _ _ _ _, l, h => by simp [noref] at h
  | .sl _, l, h => by simp [noref] at h
  | .mp _, l, h => by simp [noref] at h
  | .cond _ _, l, h => by simp [noref] at h
theorem norefs_has : ∀ (xs : List AV) (l : Nat), norefs xs = true → AV.hass l xs = false
  | [], l, h => rfl
  | x :: r, l, h => by
    simp only [norefs, Bool.and_eq_true] at h
    simp [AV.hass, noref_has x l h.1, norefs_has r l h.2]
end
mutual
theorem place_has : ∀ (x : AV) (n l : Nat), noref x = true → (place n x).1.has l = true → (get? (place n x).2.1 l).isSome = true
  | .own t xs, n, l, h, hl => by
    simp only [place, AV.has, beq_iff_eq] at hl
    simp [place, get?, hl]
  | .agg cs, n, l, h, hl => by simpa [place] using places_has cs n l (by simpa [noref] using h) (by simpa [place, AV.has] using hl)
  | .tup cs, n, l, h, hl => by simpa [place] using places_has cs n l (by simpa [noref] using h) (by simpa [place, AV.has] using hl)
  | .int a b, n, l, h, hl => by rw [show (place n (.int a b)).1 = (.int a b) from rfl, noref_has _ l h] at hl; cases hl
  | .bool a, n, l, h, hl => by rw [show (place n (.bool a)).1 = (.bool a) from rfl, noref_has _ l h] at hl; cases hl
  | .str a, n, l, h, hl => by rw [show (place n (.str a)).1 = (.str a) from rfl, noref_has _ l h] at hl; cases hl
  | .nilp, n, l, h, hl => by rw [show (place n (.nilp)).1 = (.nilp) from rfl, noref_has _ l h] at hl; cases hl
  | .nils, n, l, h, hl => by rw [show (place n (.nils)).1 = (.nils) from rfl, noref_has _ l h] at hl; cases hl
  | .nilm, n, l, h, hl => by rw [show (place n (.nilm)).1 = (.nilm) from rfl, noref_has _ l h] at hl; cases hl
  | .nilf, n, l, h, hl => by rw [show (place n (.nilf)).1 = (.nilf) from rfl, noref_has _ l h] at hl; cases hl
  | .arr a b, n, l, h, hl => by rw [show (place n (.arr a b)).1 = (.arr a b) from rfl, noref_has _ l h] at hl; cases hl
  | .cp a b c, n, l, h, hl => by rw [show (place n (.cp a b c)).1 = (.cp a b c) from rfl, noref_has _ l h] at hl; cases hl
  | .av a b, n, l, h, hl => by rw [show (place n (.av a b)).1 = (.av a b) from rfl, noref_has _ l h] at hl; cases hl
  | .pfn a b c, n, l, h, hl => by rw [show (place n (.pfn a b c)).1 = (.pfn a b c) from rfl, noref_has _ l h] at hl; cases hl
  | .fn a b c, n, l, h, hl => by rw [show (place n (.fn a b c)).1 = (.fn a b c) from rfl, noref_has _ l h] at hl; cases hl
  | .junk, n, l, h, hl => by rw [show (place n (.junk)).1 = (.junk) from rfl, noref_has _ l h] at hl; cases hl
  | .ptr a b, n, l, h, hl => by rw [show (place n (.ptr a b)).1 = (.ptr a b) from rfl, noref_has _ l h] at hl; cases hl
  | .pel a b c d e, n, l, h, hl => by rw [show (place n (.pel a b c d e)).1 = (.pel a b c d e) from rfl, noref_has _ l h] at hl; cases hl
  | .sl a, n, l, h, hl => by rw [show (place n (.sl a)).1 = (.sl a) from rfl, noref_has _ l h] at hl; cases hl
  | .mp a, n, l, h, hl => by rw [show (place n (.mp a)).1 = (.mp a) from rfl, noref_has _ l h] at hl; cases hl
  | .cond a b, n, l, h, hl => by rw [show (place n (.cond a b)).1 = (.cond a b) from rfl, noref_has _ l h] at hl; cases hl
theorem places_has : ∀ (xs : List AV) (n l : Nat), norefs xs = true → AV.hass l (places n xs).1 = true → (get? (places n xs).2.1 l).isSome = true
  | [], n, l, h, hl => by simp [places, AV.hass] at hl
  | x :: r, n, l, h, hl => by
    simp only [norefs, Bool.and_eq_true] at h
    simp only [places, AV.hass, Bool.or_eq_true] at hl ⊢
    rw [get?_isSome_append]
    rcases hl with hl | hl
    · rw [place_has x n l h.1 hl]; rfl
    · rw [places_has r _ l h.2 hl]; simp
end
end
end Go.E

/-
  EngO: a pure contract is a contract.
-/
namespace Go.E
open Go.RowKit
set_option linter.unusedVariables false
set_option linter.unusedSimpArgs false
section
variable {P : Program} {A : Nat → Prop} {w : World} {ρ : Nat → Value} {H : Heap}
mutual
theorem argAV_noref : ∀ (x : AV), noref x = true → argAV H x = x
  | .agg cs, h => by simp [argAV, argAVs_noref cs (by simpa [noref] using h)]
  | .int _ _, h => rfl
  | .bool _, h => rfl
  | .str _, h => rfl
  | .nilp, h => rfl
  | .nils, h => rfl
  | .nilm, h => rfl
  | .nilf, h => rfl
  | .arr _ _, h => rfl
  | .own _ _, h => rfl
  | .cp _ _ _, h => rfl
  | .av _ _, h => rfl
  | .fn _ _ _, h => rfl
  | .pfn _ _ _, h => rfl
  | .tup _, h => rfl
  | .junk, h => rfl
  | .ptr _ _, h => by simp [noref] at h
  | .pel _ _ _ _ _, h => by simp [noref] at h
  | .mp _, h => by simp [noref] at h
  | .cond _ _, h => by simp [noref] at h
  | .sl _, h => by simp [noref] at h
theorem argAVs_noref : ∀ (xs : List AV), norefs xs = true → argAVs H xs = xs
  | [], h => rfl
  | x :: r, h => by
    simp only [norefs, Bool.and_eq_true] at h
    simp [argAVs, argAV_noref x h.1, argAVs_noref r h.2]
end
theorem capAV_noref {x : AV} (h : noref x = true) : capAV H x = x := by
  unfold capAV
  split
  · simp [noref] at h
  · exact argAV_noref x h
theorem capAVs_noref : ∀ {xs : List AV}, norefs xs = true → xs.map (capAV H) = xs
  | [], h => rfl
  | x :: r, h => by
    simp only [norefs, Bool.and_eq_true] at h
    simp [capAV_noref h.1, capAVs_noref h.2]
theorem closAV_noref {Γc : Clos} (hΓ : CSound P Γc) {I : Nat → Prop} {x : AV} {v : Value} (h : noref x = true) (hv : VR P w I ρ x v) : VR P w I ρ (closAV H Γc x) v := by
  unfold closAV
  split
  · rename_i g first cap
    simp only [noref, Bool.and_eq_true] at h
    rw [capAVs_noref h.1, capAVs_noref h.2]
    simp only
    split
    · rename_i cc hcc
      split
      · rename_i pf hpf
        exact hΓ g cc hcc _ _ pf hpf w I ρ v hv
      · exact hv
    · exact hv
  · simp [noref] at h
  · rw [argAV_noref _ h]; exact hv
theorem closAVs_noref {Γc : Clos} (hΓ : CSound P Γc) {I : Nat → Prop} : ∀ {xs : List AV} {vs : List Value}, norefs xs = true → VRs P w I ρ xs vs → VRs P w I ρ (xs.map (closAV H Γc)) vs
  | [], vs, h, hv => by simpa [VRs] using hv
  | x :: r, vs, h, hv => by
    simp only [norefs, Bool.and_eq_true] at h
    obtain ⟨v, us, hv1, h1, h2⟩ := VRs_cons.1 hv
    exact VRs_cons.2 ⟨v, us, hv1, closAV_noref hΓ h.1 h1, closAVs_noref hΓ h.2 h2⟩
theorem get?_somes (cs : List (Nat × Chunk)) (l : Nat) : get? (cs.map fun x => (x.1, some x.2)) l = (get? cs l).map some := by
  induction cs with
  | nil => rfl
  | cons x r ih =>
    simp only [List.map_cons, get?]
    split
    · rfl
    · exact ih
theorem get?_mem {α : Type} {cs : List (Nat × α)} {l : Nat} (h : (get? cs l).isSome = true) : ∃ x ∈ cs, x.1 = l := by
  induction cs with
  | nil => simp [get?] at h
  | cons x r ih =>
    simp only [get?] at h
    split at h
    · rename_i he
      exact ⟨x, by simp, he⟩
    · obtain ⟨y, hy, he⟩ := ih h
      exact ⟨y, by simp [hy], he⟩
theorem mem_get? {α : Type} {cs : List (Nat × α)} {l : Nat} (h : l ∈ cs.map (·.1)) : (get? cs l).isSome = true := by
  induction cs with
  | nil => simp at h
  | cons x r ih =>
    simp only [List.map_cons, List.mem_cons] at h
    simp only [get?]
    split
    · rfl
    · rename_i he
      rcases h with h | h
      · exact absurd h.symm he
      · exact ih h
theorem sound_of_pure {f : FuncId} {C : PCon} {Γc : Clos} (hΓ : CSound P Γc) (hC : PSound P f C) : Sound P f (pure_ Γc C) := by
  refine ⟨hC.1, ?_⟩
  intro nid S args r hr hob hids A w ρ vs hH hv
  unfold pure_ at hr
  split at hr
  · rename_i obl r0 hr0
    split at hr
    · rename_i hc
      obtain ⟨hnr, hfl, hnone⟩ := hc
      injection hr with hr
      subst hr
      simp only at hob
      let cs := (place nid r0).2.1
      let ρ2 (ρ1 : Nat → Value) : Nat → Value := fun l => if (get? cs l).isSome then ρ1 l else ρ l
      let H' := applyUpd (cs.map fun x => (x.1, some x.2)) (killH [] S.hp)
      have hget : ∀ l, get? H' l = match get? cs l with
          | some c => some c
          | none => get? (killH [] S.hp) l := by
        intro l
        show get? (applyUpd _ _) l = _
        rw [get?_applyUpd, get?_somes]
        cases get? cs l <;> rfl
      -- what is common
      have common : ∀ (w' : World) (ρ1 : Nat → Value) (v : Value) (A1 : Nat → Prop), Below w.heap.size w w' → HeapR P A1 cs ρ1 w' → (∀ l c b, get? cs l = some c → blkOf (ρ1 l) = some b → w.heap.size ≤ b) →
          ((∀ l c, get? cs l = some c → ChunkR P w' (imm A H' (ρ2 ρ1) w') (ρ2 ρ1) c (ρ1 l)) ∧ VR P w' (imm A H' (ρ2 ρ1) w') (ρ2 ρ1) (place nid r0).1 v) →
          OutOk P A S ρ w ⟨obl, (place nid r0).1, cs.map fun x => (x.1, some x.2), []⟩ v w' := by
        intro w' ρ1 v A1 hB hH1 hnew ⟨hch, hval⟩
        refine ⟨ρ2 ρ1, cs.map (·.1), ⟨?_, ?_, ?_, hB.os, hB.tape, hB.output, hB.size, fun b hb _ => hB.block b hb, ?_, ?_⟩, ?_, hval, ?_⟩
        · intro l hl
          have : get? cs l = none := by
            cases hg : get? cs l with
            | none => rfl
            | some c =>
              obtain ⟨x, hx, he⟩ := get?_mem (cs := cs) (l := l) (by rw [hg]; rfl)
              exact absurd (List.mem_map.2 ⟨x, hx, he⟩) hl
          rw [hget, this, get?_killH]
        · intro l hl
          have : (get? cs l).isSome = false := by
            cases hg : get? cs l with
            | none => rfl
            | some c =>
              obtain ⟨x, hx, he⟩ := get?_mem (cs := cs) (l := l) (by rw [hg]; rfl)
              exact absurd (List.mem_map.2 ⟨x, hx, he⟩) hl
          show (if (get? cs l).isSome then ρ1 l else ρ l) = ρ l
          rw [this]; rfl
        · intro l hl
          obtain ⟨x, hx, rfl⟩ := List.mem_map.1 hl
          have h1 := List.all_eq_true.1 hnone x hx
          have h2 := List.all_eq_true.1 hids (x.1, some x.2) (List.mem_map.2 ⟨x, hx, rfl⟩)
          simp only [Bool.or_eq_true] at h2
          rcases h2 with h2 | h2
          · rw [Option.isNone_iff_eq_none] at h1
            rw [h1] at h2
            cases h2
          · exact .inr (.inl h2)
        · intro l c b hl hc hb
          have hs := mem_get? hl
          rw [hget] at hc
          cases hg : get? cs l with
          | none => rw [hg] at hs; cases hs
          | some c' =>
            have : ρ2 ρ1 l = ρ1 l := by show (if (get? cs l).isSome then ρ1 l else ρ l) = ρ1 l; rw [hs]; rfl
            rw [this] at hb
            exact .inl (hnew l c' b hg hb)
        · intro l c l' c' hl hl' hc hc' hne b hb
          have hs := mem_get? hl
          have hs' := mem_get? hl'
          have e1 : ρ2 ρ1 l = ρ1 l := by show (if (get? cs l).isSome then ρ1 l else ρ l) = ρ1 l; rw [hs]; rfl
          have e2 : ρ2 ρ1 l' = ρ1 l' := by show (if (get? cs l').isSome then ρ1 l' else ρ l') = ρ1 l'; rw [hs']; rfl
          rw [e1] at hb
          rw [e2]
          obtain ⟨d, hd⟩ := Option.isSome_iff_exists.1 hs
          obtain ⟨d', hd'⟩ := Option.isSome_iff_exists.1 hs'
          exact hH1.apart l d l' d' hd hd' hne b hb
        · intro l c hl hc
          have hs := mem_get? hl
          obtain ⟨d, hd⟩ := Option.isSome_iff_exists.1 hs
          have e1 : ρ2 ρ1 l = ρ1 l := by show (if (get? cs l).isSome then ρ1 l else ρ l) = ρ1 l; rw [hs]; rfl
          rw [e1]
          have hc2 : get? H' l = some c := hc
          rw [hget, hd] at hc2
          injection hc2 with hc2
          subst hc2
          exact hch l d hd
        · intro l hl
          have hs := mem_get? hl
          show (get? (cs.map fun x => (x.1, some x.2)) l).isSome = true
          rw [get?_somes]
          simpa using hs
      rcases hfl with hfl | hna
      · -- plain results
        have hv' := closAVs_sound hΓ hH hv
        refine (hC.2 _ _ _ hr0 hob A w ρ vs hv').mono ?_
        rintro e w' ⟨v, rfl, hB, hO⟩
        obtain ⟨ρ1, hH1, hval, hnew⟩ := hO nid
        refine ⟨v, rfl, common w' ρ1 v _ hB hH1 hnew ⟨fun l c hc => ?_, ?_⟩⟩
        · obtain ⟨t, xs, rfl, hft⟩ := rows_place r0 nid l c hc
          rcases hH1.chunk l _ hc with h | ⟨b, off, cap, arr, e, h1, h2, h3, h4, h5⟩
          · exact .inl h
          · refine .inr ⟨b, off, cap, arr, e, h1, h2, h3, h4, fun i x hx => ?_⟩
            obtain ⟨us, hl, hc, hd⟩ := h5 i x hx
            exact ⟨us, hl, hc, DR.flat t x us (hft hfl) hd⟩
        · refine flat_place r0 nid v hfl (fun l hl => ?_) hval
          show (if (get? cs l).isSome then ρ1 l else ρ l) = ρ1 l
          rw [show (get? cs l).isSome = true from hl]
          rfl
      · -- data: no owned row among the arguments
        have hv' := closAVs_noref (H := S.hp) hΓ hna hv
        have hall : VRs P w (allA (imm A S.hp ρ w) w) ρ (args.map (closAV S.hp Γc)) vs :=
          VRs.ext ⟨Nat.le_refl _, fun b hb => ⟨⟨hb.1.1, hb⟩, rfl⟩⟩ _ _ (fun _ _ => rfl) hv'
        refine (hC.2 _ _ _ hr0 hob (imm A S.hp ρ w) w ρ vs hall).mono ?_
        rintro e w' ⟨v, rfl, hB, hO⟩
        obtain ⟨ρ1, hH1, hval, hnew⟩ := hO nid
        have ex : Ext w' (imm (upto (imm A S.hp ρ w) w) cs ρ1 w') w' (imm A H' (ρ2 ρ1) w') := by
          refine ⟨Nat.le_refl _, fun b hb => ⟨⟨⟨hb.1.1, ?_⟩, fun l c hl hbl => ?_⟩, rfl⟩⟩
          · rcases hb.1.2 with h | h
            · exact h.2.1.2
            · exact hH.fresh b h
          · rw [hget] at hl
            cases hg : get? cs l with
            | some d =>
              have e1 : ρ2 ρ1 l = ρ1 l := by show (if (get? cs l).isSome then ρ1 l else ρ l) = ρ1 l; rw [hg]; rfl
              rw [e1] at hbl
              exact hb.2 l d hg hbl
            | none =>
              rw [hg] at hl
              have e1 : ρ2 ρ1 l = ρ l := by show (if (get? cs l).isSome then ρ1 l else ρ l) = ρ l; rw [hg]; rfl
              rw [e1] at hbl
              simp only [get?_killH] at hl
              obtain ⟨c0, h0, _⟩ := Option.map_eq_some_iff.1 hl
              rcases hb.1.2 with h | h
              · exact h.2.2 l c0 h0 hbl
              · have := (hH.chunk l c0 h0).lt hbl
                omega
        have hag : ∀ l, (get? cs l).isSome = true → ρ2 ρ1 l = ρ1 l := by
          intro l hl
          show (if (get? cs l).isSome then ρ1 l else ρ l) = ρ1 l
          rw [hl]; rfl
        refine ⟨v, rfl, common w' ρ1 v _ hB hH1 hnew ⟨fun l c hc => ?_, ?_⟩⟩
        · obtain ⟨t, xs, rfl, _⟩ := rows_place r0 nid l c hc
          exact ChunkR.ext ex (fun l hl => by simp [Chunk.has] at hl) (fun _ _ => rfl) (hH1.chunk l _ hc)
        · exact VR.ext ex _ _ (fun l hl => hag l (place_has r0 nid l hnr hl)) hval
    · cases hr
  · cases hr
end
end Go.E

/-
  EngP: one operation of a region.
-/
namespace Go.E
open Go.RowKit
set_option linter.unusedVariables false
set_option linter.unusedSimpArgs false

abbrev Cons := List (Nat × Con)
def evOp (S : AState) : Operand → AV
  | .tmp t => (get? S.tm t).getD .junk
  | .const v => ofConst v
  | .func f => .fn f [] []
  | .global _ => .junk
def strip : AV → List (Nat × Bool) × AV
  | .cond gs v => (gs, v)
  | v => ([], v)
def within (gs G : List (Nat × Bool)) : Bool := gs.all fun x => G.any fun y => x.1 == y.1 && x.2 == y.2
def guardOf (S : AState) (ops : Array Oper) (o : Oper) : Option (List (Nat × Bool)) := match o.guard with
  | none => some []
  | some (j, want) => match ops[j]? with
    | some oj => match oj.dst with
      | some d => match get? S.tm d with
        | some (.bool _) => some [(d, want)]
        | some (.cond gs (.bool _)) => some ((d, want) :: gs)
        | _ => none
      | none => none
    | none => none
def under (S : AState) : List (Nat × Bool) → Prop → Prop
  | [], p => p
  | (t, b) :: r, p => match strip ((get? S.tm t).getD .junk) with
    | (_, .bool c) => c = b → under S r p
    | _ => under S r p
def isConstB (b : Bool) : Operand → Bool
  | .const (.bool c) => c == b
  | _ => false
def pickOp (S : AState) (G : List (Nat × Bool)) (c x y : Operand) : Option Res := match c with
  | .tmp t => match strip (evOp S c), strip (evOp S x), strip (evOp S y) with
    | (gc, .bool b), (gx, vx), (gy, vy) =>
      if within gc G = true ∧ within gx ((t, true) :: G) = true ∧ within gy ((t, false) :: G) = true then match vx, vy with
        | .bool p, .bool q => match isConstB true x, isConstB false y with
          | true, _ => some ⟨True, .bool (b || q), [], []⟩
          | false, true => some ⟨True, .bool (b && p), [], []⟩
          | false, false => some ⟨True, .bool (bif b then p else q), [], []⟩
        | .int k p, .int k' q => if k = k' then some ⟨True, .int k (if b then p else q), [], []⟩ else none
        | _, .bool q => some ⟨b = false, .bool q, [], []⟩
        | .bool p, _ => some ⟨b = true, .bool p, [], []⟩
        | _, _ => none
      else none
    | _, _, _ => none
  | _ => none
def decArgs : (as : List Ty) → List AV → Option (Ts as)
  | [], [] => some ()
  | t :: ts, x :: r => match decV t x, decArgs ts r with
    | some a, some b => some (a, b)
    | _, _ => none
  | _, _ => none
def callOp (Γ : Cons) (S : AState) (f : Operand → AV) (d : Nat) (fo : Operand) (args : List Operand) : Option Res := match f fo with
  | .fn g first cap => match get? Γ g with
    | some C => match C (1000 * (d + 1)) S.hp (first ++ args.map f ++ cap) with
      | some r => if newIds S r.upd then some r else none
      | none => none
    | none => none
  | .pfn as r g => match r.flat, decArgs as (args.map f) with
    | true, some xs => some ⟨True, shut r (enc r (g xs)), [], []⟩
    | _, _ => none
  | _ => none
def core (P : Program) (Γ : Cons) (S : AState) (G : List (Nat × Bool)) (o : Oper) : Option Res :=
  let f : Operand → AV := fun x => (strip (evOp S x)).2
  match o.op with
  | .pick c x y => pickOp S G c x y
  | op => if op.operands.all (fun x => within (strip (evOp S x)).1 G) then
      match vop P S.hp f o.type op with
      | some (obl, v) => some ⟨obl, v, [], []⟩
      | none => match op with
        | .call { callee := .value fo, args := args, argTypes := _ } => callOp Γ S f (o.dst.getD 0) fo args.toList
        | _ => match hop P S f (o.dst.getD 0) op with
          | some r => some r
          | none => match mop P S f (o.dst.getD 0) op with
            | some r => some r
            | none => aop P S f op
    else none
def sameA : AV → AV → Prop
  | .int k n, .int k' m => if k = k' then n = m else False
  | .bool a, .bool b => a = b
  | .ptr l o, .ptr l' o' => if l = l' ∧ o = o' then True else False
  | .mp l, .mp l' => if l = l' then True else False
  | .nilp, .nilp => True
  | .nilm, .nilm => True
  | _, _ => False
def sameAs : List AV → List AV → Prop
  | [], [] => True
  | x :: r, y :: s => sameA x y ∧ sameAs r s
  | _, _ => False
def sameC : Chunk → Chunk → Prop
  | .blk cs, .blk ds => sameAs cs ds
  | .row t xs, .row t' ys => if h : t = t' then h ▸ xs = ys else False
  | .mix p t xs, .mix q t' ys => if h : t = t' then sameAs p q ∧ h ▸ xs = ys else False
  | .map k v es c, .map k' v' es' c' => if h : k = k' ∧ v = v' then h.1 ▸ h.2 ▸ es = es' ∧ c = c' else False
  | _, _ => False
def sameU (H : Heap) : List (Nat × Option Chunk) → Prop
  | [] => True
  | (l, c) :: r => (match c, get? H l with
    | some c, some d => sameC c d
    | _, _ => False) ∧ sameU H r
theorem sameA_eq : ∀ {x y : AV}, sameA x y → x = y := by
  intro x y h
  cases x <;> cases y <;> simp only [sameA] at h <;> first | rfl | (subst h; rfl) | skip
  all_goals first
    | (split at h
       · rename_i hc
         first | (subst hc; subst h; rfl) | (obtain ⟨rfl, rfl⟩ := hc; rfl) | (subst hc; rfl)
       · cases h)
    | cases h
theorem sameAs_eq : ∀ {x y : List AV}, sameAs x y → x = y
  | [], [], _ => rfl
  | x :: r, y :: s, h => by rw [sameA_eq h.1, sameAs_eq h.2]
  | [], _ :: _, h => h.elim
  | _ :: _, [], h => h.elim
theorem sameC_eq {c d : Chunk} (h : sameC c d) : c = d := by
  cases c <;> cases d <;> simp only [sameC] at h
  case blk.blk => rw [sameAs_eq h]
  case row.row =>
    split at h
    · rename_i ht
      subst ht
      subst h
      rfl
    · cases h
  case mix.mix =>
    split at h
    · rename_i ht
      subst ht
      obtain ⟨h1, h2⟩ := h
      rw [sameAs_eq h1]
      subst h2
      rfl
    · cases h
  case map.map =>
    split at h
    · rename_i ht
      obtain ⟨rfl, rfl⟩ := ht
      obtain ⟨h1, h2⟩ := h
      subst h1 h2
      rfl
    · cases h
theorem sameU_eq {H : Heap} : ∀ {u : List (Nat × Option Chunk)}, sameU H u → u.map (fun x => (x.1, get? H x.1)) = u
  | [], _ => rfl
  | (l, c) :: r, h => by
    obtain ⟨h1, h2⟩ := h
    rw [List.map_cons, sameU_eq h2]
    congr 2
    simp only
    split at h1
    · rename_i c d hd
      rw [hd, sameC_eq h1]
    · cases h1
def oldUpd (S : AState) (r : Res) : Bool := r.kill.isEmpty && r.upd.all fun x => x.2.isSome && (get? S.hp x.1).isSome
def freezeRes (S : AState) (r : Res) : Option Res :=
  if r.kill.isEmpty ∧ r.upd.isEmpty then some r else if r.kill.isEmpty ∧ r.upd.all (fun x => (get? S.hp x.1).isNone && (match x.2 with | some (.row _ _) => true | _ => false)) then
    (if noref (resAV (applyUpd r.upd []) r.val) = true then some ⟨r.obl, resAV (applyUpd r.upd []) r.val, [], []⟩ else none)
  else if oldUpd S r = true then some ⟨r.obl ∧ sameU S.hp r.upd, r.val, r.upd.map fun x => (x.1, get? S.hp x.1), []⟩ else none
def Idle (S : AState) (r : Res) : Prop := r.kill = [] ∧ ∀ l x, get? r.upd l = some x → ∃ c, x = some c ∧ get? S.hp l = some c
theorem freeze_idle {S : AState} {r r' : Res} (hf : freezeRes S r = some r') : Idle S r' := by
  unfold freezeRes at hf
  split at hf
  · rename_i hc
    injection hf with hf; subst hf
    refine ⟨List.isEmpty_iff.1 hc.1, fun l x hx => ?_⟩
    rw [List.isEmpty_iff.1 hc.2] at hx
    cases hx
  split at hf
  · split at hf
    · injection hf with hf; subst hf
      exact ⟨rfl, fun l x hx => by cases hx⟩
    · cases hf
  split at hf
  · rename_i ho
    injection hf with hf; subst hf
    refine ⟨rfl, fun l x hx => ?_⟩
    unfold oldUpd at ho
    simp only [Bool.and_eq_true, List.all_eq_true] at ho
    obtain ⟨y, hy, he⟩ : ∃ y ∈ r.upd, y.1 = l ∧ x = get? S.hp l := by
      have h2 := ho.2
      clear ho
      simp only at hx
      revert hx
      generalize r.upd = u
      induction u with
      | nil => intro hx; cases hx
      | cons z zs ih =>
        intro hx
        simp only [List.map_cons, get?] at hx
        split at hx
        · rename_i hz
          injection hx with hx
          exact ⟨z, List.mem_cons_self .., hz, by rw [← hx, hz]⟩
        · obtain ⟨y, hy, h⟩ := ih hx
          exact ⟨y, List.mem_cons_of_mem _ hy, h⟩
    have := (ho.2 y hy).2
    rw [he.1] at this
    obtain ⟨c, hc⟩ := Option.isSome_iff_exists.1 this
    exact ⟨c, by rw [he.2, hc], hc⟩
  · cases hf
theorem freeze_obl {S : AState} {r r' : Res} (hf : freezeRes S r = some r') (ho : r'.obl) : r.obl := by
  unfold freezeRes at hf
  split at hf
  · injection hf with hf; subst hf; exact ho
  split at hf
  · split at hf
    · injection hf with hf; subst hf; exact ho
    · cases hf
  split at hf
  · injection hf with hf; subst hf; exact ho.1
  · cases hf
def putAt (S : AState) (dst : Option Nat) (x : AV) : Option AState := match dst with
  | none => some S
  | some d => if d < S.n ∧ tmOn d S.tm = false then some { S with tm := set S.tm d x } else none
def opStep (P : Program) (Γ : Cons) (ops : Array Oper) (S : AState) (o : Oper) : Option (Prop × AState) := match guardOf S ops o with
  | none => none
  | some [] => match core P Γ S [] o with
    | some r => (putAt (S.next r) o.dst r.val).map fun S' => (r.obl, S')
    | none => none
  | some G => match core P Γ S G o with
    | some r => match freezeRes S r with
      | some r' => (putAt S o.dst (.cond G r'.val)).map fun S' => (under S G r'.obl, S')
      | none => none
    | none => none

section
variable {P : Program} {A : Nat → Prop} {w0 w : World} {M : Own} {S : AState} {ρ : Nat → Value} {a : Act}
theorem imm_congr {H H' : Heap} (h : ∀ l, get? H l = get? H' l) : imm A H ρ w = imm A H' ρ w := by
  funext b
  unfold imm
  simp [h]
theorem HeapR.congr {H H' : Heap} (h : ∀ l, get? H l = get? H' l) (k : HeapR P A H ρ w) : HeapR P A H' ρ w := by
  have e := imm_congr (A := A) (ρ := ρ) (w := w) h
  exact ⟨fun l c hl => by rw [← e]; exact k.chunk l c (by rw [h]; exact hl), fun l c b hl => k.ok l c b (by rw [h]; exact hl), k.fresh, fun l c l' c' hl hl' => k.apart l c l' c' (by rw [h]; exact hl) (by rw [h]; exact hl')⟩
theorem Rep.congr {S' : AState} (ht : ∀ t, get? S.tm t = get? S'.tm t) (hh : ∀ l, get? S.hp l = get? S'.hp l) (hn : S.n = S'.n) (hg : S.gh = S'.gh) (k : Rep P A w0 M S ρ a w) : Rep P A w0 M S' ρ a w := by
  have e := imm_congr (A := A) (ρ := ρ) (w := w) hh
  exact ⟨fun t v hv => by rw [← e]; exact k.tm t v (by rw [ht]; exact hv), k.hp.congr hh, k.keep, fun l c hl => k.mine l c (by rw [hh]; exact hl), by rw [← e, ← hg]; exact k.gh, k.defers, by rw [← hn]; exact k.sz⟩
theorem get?_killH_nil (H : Heap) (l : Nat) : get? (killH [] H) l = get? H l := by
  rw [get?_killH]
  have : Chunk.kill [] = id := by funext x; exact Chunk.kill_nil x
  rw [this]
  simp
theorem get?_killT_nil (T : Temps) (l : Nat) : get? (killT [] T) l = get? T l := by
  rw [get?_killT]
  have : AV.kill [] = id := by funext x; exact AV.kill_nil x
  rw [this]
  simp
theorem applyUpd_congr (u : List (Nat × Option Chunk)) {H H' : Heap} (h : ∀ l, get? H l = get? H' l) (l : Nat) : get? (applyUpd u H) l = get? (applyUpd u H') l := by
  rw [get?_applyUpd, get?_applyUpd, h]
theorem next_tm (r : Res) (t : Nat) : get? (S.next r).tm t = get? (killT r.kill S.tm) t := by
  unfold AState.next
  split
  · rename_i h
    rw [List.isEmpty_iff.1 h, get?_killT_nil]
  · rfl
theorem next_hp (r : Res) (l : Nat) : get? (S.next r).hp l = get? (applyUpd r.upd (killH r.kill S.hp)) l := by
  unfold AState.next
  split
  · rename_i h
    rw [List.isEmpty_iff.1 h]
    exact (applyUpd_congr _ (get?_killH_nil _) l).symm
  · rfl
theorem next_n (r : Res) : (S.next r).n = S.n := by
  unfold AState.next
  split <;> rfl
theorem next_gh (r : Res) : (S.next r).gh = S.gh.map (AV.kill r.kill) := by
  unfold AState.next
  split
  · rename_i h
    rw [List.isEmpty_iff.1 h]
    have : AV.kill [] = id := by funext x; exact AV.kill_nil x
    rw [this]
    simp
  · rfl
theorem OutOk.rep {r : Res} {v : Value} {w' : World} (h : OutOk P A S ρ w r v w') (hR : Rep P A w0 M S ρ a w) :
    ∃ ρ', Rep P A w0 M (S.next r) ρ' a w' ∧ VR P w' (imm A (S.next r).hp ρ' w') ρ' r.val v := by
  obtain ⟨ρ', U, hs, hn, hv, hU⟩ := h
  have h1 := hs.rep hR hn
  refine ⟨ρ', Rep.congr (S := ⟨killT r.kill S.tm, applyUpd r.upd (killH r.kill S.hp), S.n, S.gh.map (AV.kill r.kill)⟩) (S' := S.next r) (fun t => (next_tm r t).symm) (fun l => (next_hp r l).symm) (next_n (S := S) r).symm (next_gh (S := S) r).symm h1, ?_⟩
  rw [imm_congr (next_hp r)]
  exact hv
theorem OutOk.pure {x : AV} {v : Value} {obl : Prop} (hv : VR P w (imm A S.hp ρ w) ρ x v) : OutOk P A S ρ w ⟨obl, x, [], []⟩ v w := by
  refine ⟨ρ, [], ⟨?_, ?_, ?_, rfl, rfl, rfl, Nat.le_refl _, fun _ _ _ => rfl, ?_, ?_⟩, ?_, ?_⟩
  · intro l _
    show get? (killH [] S.hp) l = _
    rw [get?_killH]
  · intro l _; rfl
  · intro l hl; cases hl
  · intro l c b hl; cases hl
  · intro l c l' c' hl; cases hl
  · intro l c hl; cases hl
  · refine ⟨?_, fun l hl => by cases hl⟩
    show VR P w (imm A (killH [] S.hp) ρ w) ρ x v
    rw [imm_congr (get?_killH_nil _)]
    exact hv
mutual
theorem resAV_gen {Hn : Heap} {I I' : Nat → Prop} (e : Ext w I w I') (hrow : ∀ l t xs, get? Hn l = some (.row t xs) → ChunkR P w I ρ (.row t xs) (ρ l) ∧ ∀ b, blkOf (ρ l) = some b → I' b) : ∀ (x : AV) (v : Value), VR P w I ρ x v → VR P w I' ρ (resAV Hn x) v
  | .sl l, v, hv => by
    unfold resAV
    split
    · rename_i t xs hc
      simp only [VR] at hv ⊢
      subst hv
      exact row_DR e (hrow l t xs hc).1 (hrow l t xs hc).2
    · simpa [VR] using hv
  | .agg cs, v, hv => by
    unfold resAV
    simp only [VR] at hv ⊢
    obtain ⟨vs, hv1, hv2⟩ := hv
    exact ⟨vs, hv1, resAVs_gen e hrow cs vs hv2⟩
  | .int _ _, v, hv => VR.ext e _ v (fun _ _ => rfl) hv
  | .bool _, v, hv => VR.ext e _ v (fun _ _ => rfl) hv
  | .str _, v, hv => VR.ext e _ v (fun _ _ => rfl) hv
  | .nilp, v, hv => VR.ext e _ v (fun _ _ => rfl) hv
  | .nils, v, hv => VR.ext e _ v (fun _ _ => rfl) hv
  | .nilm, v, hv => VR.ext e _ v (fun _ _ => rfl) hv
  | .nilf, v, hv => VR.ext e _ v (fun _ _ => rfl) hv
  | .ptr _ _, v, hv => VR.ext e _ v (fun _ _ => rfl) hv
  | .pel _ _ _ _ _, v, hv => VR.ext e _ v (fun _ _ => rfl) hv
  | .mp _, v, hv => VR.ext e _ v (fun _ _ => rfl) hv
  | .arr _ _, v, hv => VR.ext e _ v (fun _ _ => rfl) hv
  | .own _ _, v, hv => VR.ext e _ v (fun _ _ => rfl) hv
  | .cp _ _ _, v, hv => VR.ext e _ v (fun _ _ => rfl) hv
  | .av _ _, v, hv => VR.ext e _ v (fun _ _ => rfl) hv
  | .fn _ _ _, v, hv => VR.ext e _ v (fun _ _ => rfl) hv
  | .pfn _ _ _, v, hv => VR.ext e _ v (fun _ _ => rfl) hv
  | .tup _, v, hv => VR.ext e _ v (fun _ _ => rfl) hv
  | .cond _ _, v, hv => VR.ext e _ v (fun _ _ => rfl) hv
  | .junk, v, hv => VR.ext e _ v (fun _ _ => rfl) hv
theorem resAVs_gen {Hn : Heap} {I I' : Nat → Prop} (e : Ext w I w I') (hrow : ∀ l t xs, get? Hn l = some (.row t xs) → ChunkR P w I ρ (.row t xs) (ρ l) ∧ ∀ b, blkOf (ρ l) = some b → I' b) : ∀ (x : List AV) (v : List Value), VRs P w I ρ x v → VRs P w I' ρ (resAVs Hn x) v
  | [], v, hv => by simpa [resAVs, VRs] using hv
  | x :: r, v, hv => by
    obtain ⟨u, us, hv1, hv2, hv3⟩ := VRs_cons.1 hv
    unfold resAVs
    exact VRs_cons.2 ⟨u, us, hv1, resAV_gen e hrow x u hv2, resAVs_gen e hrow r us hv3⟩
end
theorem OutOk.freeze {r r' : Res} {v : Value} {w' : World} (hR : HeapR P A S.hp ρ w) (h : OutOk P A S ρ w r v w') (hf : freezeRes S r = some r') (ho : r'.obl) : OutOk P A S ρ w r' v w' := by
  unfold freezeRes at hf
  split at hf
  · injection hf with hf; subst hf; exact h
  split at hf
  · rename_i hc
    split at hf
    · rename_i hnr
      injection hf with hf; subst hf
      obtain ⟨hk, hu⟩ := hc
      obtain ⟨ρ', U, hs, hn, hv, hU⟩ := h
      have hk' := List.isEmpty_iff.1 hk
      rw [hk'] at hs hn hv
      have hH' : HeapR P A (applyUpd r.upd (killH [] S.hp)) ρ' w' := hs.heap hR hn
      have hnone : ∀ l, (get? r.upd l).isSome = true → get? S.hp l = none := by
        intro l hl
        obtain ⟨y, hy, he⟩ := get?_mem hl
        have := List.all_eq_true.1 hu y hy
        simp only [Bool.and_eq_true] at this
        rw [he] at this
        exact Option.isNone_iff_eq_none.1 this.1
      have hne : ∀ l c, get? S.hp l = some c → get? (applyUpd r.upd (killH [] S.hp)) l = some c := by
        intro l c hl
        rw [get?_applyUpd]
        cases hg : get? r.upd l with
        | none => simp only; rw [get?_killH_nil]; exact hl
        | some x => rw [hnone l (by rw [hg]; rfl)] at hl; cases hl
      have hold : ∀ l c, get? S.hp l = some c → ρ' l = ρ l := by
        intro l c hl
        refine hs.refs l fun hU' => ?_
        rw [hnone l (hU l hU')] at hl
        cases hl
      have hblk : ∀ b, b < w.heap.size → w'.heap[b]? = w.heap[b]? := fun b hb => hs.blk b hb fun l c hl hc => by rw [hnone l (hU l hl)] at hc; cases hc
      have ex : Ext w' (imm A (applyUpd r.upd (killH [] S.hp)) ρ' w') w' (imm A (killH [] S.hp) ρ w') := by
        refine ⟨Nat.le_refl _, fun b hb => ⟨⟨hb.1, fun l c hl hbl => ?_⟩, rfl⟩⟩
        rw [get?_killH_nil] at hl
        exact hb.2 l c (hne l c hl) (by rw [hold l c hl]; exact hbl)
      have hval : VR P w' (imm A (killH [] S.hp) ρ w') ρ' (resAV (applyUpd r.upd []) r.val) v := by
        refine resAV_gen ex (fun l t xs hl => ?_) r.val v hv
        have hl2 : get? (applyUpd r.upd (killH [] S.hp)) l = some (.row t xs) := by
          rw [get?_applyUpd] at hl ⊢
          cases hg : get? r.upd l with
          | none => rw [hg] at hl; simp [get?] at hl
          | some x => rw [hg] at hl; exact hl
        have hln : get? S.hp l = none := by
          rw [get?_applyUpd] at hl
          cases hg : get? r.upd l with
          | none => rw [hg] at hl; simp [get?] at hl
          | some x => exact hnone l (by rw [hg]; rfl)
        refine ⟨hH'.chunk l _ hl2, fun b hb => ⟨⟨(hH'.chunk l _ hl2).lt hb, hH'.ok l _ b hl2 hb⟩, fun l2 c2 h2 hb2 => ?_⟩⟩
        rw [get?_killH_nil] at h2
        refine hH'.apart l _ l2 c2 hl2 (hne l2 c2 h2) (fun he => ?_) b hb (by rw [hold l2 c2 h2]; exact hb2)
        subst he
        rw [hln] at h2
        cases h2
      refine ⟨ρ, [], ?_, (fun l c hl => by cases hl), ?_, (fun l hl => by cases hl)⟩
      · exact { same := fun l _ => by show get? (killH [] S.hp) l = _; rw [get?_killH], refs := fun _ _ => rfl, free := (fun l hl => by cases hl), os := hs.os, tape := hs.tape, output := hs.output, size := hs.size, blk := fun b hb _ => hblk b hb, new := (fun l c b hl => by cases hl), apart := (fun l c l' c' hl => by cases hl) }
      · exact VR.ext (Ext.refl _ _) _ _ (fun l hl => by rw [noref_has _ l hnr] at hl; cases hl) hval
    · cases hf
  split at hf
  · rename_i hold
    injection hf with hf; subst hf
    have hu := sameU_eq ho.2
    unfold oldUpd at hold
    simp only [Bool.and_eq_true] at hold
    have hk := List.isEmpty_iff.1 hold.1
    obtain ⟨ρ', U, h1, h2, h3, h4⟩ := h
    rw [hk] at h1 h2 h3
    refine ⟨ρ', U, ?_, ?_, ?_, ?_⟩ <;> simp only [hu]
    · exact h1
    · exact h2
    · exact h3
    · exact h4
  · cases hf
end
end Go.E

/-
  EngQ: one operation of a region is sound.
-/
namespace Go.E
open Go.RowKit
set_option linter.unusedVariables false
set_option linter.unusedSimpArgs false
section
variable {P : Program} {A : Nat → Prop} {w0 w : World} {M : Own} {S : AState} {ρ : Nat → Value} {a : Act} {Γ : Cons} {G : List (Nat × Bool)} {o : Oper} {r : Res}
theorem within_hold {gs : List (Nat × Bool)} {tmps : Array Value} (h : within gs G = true) (hG : hold tmps G) : hold tmps gs := by
  intro x hx
  have := List.all_eq_true.1 h x hx
  obtain ⟨y, hy, he⟩ := List.any_eq_true.1 this
  simp only [Bool.and_eq_true, beq_iff_eq] at he
  have := hG y hy
  rw [← he.1, ← he.2] at this
  exact this
theorem evOp_sound (hR : Rep P A w0 M S ρ a w) {x : Operand} (hG : hold a.tmps G) (h : within (strip (evOp S x)).1 G = true) : VR P w (imm A S.hp ρ w) ρ (strip (evOp S x)).2 (a.eval x) := by
  cases x with
  | tmp t =>
    simp only [evOp] at h ⊢
    cases hg : get? S.tm t with
    | none => simp [strip, VR]
    | some y =>
      have ht := hR.tm t y hg
      rw [hg] at h
      simp only [Option.getD_some] at h ⊢
      cases y with
      | cond gs z => exact ht.1 (within_hold h hG)
      | _ => exact ht
  | const v =>
    simp only [evOp]
    have hs : strip (ofConst v) = ([], ofConst v) := by
      unfold ofConst
      split <;> first | rfl | skip
      split <;> rfl
    rw [hs]
    exact ofConst_sound v
  | func f =>
    simp only [evOp, strip, VR]
    exact ⟨[], [], rfl, by simp [VRs], by simp [VRs]⟩
  | global g => simp [evOp, strip, VR]
theorem evOp_fresh {x : Operand} {l : Nat} (hl : S.fresh l = true) : (strip (evOp S x)).2.has l = false := by
  have hs : ∀ y : AV, y.has l = false → (strip y).2.has l = false := by
    intro y hy
    cases y <;> first | exact hy | (simpa [strip, AV.has] using hy)
  refine hs _ ?_
  cases x with
  | tmp t =>
    simp only [evOp]
    cases hg : get? S.tm t with
    | none => rfl
    | some y =>
      simp only [Option.getD_some]
      cases hh : y.has l with
      | false => rfl
      | true =>
        have := fresh_of_tm hg hh
        rw [hl] at this
        cases this
  | const v => exact has_ofConst l v
  | func f => rfl
  | global g => rfl
theorem wp_value {K : Act → World → Prop} {Q : Exit → Act → World → Prop} {v : Value} {w' : World} (h : (execOp a.eval o).run P w = .ok (.value v) w') (hK : K (a.put o.dst v) w') : o.wp P a w K Q := by
  unfold Oper.wp
  rw [h]
  exact hK
theorem wp_hop {K : Act → World → Prop} {Q : Exit → Act → World → Prop} (h : HopOk P A S ρ w a.eval o r) (hK : ∀ v w', OutOk P A S ρ w r v w' → K (a.put o.dst v) w') : o.wp P a w K Q := by
  obtain ⟨nx, v, w', ρ', U, hrun, hnx, h1, h2, h3, h4⟩ := h
  have := hK v w' ⟨ρ', U, h1, h2, h3, h4⟩
  unfold Oper.wp
  rw [hrun]
  rcases hnx with rfl | ⟨rfl, rfl⟩
  · exact this
  · exact this
theorem VRs_map {I : Nat → Prop} {f : Operand → AV} {ev : Operand → Value} : ∀ (l : List Operand), (∀ x ∈ l, VR P w I ρ (f x) (ev x)) → VRs P w I ρ (l.map f) (l.map ev)
  | [], h => by simp [VRs]
  | a :: r, h => VRs_cons.2 ⟨ev a, r.map ev, rfl, h a (by simp), VRs_map r fun x hx => h x (by simp [hx])⟩
theorem decArgs_sound {I : Nat → Prop} : ∀ (as : List Ty) (xs : List AV) (x : Ts as) (vs : List Value), decArgs as xs = some x → VRs P w I ρ xs vs → DRVs w I as x vs
  | [], xs, x, vs, h, hv => by
    cases xs with
    | nil => simpa [DRVs, VRs] using hv
    | cons y r => simp [decArgs] at h
  | t :: ts, xs, x, vs, h, hv => by
    cases xs with
    | nil => simp [decArgs] at h
    | cons y r =>
      simp only [decArgs] at h
      split at h
      · rename_i p q hp hq
        injection h with h; subst h
        obtain ⟨v, us, rfl, h1, h2⟩ := VRs_cons.1 hv
        exact ⟨v, us, rfl, decV_sound hp h1, decArgs_sound ts r q us hq h2⟩
      · cases h
theorem flat_DR {I I' : Nat → Prop} {w' : World} : ∀ (t : Ty) (x : t.T) (vs : List Value), t.flat = true → DR w I t x vs → DR w' I' t x vs
  | .int _, x, vs, _, h => h
  | .bool, x, vs, _, h => h
  | .str, x, vs, _, h => h
  | .list _, x, vs, hf, h => by simp [Ty.flat] at hf
  | .prod a b, x, vs, hf, h => by
    simp only [Ty.flat, Bool.and_eq_true] at hf
    obtain ⟨us, ws, h1, h2, h3⟩ := h
    exact ⟨us, ws, h1, flat_DR a x.1 us hf.1 h2, flat_DR b x.2 ws hf.2 h3⟩
theorem pure_out {A : Nat → Prop} {S : AState} (hH : HeapR P A S.hp ρ w) {w' : World} (hB : Below w.heap.size w w') {t : Ty} (hflat : t.flat = true) {x : t.T} {v : Value} (hv : DRV w' (all w') t x v) {obl : Prop} :
    OutOk P A S ρ w ⟨obl, shut t (enc t x), [], []⟩ v w' := by
  refine ⟨ρ, [], ⟨fun l _ => get?_killH [] S.hp l, fun _ _ => rfl, fun l hl => by (cases hl), hB.os, hB.tape, hB.output, hB.size, fun b hb _ => hB.block b hb, fun l c b hl => by (cases hl), fun l c l' c' hl => by (cases hl)⟩, fun l c hl => by (cases hl), ?_, fun l hl => by (cases hl)⟩
  refine shut_sound t x v ?_
  unfold DRV at hv ⊢
  split
  · rename_i ha
    rw [if_pos ha] at hv
    obtain ⟨us, h1, h2⟩ := hv
    exact ⟨us, h1, flat_DR t x us hflat h2⟩
  · rename_i ha
    rw [if_neg ha] at hv
    exact flat_DR t x [v] hflat hv
theorem DRVs.ext {w' : World} {I I' : Nat → Prop} (e : Ext w I w' I') : ∀ (as : List Ty) (x : Ts as) (vs : List Value), DRVs w I as x vs → DRVs w' I' as x vs
  | [], x, vs, h => h
  | t :: ts, x, vs, h => by
    obtain ⟨v, us, h1, h2, h3⟩ := h
    exact ⟨v, us, h1, h2.ext e, DRVs.ext e ts x.2 us h3⟩
theorem call_sound (hΓ : ∀ g C, get? Γ g = some C → Sound P g C) (hR : Rep P A w0 M S ρ a w) {f : Operand → AV} {fo : Operand} {args : Array Operand} {ts : Array TypeId} {d : Nat}
    (hop : o.op = .call { callee := .value fo, args := args, argTypes := ts }) (h : callOp Γ S f d fo args.toList = some r) (ho : r.obl) (hf : ∀ x ∈ o.op.operands, VR P w (imm A S.hp ρ w) ρ (f x) (a.eval x))
    {K : Act → World → Prop} {Q : Exit → Act → World → Prop} (hK : ∀ v w', OutOk P A S ρ w r v w' → K (a.put o.dst v) w') : o.wp P a w K Q := by
  unfold callOp at h
  split at h
  · rename_i g first cap hfo
    split at h
    · rename_i C hC
      split at h
      · rename_i r1 hr
        split at h
        · rename_i hids
          injection h with h; subst h
          obtain ⟨hent, hs⟩ := hΓ g C hC
          have hfo2 := hf fo (by rw [hop]; simp [Op.operands, Call.operands])
          rw [hfo] at hfo2
          simp only [VR] at hfo2
          obtain ⟨vs, us, hev, hv1, hv2⟩ := hfo2
          have hargs : VRs P w (imm A S.hp ρ w) ρ (args.toList.map f) (args.toList.map a.eval) :=
            VRs_map _ fun x hx => hf x (by rw [hop]; simp [Op.operands, Call.operands]; exact .inr (by simpa using hx))
          have hc := hs _ S _ _ hr ho hids A w ρ _ hR.hp ((hv1.append hargs).append hv2)
          have hrun : (execOp a.eval o).run P w = .ok (.enter g (vs ++ args.toList.map a.eval ++ us).toArray) w := by
            obtain ⟨dst, op, oty, pos, after, guard⟩ := o
            simp only at hop
            subst hop
            simp only [execOp, resolve, Sem.run_bind, Sem.run_pure, Result.andThen_ok, hev, Deferred.ofValue, invoke]
            rw [hent]
            simp
          unfold Oper.wp
          rw [hrun, Oper.upon_enter]
          refine hc.mono ?_
          rintro e w' ⟨v, rfl, hout⟩
          exact hK v w' hout
        · cases h
      · cases h
    · cases h
  · rename_i as r1 g hfo
    split at h
    · rename_i xs hflat hxs
      injection h with h; subst h
      have hfo2 := hf fo (by rw [hop]; simp [Op.operands, Call.operands])
      rw [hfo] at hfo2
      simp only [VR] at hfo2
      obtain ⟨g0, first, cap, hev, hent, hcall⟩ := hfo2
      have hargs : VRs P w (imm A S.hp ρ w) ρ (args.toList.map f) (args.toList.map a.eval) :=
        VRs_map _ fun x hx => hf x (by rw [hop]; simp [Op.operands, Call.operands]; exact .inr (by simpa using hx))
      have hd := decArgs_sound as _ xs _ hxs hargs
      have hext : Ext w (imm A S.hp ρ w) w (all w) := ⟨Nat.le_refl _, fun b hb => ⟨hb.1.1, rfl⟩⟩
      have hc := hcall w hext xs _ (DRVs.ext hext as xs _ hd)
      have hrun : (execOp a.eval o).run P w = .ok (.enter g0 (first ++ (args.toList.map a.eval).toArray ++ cap)) w := by
        obtain ⟨dst, op, oty, pos, after, guard⟩ := o
        simp only at hop
        subst hop
        simp only [execOp, resolve, Sem.run_bind, Sem.run_pure, Result.andThen_ok, hev, Deferred.ofValue, invoke]
        have hmap : (args.toList.map a.eval).toArray = args.map a.eval := by apply Array.ext'; simp
        rw [hent, hmap]
      unfold Oper.wp
      rw [hrun, Oper.upon_enter]
      refine hc.mono ?_
      rintro e w' ⟨v, rfl, hB, hv⟩
      exact hK v w' (pure_out hR.hp hB hflat hv)
    · cases h
  · cases h
theorem pick_sound (hR : Rep P A w0 M S ρ a w) (hG : hold a.tmps G) {c x y : Operand} (hop : o.op = .pick c x y) (h : pickOp S G c x y = some r) (ho : r.obl)
    {K : Act → World → Prop} {Q : Exit → Act → World → Prop} (hK : ∀ v w', OutOk P A S ρ w r v w' → K (a.put o.dst v) w') : o.wp P a w K Q := by
  unfold pickOp at h
  split at h
  · rename_i t
    split at h
    · rename_i gc b gx vx gy vy hc hx hy
      split at h
      · rename_i hw
        obtain ⟨hwc, hwx, hwy⟩ := hw
        have hcv := evOp_sound hR hG (x := .tmp t) (by rw [hc]; exact hwc)
        rw [hc] at hcv
        simp only [VR] at hcv
        have htb : a.tmps.getD t undef = .bool b := hcv
        have hxv : b = true → VR P w (imm A S.hp ρ w) ρ vx (a.eval x) := by
          intro hb
          have := evOp_sound (G := (t, true) :: G) hR (x := x) (by
            intro p hp
            rcases List.mem_cons.1 hp with rfl | hp
            · rw [htb, hb]
            · exact hG p hp) (by rw [hx]; exact hwx)
          rw [hx] at this
          exact this
        have hyv : b = false → VR P w (imm A S.hp ρ w) ρ vy (a.eval y) := by
          intro hb
          have := evOp_sound (G := (t, false) :: G) hR (x := y) (by
            intro p hp
            rcases List.mem_cons.1 hp with rfl | hp
            · rw [htb, hb]
            · exact hG p hp) (by rw [hy]; exact hwy)
          rw [hy] at this
          exact this
        have hrun : (execOp a.eval o).run P w = .ok (.value (if b then a.eval x else a.eval y)) w := by
          obtain ⟨dst, op, oty, pos, after, guard⟩ := o
          simp only at hop
          subst hop
          simp [execOp, hcv, asBool]
        refine wp_value hrun (hK _ _ ?_)
        split at h
        · rename_i p q
          split at h
          · rename_i e1
            injection h with h; subst h
            refine OutOk.pure ?_
            simp only [VR]
            cases b with
            | true =>
              have h1 := hxv rfl
              simp only [VR] at h1
              have : p = true := by
                cases x <;> simp [isConstB] at e1
                rename_i v
                cases v <;> simp at e1
                subst e1
                simpa [Act.eval] using h1.symm
              simp [h1, this]
            | false =>
              have h1 := hyv rfl
              simp only [VR] at h1
              simp [h1]
          · rename_i e1 e2
            injection h with h; subst h
            refine OutOk.pure ?_
            simp only [VR]
            cases b with
            | true =>
              have h1 := hxv rfl
              simp only [VR] at h1
              simp [h1]
            | false =>
              have h1 := hyv rfl
              simp only [VR] at h1
              have : q = false := by
                cases y <;> simp [isConstB] at e2
                rename_i v
                cases v <;> simp at e2
                subst e2
                simpa [Act.eval] using h1.symm
              simp [h1, this]
          · injection h with h; subst h
            refine OutOk.pure ?_
            simp only [VR]
            cases b with
            | true =>
              have h1 := hxv rfl
              simp only [VR] at h1
              simp [h1]
            | false =>
              have h1 := hyv rfl
              simp only [VR] at h1
              simp [h1]
        · rename_i k p k' q
          split at h
          · rename_i hk; subst hk
            injection h with h; subst h
            refine OutOk.pure ?_
            simp only [VR]
            cases b with
            | true =>
              have h1 := hxv rfl
              simp only [VR] at h1
              simp [h1]
            | false =>
              have h1 := hyv rfl
              simp only [VR] at h1
              simp [h1]
          · cases h
        · injection h with h; subst h
          have hb : b = false := ho
          subst hb
          refine OutOk.pure ?_
          simpa using hyv rfl
        · injection h with h; subst h
          have hb : b = true := ho
          subst hb
          refine OutOk.pure ?_
          simpa using hxv rfl
        · cases h
      · cases h
    · cases h
  · cases h
theorem hop_sound {f : Operand → AV} {d : Nat} {op : Op} (ho : o.op = op) (hH : HeapR P A S.hp ρ w) (h : hop P S f d op = some r) (hob : r.obl)
    (hf : ∀ x ∈ o.op.operands, VR P w (imm A S.hp ρ w) ρ (f x) (a.eval x)) (hfr : ∀ (x : Operand) (l : Nat), S.fresh l = true → (f x).has l = false) : HopOk P A S ρ w a.eval o r := by
  rw [ho] at hf
  have h0 := h
  unfold Go.E.hop at h
  split at h
  · clear h; exact hop_alloc ho hH h0
  · clear h; exact hop_box ho hH h0 (hf _ (by simp [Op.operands])) (hfr _)
  · clear h; exact hop_buildSlice ho hH h0 fun p hp => hf p.2 (by simp only [Op.operands]; simpa using ⟨p.1, hp⟩)
  · clear h; exact hop_makeSlice ho hH h0 hob (hf _ (by simp [Op.operands])) (hf _ (by simp [Op.operands]))
  · clear h; exact hop_store ho hH h0 hob (hf _ (by simp [Op.operands])) (hf _ (by simp [Op.operands]))
  · clear h; exact hop_append ho hH h0 hob fun x hx => hf x (by simp [Op.operands, Call.operands]; exact hx)
  · cases h
theorem core_sound (hΓ : ∀ g C, get? Γ g = some C → Sound P g C) (hR : Rep P A w0 M S ρ a w) (hG : hold a.tmps G) (h : core P Γ S G o = some r) (ho : r.obl)
    {K : Act → World → Prop} {Q : Exit → Act → World → Prop} (hK : ∀ v w', OutOk P A S ρ w r v w' → K (a.put o.dst v) w') : o.wp P a w K Q := by
  have main : ∀ op, o.op = op → (∀ c x y, op ≠ .pick c x y) → (if op.operands.all (fun x => within (strip (evOp S x)).1 G) then
      match vop P S.hp (fun x => (strip (evOp S x)).2) o.type op with
      | some (obl, v) => some ⟨obl, v, [], []⟩
      | none => match op with
        | .call { callee := .value fo, args := args, argTypes := _ } => callOp Γ S (fun x => (strip (evOp S x)).2) (o.dst.getD 0) fo args.toList
        | _ => match hop P S (fun x => (strip (evOp S x)).2) (o.dst.getD 0) op with
          | some r => some r
          | none => match mop P S (fun x => (strip (evOp S x)).2) (o.dst.getD 0) op with
            | some r => some r
            | none => aop P S (fun x => (strip (evOp S x)).2) op
      else none) = some r → o.wp P a w K Q := by
    intro op hop _ h
    split at h
    · rename_i hall
      have hf : ∀ x ∈ o.op.operands, VR P w (imm A S.hp ρ w) ρ ((fun x => (strip (evOp S x)).2) x) (a.eval x) := by
        intro x hx
        rw [hop] at hx
        rw [Array.all_eq_true_iff_forall_mem] at hall
        exact evOp_sound hR hG (hall x hx)
      split at h
      · rename_i obl v hv
        injection h with h; subst h
        obtain ⟨u, hrun, hvr⟩ := vop_sound (ev := a.eval) (o := o) (r := (obl, v)) hR.hp (by rw [hop]; exact hv) ho hf
        exact wp_value hrun (hK _ _ (OutOk.pure hvr))
      · split at h
        · rename_i fo args ts
          exact call_sound hΓ hR hop h ho hf hK
        · split at h
          · rename_i r1 hr1
            injection h with h; subst h
            exact wp_hop (hop_sound hop hR.hp hr1 ho hf fun x l hl => evOp_fresh hl) hK
          · split at h
            · rename_i r1 hr1
              injection h with h; subst h
              exact wp_hop (mop_sound hop hR.hp hr1 ho hf) hK
            · exact wp_hop (aop_sound hop hR.hp h ho hf) hK
    · cases h
  unfold core at h
  split at h
  · rename_i c x y hop
    exact pick_sound hR hG hop h ho hK
  · rename_i op hnp
    exact main _ rfl (fun c x y he => hnp c x y he) h
end
end Go.E

/-
  EngR: guarded operations; an operation on a part of the state.
-/
namespace Go.E
open Go.RowKit
set_option linter.unusedVariables false
set_option linter.unusedSimpArgs false
def opRes (P : Program) (Γ : Cons) (ops : Array Oper) (S : AState) (o : Oper) : Option (List (Nat × Bool) × Res) := match guardOf S ops o with
  | none => none
  | some [] => (core P Γ S [] o).map fun r => ([], r)
  | some (g :: G) => match (core P Γ S (g :: G) o).bind (freezeRes S) with
    | some r => some (g :: G, r)
    | none => some (g :: G, ⟨False, .junk, [], []⟩)
def condOf : List (Nat × Bool) → AV → AV
  | [], x => x
  | g :: G, x => .cond (g :: G) x
def putT (T : Temps) (d : Nat) (x : AV) : Temps := match get? T d with
  | some _ => set T d x
  | none => (d, x) :: T
theorem get?_putT (T : Temps) (d : Nat) (x : AV) (t : Nat) : get? (putT T d x) t = if d = t then some x else get? T t := by
  unfold putT
  split
  · exact get?_set T d x t
  · rfl
theorem Rep.putT {P : Program} {A : Nat → Prop} {w0 w : World} {M : Own} {S : AState} {ρ : Nat → Value} {a : Act} (h : Rep P A w0 M S ρ a w) {d : Nat} {x : AV} {v : Value} (hd : d < S.n) (hon : tmOn d S.tm = false) (hv : TR P w (imm A S.hp ρ w) ρ (a.tmps.setIfInBounds d v) x v) : Rep P A w0 M { S with tm := Go.E.putT S.tm d x } ρ (a.put (some d) v) w :=
  Rep.congr (S := { S with tm := set S.tm d x }) (fun t => by simp only [get?_set, get?_putT]) (fun _ => rfl) rfl rfl (Rep.put h hd hon hv)
def AState.app (S : AState) (dst : Option Nat) (G : List (Nat × Bool)) (r : Res) : AState := match dst with
  | none => S.next r
  | some d => { S.next r with tm := putT (S.next r).tm d (condOf G r.val) }
def okDst (S : AState) (G : List (Nat × Bool)) : Option Nat → Bool
  | none => true
  | some d => decide (d < S.n) && !tmOn d S.tm && !(G.any fun x => x.1 == d)

section
variable {P : Program} {A : Nat → Prop} {w0 w : World} {M : Own} {S : AState} {ρ : Nat → Value} {a : Act} {Γ : Cons} {G : List (Nat × Bool)} {o : Oper} {r : Res} {ops : Array Oper}
theorem wanted_iff {j d : Nat} {want : Bool} {oj : Oper} {tmps : Array Value} (hg : o.guard = some (j, want)) (hj : ops[j]? = some oj) (hd : oj.dst = some d) :
    Region.wanted o (yielded ops tmps) = true ↔ tmps.getD d undef = .bool want := by
  unfold Region.wanted
  rw [hg]
  simp only [yielded, hj, hd, Option.bind_some]
  rw [Array.getD_eq_getD_getElem?]
  cases hv : tmps[d]? with
  | none => simp [undef]
  | some v => cases v <;> simp
theorem guard_sound (hR : Rep P A w0 M S ρ a w) (h : guardOf S ops o = some G) : Region.wanted o (yielded ops a.tmps) = true ↔ hold a.tmps G := by
  unfold guardOf at h
  split at h
  · rename_i hg
    injection h with h; subst h
    unfold Region.wanted
    rw [hg]
    simp [hold]
  · rename_i j want hg
    split at h
    · rename_i oj hj
      split at h
      · rename_i d hd
        rw [wanted_iff hg hj hd]
        split at h
        · rename_i b hb
          injection h with h; subst h
          simp [hold]
        · rename_i gs b hb
          injection h with h; subst h
          have ht := hR.tm d _ hb
          constructor
          · intro hw x hx
            rcases List.mem_cons.1 hx with rfl | hx
            · exact hw
            · by_cases hh : hold a.tmps gs
              · exact hh x hx
              · have := ht.2 hh
                rw [hw] at this
                cases this
          · intro hh
            exact hh (d, want) (by simp)
        · cases h
      · cases h
    · cases h
theorem under_elim (hR : Rep P A w0 M S ρ a w) {p : Prop} : ∀ (G : List (Nat × Bool)), hold a.tmps G → under S G p → p
  | [], _, h => h
  | (t, b) :: rest, hG, h => by
    have ih := under_elim hR rest (fun x hx => hG x (by simp [hx])) (p := p)
    have ht : a.tmps.getD t undef = .bool b := hG (t, b) (by simp)
    simp only [under] at h
    split at h
    · rename_i c heq
      refine ih (h ?_)
      cases hg : get? S.tm t with
      | none => rw [hg] at heq; simp [strip] at heq
      | some y =>
        rw [hg] at heq
        have := hR.tm t y hg
        cases y <;> simp [strip] at heq
        · obtain ⟨_, rfl⟩ := heq
          have h2 : a.tmps.getD t undef = .bool _ := this
          rw [ht] at h2
          injection h2 with h2; exact h2.symm
        · rename_i gs z
          obtain ⟨_, rfl⟩ := heq
          by_cases hh : hold a.tmps gs
          · have h2 : a.tmps.getD t undef = .bool _ := this.1 hh
            rw [ht] at h2
            injection h2 with h2; exact h2.symm
          · have h2 := this.2 hh
            rw [ht] at h2
            cases h2
    · exact ih h
theorem opRes_sound (hΓ : ∀ g C, get? Γ g = some C → Sound P g C) (hR : Rep P A w0 M S ρ a w) (h : opRes P Γ ops S o = some (G, r)) (ho : under S G r.obl) :
    (Region.wanted o (yielded ops a.tmps) = true ↔ hold a.tmps G) ∧
    (Region.wanted o (yielded ops a.tmps) = true → ∀ (K : Act → World → Prop) (Q : Exit → Act → World → Prop), (∀ v w', OutOk P A S ρ w r v w' → K (a.put o.dst v) w') → o.wp P a w K Q) ∧ (G ≠ [] → Idle S r) := by
  unfold opRes at h
  split at h
  · cases h
  · rename_i hg
    obtain ⟨r0, hr, he⟩ := Option.map_eq_some_iff.1 h
    injection he with h1 h2
    subst h1; subst h2
    have hw := guard_sound hR hg
    exact ⟨hw, fun hw' K Q hK => core_sound hΓ hR (hw.1 hw') hr ho hK, fun hn => absurd rfl hn⟩
  · rename_i g gs hg
    split at h
    · rename_i r1 hr1
      obtain ⟨r0, hr, hf⟩ := Option.bind_eq_some_iff.1 hr1
      injection h with he
      injection he with h1 h2
      subst h1; subst h2
      have hw := guard_sound hR hg
      refine ⟨hw, fun hw' K Q hK => ?_, fun _ => freeze_idle hf⟩
      have hh := hw.1 hw'
      have hp := under_elim hR _ hh ho
      exact core_sound hΓ hR hh hr (freeze_obl hf hp) fun v w' hout => hK v w' (OutOk.freeze hR.hp hout hf hp)
    · injection h with he
      injection he with h1 h2
      subst h1; subst h2
      have hw := guard_sound hR hg
      exact ⟨hw, fun hw' K Q hK => (under_elim hR _ (hw.1 hw') ho).elim, fun _ => ⟨rfl, fun l x hx => by cases hx⟩⟩
theorem app_ran (hR : Rep P A w0 M S ρ a w) {dst : Option Nat} {v : Value} {w' : World} (hG : hold a.tmps G) (hd : okDst (S.next r) G dst = true) (h : OutOk P A S ρ w r v w') :
    ∃ ρ', Rep P A w0 M (S.app dst G r) ρ' (a.put dst v) w' := by
  obtain ⟨ρ', h1, h2⟩ := h.rep hR
  refine ⟨ρ', ?_⟩
  cases dst with
  | none => exact h1
  | some d =>
    simp only [okDst, Bool.and_eq_true, decide_eq_true_eq, Bool.not_eq_true'] at hd
    obtain ⟨⟨hd1, hd2⟩, hd3⟩ := hd
    refine Rep.putT h1 hd1 hd2 ?_
    cases G with
    | nil =>
      have : ∀ x : AV, VR P w' (imm A (S.next r).hp ρ' w') ρ' x v → TR P w' (imm A (S.next r).hp ρ' w') ρ' (a.tmps.setIfInBounds d v) x v := by
        intro x hx
        cases x <;> first | exact hx | exact hx.elim
      exact this _ h2
    | cons g gs => exact ⟨fun _ => h2, fun hn => absurd ((hold_set hd3).2 hG) hn⟩
theorem app_skip (hR : Rep P A w0 M S ρ a w) {dst : Option Nat} (hG : ¬ hold a.tmps G) (hd : okDst (S.next r) G dst = true) (hu : G ≠ [] → Idle S r) :
    Rep P A w0 M (S.app dst G r) ρ (a.put dst undef) w := by
  cases G with
  | nil => exact absurd (fun x hx => by cases hx) hG
  | cons g gs =>
    obtain ⟨hk1, hu1⟩ := hu (by simp)
    have hn : S.next r = { S with hp := applyUpd r.upd S.hp } := by
      unfold AState.next
      rw [hk1]
      rfl
    have hR : Rep P A w0 M { S with hp := applyUpd r.upd S.hp } ρ a w := by
      refine Rep.congr (S := S) (fun _ => rfl) (fun l => ?_) rfl rfl hR
      simp only
      rw [get?_applyUpd]
      cases hg : get? r.upd l with
      | none => rfl
      | some x =>
        obtain ⟨c, h1, h2⟩ := hu1 l x hg
        simp only [h1, h2]
    unfold AState.app
    rw [hn] at hd ⊢
    cases dst with
    | none => exact hR
    | some d =>
      simp only [okDst, Bool.and_eq_true, decide_eq_true_eq, Bool.not_eq_true'] at hd
      obtain ⟨⟨hd1, hd2⟩, hd3⟩ := hd
      exact Rep.putT hR hd1 hd2 ⟨fun hh => absurd ((hold_set hd3).1 hh) hG, fun _ => rfl⟩
structure Part (S0 S : AState) : Prop where
  tm : ∀ t x, get? S0.tm t = some x → get? S.tm t = some x
  hp : ∀ l c, get? S0.hp l = some c → get? S.hp l = some c
  n : S0.n = S.n
  gh : S0.gh = S.gh
def hide (A : Nat → Prop) (S0 S : AState) (ρ : Nat → Value) (b : Nat) : Prop := A b ∧ ∀ l c, get? S0.hp l = none → get? S.hp l = some c → blkOf (ρ l) ≠ some b
theorem imm_hide {S0 : AState} (hp : Part S0 S) : imm (hide A S0 S ρ) S0.hp ρ w = imm A S.hp ρ w := by
  funext b
  refine propext ⟨fun h => ⟨⟨h.1.1, h.1.2.1⟩, fun l c hl => ?_⟩, fun h => ⟨⟨h.1.1, h.1.2, fun l c _ hl => h.2 l c hl⟩, fun l c hl => h.2 l c (hp.hp l c hl)⟩⟩
  cases h0 : get? S0.hp l with
  | none => exact h.1.2.2 l c h0 hl
  | some c0 => exact h.2 l c0 h0
theorem Rep.part {S0 : AState} (hp : Part S0 S) (hR : Rep P A w0 M S ρ a w) : Rep P (hide A S0 S ρ) w0 M S0 ρ a w := by
  refine ⟨fun t v hv => ?_, ⟨fun l c hl => ?_, fun l c b hl hb => ⟨hR.hp.ok l c b (hp.hp l c hl) hb, fun l' c' h0 h1 => ?_⟩, fun b hb => ⟨hR.hp.fresh b hb, fun l c h0 h1 h2 => ?_⟩, fun l c l' c' hl hl' => hR.hp.apart l c l' c' (hp.hp l c hl) (hp.hp l' c' hl')⟩, hR.keep, fun l c hl => hR.mine l c (hp.hp l c hl), by rw [imm_hide hp, hp.gh]; exact hR.gh, hR.defers, by rw [hp.n]; exact hR.sz⟩
  · rw [imm_hide hp]; exact hR.tm t v (hp.tm t v hv)
  · rw [imm_hide hp]; exact hR.hp.chunk l c (hp.hp l c hl)
  · refine hR.hp.apart l c l' c' (hp.hp l c hl) h1 (fun he => ?_) b hb
    subst he
    rw [hl] at h0; cases h0
  · have := (hR.hp.chunk l c h1).lt h2
    omega
theorem OutOk.whole {S0 : AState} (hp : Part S0 S) (hR : HeapR P A S.hp ρ w) {v : Value} {w' : World} (hn : r.upd.all (fun x => (get? S0.hp x.1).isSome || S.fresh x.1) = true) (h : OutOk P (hide A S0 S ρ) S0 ρ w r v w') : OutOk P A S ρ w r v w' := by
  obtain ⟨ρ', U, s, hc, hv, hU⟩ := h
  have hnew : ∀ l, (get? r.upd l).isSome = true → (get? S0.hp l).isSome = true ∨ S.fresh l = true := by
    intro l hl
    obtain ⟨y, hy, he⟩ := get?_mem hl
    have := List.all_eq_true.1 hn y hy
    simp only [Bool.or_eq_true] at this
    rw [he] at this
    exact this
  have hfn : ∀ l, S.fresh l = true → get? S.hp l = none := by
    intro l hl
    unfold AState.fresh at hl
    simp only [Bool.and_eq_true] at hl
    exact Option.isNone_iff_eq_none.1 hl.2
  have hUeq : ∀ l, (get? r.upd l).isSome = true → get? (applyUpd r.upd (killH r.kill S.hp)) l = get? (applyUpd r.upd (killH r.kill S0.hp)) l := by
    intro l hl
    rw [get?_applyUpd, get?_applyUpd]
    cases hg : get? r.upd l with
    | none => rw [hg] at hl; cases hl
    | some x => rfl
  have hsame : ∀ l, l ∉ U → get? (applyUpd r.upd (killH r.kill S.hp)) l = (get? S.hp l).map (Chunk.kill r.kill) := by
    intro l hl
    by_cases hi : (get? r.upd l).isSome = true
    · rw [hUeq l hi, s.same l hl]
      rcases hnew l hi with h0 | h0
      · obtain ⟨c, hc0⟩ := Option.isSome_iff_exists.1 h0
        rw [hc0, hp.hp l c hc0]
      · rw [hfn l h0]
        cases h1 : get? S0.hp l with
        | none => rfl
        | some c => exact absurd (hfn l h0) (by simp [hp.hp l c h1])
    · rw [get?_applyUpd, get?_killH]
      cases hg : get? r.upd l with
      | none => rfl
      | some x => rw [hg] at hi; exact absurd rfl hi
  have himm : ∀ b, imm (hide A S0 S ρ) (applyUpd r.upd (killH r.kill S0.hp)) ρ' w' b → imm A (applyUpd r.upd (killH r.kill S.hp)) ρ' w' b := by
    intro b hb
    refine ⟨⟨hb.1.1, hb.1.2.1⟩, fun l c hl => ?_⟩
    by_cases hu : l ∈ U
    · exact hb.2 l c (by rw [← hUeq l (hU l hu)]; exact hl)
    · rw [hsame l hu] at hl
      obtain ⟨c0, h0, h1⟩ := Option.map_eq_some_iff.1 hl
      cases hg : get? S0.hp l with
      | none => rw [s.refs l hu]; exact hb.1.2.2 l c0 hg h0
      | some c1 => exact hb.2 l (c1.kill r.kill) (by rw [s.same l hu, hg]; rfl)
  have hext : Ext w' (imm (hide A S0 S ρ) (applyUpd r.upd (killH r.kill S0.hp)) ρ' w') w' (imm A (applyUpd r.upd (killH r.kill S.hp)) ρ' w') := ⟨Nat.le_refl _, fun b hb => ⟨himm b hb, rfl⟩⟩
  have hS : ∀ l c, l ∈ U → get? (applyUpd r.upd (killH r.kill S.hp)) l = some c → get? (applyUpd r.upd (killH r.kill S0.hp)) l = some c := fun l c hu hl => by rw [← hUeq l (hU l hu)]; exact hl
  have h0S : ∀ l c, l ∈ U → get? S.hp l = some c → get? S0.hp l = some c := by
    intro l c hu hl
    rcases hnew l (hU l hu) with h0 | h0
    · obtain ⟨c1, hc1⟩ := Option.isSome_iff_exists.1 h0
      rw [hp.hp l c1 hc1] at hl
      rw [hc1, hl]
    · rw [hfn l h0] at hl; cases hl
  refine ⟨ρ', U, ⟨hsame, s.refs, fun l hu => ?_, s.os, s.tape, s.output, s.size, fun b hb hn => s.blk b hb fun l c hu hl => hn l c hu (hp.hp l c hl), fun l c b hu hl hb => ?_, fun l c l' c' hu hu' hl hl' => s.apart l c l' c' hu hu' (hS l c hu hl) (hS l' c' hu' hl')⟩, fun l c hu hl => ?_, ?_, hU⟩
  · rcases s.free l hu with h | h | h
    · exact .inl h
    · rcases hnew l (hU l hu) with h0 | h0
      · unfold AState.fresh at h
        simp only [Bool.and_eq_true] at h
        rw [Option.isNone_iff_eq_none.1 h.2] at h0
        cases h0
      · exact .inr (.inl h0)
    · exact .inr (.inr h)
  · rcases s.new l c b hu (hS l c hu hl) hb with h | ⟨l0, c0, h1, h2, h3⟩
    · exact .inl h
    · exact .inr ⟨l0, c0, h1, hp.hp l0 c0 h2, h3⟩
  · exact (hc l c hu (hS l c hu hl)).ext hext (fun _ _ => rfl) (fun _ _ => rfl)
  · exact VR.ext hext _ _ (fun _ _ => rfl) hv
end
end Go.E

