/-
  A part of the proof: what some of the program's functions compute.
-/
import Derived.Test.YtijmbmncdchjkaaGreatVB
import Derived.RangeFuncNested
import Derived.RangeFuncBound
import Derived.RangeFuncCalls
import Derived.RangeFuncLeaves
import Derived.Shelf.Abstract
import Derived.Shelf.RegionOpen
import Derived.WalkKit
import Derived.OwnWalkIn
import Derived.TacticsInMore
import Derived.LoopNIn
import Derived.LoopIn
namespace Go.Proofs.YtijmbmncdchjkaaGreat
open Go Go.E Go.Proofs
open Go.RowKit Go.Shelf
attribute [local go_sem] Oper.semAt_some
set_option maxRecDepth 100000 in
set_option maxHeartbeats 1000000 in
theorem fromTop_in (n : Nat) (a : Option Addr) (len cap : Nat) (w : World) :
    CallsIn Fence.wide n Tryz.prog 34 #[.slice a len cap] w fun e w' => e = .returned (.func (.func 42) #[] #[.pointer (some ⟨w.heap.size, 0, none⟩)]) ∧ w' = w.alloc (.cells #[.slice a len cap] 37) := by
  refine callsIn_of_wp Tryz.func34 rfl trivial ?_ rfl
  simp only [Tryz.ntmps34, List.size_toArray, List.length_cons, List.length_nil, Nat.reduceAdd, Nat.reduceSub, Array.replicate_succ, Array.replicate_zero, List.push_toArray, List.append_toArray, List.nil_append, List.cons_append]
  gi_wp2
  go_ret
  exact ⟨rfl, rfl⟩
/-- the cells of an item -/
def ItemV (us : List Value) : Prop := ∃ (n0 n1 n2 n3 n4 n5 : Int) (a6 : Option Addr) (l6 c6 : Nat) (a7 : Option Addr) (l7 c7 : Nat) (a8 : Option Addr) (l8 c8 : Nat),
  us = [.int .i64 n0, .int .i64 n1, .int .i64 n2, .int .i64 n3, .int .i64 n4, .int .i64 n5, .slice a6 l6 c6, .slice a7 l7 c7, .slice a8 l8 c8]
/-- from the top down to k -/
def dn (len k : Nat) : List (Fin len) := ((List.finRange len).drop k).reverse
theorem dn_len (len : Nat) : dn len len = [] := by simp [dn]
theorem dn_succ (len k : Nat) (h : k < len) : dn len k = dn len (k + 1) ++ [⟨k, h⟩] := by
  unfold dn
  rw [List.drop_eq_getElem_cons (by simpa using h)]
  simp
theorem dn_length (len k : Nat) : (dn len k).length = len - k := by simp [dn]
set_option maxRecDepth 100000 in
set_option maxHeartbeats 2000000 in
theorem fromTop1_in (n : Nat) (hn : 1 ≤ n) (l Bs n₀ b off len cap : Nat) (us : Fin len → List Value) (hus : ∀ i, ItemV (us i)) (hlen : len ≤ 9223372036854775807) (a : Option Addr) (ha : 0 < len → a = some ⟨b, off, none⟩ ∧ b < n₀) (J Jx : List (Fin len) → World → Prop)
    (hY : ∀ pre x W, J pre W → pre.length < len → YieldAt Fence.wide (n - 1) Tryz.prog l #[.int .i64 (x.1 : Int), .agg (us x).toArray] W fun e W' =>
      (e = .returned (.bool true) ∧ J (pre ++ [x]) W' ∧ Below n₀ W W') ∨ (e = .returned (.bool false) ∧ Jx (pre ++ [x]) W'))
    (W : World) (hBn : Bs < n₀) (hBs : W.cell? ⟨Bs, 0, none⟩ = some (.slice a len cap)) (hc : ∀ (i : Fin len) (j : Nat) v, (us i)[j]? = some v → W.cell? ⟨b, off + i.1 * 9 + j, none⟩ = some v) (h0 : J [] W) :
    CallsIn Fence.wide n Tryz.prog 42 #[.func (.yield l) #[] #[], .pointer (some ⟨Bs, 0, none⟩)] W fun e W' => (∃ v, e = .returned v) ∧
      ((∃ ys, ys = dn len 0 ∧ J ys W') ∨ (∃ pre, (∃ k, k ≤ len ∧ pre = dn len k) ∧ Jx pre W')) := by
  refine callsIn_of_wp Tryz.func42 rfl trivial ?_ rfl
  simp only [Tryz.ntmps42, List.size_toArray, List.length_cons, List.length_nil, Nat.reduceAdd, Nat.reduceSub, Array.replicate_succ, Array.replicate_zero, List.push_toArray, List.append_toArray, List.nil_append, List.cons_append]
  gi_wp2
  gi_loopw [3] (fun p wr => ∃ k : Nat, k ≤ len ∧ p = .int .i64 ((k : Int) - 1) ∧ J (dn len k) wr ∧ Below n₀ W wr)
    (fun p _ => (intOf p + 1).toNat)
  case atStart => exact ⟨len, Nat.le_refl _, rfl, by rw [dn_len]; exact h0, Below.refl _ _⟩
  case round =>
    obtain ⟨k, hk, rfl, hJs, hB⟩ := hrel
    cases k with
    | zero =>
      gi_wp2
      go_end0
      exact ⟨⟨_, rfl⟩, .inl ⟨_, rfl, hJs⟩⟩
    | succ k =>
      rw [show (((k + 1 : Nat) : Int) - 1) = (k : Int) by omega]
      obtain ⟨rfl, hb⟩ := ha (by omega)
      have hu0 := hus ⟨k, hk⟩
      obtain ⟨u0, u1, u2, u3, u4, u5, u6, u7, u8, hu⟩ : ∃ u0 u1 u2 u3 u4 u5 u6 u7 u8, us ⟨k, hk⟩ = [u0, u1, u2, u3, u4, u5, u6, u7, u8] := by
        obtain ⟨n0, n1, n2, n3, n4, n5, a6, l6, c6, a7, l7, c7, a8, l8, c8, h⟩ := hu0
        exact ⟨_, _, _, _, _, _, _, _, _, h⟩
      have hcx : ∀ j v, [u0, u1, u2, u3, u4, u5, u6, u7, u8][j]? = some v → wr.cell? ⟨b, off + k * 9 + j, none⟩ = some v := fun j v h => (hB.cell (p := ⟨b, off + k * 9 + j, none⟩) hb).trans (hc ⟨k, hk⟩ j v (by rw [hu]; exact h))
      have e0 : wr.cell? ⟨b, off + k * 9, none⟩ = some u0 := hcx 0 u0 rfl
      have e1 := hcx 1 u1 rfl
      have e2 := hcx 2 u2 rfl
      have e3 := hcx 3 u3 rfl
      have e4 := hcx 4 u4 rfl
      have e5 := hcx 5 u5 rfl
      have e6 := hcx 6 u6 rfl
      have e7 := hcx 7 u7 rfl
      have e8 := hcx 8 u8 rfl
      have hBs' := (hB.cell (p := ⟨Bs, 0, none⟩) hBn).trans hBs
      obtain ⟨fn, tmps, assign, body, hy, hR⟩ := hY _ ⟨k, hk⟩ wr hJs (by rw [dn_length]; omega)
      rw [hu] at hy
      gi_wp2
      refine hR.mono ?_
      rintro e W3 (⟨rfl, hJ3, hk3⟩ | ⟨rfl, hJx3⟩)
      · gi_wp2
        go_roundw
        case rel => exact ⟨k, by omega, rfl, by rw [dn_succ len k hk]; exact hJ3, hB.trans hk3⟩
        case measure => simp [intOf]
      · gi_wp2
        refine bodyPost_ret (results_none rfl _ _ _) rfl ?_
        exact ⟨⟨_, rfl⟩, .inr ⟨_, ⟨k, by omega, (dn_succ len k hk).symm⟩, hJx3⟩⟩
theorem fromTop_stops (n : Nat) (hn : 1 ≤ n) (Bs n₀ b off len cap : Nat) (us : Fin len → List Value) (hus : ∀ i, ItemV (us i)) (hlen : len ≤ 9223372036854775807) (a : Option Addr) (ha : 0 < len → a = some ⟨b, off, none⟩ ∧ b < n₀)
    (w : World) (hn₀ : n₀ ≤ w.heap.size) (hBn : Bs < n₀) (hBs : w.cell? ⟨Bs, 0, none⟩ = some (.slice a len cap)) (hc : ∀ (i : Fin len) (j : Nat) v, (us i)[j]? = some v → w.cell? ⟨b, off + i.1 * 9 + j, none⟩ = some v) :
    SeqStopsK Fence.wide n Tryz.prog 42 #[.pointer (some ⟨Bs, 0, none⟩)] (fun i : Fin len => #[.int .i64 (i.1 : Int), .agg (us i).toArray]) (Below n₀) (fun ys => ys = dn len 0) (fun pre => ∃ k, k ≤ len ∧ pre = dn len k) len w := fun l J Jx W hW _ _ hY h0 =>
  fromTop1_in n hn l Bs n₀ b off len cap us hus hlen a ha J Jx hY W hBn ((hW.cell (p := ⟨Bs, 0, none⟩) (by show Bs < _; omega)).trans hBs)
    (fun i j v h => (hW.cell (p := ⟨b, off + i.1 * 9 + j, none⟩) (by have := (ha (by have := i.2; omega)).2; show b < _; omega)).trans (hc i j v h)) h0
theorem accepts_call (n : Nat) (W : World) (i : Item) (us : List Value) (x y : Int) (hi : itemLen i) (hd : DR W (all W) ItemT i us) :
    CallsIn Fence.wide n Tryz.prog 35 #[.agg us.toArray, .int .i64 x, .int .i64 y] W fun e W' => e = .returned (.bool (acceptsI i x y)) ∧ Below W.heap.size W W' := by
  refine callsIn_wide.2 ((s_scaccepts.2 (encAs [.d ItemT, .d I64, .d I64] (i, x, y, ())) (itemLen i) (.bool (acceptsI i x y)) ?_ hi (fun _ => True) W (fun _ => undef) [.agg us.toArray, .int .i64 x, .int .i64 y] ?_).mono ?_)
  · unfold c_scaccepts pcon
    rw [decAs_encAs]
  · have hI : Ext W (all W) W (allA (fun _ => True) W) := ⟨Nat.le_refl _, fun b hb => ⟨⟨hb, trivial⟩, rfl⟩⟩
    refine VRs_cons.2 ⟨_, _, rfl, shut_sound ItemT i _ ?_, VRs_cons.2 ⟨_, _, rfl, rfl, VRs_cons.2 ⟨_, _, rfl, rfl, VRs_nil.2 rfl⟩⟩⟩
    exact ⟨us, rfl, DR.ext hI _ _ _ hd⟩
  · rintro e W' ⟨v, rfl, hb, hout⟩
    obtain ⟨ρ', _, hv, _⟩ := hout 0
    have hv : v = .bool (acceptsI i x y) := by simpa [place, VR] using hv
    subst hv
    exact ⟨rfl, hb⟩
def atI (l : List Item) (x y : Int) : Int := match l.reverse.findIdx? (fun i => acceptsI i x y) with
  | some k => (l.length : Int) - 1 - k
  | none => -1
def ItemsOk (l : List Item) : Prop := l.length ≤ 9223372036854775807 ∧ ∀ i ∈ l, itemLen i
theorem atI_none (l : List Item) (x y : Int) (h : ∀ i ∈ dn l.length 0, acceptsI l[i] x y = false) : atI l x y = -1 := by
  unfold atI
  have : l.reverse.findIdx? (fun i => acceptsI i x y) = none := by
    rw [List.findIdx?_eq_none_iff]
    intro i hi
    obtain ⟨k, hk, rfl⟩ := List.getElem_of_mem (List.mem_reverse.1 hi)
    exact h ⟨k, hk⟩ (by simp [dn])
  rw [this]
theorem atI_some (l : List Item) (x y : Int) (k : Nat) (hk : k ≤ l.length) (i : Fin l.length) (pre : List (Fin l.length)) (e : pre ++ [i] = dn l.length k) (h : ∀ j ∈ pre, acceptsI l[j] x y = false) (hi : acceptsI l[i] x y = true) : atI l x y = i.1 := by
  have hlen := congrArg List.length e
  rw [dn_length] at hlen
  simp at hlen
  rw [dn_succ l.length k (by omega)] at e
  obtain ⟨rfl, e2⟩ := List.append_inj' e rfl
  simp at e2
  subst e2
  unfold atI
  have : l.reverse.findIdx? (fun i => acceptsI i x y) = some (l.length - 1 - k) := by
    rw [List.findIdx?_eq_some_iff_getElem]
    refine ⟨by simp; omega, ?_, fun j hj => ?_⟩
    · simp only [List.getElem_reverse]
      have : l.length - 1 - (l.length - 1 - k) = k := by omega
      simp only [this]
      exact hi
    · simp only [List.getElem_reverse]
      have := h ⟨l.length - 1 - j, by omega⟩ (by
        unfold dn
        rw [List.mem_reverse, List.mem_drop_iff_getElem]
        exact ⟨l.length - 1 - j - (k + 1), by simp; omega, by simp; omega⟩)
      simpa using this
  rw [this]
  simp only
  omega
theorem below_others {W W' : World} (h : Below W.heap.size W W') : KeepsOthers W W' := by
  refine ⟨h.size, fun k o hk _ => ?_⟩
  have hlt : k < W.heap.size := (Array.getElem?_eq_some_iff.1 hk).1
  exact (h.block k hlt).trans hk
set_option maxRecDepth 100000 in
set_option maxHeartbeats 2000000 in
theorem at_in (n : Nat) (hn : 4 ≤ n) (l : List Item) (x y : Int) (hl : ItemsOk l) (b off cap : Nat) (a : Option Addr) (w : World) (us : Fin l.length → List Value) (hus : ∀ i, ItemV (us i))
    (ha : 0 < l.length → a = some ⟨b, off, none⟩ ∧ b < w.heap.size) (hc : ∀ (i : Fin l.length) (j : Nat) v, (us i)[j]? = some v → w.cell? ⟨b, off + i.1 * 9 + j, none⟩ = some v) (hd : ∀ i, DR w (all w) ItemT l[i] (us i)) :
    CallsIn Fence.wide n Tryz.prog 28 #[.slice a l.length cap, .int .i64 x, .int .i64 y] w fun e W' => e = .returned (.int .i64 (atI l x y)) ∧ Below w.heap.size w W' := by
  have h1 : 1 ≤ n := by omega
  have h37 : Fence.wide.fn 34 := trivial
  have h38 : Fence.wide.fn 35 := trivial
  refine callsIn_of_wp_marks Tryz.func28 rfl trivial ?_ rfl
  simp only [Tryz.ntmps28, List.size_toArray, List.length_cons, List.length_nil, Nat.reduceAdd, Nat.reduceSub, Array.replicate_succ, Array.replicate_zero, List.push_toArray, List.append_toArray, List.nil_append, List.cons_append]
  gi_wp2_with (gi_at_call 34; refine (fromTop_in (n - 1) _ _ _ _).mono ?_; rintro e w' ⟨rfl, rfl⟩)
  have bX := (((Boxed.new w 3 (.int .i64 x)).alloc (.cells #[.int .i64 y] 3)).alloc (.cells #[.int .i64 0] 3)).alloc (.cells #[.slice a l.length cap] 37)
  have bY := ((Boxed.new (w.alloc (.cells #[.int .i64 x] 3)) 3 (.int .i64 y)).alloc (.cells #[.int .i64 0] 3)).alloc (.cells #[.slice a l.length cap] 37)
  have bR := (Boxed.new ((w.alloc (.cells #[.int .i64 x] 3)).alloc (.cells #[.int .i64 y] 3)) 3 (.int .i64 0)).alloc (.cells #[.slice a l.length cap] 37)
  have bL := Boxed.new (((w.alloc (.cells #[.int .i64 x] 3)).alloc (.cells #[.int .i64 y] 3)).alloc (.cells #[.int .i64 0] 3)) 37 (.slice a l.length cap)
  have hB0 : Below w.heap.size w ((((w.alloc (.cells #[.int .i64 x] 3)).alloc (.cells #[.int .i64 y] 3)).alloc (.cells #[.int .i64 0] 3)).alloc (.cells #[.slice a l.length cap] 37)) := ((((Below.refl _ w).alloc (Nat.le_refl _) _).alloc (by simp) _).alloc (by simp; omega) _).alloc (by simp; omega) _
  have hsz : ((((w.alloc (.cells #[.int .i64 x] 3)).alloc (.cells #[.int .i64 y] 3)).alloc (.cells #[.int .i64 0] 3)).alloc (.cells #[.slice a l.length cap] 37)).heap.size = w.heap.size + 1 + 1 + 1 + 1 := by simp
  simp only [World.size_alloc] at bY bR bL
  generalize ((((w.alloc (.cells #[.int .i64 x] 3)).alloc (.cells #[.int .i64 y] 3)).alloc (.cells #[.int .i64 0] 3)).alloc (.cells #[.slice a l.length cap] 37)) = W4 at *
  refine wpIn_rangeFunc_ownH rfl h1 (gf := 42) (lb := #[.pointer (some ⟨w.heap.size + 1 + 1 + 1, 0, none⟩)]) rfl trivial (enters_of Tryz.func42 (by kernel_rfl) rfl)
    (fromTop_stops (n - 1) (by omega) (w.heap.size + 1 + 1 + 1) (w.heap.size + 1 + 1 + 1 + 1) b off l.length cap us hus hl.1 a (fun h => ⟨(ha h).1, by have := (ha h).2; omega⟩) W4 (by omega) (by omega) bL.cell
      (fun i j v h => (hB0.cell (p := ⟨b, off + i.1 * 9 + j, none⟩) (ha (by have := i.2; omega)).2).trans (hc i j v h)))
    belowK_t (belowK_b (by omega)) (Below.refl _ _) (fun _ => rfl)
    (fun pre W => (∀ i ∈ pre, acceptsI l[i] x y = false) ∧ Below (w.heap.size + 1 + 1 + 1 + 1) W4 W)
    (fun c pre W => (c = .ret ∧ ∃ i pre', pre = pre' ++ [i] ∧ (∀ i ∈ pre', acceptsI l[i] x y = false) ∧ acceptsI l[i] x y = true ∧ Boxed W (w.heap.size + 1 + 1) 3 (.int .i64 (i.1 : Int))) ∧ Below w.heap.size w W)
    (OwnFrom.and (fun s A B row hs hg hr => hs) (ownFrom_below (by omega) (by omega)))
    (fun c => OwnFrom.and (Own.from (fun s A B row hs hg hr => ?_) _) (ownFrom_below (Nat.le_refl _) (by omega)))
    ⟨fun i h => (by cases h), Below.refl _ _⟩
    (fun i a' W => ∃ Bx, w.heap.size + 1 + 1 + 1 + 1 ≤ Bx ∧ Bx < W.heap.size ∧ (∀ j v, (us i)[j]? = some v → W.cell? ⟨Bx, j, none⟩ = some v) ∧ a' = { tmps := #[.slice a l.length cap, .int .i64 x, .int .i64 y, undef,
          .pointer (some ⟨w.heap.size, 0, none⟩), .pointer (some ⟨w.heap.size + 1, 0, none⟩), .pointer (some ⟨w.heap.size + 1 + 1, 0, none⟩), .int .i64 (i.1 : Int), .pointer (some ⟨Bx, 0, none⟩), .slice a l.length cap,
          .func (.func 42) #[] #[.pointer (some ⟨w.heap.size + 1 + 1 + 1, 0, none⟩)], .int .i64 (i.1 : Int), .agg (us i).toArray, undef, undef, undef, undef, undef], defers := [] })
    (fun i a' s A B row hs hg hr => ?_) ?assign ?body ?done ?stop
  · obtain ⟨rfl, i, pre', rfl, h3, h4, h5⟩ := hs
    exact ⟨rfl, i, pre', rfl, h3, h4, h5.kept hg (fun e' => by obtain ⟨o, ho, hc⟩ := hr _ e'.symm; rw [show A.heap[_]? = _ from h5] at ho; cases ho; cases hc)⟩
  · obtain ⟨Bx, h3, h4, h5, rfl⟩ := hs
    exact ⟨Bx, h3, Nat.lt_of_lt_of_le h4 hg.size, fun j v h => cell_kept (h5 j v h) hg (fun r e => (hr r e).2), rfl⟩
  case assign =>
    rintro l' pre i W K ⟨hp, hB⟩ hK
    obtain ⟨n0, n1, n2, n3, n4, n5, a6, l6, c6, a7, l7, c7, a8, l8, c8, hu⟩ := hus i
    rw [hu] at hK ⊢
    have hz := hB.size
    gi_wp2
    refine hK _ _ ((KeepsOthers.alloc _ _).from _) ((Below.refl _ W).alloc (by omega) _) ⟨hp, hB.alloc (by omega) _⟩ ⟨W.heap.size, by omega, by simp, fun j v h => ?_, rfl⟩
    have hg := World.alloc_heap_new W (.cells #[.int .i64 n0, .int .i64 n1, .int .i64 n2, .int .i64 n3, .int .i64 n4, .int .i64 n5, .slice a6 l6 c6, .slice a7 l7 c7, .slice a8 l8 c8] 64)
    unfold World.cell?
    rw [hg]
    simpa using h
  case body =>
    rintro l' pre i a' W hl' ⟨r, hr⟩ ⟨hp, hB⟩ ⟨Bx, hBx, hBs, hcx, rfl⟩ hlt
    have hz := hB.size
    have bX' : Boxed W w.heap.size 3 (.int .i64 x) := (hB.block _ (by omega)).trans bX
    have bY' : Boxed W (w.heap.size + 1) 3 (.int .i64 y) := (hB.block _ (by omega)).trans bY
    have bR' : Boxed W (w.heap.size + 1 + 1) 3 (.int .i64 0) := (hB.block _ (by omega)).trans bR
    have cX := bX'.cell
    have cY := bY'.cell
    obtain ⟨n0, n1, n2, n3, n4, n5, a6, l6, c6, a7, l7, c7, a8, l8, c8, hu⟩ := hus i
    rw [hu] at hcx ⊢
    have e0 : W.cell? ⟨Bx, 0, none⟩ = _ := hcx 0 _ rfl
    have e1 : W.cell? ⟨Bx, 1, none⟩ = _ := hcx 1 _ rfl
    have e2 : W.cell? ⟨Bx, 2, none⟩ = _ := hcx 2 _ rfl
    have e3 : W.cell? ⟨Bx, 3, none⟩ = _ := hcx 3 _ rfl
    have e4 : W.cell? ⟨Bx, 4, none⟩ = _ := hcx 4 _ rfl
    have e5 : W.cell? ⟨Bx, 5, none⟩ = _ := hcx 5 _ rfl
    have e6 : W.cell? ⟨Bx, 6, none⟩ = _ := hcx 6 _ rfl
    have e7 : W.cell? ⟨Bx, 7, none⟩ = _ := hcx 7 _ rfl
    have e8 : W.cell? ⟨Bx, 8, none⟩ = _ := hcx 8 _ rfl
    have hdW : DR W (all W) ItemT l[i] [.int .i64 n0, .int .i64 n1, .int .i64 n2, .int .i64 n3, .int .i64 n4, .int .i64 n5, .slice a6 l6 c6, .slice a7 l7 c7, .slice a8 l8 c8] := by
      rw [← hu]
      exact DR.ext ⟨by omega, fun b hb => ⟨by have : b < w.heap.size := hb; show b < _; omega, (hB.block b (by have : b < w.heap.size := hb; omega)).trans (hB0.block b hb)⟩⟩ _ _ _ (hd i)
    have hitem : itemLen l[i] := hl.2 _ (List.getElem_mem _)
    have h2 : 1 ≤ n - 1 - 1 := by omega
    gi_wp2_with (gi_at_call 35; refine (CallsIn.inRound l' (accepts_call _ W l[i] _ x y hitem hdW)).mono ?_; rintro e w' ⟨rfl, hb'⟩; have bR2 : Boxed w' (w.heap.size + 1 + 1) 3 (.int .i64 0) := (hb'.block _ (by omega)).trans bR'; have cR := bR2.cell; have fR := bR2.frozen)
    · rename_i hyes
      refine ⟨(below_others hb').from _ |>.trans ((KeepsOthers.setCell _ _ _).from _), ⟨rfl, i, pre, rfl, hp, hyes, bR2.set _⟩, ?_⟩
      exact (((hB0.trans (hB.mono (by omega))).trans (hb'.mono (by omega)))).setCell (p := ⟨w.heap.size + 1 + 1, 0, none⟩) (by simp; omega) _
    · rename_i hno
      refine ⟨(below_others hb').from _, hb'.mono (by omega), fun j hj => ?_, hB.trans (hb'.mono (by omega))⟩
      rcases List.mem_append.1 hj with hj | hj
      · exact hp j hj
      · simp at hj
        subst hj
        simpa using hno
  case done =>
    rintro D ys W hD rfl ⟨hne, hB⟩ hK
    have bR' : Boxed W (w.heap.size + 1 + 1) 3 (.int .i64 0) := (hB.block _ (by omega)).trans bR
    have cR := bR'.cell
    have fR := bR'.frozen
    gi_wp2
    have hK' := (KeepsOthers.setCell W ⟨w.heap.size + 1 + 1, 0, none⟩ (.int .i64 (-1))).same D _ hK rfl
    refine ⟨by simp, .inl ⟨_, _, rfl, run_takeDeferred hK', ?_⟩⟩
    have hc5 := cell_kept (bR'.set (.int .i64 (-1))).cell (grownBy_putObj' _ D (.deferred none)) (fun r e => by cases e; exact ⟨_, hK', rfl⟩)
    refine ⟨.int .i64 (-1), ?_, ?_, ((hB0.trans (hB.mono (by omega))).setCell (p := ⟨w.heap.size + 1 + 1, 0, none⟩) (by simp; omega) _).trans (belowK_b (w := w) (Nat.le_refl _) _ D _ _ (by omega) hK' rfl rfl)⟩
    · simp [results, Tryz.f28, go_sem, hc5]
    · rw [atI_none l x y hne]
  case stop =>
    rintro D c pre W hD ⟨k, hk, hpre⟩ ⟨⟨rfl, i, pre', rfl, hp, hi, hcr⟩, hB⟩ hK
    gi_wp2
    refine ⟨by simp, .inl ⟨_, _, rfl, run_takeDeferred hK, ?_⟩⟩
    have hc5 := cell_kept hcr.cell (grownBy_putObj' _ D (.deferred none)) (fun r e => by cases e; exact ⟨_, hK, rfl⟩)
    refine ⟨.int .i64 (i.1 : Int), ?_, ?_, hB.trans (belowK_b (w := w) (Nat.le_refl _) W D _ _ (by omega) hK rfl rfl)⟩
    · simp [results, Tryz.f28, go_sem, hc5]
    · rw [atI_some l x y k hk i pre' hpre hp hi]
theorem out_int {P : Program} {A : Nat → Prop} {w w' : World} {k : IntKind} (n : Int) (hw : w.heap.size ≤ w'.heap.size) : OutR P A w w' (.int k n) (.int k n) := fun m =>
  ⟨fun _ => undef, ⟨fun l c hl => (by simp [place, get?] at hl), fun l c b hl => (by simp [place, get?] at hl), fun b hb => .inr (Nat.le_trans hw hb), fun l c l' c' hl => (by simp [place, get?] at hl)⟩, (by simp [place, VR]), fun l c b hl => (by simp [place, get?] at hl)⟩
/-- the cells of an item that is read -/
theorem item_V {W : World} {I : Nat → Prop} {i : Item} {us : List Value} (h : DR W I ItemT i us) : ItemV us := by
  obtain ⟨a1, r1, rfl, rfl, a2, r2, rfl, rfl, a3, r3, rfl, rfl, a4, r4, rfl, rfl, r5, r6, rfl, ⟨a5, r7, rfl, rfl, a6, r8, rfl, rfl, a7, c7, rfl, _⟩, a8, r9, rfl, ⟨p8, c8, rfl, _⟩, p9, c9, rfl, _⟩ := h
  exact ⟨_, _, _, _, _, _, _, _, _, _, _, _, _, _, _, rfl⟩
def c_at : PCon := pcon [.d (.list ItemT), .d I64, .d I64] fun x => (ItemsOk x.1, .int .i64 (atI x.1 x.2.1 x.2.2.1))
theorem s_at : PSound Tryz.prog 28 c_at := by
  refine ⟨fun args w => enters_of Tryz.func28 (by kernel_rfl) rfl args w, ?_⟩
  intro args obl r hC ho A w ρ vs hv
  unfold c_at pcon at hC
  split at hC
  · rename_i x hx
    simp only [Option.some.injEq, Prod.mk.injEq] at hC
    obtain ⟨rfl, rfl⟩ := hC
    obtain ⟨l, x, y, _⟩ := x
    have hl : ItemsOk l := ho
    have hv := decAs_sound _ _ _ _ hx hv
    obtain ⟨v, r1, rfl, h1, hv⟩ := VRs_cons.1 hv
    obtain ⟨v2, r2, rfl, h2, hv⟩ := VRs_cons.1 hv
    obtain ⟨v3, r3, rfl, h3, hv⟩ := VRs_cons.1 hv
    obtain rfl := VRs_nil.1 hv
    have h1 : DR w (allA A w) (.list ItemT) l [v] := h1
    have h2 : v2 = .int .i64 x := h2
    have h3 : v3 = .int .i64 y := h3
    subst h2
    subst h3
    obtain ⟨a, c, e, hle, hrow⟩ := h1
    simp only [List.cons.injEq, and_true] at e
    subst e
    obtain ⟨b, off, hb⟩ : ∃ b off, 0 < l.length → a = some ⟨b, off, none⟩ ∧ b < w.heap.size ∧ ∀ i x, nth l i = some x → ∃ us, us.length = ItemT.size ∧ CellsAt w b (off + i * ItemT.size) us ∧ DR w (allA A w) ItemT x us := by
      rcases Nat.eq_zero_or_pos l.length with h0 | h0
      · exact ⟨0, 0, fun h => by omega⟩
      · obtain ⟨b, off, rfl, hI, hr⟩ := hrow h0
        exact ⟨b, off, fun _ => ⟨rfl, hI.1, hr⟩⟩
    have hus : ∀ i : Fin l.length, ∃ us, CellsAt w b (off + i.1 * 9) us ∧ DR w (allA A w) ItemT l[i] us := by
      intro i
      have h0 := (hb (Nat.lt_of_le_of_lt (Nat.zero_le _) i.2)).2.2 i.1 l[i]
      have hn : nth l i.1 = some l[i] := List.getElem?_eq_getElem i.2
      generalize l[i] = it at h0 hn ⊢
      obtain ⟨us, _, h2, h3⟩ := h0 hn
      exact ⟨us, h2, h3⟩
    obtain ⟨us, hus⟩ := Classical.axiomOfChoice hus
    have hI : Ext w (allA A w) w (all w) := ⟨Nat.le_refl _, fun b hb => ⟨hb.1, rfl⟩⟩
    have k1 : ∀ i, ItemV (us i) := fun i => item_V (hus i).2
    have k2 : 0 < l.length → a = some ⟨b, off, none⟩ ∧ b < w.heap.size := fun h => ⟨(hb h).1, (hb h).2.1⟩
    have k3 : ∀ (i : Fin l.length) (j : Nat) v, (us i)[j]? = some v → w.cell? ⟨b, off + i.1 * 9 + j, none⟩ = some v := fun i j v h => (hus i).1 j v h
    have k4 : ∀ i : Fin l.length, DR w (all w) ItemT l[i] (us i) := fun i => DR.ext hI _ _ _ (hus i).2
    have := at_in 4 (Nat.le_refl _) l x y hl b off c a w us k1 k2 k3 k4
    refine (callsIn_wide.1 this).mono ?_
    rintro e w' ⟨rfl, hB⟩
    exact ⟨_, rfl, hB, out_int _ hB.size⟩
  · cases hC
abbrev K24 : KCons := (28, fun Γc => pure_ Γc (c_at)) :: K23
theorem HK24 : KS Tryz.prog K24 := ks_add (ksound_pure (s_at)) HK23
end Go.Proofs.YtijmbmncdchjkaaGreat
