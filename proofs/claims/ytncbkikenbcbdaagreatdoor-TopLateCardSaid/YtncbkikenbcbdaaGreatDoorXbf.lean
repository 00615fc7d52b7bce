/- The iterator over a map's keys, and the sort of what it gives. No condition. -/
import Derived.Shelf.SlIterI.Nil
import Derived.Shelf.SortM.Plain
import Derived.Shelf.SortM.SortNone
import Derived.Test.YtncbkikenbcbdaaGreatDoorXbe
set_option linter.unusedVariables false
set_option linter.unusedSimpArgs false
set_option linter.unusedSectionVars false
set_option linter.constructorNameAsVariable false
namespace Go.Rk
open Go Go.Proofs Go.RowKit Go.Maps Go.Sort Go.Shelf
variable {P : Program} {ρ : Ren}
set_option maxRecDepth 100000 in
set_option maxHeartbeats 1000000 in
/-- an iterator over a map's keys, its box at whatever place of its block: the keys come, each once -/
theorem keysAt (L : SlLaysZI.n10 P ρ) {H : Type} (F : Fence) (n : Nat) (h10 : F.fn (ρ.f 10)) (hro : F.round = none) (hn : 1 ≤ n) (l Bm o b nn : Nat) (D0 : DataW H) {R : Value → Option (DataW H × List MemPlace)} (J : List Int → World → Prop)
    (hY : ∀ pre x W, J pre W → pre.length < Maps.size D0 → YieldAt F (n - 1) P l #[encZ x] W fun e W' => e = .returned (.bool true) ∧ J (pre ++ [x]) W' ∧ KeepsWalks W W')
    (W : World) (hJ : AbidesFrom W.heap.size J) (hm : W.cell? ⟨Bm, o, none⟩ = some (.map (some b))) (hown : W.ownsMap P (ρ.t 26) R b nn D0) (h0 : J [] W) :
    CallsIn F n P (ρ.f 10) #[.func (.yield l) #[] #[], .pointer (some ⟨Bm, o, none⟩)] W fun e W' => (∃ v, e = .returned v) ∧ ∃ ss : List Int, ss.Perm (intKeys D0) ∧ J ss W' := by
  have mixed := L.mixed; have t0 := L.t0; have a0 := L.a0; have z0 := L.z0; have v0 := L.v0; have t4 := L.t4; have a4 := L.a4; have z4 := L.z4; have v4 := L.v4; have t23 := L.t23; have a23 := L.a23; have z23 := L.z23; have v23 := L.v23; have t26 := L.t26; have a26 := L.a26; have z26 := L.z26; have v26 := L.v26; have t33 := L.t33; have a33 := L.a33; have z33 := L.z33; have v33 := L.v33
  have u0 := run_underlying L.t0; have u4 := run_underlying L.t4; have u23 := run_underlying L.t23; have u26 := run_underlying L.t26; have u33 := run_underlying L.t33
  obtain ⟨_, _, FG⟩ := L.f10
  refine callsIn_of_wp FG rfl h10 ?_ hro
  simp only [SlBodyZ.n10_ntmps ρ, List.size_toArray, List.length_cons, List.length_nil, Nat.reduceAdd, Nat.reduceSub, Array.replicate_succ, Array.replicate_zero, List.push_toArray, List.append_toArray, List.nil_append, List.cons_append]
  gi_wp2_with (first
    | (gi_at_range; refine wpListIn_range_own _ rfl _ (ρ.t 23) rfl (ρ.t 26) (ρ.t 3) (int_keyed L.t26) L.t23 _ b nn _ rfl hown ?_; intro w0 hrg0 hg0 hs0)
    | gi_in)
  go_frame
  gi_loopw [3] (fun _ wr => ∃ (left : Lit → Bool) (cnt : Nat) (ss : List Int), wr.ranges P (ρ.t 26) R b W.heap.size nn D0 left cnt ∧ ss.length + cnt ≤ Maps.size D0 ∧ CollectedI D0 left ss ∧ J ss wr)
    (fun _ wr => wr.rangeLeft b W.heap.size)
  case atStart => exact ⟨_, _, [], hrg0, by simp, CollectedI.start D0, hJ [] W w0 none h0 hg0 (fun r e => by cases e)⟩
  case round =>
    obtain ⟨left, cnt, ss, hrg, hcs, hC, hJs⟩ := hrel
    gi_wp2_with (first
      | (gi_at_next; refine wpListIn_next_ranges _ rfl _ rfl (ρ.t 26) (int_keyed L.t26) R encZ id (fun key kl hk => by obtain ⟨x, hx, _⟩ := Maps.keyOf_i64 L.t26 hk; exact ⟨x, hx⟩) (fun v _ _ => ⟨v, rfl⟩) b W.heap.size nn _ _ _ rfl hrg ?_ ?_)
      | gi_in)
    · intro hc0 hl0
      gi_wp2
      go_end0
      exact ⟨⟨_, rfl⟩, ss, hC.perm hown (int_keyed L.t26) L.t26 hl0, hJs⟩
    · intro x c kl yd yp w2 cnt2 hkey hlk hv hat hrg2 hlt hg2 hs2 hen
      obtain ⟨x', ex, rfl, _⟩ := Maps.keyOf_i64 L.t26 hkey
      obtain rfl : x = x' := encZ_inj ex
      have hJ2 : J ss w2 := hJ ss wr w2 (some W.heap.size) hJs hg2 (fun r e => by cases e; exact ⟨Nat.le_refl _, hrg.iter_walk⟩)
      obtain ⟨fn, tmps, assign, body, hy, hR⟩ := hY ss x w2 hJ2 (by omega)
      clear hs2
      gi_wp2
      refine hR.mono ?_
      rintro e W3 ⟨rfl, hJ3, hk3⟩
      gi_wp2
      have hrg3 := hrg2.of_walks hk3
      go_roundw
      case rel => exact ⟨_, cnt2, ss ++ [x], hrg3, by simp; omega, hC.step hlk hat, hJ3⟩
      case measure => rw [hrg3.left_eq, hrg.left_eq]; exact hlt
theorem keysAt_gives (L : SlLaysZI.n10 P ρ) {H : Type} (F : Fence) (n : Nat) (h10 : F.fn (ρ.f 10)) (hro : F.round = none) (hn : 1 ≤ n) (Bm o b nn : Nat) (D0 : DataW H) {R : Value → Option (DataW H × List MemPlace)} (w : World) (hBm : Bm < w.heap.size)
    (hm : w.cell? ⟨Bm, o, none⟩ = some (.map (some b))) (hown : w.ownsMap P (ρ.t 26) R b nn D0) :
    SeqGives F n P (ρ.f 10) #[.pointer (some ⟨Bm, o, none⟩)] encZ (fun ss => ss.Perm (intKeys D0)) (Maps.size D0) w := fun l J W hW hJ hY h0 => by
  have hown' : W.ownsMap P (ρ.t 26) R b nn D0 := by
    have hbl := hown.lt
    obtain ⟨es, clock, hb, Ft, hs, hD⟩ := hown
    exact ⟨es, clock, (hW.block b hbl).trans hb, Ft, hs, hD⟩
  exact keysAt L F n h10 hro hn l Bm o b nn D0 J hY W hJ ((hW.cell (p := ⟨Bm, o, none⟩) hBm).trans hm) hown' h0
end Go.Rk

namespace Go.Rk
open Go Go.Proofs Go.RowKit Go.Maps Go.Sort Go.Shelf
set_option linter.unusedSectionVars false
variable [Nt] [Nu]
variable {P : Program} {X : Nat → Prop} {s : Sig} {h : AH} {w : World}
/-! ## slices.Sorted(maps.Keys(m)) -/
theorem ascK_cons {c lo lb : Nat} {e : AV × AV × Nat} {es : Ents} (hk : ascK c lo lb (e :: es) = true) : ∃ a : Nat, e.1 = .int .i64 (.ofNat a) ∧ lo ≤ a ∧ a ≤ 1000000 ∧ lb ≤ e.2.2 ∧ e.2.2 < c ∧ ascK c (a + 1) (e.2.2 + 1) es = true := by
  obtain ⟨x, v, b⟩ := e
  unfold ascK at hk
  split at hk
  · rename_i a
    obtain ⟨h1, hk⟩ := and_true' hk
    obtain ⟨h2, hk⟩ := and_true' hk
    obtain ⟨h3, hk⟩ := and_true' hk
    obtain ⟨h4, hk⟩ := and_true' hk
    exact ⟨a, rfl, Nat.ble_eq.mp h1, Nat.ble_eq.mp h2, Nat.ble_eq.mp h3, Nat.ble_eq.mp h4, hk⟩
  · exact absurd hk Bool.false_ne_true
/-- the key's number -/
def keyN (e : AV × AV × Nat) : Int := match e.1 with | .int _ n => n | _ => 0
theorem ascK_all {c : Nat} : ∀ {es : Ents} {lo lb : Nat}, ascK c lo lb es = true →
    (∀ e ∈ es, e.1 = .int .i64 (keyN e) ∧ (lo : Int) ≤ keyN e ∧ keyN e ≤ 1000000 ∧ lb ≤ e.2.2 ∧ e.2.2 < c) ∧ es.Pairwise (fun x y => keyN x < keyN y) ∧ es.Pairwise (fun x y => x.2.2 < y.2.2)
  | [], _, _, _ => ⟨fun _ h => absurd h (by simp), .nil, .nil⟩
  | e :: es, lo, lb, hk => by
    obtain ⟨a, h1, h2, h3, h4, h5, h6⟩ := ascK_cons hk
    obtain ⟨i1, i2, i3⟩ := ascK_all h6
    have hke : keyN e = (a : Int) := by unfold keyN; rw [h1]; rfl
    refine ⟨fun x hx => ?_, .cons (fun y hy => ?_) i2, .cons (fun y hy => ?_) i3⟩
    · rcases List.mem_cons.1 hx with rfl | hx
      · rw [hke]; exact ⟨h1, by omega, by omega, h4, h5⟩
      · obtain ⟨j1, j2, j3, j4, j5⟩ := i1 x hx
        exact ⟨j1, by omega, j3, by omega, j5⟩
    · obtain ⟨j1, j2, j3, j4, j5⟩ := i1 y hy
      rw [hke]; omega
    · obtain ⟨j1, j2, j3, j4, j5⟩ := i1 y hy
      omega
theorem insert_perm {H : Type} (x : Lit × DataW H) : ∀ l : List (Lit × DataW H), (DataW.insert x l).Perm (x :: l)
  | [] => .refl _
  | y :: r => by
    unfold DataW.insert
    split
    · exact .refl _
    · exact ((insert_perm x r).cons y).trans (.swap x y r)
theorem foldr_perm {H : Type} : ∀ l : List (Lit × DataW H), (l.foldr DataW.insert []).Perm l
  | [] => .refl _
  | x :: l => (insert_perm x _).trans ((foldr_perm l).cons x)
/-- the contract of slices.Sorted on an iterator -/
def SortedAt (P : Program) (f g : FuncId) : Prop :=
  ∀ (w : World) (Bm o b nn : Nat) (D0 : DataW Unit) (R : Value → Option (DataW Unit × List MemPlace)), Bm < w.heap.size → w.cell? ⟨Bm, o, none⟩ = some (.map (some b)) → w.ownsMap P 3 R b nn D0 → Maps.size D0 ≤ maxLen → Maps.size D0 * 8 ≤ 140737488355328 →
    Calls P f #[.func (.func g) #[] #[.pointer (some ⟨Bm, o, none⟩)]] w fun e w' => ∃ (v : Value) (ss : List Int), e = .returned v ∧ ss.Perm (intKeys D0) ∧
      w'.ownsRow w.heap.size 3 1 v ss.length ((ss.mergeSort (fun x y => decide (x ≤ y))).map encZ) ∧ (v = .slice none 0 0 ↔ ss = []) ∧ Below w.heap.size w w'
def mapD (s : Sig) (es : Ents) : DataW Unit := .map ((es.map fun e => ((.int .i64 (keyN e), .nil) : Lit × DataW Unit)).foldr DataW.insert [])
theorem mapD_keys (s : Sig) (es : Ents) : (intKeys (mapD s es)).Perm (es.map keyN) := by
  have h := (foldr_perm (es.map fun e => ((.int .i64 (keyN e), .nil) : Lit × DataW Unit))).map (fun p => intOf p.1)
  rw [List.map_map] at h
  exact h
theorem mapD_size (s : Sig) (es : Ents) : Maps.size (mapD s es) = es.length := by
  have h := (foldr_perm (es.map fun e => ((.int .i64 (keyN e), .nil) : Lit × DataW Unit))).length_eq
  rw [List.length_map] at h
  exact h
def anyR : Value → Option (DataW Unit × List MemPlace) := fun _ => some (.nil, [])
theorem map_owned (h3 : P.underlying 3 = some (.int .i64)) {b c : Nat} {es : Ents} (hb : w.heap[b]? = some (.map (es.map (entOf s)).toArray c)) (hlen : es.length ≤ 1000) (ha : ascK c 0 0 es = true) :
    w.ownsMap P 3 anyR b es.length (mapD s es) := by
  obtain ⟨h1, h2, h4⟩ := ascK_all ha
  have hkey : ∀ e ∈ es, _root_.Go.WideElems.rd P 3 anyR (entOf s e) = some ((.int .i64 (keyN e), .nil) : Lit × DataW Unit) := by
    intro e he
    obtain ⟨j1, j2, j3, _, _⟩ := h1 e he
    have hm : _root_.Go.mapKey P 3 (.int .i64 (keyN e)) = some (.int .i64 (keyN e)) := by
      have a1 : IntKind.i64.min ≤ keyN e := by have : IntKind.i64.min = -9223372036854775808 := rfl; omega
      have a2 : keyN e ≤ IntKind.i64.max := by have : IntKind.i64.max = 9223372036854775807 := rfl; omega
      have a3 : keyN e ≤ 9223372036854775807 := by omega
      have a4 : (-9223372036854775808 : Int) ≤ keyN e := by omega
      simp [_root_.Go.mapKey, h3, Lit.wf, a1, a2, a3, a4]
    have hk : keyOf P 3 (entOf s e).key = some (.int .i64 (keyN e)) := by
      show keyOf P 3 (cv s e.1) = _
      rw [j1]
      unfold keyOf
      rw [h3]
      exact hm
    unfold _root_.Go.WideElems.rd
    rw [hk]; rfl
  refine ⟨_, c, hb, ⟨?_, ⟨?_, ?_, ?_⟩, ?_⟩, by simp, ?_⟩
  · simp only [List.size_toArray, List.length_map]
    exact Nat.le_trans hlen (by decide)
  · intro x hx
    obtain ⟨e, he, rfl⟩ := List.mem_map.1 (by rw [List.toList_toArray] at hx; exact hx)
    exact (h1 e he).2.2.2.2
  · have : ((es.map (entOf s)).map (·.born)) = es.map (fun e => e.2.2) := by rw [List.map_map]; rfl
    show (((es.map (entOf s)).toArray.toList).map (·.born)).Nodup
    rw [List.toList_toArray, this]
    exact List.pairwise_map.2 (h4.imp (fun h => Nat.ne_of_lt h))
  · have : ((es.map (entOf s)).map (·.key)) = es.map (fun e => Value.int .i64 (keyN e)) := by
      rw [List.map_map]
      exact List.map_congr_left (fun e he => by show cv s e.1 = _; rw [(h1 e he).1]; rfl)
    show (((es.map (entOf s)).toArray.toList).map (·.key)).Nodup
    rw [List.toList_toArray, this]
    exact List.pairwise_map.2 (h2.imp (fun h e => by injection e with _ e; omega))
  · intro x hx
    obtain ⟨e, he, rfl⟩ := List.mem_map.1 (by rw [List.toList_toArray] at hx; exact hx)
    exact ⟨_, hkey e he⟩
  · show mapD s es = _
    unfold mapD
    congr 2
    rw [List.toList_toArray, List.map_map]
    exact List.map_congr_left (fun e he => by show _ = (_root_.Go.WideElems.rd P 3 anyR (entOf s e)).getD _; rw [hkey e he]; rfl)
theorem sorted_keys {es : Ents} {c : Nat} (ha : ascK c 0 0 es = true) {ss : List Int} (hp : ss.Perm (es.map keyN)) : ss.mergeSort (fun x y => decide (x ≤ y)) = es.map keyN := by
  obtain ⟨_, h2, _⟩ := ascK_all ha
  refine List.Perm.eq_of_pairwise (le := fun a b : Int => decide (a ≤ b) = true) (fun a b _ _ h1 h2 => ?_) (List.pairwise_mergeSort ?_ ?_ ss) ?_ ((List.mergeSort_perm ss _).trans hp)
  · simp only [decide_eq_true_eq] at h1 h2; omega
  · intro a b c h1 h2; simp only [decide_eq_true_eq] at *; omega
  · intro a b; simp only [Bool.or_eq_true, decide_eq_true_eq]; omega
  · exact List.pairwise_map.2 (h2.imp (fun h => by simp only [decide_eq_true_eq]; omega))
theorem sorted_ok {f g : FuncId} {k : K} (hS : SortedAt P f g) (hen : ∀ args w, (callFunc f args).run P w = .ok (.enter f args) w) (h3 : P.underlying 3 = some (.int .i64)) (hz : tSize P 3 = 1)
    (R : Rel P X s h w) {v o t r c : Nat} {wr wr' : Bool} {cs : List AV} {es : Ents} (hv : h.get v = .cells cs t wr) (ho : cs[o]? = some (.map r)) (hr : h.get r = .gmap es c wr') (hlen : es.length ≤ 1000) (ha : ascK c 0 0 es = true)
    (hk : xSorted3 es h k = true) : CallOk P X s h w k f (cvL s [.fn (.func g) [] [.ptr v o]]).toArray := by
  have hcell : w.cell? ⟨(s v).blk, (s v).off + o, none⟩ = some (.map (some (s r).blk)) := R.cell hv ho _ rfl
  have hlt : (s v).blk < w.heap.size := R.blk_lt (by rw [hv]; rfl)
  have hown := map_owned (s := s) h3 (R.gmap hr).2 hlen ha
  have hc := hS w (s v).blk ((s v).off + o) (s r).blk es.length (mapD s es) anyR hlt hcell hown (by rw [mapD_size]; exact Nat.le_trans hlen (by decide)) (by rw [mapD_size]; omega)
  refine .inr ⟨hen _ _, Calls.mono hc fun e w' he => ?_⟩
  obtain ⟨u, ss, rfl, hp, hrow, hnil, hB⟩ := he
  have hp' := hp.trans (mapD_keys s es)
  have hsk := sorted_keys ha hp'
  have hlen' : ss.length = es.length := by rw [hp'.length_eq, List.length_map]
  have hkept : ∀ j, Olds w j → w'.heap[j]? = w.heap[j]? := fun j hj => hB.block j hj
  have hA : Aft (Olds w) s h w s h w' := ⟨fun _ _ => rfl, Nat.le_refl _, hkept, hB.size, hB.tape, hB.os, hB.output, fun _ _ _ => rfl, (Aft.refl (Olds w) s h w).lv⟩
  show ∃ v s' h', u = cv s' v ∧ k v h' = true ∧ Rel P X s' h' w' ∧ Aft X s h w s' h' w' ∧ Wf s' h'.nx v
  rcases hrow.2 with ⟨rfl, hz'⟩ | ⟨gb, cap, cur, rfl, hge, hgb, hn, _, hcs, htk⟩
  · have : es = [] := List.eq_nil_of_length_eq_zero (by omega)
    subst this
    exact ⟨.nils, s, h, rfl, hk, R.kept hkept hB.size, Aft.kept R hA, trivial⟩
  · have hne : ss ≠ [] := fun e => by have := hnil.2 e; cases this
    cases es with
    | nil => exact absurd (List.eq_nil_of_length_eq_zero hlen') hne
    | cons e0 es0 =>
      have hk' := allocK_true (show allocK h (.cells (lmap (fun e => e.1) (e0 :: es0)) 3 true) (fun i => .sl i 0 (len (e0 :: es0)) 0 0) k = true from hk)
      rw [lmap_eq, len_eq] at hk'
      generalize hes : e0 :: es0 = es at *
      have hk1 := (ascK_all ha).1
      have hflat : ∀ x ∈ es.map (fun e => e.1), Flat x := by
        intro x hx
        obtain ⟨e, he, rfl⟩ := List.mem_map.1 hx
        rw [(hk1 e he).1]; trivial
      have hcells : cur.toList.take es.length = (es.map (fun e => e.1)).map (cv s) := by
        rw [Nat.mul_one, hsk] at htk
        rw [← hlen', htk, List.map_map, List.map_map]
        exact List.map_congr_left (fun e he => by show encZ (keyN e) = cv s e.1; rw [(hk1 e he).1]; rfl)
      have hL : Lies P (upd s h.nx ⟨gb, 0, cap⟩) (h.nx + 1) w' h.nx (.cells (es.map (fun e => e.1)) 3 true) := by
        refine ⟨by rw [WfL_iff]; exact fun x hx => (hflat x hx).wf _ _, cur, (0, 0), by rw [upd_self]; exact hgb, ?_, ⟨fun _ => by rw [upd_self, hz]; show 0 + cap * 1 = _; omega, by rw [upd_self]; exact Nat.dvd_zero _⟩, ?_, fun _ => .inl rfl⟩
        · intro j x hj
          rw [upd_self]
          have h1 : (cur.toList.take es.length)[j]? = some (cv s x) := by rw [hcells, List.getElem?_map, hj]; rfl
          rw [List.getElem?_take] at h1
          split at h1
          · rw [Array.getElem?_toList] at h1
            show cur[0 + j]? = _
            rw [Nat.zero_add, h1, (hflat x (List.mem_of_getElem? hj)).cv]
          · cases h1
        · rw [upd_self]; show 0 + _ ≤ _; rw [List.length_map]; omega
      have hG := Rel.grow (P := P) (X := X) (s := s) (h := h) (w := w) R (b := .cells (es.map (fun e => e.1)) 3 true) (l := ⟨gb, 0, cap⟩) (w' := w')
        (fun j x _ hx => (hkept j (lt_of_get hx)).trans hx) hB.size hB.tape hB.os hB.output (fun i hi hq => by have := R.blk_lt hi; have : (s i).blk = gb := hq; omega) (fun hx => by have : gb < w.heap.size := R.dom _ hx; omega)
        hL (fun _ => rfl)
      refine ⟨.sl h.nx 0 es.length 0 0, _, _, ?_, hk', hG.1, hG.2, ?_⟩
      · simp only [cv, upd_self]
        simp [hlen']
      · exact ⟨Nat.lt_succ_self _, by rw [upd_self]; show 0 + es.length ≤ cap; omega⟩
theorem xSorted1_ok {f : FuncId} (h63 : SortedAt P f 63) (h65 : SortedAt P f 65) (h160 : SortedAt P f 160) (hen : ∀ args w, (callFunc f args).run P w = .ok (.enter f args) w) (h3 : P.underlying 3 = some (.int .i64)) (hz : tSize P 3 = 1) : SmOk P f xSorted1 := by
  intro args X s h w k R hw e
  unfold xSorted1 at e
  split at e
  · rename_i g v o
    obtain ⟨hg, e⟩ := cif_true e
    split at e
    · rename_i cs t wr hv
      split at e
      · rename_i r ho
        split at e
        · rename_i es c wr' hr
          obtain ⟨hl, e⟩ := cif_true e
          obtain ⟨ha, e⟩ := cif_true e
          have hlen : es.length ≤ 1000 := by rw [← len_eq]; exact Nat.ble_eq.mp hl
          have hS : SortedAt P f g := by
            unfold isKeysF at hg
            rcases or_true' hg with hg | hg
            · rw [Nat.eq_of_beq_eq_true hg]; exact h63
            · rcases or_true' hg with hg | hg
              · rw [Nat.eq_of_beq_eq_true hg]; exact h65
              · rw [Nat.eq_of_beq_eq_true hg]; exact h160
          exact sorted_ok hS hen h3 hz R hv ho hr hlen ha e
        · exact absurd e Bool.false_ne_true
      · exact absurd e Bool.false_ne_true
    · exact absurd e Bool.false_ne_true
  · exact absurd e Bool.false_ne_true
end Go.Rk
