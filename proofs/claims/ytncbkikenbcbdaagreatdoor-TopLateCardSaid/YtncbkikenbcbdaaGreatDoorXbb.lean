/- The evaluator is right, part 2: loads, stores, slices, maps. No condition. -/
import Derived.Laws.Tables
import Derived.Laws.RangeString
import Derived.Test.YtncbkikenbcbdaaGreatDoorXba
set_option linter.unusedVariables false
set_option linter.unusedSimpArgs false
set_option linter.unusedSectionVars false
set_option linter.constructorNameAsVariable false
namespace Go.Rk
open Go
set_option linter.unusedSectionVars false
variable [Nt] [Nu]
variable {P : Program} {X : Nat → Prop} {s : Sig} {h : AH} {w : World}

/-! ## memory -/
theorem cellsK_true {b : Nat} {k : List AV → Bool} (e : cellsK h b k = true) : ∃ cs el wr, h.get b = .cells cs el wr ∧ k cs = true := by
  unfold cellsK at e
  cases hb : h.get b with
  | cells cs el wr => rw [hb] at e; exact ⟨cs, el, wr, rfl, e⟩
  | _ => rw [hb] at e; exact absurd e Bool.false_ne_true
theorem Rel.cellsWf (R : Rel P X s h w) {i : Nat} {cs : List AV} {e : Nat} {wr : Bool} (hb : h.get i = .cells cs e wr) : WfL s h.nx cs := (Rel.at (R := R) hb).1
theorem load1_ok {t : TypeId} [Fit P] (ht : t < P.types.size) (ha : tAgg P t = false) : Ok1 P load1 (Instr.loadAt t) := by
  intro X s h w x k R hx e
  cases x <;> try exact absurd e Bool.false_ne_true
  case opq i =>
    obtain ⟨en, hen, rfl, hk⟩ := findL_true (show findL i (fun v => k v h) Nt.ld = true from e)
    obtain ⟨⟨blk, off, spot⟩, C, t', fr, n, h1, h2, h3, h4, h5, h6⟩ := R.look en hen
    obtain rfl : spot = none := h2
    refine ok_pure R hk ?_ (sv_wf s _ _)
    rw [cv_num h5]
    show (Instr.loadAt t (Nu.o en.1)).run P w = _
    rw [h1]
    have hc : w.cell? ⟨blk, off, none⟩ = some (.int .i64 n) := by simp [World.cell?, h4, h6]
    simp [Instr.loadAt, Instr.sureAddr, loadVar, run_isAgg' ht, ha, hc]
  rename_i b off
  obtain ⟨cs, el, wr, hb, e2⟩ := cellsK_true (show cellsK h b (fun cs => onO (lnth cs off) (fun v => k v h)) = true from e)
  obtain ⟨v, hv, e3⟩ := onO_true e2
  rw [lnth_eq] at hv
  refine ok_pure R e3 ?_ ((R.cellsWf hb).get hv)
  have hc := R.cell hb hv _ rfl
  show (Instr.loadAt t (.pointer (some ⟨(s b).blk, (s b).off + off, none⟩))).run P w = _
  simp [Instr.loadAt, Instr.sureAddr, loadVar, run_isAgg' ht, ha, hc]
theorem loadN_ok {t : TypeId} [Fit P] (ht : t < P.types.size) (ha : tAgg P t = true) : Ok1 P (loadN (tSize P t)) (Instr.loadAt t) := by
  intro X s h w x k R hx e
  obtain ⟨b, off, rfl, e1⟩ := isP_true e
  obtain ⟨cs, el, wr, hb, e2⟩ := cellsK_true e1
  obtain ⟨hle, e3⟩ := ltakeK_true _ _ _ e2
  rw [ldrop_eq] at hle e3
  refine ok_pure R e3 ?_ (R.cellsWf hb).drop.take
  have hc := R.cells hb off (tSize P t) hle
  show (Instr.loadAt t (.pointer (some ⟨(s b).blk, (s b).off + off, none⟩))).run P w = _
  simp only [Instr.loadAt, Instr.sureAddr, loadVar, Sem.run_bind, Sem.run_pure, Result.andThen_ok, run_isAgg' ht, ha, if_true, run_sizeOf' ht, hc]
  rfl
theorem load_ok (t : TypeId) [Fit P] : Ok1 P (loadH P t).f (Instr.loadAt t) := by
  unfold loadH
  cases hk : tKn P t with
  | false => exact fun _ _ _ _ _ _ _ _ e => absurd e Bool.false_ne_true
  | true =>
    cases ha : tAgg P t with
    | true => exact loadN_ok (tKn_lt.1 hk) ha
    | false => exact load1_ok (tKn_lt.1 hk) ha

theorem spliceK_true : ∀ (cs : List AV) (off : Nat) (new : List AV) (k : List AV → Bool), spliceK cs off new k = true →
    ∃ r, k r = true ∧ r.length = cs.length ∧ (new = [] ∨ off + new.length ≤ cs.length) ∧ (∀ j, r[j]? = if off ≤ j ∧ j < off + new.length then new[j - off]? else cs[j]?) ∧ (∀ v ∈ r, v ∈ new ∨ v ∈ cs)
  | [], off, new, k, e => by
    cases new with
    | nil => exact ⟨[], e, rfl, .inl rfl, fun j => by simp, fun v hv => .inr hv⟩
    | cons _ _ => exact absurd e Bool.false_ne_true
  | c :: cs, off, new, k, e => by
    cases off with
    | zero =>
      cases new with
      | nil => exact ⟨c :: cs, e, rfl, .inl rfl, fun j => by rw [if_neg (by simp)], fun v hv => .inr hv⟩
      | cons n ns =>
        obtain ⟨r, hk, hl, hle, hj, hm⟩ := spliceK_true cs 0 ns (fun r => k (n :: r)) e
        refine ⟨n :: r, hk, by simp [hl], .inr ?_, fun j => ?_, fun v hv => ?_⟩
        · rcases hle with rfl | hle
          · simp
          · simp only [List.length_cons]; omega
        · cases j with
          | zero => simp
          | succ j =>
            simp only [List.getElem?_cons_succ, hj j, List.length_cons]
            by_cases h1 : 0 ≤ j ∧ j < 0 + ns.length
            · rw [if_pos h1, if_pos (by omega)]; simp
            · rw [if_neg h1, if_neg (by omega)]
        · rcases List.mem_cons.1 hv with rfl | hv
          · exact .inl (List.mem_cons_self ..)
          · rcases hm v hv with h | h
            · exact .inl (List.mem_cons_of_mem _ h)
            · exact .inr (List.mem_cons_of_mem _ h)
    | succ o =>
      obtain ⟨r, hk, hl, hle, hj, hm⟩ := spliceK_true cs o new (fun r => k (c :: r)) e
      refine ⟨c :: r, hk, by simp [hl], ?_, fun j => ?_, fun v hv => ?_⟩
      · rcases hle with h | hle
        · exact .inl h
        · right; simp only [List.length_cons]; omega
      · cases j with
        | zero => simp
        | succ j =>
          simp only [List.getElem?_cons_succ, hj j]
          by_cases h1 : o ≤ j ∧ j < o + new.length
          · rw [if_pos h1, if_pos (by omega)]; congr 1; omega
          · rw [if_neg h1, if_neg (by omega)]
      · rcases List.mem_cons.1 hv with rfl | hv
        · exact .inr (List.mem_cons_self ..)
        · rcases hm v hv with h | h
          · exact .inl h
          · exact .inr (List.mem_cons_of_mem _ h)
theorem oneV_true {v : AV} (s : Sig) (h : oneV v = true) : (cv s v).oneCell' = true := by
  cases v <;> first | rfl | exact absurd h Bool.false_ne_true
/-- cells are written -/
theorem storeC_true (R : Rel P X s h w) {b off : Nat} {new : List AV} {k : AH → Bool} (hn : WfL s h.nx new) (e : storeC h b off new k = true) :
    ∃ h' w', k h' = true ∧ (storeCells ⟨(s b).blk, (s b).off + off, none⟩ (cvL s new)).run P w = .ok () w' ∧ Rel P X s h' w' ∧ Aft X s h w s h' w' ∧ h'.nx = h.nx := by
  unfold storeC at e
  cases hb : h.get b with
  | cells cs el wr =>
    rw [hb] at e
    cases wr with
    | false => exact absurd e Bool.false_ne_true
    | true =>
      obtain ⟨h1, e1⟩ := bif_true (show (Bool.rec (motive := fun _ => Bool) false (spliceK cs off new (fun cs => k (h.put b (.cells cs el true)))) (lall oneV new)) = true from e)
      obtain ⟨r, hk, hl, hle, hj, hm⟩ := spliceK_true _ _ _ _ e1
      obtain ⟨hwf, C, fr, hg, hc, hcap, hlen, hfr⟩ := Rel.at (R := R) hb
      have hone : ∀ v ∈ cvL s new, v.oneCell' = true := by
        intro v hv
        rw [cvL_eq] at hv
        obtain ⟨x, hx, rfl⟩ := List.mem_map.1 hv
        exact oneV_true s (lall_true h1 x hx)
      have key : ∃ w' C', (storeCells ⟨(s b).blk, (s b).off + off, none⟩ (cvL s new) 0).run P w = .ok () w' ∧ w'.heap[(s b).blk]? = some (.cells C' el fr) ∧ C'.size = C.size ∧ But (s b).blk w w' ∧
          ∀ j, C'[j]? = if (s b).off + off + 0 ≤ j ∧ j < (s b).off + off + 0 + (cvL s new).length then (cvL s new)[j - ((s b).off + off + 0)]? else C[j]? := by
        rcases hle with rfl | hle
        · exact ⟨w, C, rfl, hg, rfl, But.refl _ _, fun j => by rw [if_neg (by show ¬ (_ ∧ j < _ + 0); omega)]⟩
        · exact run_storeCells_row P (s b).blk ((s b).off + off) el fr (cvL s new) 0 C w hg (hfr rfl) (by rw [cvL_length]; omega) hone
      obtain ⟨w', C', hr, hg', hs', hb', hj'⟩ := key
      have hwr : (h.get b).writable = true := by rw [hb]; rfl
      have hlies : Lies P s h.nx w' b (.cells r el true) := by
        refine ⟨WfL_iff.2 fun v hv => ?_, C', fr, hg', fun i v hi => ?_, by rw [hs']; exact hcap, by rw [hs', hl]; exact hlen, by rw [hs']; exact hfr⟩
        · rcases hm v hv with h' | h'
          · exact WfL_iff.1 hn v h'
          · exact WfL_iff.1 hwf v h'
        · rw [hj']
          rw [hj i] at hi
          rw [cvL_length]
          by_cases hh : off ≤ i ∧ i < off + new.length
          · rw [if_pos hh] at hi
            rw [if_pos (by omega), cvL_get]
            have : (s b).off + i - ((s b).off + off + 0) = i - off := by omega
            rw [this, hi]; rfl
          · rw [if_neg hh] at hi
            rw [if_neg (by omega)]
            exact hc i v hi
      obtain ⟨R', A'⟩ := R.turn hwr hb' hlies
      exact ⟨_, w', hk, hr, R', A', rfl⟩
  | _ => rw [hb] at e; exact absurd e Bool.false_ne_true
end Go.Rk

namespace Go.Rk
open Go
set_option linter.unusedSectionVars false
variable [Nt] [Nu]
variable {P : Program} {X : Nat → Prop} {s : Sig} {h : AH} {w : World}

/-- a computation that only acts -/
def GoodU (P : Program) (X : Nat → Prop) (s : Sig) (h : AH) (w : World) (k : K) (m : Sem Unit) : Prop :=
  ∃ h' w', k .undef h' = true ∧ m.run P w = .ok () w' ∧ Rel P X s h' w' ∧ Aft X s h w s h' w' ∧ h'.nx = h.nx
theorem store_ok {t : TypeId} (ht : t < P.types.size) (R : Rel P X s h w) {a v : AV} {k : K} (hv : Wf s h.nx v) (e : storeN (tSize P t) a v h k = true) :
    GoodU P X s h w k (Instr.storeAt t (cv s a) (cv s v)) := by
  obtain ⟨b, off, rfl, e1⟩ := isP_true e
  obtain ⟨hl0, e2⟩ := bif_true e1
  obtain ⟨hl, hnv⟩ := lenIs_true hl0
  obtain ⟨h', w', hk, hr, R', A', hn⟩ := storeC_true (k := fun h => k .undef h) R hv.cells e2
  refine ⟨h', w', hk, ?_, R', A', hn⟩
  have hsz : (cv s v).cells.size = tSize P t := by
    have := congrArg List.length (cv_cells s v hnv)
    have hl' := Nat.eq_of_beq_eq_true hl
    rw [len_eq] at hl'
    rw [cvL_length, hl'] at this
    simpa using this
  show (Instr.storeAt t (.pointer (some ⟨(s b).blk, (s b).off + off, none⟩)) (cv s v)).run P w = _
  simp only [Instr.storeAt, Instr.sureAddr, storeVar, Sem.run_bind, Sem.run_pure, Result.andThen_ok, run_sizeOf' ht]
  rw [if_neg (by rw [hsz]; simp), cv_cells s v hnv]
  simpa using hr

/-! ## what is made -/
/-- a new row whose cells are known -/
theorem row_good (R : Rel P X s h w) {cs : List AV} {e : Nat} {k : K} {v : Nat → AV} (cap : Nat) (hcs : WfL s h.nx cs) (hcap : cap * tSize P e = cs.length) {m : Sem Value}
    (ek : allocK h (.cells cs e true) v k = true)
    (hm : m.run P w = .ok (cv (upd s h.nx ⟨w.heap.size, 0, cap⟩) (v h.nx)) (w.alloc (.cells (cvL s cs).toArray e)))
    (hwf : Wf (upd s h.nx ⟨w.heap.size, 0, cap⟩) (h.nx + 1) (v h.nx)) : GoodE P X s h w k m := by
  obtain ⟨R', A'⟩ := R.newRow' (e := e) cap hcs hcap
  exact .inl ⟨_, _, allocK_true ek, _, _, hm, R', A', hwf⟩
theorem alloc_ok {t : TypeId} (hz : zeroOk P t = true) (R : Rel P X s h w) {k : K} (e : allocK h (.cells (tZero P t).cells t true) (fun i => .ptr i (nat_lit 0)) k = true) :
    GoodE P X s h w k (Instr.alloc t true (.tuple #[])) := by
  refine row_good R 1 (zero_wf s h.nx hz).cells (by rw [zero_len hz, Nat.one_mul]) e ?_ (Nat.lt_succ_self _)
  simp only [Instr.alloc, Sem.run_bind, run_zeroValue' s hz, Result.andThen_ok, newVar, newRow, run_newObj_alloc, Sem.run_pure]
  rw [← cv_cells s (tZero P t) (tZero_not_opq P t)]
  simp [cv, upd_self]
theorem box_ok {t : TypeId} (R : Rel P X s h w) {x : AV} {k : K} (hx : Wf s h.nx x) (e : boxC t (tSize P t) x h k = true) : GoodE P X s h w k (Instr.box t (cv s x)) := by
  obtain ⟨hl0, e1⟩ := bif_true e
  obtain ⟨hl, hnv⟩ := lenIs_true hl0
  refine row_good R 1 hx.cells (by rw [Nat.one_mul, ← len_eq, Nat.eq_of_beq_eq_true hl]) e1 ?_ (Nat.lt_succ_self _)
  simp only [Instr.box, Sem.run_bind, Result.andThen_ok, newVar, newRow, run_newObj_alloc, Sem.run_pure]
  rw [← cv_cells s x hnv]
  simp [cv, upd_self]
end Go.Rk

namespace Go.Rk
open Go
set_option linter.unusedSectionVars false
variable [Nt] [Nu]
variable {P : Program} {X : Nat → Prop} {s : Sig} {h : AH} {w : World}

/-! ## aggregates made of parts -/
theorem fold_splice : ∀ (new : List Value) (i off : Nat) (C : Array Value), off + i + new.length ≤ C.size →
    ∃ C', (new.zipIdx i).foldl (fun cs (x : Value × Nat) => cs.setIfInBounds (off + x.2) x.1) C = C' ∧ C'.size = C.size ∧
      ∀ j, C'[j]? = if off + i ≤ j ∧ j < off + i + new.length then new[j - (off + i)]? else C[j]?
  | [], i, off, C, _ => ⟨C, rfl, rfl, fun j => by rw [if_neg (by simp only [List.length_nil]; omega)]⟩
  | v :: new, i, off, C, hl => by
    simp only [List.length_cons] at hl
    obtain ⟨C', hr, hs, hj⟩ := fold_splice new (i + 1) off (C.setIfInBounds (off + i) v) (by simp; omega)
    refine ⟨C', by simpa [List.zipIdx_cons] using hr, by simpa using hs, fun j => ?_⟩
    rw [hj j]
    by_cases e : j = off + i
    · subst e
      rw [if_neg (by omega), if_pos (by simp only [List.length_cons]; omega)]
      have : off + i < C.size := by omega
      simp [this]
    · by_cases e2 : off + (i + 1) ≤ j ∧ j < off + (i + 1) + new.length
      · rw [if_pos e2, if_pos (by simp only [List.length_cons]; omega)]
        have : j - (off + i) = (j - (off + (i + 1))) + 1 := by omega
        rw [this]; simp
      · rw [if_neg e2, if_neg (by simp only [List.length_cons]; omega)]
        simp only [Array.getElem?_setIfInBounds]
        rw [if_neg (fun h => e h.symm)]
theorem fillK_true {place : Nat → Option (Nat × Nat)} {n : Nat} : ∀ (ps : List Nat) (cells vs : List AV) (k : List AV → Bool), WfL s n cells → WfL s n vs → fillK place ps cells vs k = true →
    ∃ cs, k cs = true ∧ WfL s n cs ∧ cs.length = cells.length ∧ Instr.fill place (cvL s cells).toArray (ps.zip (cvL s vs)) = some (cvL s cs).toArray
  | [], cells, vs, k, hc, _, e => ⟨cells, e, hc, rfl, rfl⟩
  | i :: ps, cells, [], k, _, _, e => absurd e Bool.false_ne_true
  | i :: ps, cells, v :: vs, k, hc, hv, e => by
    obtain ⟨⟨off, size⟩, hp, e1⟩ := onO_true (show onO (place i) (fun p => Bool.rec (motive := fun _ => Bool) false (spliceK cells p.1 v.cells (fun cs => fillK place ps cs vs k)) (and (lenIs v p.2) (Nat.ble (nat_lit 1) p.2))) = true from e)
    obtain ⟨hl, e2⟩ := bif_true e1
    obtain ⟨hl10, hl2⟩ := and_true' hl
    obtain ⟨hl1, hnv⟩ := lenIs_true hl10
    have hl1' : v.cells.length = size := by rw [← len_eq]; exact Nat.eq_of_beq_eq_true hl1
    have hl2' : 1 ≤ size := Nat.ble_eq.mp hl2
    obtain ⟨r, hk, hrl, hle, hj, hm⟩ := spliceK_true _ _ _ _ e2
    have hle' : off + v.cells.length ≤ cells.length := by
      rcases hle with h0 | h0
      · rw [h0] at hl1'; simp at hl1'; omega
      · exact h0
    have hwr : WfL s n r := WfL_iff.2 fun x hx => by
      rcases hm x hx with h' | h'
      · exact WfL_iff.1 hv.1.cells x h'
      · exact WfL_iff.1 hc x h'
    obtain ⟨cs, hk', hwf, hlen, hf⟩ := fillK_true ps r vs k hwr hv.2 hk
    refine ⟨cs, hk', hwf, hlen.trans hrl, ?_⟩
    have hsz : (cv s v).cells.size = size := by
      have := congrArg List.length (cv_cells s v hnv)
      rw [cvL_length, hl1'] at this
      simpa using this
    obtain ⟨C', hC, hCs, hCj⟩ := fold_splice (cvL s v.cells) 0 off (cvL s cells).toArray (by simp; omega)
    have hCr : C' = (cvL s r).toArray := by
      apply Array.ext_getElem?
      intro j
      have hrj : (cvL s r).toArray[j]? = r[j]?.map (cv s) := by rw [List.getElem?_toArray, cvL_get]
      have hj' : r[j]? = if off ≤ j ∧ j < off + v.cells.length then v.cells[j - off]? else cells[j]? := hj j
      rw [hrj, hj', hCj j, cvL_length, Nat.add_zero]
      by_cases hh : off ≤ j ∧ j < off + v.cells.length
      · rw [if_pos hh, if_pos hh, cvL_get]
      · rw [if_neg hh, if_neg hh, List.getElem?_toArray, cvL_get]
    have hfold : (cv s v).cells.zipIdx.foldl (fun cs (x : Value × Nat) => cs.setIfInBounds (off + x.2) x.1) (cvL s cells).toArray = (cvL s r).toArray := by
      rw [← hCr, ← hC, ← Array.foldl_toList, Array.toList_zipIdx, cv_cells s v hnv]
    show Instr.fill place (cvL s cells).toArray ((i, cv s v) :: ps.zip (cvL s vs)) = _
    rw [Instr.fill, hp]
    simp only []
    rw [if_neg (by rw [hsz]; simp; omega)]
    rw [← hf]
    congr 1
end Go.Rk

namespace Go.Rk
open Go
set_option linter.unusedSectionVars false
variable [Nt] [Nu]
variable {P : Program} {X : Nat → Prop} {s : Sig} {h : AH} {w : World}

theorem places_eq : ∀ (fs : List Field), (∀ f ∈ fs, f.type < P.types.size) → fs.mapM (fun f => (P.info? f.type).map fun i => (f.offset, i.size)) = some (fs.map fun f => (f.offset, tSize P f.type))
  | [], _ => rfl
  | f :: fs, hf => by
    obtain ⟨i, hi⟩ := info_some (P := P) (hf f (List.mem_cons_self ..))
    have ih := places_eq fs (fun g hg => hf g (List.mem_cons_of_mem _ hg))
    have ht : tSize P f.type = i.size := by unfold tSize; rw [hi]
    simp only [List.mapM_cons, hi, Option.map_some, ih, List.map_cons, ht]
    rfl
/-- a struct or an array of parts -/
theorem build_ok [Fit P] {t : TypeId} (hz : zeroOk P t = true) (R : Rel P X s h w) {ps : List Nat} {vs : List AV} {k : K} (hv : WfL s h.nx vs) (e : (buildH P t ps).f vs h k = true)
    (parts : Array (Nat × Value)) (hp : parts.toList = ps.zip (cvL s vs)) : Good P X s h w k (Instr.build t parts) := by
  obtain ⟨it, z, hi, hzz, hzv, hzs⟩ := zeroOk_true hz
  have hzc : (cvL s (tZero P t).cells).toArray = z.cells := by
    rw [← cv_cells s (tZero P t) (tZero_not_opq P t)]
    have : cv s (tZero P t) = z := by unfold tZero; simp only [hi, hzz]; exact cv_of s 8 z hzv
    rw [this]
  unfold buildH at e
  cases hd : tU P t with
  | struct fs =>
    rw [hd] at e
    obtain ⟨cs, hk, hwf, hlen, hf⟩ := fillK_true ps _ vs _ (zero_wf s h.nx hz).cells hv e
    refine ok_pure R hk ?_ hwf
    apply run_build
    obtain ⟨hu, _⟩ := tU_und hd (by simp)
    unfold Program.built
    rw [hi, hu]
    simp only [hzz, places_eq fs.toList (fit_struct hd)]
    rw [hp, ← hzc, ← hf]
    congr 1
    funext i
    rw [List.getElem?_toArray, List.getElem?_map, Array.getElem?_toList]
    cases fs[i]? <;> rfl
  | array n el =>
    rw [hd] at e
    obtain ⟨cs, hk, hwf, hlen, hf⟩ := fillK_true ps _ vs _ (zero_wf s h.nx hz).cells hv e
    refine ok_pure R hk ?_ hwf
    apply run_build
    obtain ⟨hu, _⟩ := tU_und hd (by simp)
    obtain ⟨ie, hie⟩ := info_some (P := P) (fit_array hd)
    have ht : tSize P el = ie.size := by unfold tSize; rw [hie]
    unfold Program.built
    rw [hi, hu]
    simp only [hzz, hie]
    rw [hp, ← hzc, ← hf, ht]
    rfl
  | _ => rw [hd] at e; exact absurd e Bool.false_ne_true
end Go.Rk

namespace Go.Rk
open Go
set_option linter.unusedSectionVars false
variable [Nt] [Nu]
variable {P : Program} {X : Nat → Prop} {s : Sig} {h : AH} {w : World}

/-! ## looking into values -/
theorem fieldOf_true {t : TypeId} {f : Nat} {fl : Field} (h : fieldOf P t f = some fl) : ∃ fs, tU P t = .struct fs ∧ fs[f]? = some fl := by
  unfold fieldOf at h
  cases hd : tU P t with
  | struct fs => rw [hd] at h; exact ⟨fs, rfl, h⟩
  | _ => rw [hd] at h; cases h
theorem fit_field [Fit P] {t : TypeId} {f : Nat} {fl : Field} (h : fieldOf P t f = some fl) : fl.type < P.types.size := by
  obtain ⟨fs, hd, hf⟩ := fieldOf_true h
  exact fit_struct hd fl (by simpa using Array.mem_of_getElem? hf)
theorem fAddr_ok [Fit P] {t : TypeId} {f : Nat} {fl : Field} (hf : fieldOf P t f = some fl) {m : Nat} (hz : tSize P fl.type = m + 1) : Ok1 P (fAddr fl.offset) (fun x => Instr.fieldAt t x f) := by
  intro X s h w x k R hx e
  obtain ⟨b, o, rfl, e1⟩ := isP_true e
  have e2 := forceK_true (k := fun o => k (.ptr b o) h) e1
  refine ok_pure R e2 ?_ hx
  obtain ⟨fs, hd, hfs⟩ := fieldOf_true hf
  obtain ⟨hu, _⟩ := tU_und hd (by simp)
  show (Instr.fieldAt t (.pointer (some ⟨(s b).blk, (s b).off + o, none⟩)) f).run P w = .ok (.pointer (some ⟨(s b).blk, (s b).off + (o + fl.offset), none⟩)) w
  simp [Instr.fieldAt, run_underlying hu, hfs, Instr.sureAddr, fieldPlace, run_sizeOf' (fit_field hf), hz, add_at, Nat.add_assoc]
theorem fieldC_ok [Fit P] {t : TypeId} {f : Nat} {fl : Field} (hf : fieldOf P t f = some fl) : Ok1 P (fieldC P fl.type fl.offset) (fun x => Instr.field t x f) := by
  intro X s h w x k R hx e
  obtain ⟨cs, rfl, e1⟩ := isA_true e
  obtain ⟨v, hk, hv, hr⟩ := subV_true (k := fun v => k v h) (fit_field hf) hx e1
  refine ok_pure R hk ?_ hv
  obtain ⟨fs, hd, hfs⟩ := fieldOf_true hf
  obtain ⟨hu, _⟩ := tU_und hd (by simp)
  show (Instr.field t (.agg (cvL s cs).toArray) f).run P w = _
  simp [Instr.field, run_underlying hu, hfs, asAgg, hr]
theorem ext_ok (i : Nat) : Ok1 P (extC i) (fun x => Instr.extract x i) := by
  intro X s h w x k R hx e
  obtain ⟨vs, rfl, e1⟩ := isT_true e
  obtain ⟨v, hv, e2⟩ := onO_true e1
  rw [lnth_eq] at hv
  refine ok_pure R e2 ?_ (WfL.get hx hv)
  show (Instr.extract (.tuple (cvL s vs).toArray) i).run P w = _
  have : (cvL s vs).toArray[i]? = some (cv s v) := by rw [List.getElem?_toArray, cvL_get, hv]; rfl
  simp [Instr.extract, this]
end Go.Rk

namespace Go.Rk
open Go
set_option linter.unusedSectionVars false
variable [Nt] [Nu]
variable {P : Program} {X : Nat → Prop} {s : Sig} {h : AH} {w : World}

/-! ## indexes -/
theorem addrK_true {b off i n sz : Nat} {k : K} (e : addrK b off i n sz h k = true) : i < n ∧ k (.ptr b (off + i * sz)) h = true := by
  obtain ⟨h1, h2⟩ := bif_true e
  exact ⟨Nat.ble_eq.mp h1, forceK_true (k := fun o => k (.ptr b o) h) h2⟩
theorem idxAddr_ok [Fit P] (t : TypeId) : Ok2 P (idxAddrH P t).f (Instr.indexAt t) := by
  unfold idxAddrH
  cases hd : tU P t with
  | array n el =>
    intro X s h w x y k R hx hy e
    obtain ⟨b, off, rfl, e1⟩ := isP_true (v := x) e
    obtain ⟨q, i, rfl, e2⟩ := isN_true (v := y) e1
    obtain ⟨hi, e3⟩ := addrK_true e2
    refine ok_pure R e3 ?_ hx
    obtain ⟨hu, _⟩ := tU_und hd (by simp)
    show (Instr.indexAt t (.pointer (some ⟨(s b).blk, (s b).off + off, none⟩)) (.int q (i : Int))).run P w = .ok (.pointer (some ⟨(s b).blk, (s b).off + (off + i * tSize P el), none⟩)) w
    simp [Instr.indexAt, asIntOf, run_underlying hu, Instr.sureAddr, hi, run_sizeOf' (fit_array hd), add_at, Nat.add_assoc]
  | slice el =>
    intro X s h w x y k R hx hy e
    obtain ⟨hu, _⟩ := tU_und hd (by simp)
    cases x <;> try exact absurd e Bool.false_ne_true
    case opq j =>
      obtain ⟨hz, e1⟩ := bif_true (show (Bool.rec (motive := fun _ => Bool) false (findX j y (fun v => k v h) Nt.ix) (Nat.beq (tSize P el) (nat_lit 1))) = true from e)
      obtain ⟨en, hen, rfl, rfl, hk⟩ := findX_true e1
      obtain ⟨⟨blk, off, spot⟩, l, c, i, h1, h2, h3, h4, h5⟩ := Nu.okx en hen
      obtain rfl : spot = none := h4
      have hz' : tSize P el = 1 := Nat.eq_of_beq_eq_true hz
      refine ok_pure R hk ?_ trivial
      rw [cv_num h2]
      show (Instr.indexAt t (Nu.o en.1) (.int .i64 (i : Int))).run P w = .ok (Nu.o en.2.2) w
      rw [h1, h5]
      simp [Instr.indexAt, asIntOf, run_underlying hu, h3, run_sizeOf' (fit_slice hd), add_at, hz']
    · rename_i b off len skip alt
      obtain ⟨q, i, rfl, e2⟩ := isN_true (v := y) e
      obtain ⟨hi, e3⟩ := addrK_true e2
      refine ok_pure R e3 ?_ hx.1
      have hc : (s b).cap ≠ skip := by have := hx.2; omega
      show (Instr.indexAt t (.slice (some ⟨(s b).blk, (s b).off + (if (s b).cap = skip then alt else off), none⟩) len _) (.int q (i : Int))).run P w = .ok (.pointer (some ⟨(s b).blk, (s b).off + (off + i * tSize P el), none⟩)) w
      simp [Instr.indexAt, asIntOf, run_underlying hu, hi, run_sizeOf' (fit_slice hd), add_at, Nat.add_assoc, hc]
    · rename_i b off len cap
      obtain ⟨q, i, rfl, e2⟩ := isN_true (v := y) e
      obtain ⟨hi, e3⟩ := addrK_true e2
      refine ok_pure R e3 ?_ hx
      show (Instr.indexAt t (.slice (some ⟨(s b).blk, (s b).off + off, none⟩) len cap) (.int q (i : Int))).run P w = .ok (.pointer (some ⟨(s b).blk, (s b).off + (off + i * tSize P el), none⟩)) w
      simp [Instr.indexAt, asIntOf, run_underlying hu, hi, run_sizeOf' (fit_slice hd), add_at, Nat.add_assoc]
  | _ => exact fun _ _ _ _ _ _ _ _ _ _ e => absurd e Bool.false_ne_true
theorem index_ok [Fit P] (t : TypeId) : Ok2 P (indexH P t).f (Instr.index t) := by
  unfold indexH
  cases hd : tU P t with
  | array n el =>
    intro X s h w x y k R hx hy e
    obtain ⟨cs, rfl, e1⟩ := isA_true (v := x) e
    obtain ⟨q, i, rfl, e2⟩ := isN_true (v := y) e1
    obtain ⟨hi, e3⟩ := bif_true e2
    have hi' : i < n := Nat.ble_eq.mp hi
    obtain ⟨v, hk, hv, hr⟩ := subV_true (k := fun v => k v h) (fit_array hd) hx e3
    refine ok_pure R hk ?_ hv
    obtain ⟨hu, _⟩ := tU_und hd (by simp)
    show (Instr.index t (.agg (cvL s cs).toArray) (.int q (i : Int))).run P w = _
    have hr' := hr w
    rw [show Nat.mul i (tSize P el) = i * tSize P el from rfl] at hr'
    simp [Instr.index, asIntOf, run_underlying hu, hi', run_sizeOf' (fit_array hd), hr']
  | string =>
    intro X s h w x y k R hx hy e
    obtain ⟨l, rfl, e1⟩ := isS_true (v := x) e
    obtain ⟨q, i, rfl, e2⟩ := isN_true (v := y) e1
    obtain ⟨b, hb, e3⟩ := onO_true e2
    rw [lnth_eq] at hb
    refine ok_pure R e3 ?_ trivial
    obtain ⟨hu, _⟩ := tU_und hd (by simp)
    have hb256 : b < 256 := hx b (List.mem_of_getElem? hb)
    show (Instr.index t (.string (bys l)) (.int q (i : Int))).run P w = .ok (.int .u8 (b : Int)) w
    have hg : (bys l)[i]? = some (UInt8.ofNat b) := by
      have hlt : i < l.length := by
        rcases Nat.lt_or_ge i l.length with h | h
        · exact h
        · rw [List.getElem?_eq_none h] at hb; cases hb
      have hsz : i < (bys l).size := by rw [bys_size]; exact hlt
      rw [getElem?_pos (bys l) i hsz]
      have : (bys l)[i] = (bys l).data[i]'hsz := rfl
      rw [this]
      simp only [bys, List.getElem_toArray, List.getElem_map]
      rw [List.getElem?_eq_getElem hlt] at hb
      cases hb; rfl
    simp [Instr.index, asIntOf, run_underlying hu, hg, UInt8.toNat_ofNat', Nat.mod_eq_of_lt hb256]
  | _ => exact fun _ _ _ _ _ _ _ _ _ _ e => absurd e Bool.false_ne_true
end Go.Rk

namespace Go.Rk
open Go
set_option linter.unusedSectionVars false
variable [Nt] [Nu]
variable {P : Program} {X : Nat → Prop} {s : Sig} {h : AH} {w : World}

/-! ## slices of slices, strings and arrays -/
theorem run_bound {q : IntKind} {u y : Nat} {c : BoundsCode} (hu : u ≤ y) : (Instr.sliceBound (.int q (u : Int)) y c).run P w = .ok u w := by
  simp [Instr.sliceBound, asIntOf, hu]
theorem twoK_true {lo hi : Option AV} {d m : Nat} {k : Nat → Nat → Bool} (e : twoK lo hi d m k = true) (s : Sig) :
    ∃ l u, k l u = true ∧ l ≤ u ∧ u ≤ m ∧ ∀ (b : Bool) (cap : Nat) (w : World), m ≤ cap → (Instr.sliceBounds b d cap (lo.map (cv s)) (hi.map (cv s)) none).run P w = .ok (l, u, cap) w := by
  unfold twoK at e
  cases lo with
  | none =>
    cases hi with
    | none =>
      obtain ⟨h3, h4⟩ := bif_true e
      exact ⟨0, d, h4, Nat.zero_le _, Nat.ble_eq.mp h3, fun b cap w hc => by simp [Instr.sliceBounds]⟩
    | some v =>
      obtain ⟨q, u, rfl, e1⟩ := isN_true (v := v) e
      obtain ⟨h3, h4⟩ := bif_true e1
      have hu := Nat.ble_eq.mp h3
      refine ⟨0, u, h4, Nat.zero_le _, hu, fun b cap w hc => ?_⟩
      show (Instr.sliceBounds b d cap none (some (.int q (u : Int))) none).run P w = _
      simp [Instr.sliceBounds, run_bound (Nat.le_trans hu hc)]
  | some v =>
    obtain ⟨q, l, rfl, e1⟩ := isN_true (v := v) e
    cases hi with
    | none =>
      obtain ⟨h1, h2⟩ := bif_true e1
      obtain ⟨h3, h4⟩ := bif_true h2
      have hl := Nat.ble_eq.mp h1
      refine ⟨l, d, h4, hl, Nat.ble_eq.mp h3, fun b cap w hc => ?_⟩
      show (Instr.sliceBounds b d cap (some (.int q (l : Int))) none none).run P w = _
      simp [Instr.sliceBounds, run_bound hl]
    | some v =>
      obtain ⟨q', u, rfl, e2⟩ := isN_true (v := v) e1
      obtain ⟨h1, h2⟩ := bif_true e2
      obtain ⟨h3, h4⟩ := bif_true h2
      have hl := Nat.ble_eq.mp h1
      have hu := Nat.ble_eq.mp h3
      refine ⟨l, u, h4, hl, hu, fun b cap w hc => ?_⟩
      show (Instr.sliceBounds b d cap (some (.int q (l : Int))) (some (.int q' (u : Int))) none).run P w = _
      simp [Instr.sliceBounds, run_bound hl, run_bound (Nat.le_trans hu hc)]
/-- a slice operation is right -/
def OkS (P : Program) (t : TypeId) (f : CS) : Prop :=
  ∀ (X : Nat → Prop) (s : Sig) (h : AH) (w : World) (x : AV) (lo hi : Option AV) (k : K), Rel P X s h w → Wf s h.nx x → f x lo hi h k = true →
    Good P X s h w k (Instr.sliceAt t (cv s x) (lo.map (cv s)) (hi.map (cv s)) none)
theorem bys_extract (a : List Nat) (l u : Nat) : (bys a).extract l u = bys ((a.drop l).take (u - l)) := by
  apply ByteArray.ext
  rw [ByteArray.data_extract]
  simp [bys, List.extract_eq_take_drop, List.map_drop, List.map_take]
theorem slStr_ok {t : TypeId} (hd : tU P t = .string) : OkS P t slStr := by
  intro X s h w x lo hi k R hx e
  obtain ⟨a, rfl, e1⟩ := isS_true e
  have e2 := forceK_true (k := fun n => twoK lo hi n n (fun l u => subStr a n l u h k)) e1
  obtain ⟨l, u, e3, hl, hu, hr⟩ := twoK_true (P := P) e2 s
  obtain ⟨hu', _⟩ := tU_und hd (by simp)
  rw [len_eq] at e3 hu hr
  have hsub : k (.str ((a.drop l).take (u - l))) h = true := by
    unfold subStr at e3
    cases hb : Nat.beq u a.length with
    | true =>
      rw [hb] at e3
      have := Nat.eq_of_beq_eq_true hb
      rw [List.take_of_length_le (by simp; omega), ← ldrop_eq]; exact e3
    | false =>
      rw [hb] at e3
      have := (ltakeK_true _ _ _ e3).2
      rw [ldrop_eq] at this; exact this
  refine ok_pure R hsub ?_ (fun y hy => hx y (List.mem_of_mem_drop (List.mem_of_mem_take hy)))
  have hr' := hr false a.length w (Nat.le_refl _)
  show (Instr.sliceAt t (.string (bys a)) (lo.map (cv s)) (hi.map (cv s)) none).run P w = .ok (.string (bys _)) w
  rw [← bys_extract]
  simp [Instr.sliceAt, Instr.slice, run_underlying hu', bys_size, hr']
end Go.Rk

namespace Go.Rk
open Go
set_option linter.unusedSectionVars false
variable [Nt] [Nu]
variable {P : Program} {X : Nat → Prop} {s : Sig} {h : AH} {w : World}
theorem slk_val (s : Sig) (b off m sz l u : Nat) : cv s (slkOf b off m sz l u) = .slice (some (if m = l then ⟨(s b).blk, (s b).off + off, none⟩ else (⟨(s b).blk, (s b).off + off, none⟩ : Addr).add (l * sz))) (u - l) (m - l) := by
  unfold slkOf
  cases hb : Nat.beq l m with
  | true =>
    have := Nat.eq_of_beq_eq_true hb
    rw [if_pos this.symm]; rfl
  | false =>
    have : ¬ m = l := fun hq => by subst hq; simp at hb
    rw [if_neg this, add_at]
    show Value.slice (some ⟨(s b).blk, (s b).off + (off + l * sz), none⟩) (u - l) (m - l) = _
    rw [Nat.add_assoc]
theorem slArr_ok [Fit P] {t el : TypeId} {n : Nat} (hd : tU P t = .array n el) : OkS P t (slArr n (tSize P el)) := by
  intro X s h w x lo hi k R hx e
  obtain ⟨b, off, rfl, e1⟩ := isP_true e
  obtain ⟨l, u, e3, hl, hu, hr⟩ := twoK_true (P := P) e1 s
  obtain ⟨hu', _⟩ := tU_und hd (by simp)
  refine ok_pure R e3 ?_ hx
  have hr' := hr false n w (Nat.le_refl _)
  rw [slk_val]
  show (Instr.sliceAt t (.pointer (some ⟨(s b).blk, (s b).off + off, none⟩)) (lo.map (cv s)) (hi.map (cv s)) none).run P w = _
  simp [Instr.sliceAt, Instr.sureAddr, run_underlying hu', hr', run_sizeOf' (fit_array hd)]
theorem slPtr_ok [Fit P] {t a el : TypeId} {n : Nat} (hd : tU P t = .pointer a) (ha : tU P a = .array n el) : OkS P t (slArr n (tSize P el)) := by
  intro X s h w x lo hi k R hx e
  obtain ⟨b, off, rfl, e1⟩ := isP_true e
  obtain ⟨l, u, e3, hl, hu, hr⟩ := twoK_true (P := P) e1 s
  obtain ⟨hu', _⟩ := tU_und hd (by simp)
  obtain ⟨ha', _⟩ := tU_und ha (by simp)
  refine ok_pure R e3 ?_ hx
  have hr' := hr false n w (Nat.le_refl _)
  rw [slk_val]
  show (Instr.sliceAt t (.pointer (some ⟨(s b).blk, (s b).off + off, none⟩)) (lo.map (cv s)) (hi.map (cv s)) none).run P w = _
  simp [Instr.sliceAt, Instr.slice, asAddr, run_underlying hu', run_underlying ha', hr', run_sizeOf' (fit_array ha)]
theorem slSl_ok [Fit P] {t el : TypeId} (hd : tU P t = .slice el) : OkS P t (slSl (tSize P el)) := by
  intro X s h w x lo hi k R hx e
  obtain ⟨hu', _⟩ := tU_und hd (by simp)
  cases x <;> try exact absurd e Bool.false_ne_true
  · obtain ⟨l, u, e3, hl, hu, hr⟩ := twoK_true (P := P) e s
    have hr' := hr true 0 w (Nat.le_refl _)
    have hu0 : u = 0 := Nat.le_zero.mp hu
    subst hu0
    have hl0 : l = 0 := Nat.le_zero.mp hl
    subst hl0
    refine ok_pure R e3 ?_ trivial
    show (Instr.sliceAt t (.slice none 0 0) (lo.map (cv s)) (hi.map (cv s)) none).run P w = .ok (.slice none 0 0) w
    simp [Instr.sliceAt, Instr.slice, run_underlying hu', hr', run_sizeOf' (fit_slice hd)]
  · rename_i b off len skip alt
    obtain ⟨l, u, e3, hl, hu, hr⟩ := twoK_true (P := P) e s
    obtain ⟨hxb, hxc⟩ := hx
    have hr' := hr true ((s b).cap - skip) w (by omega)
    refine ok_pure R e3 ?_ ⟨hxb, by show skip + l + (u - l) ≤ _; omega⟩
    show (Instr.sliceAt t (.slice (some ⟨(s b).blk, (s b).off + (if (s b).cap = skip then alt else off), none⟩) len ((s b).cap - skip)) (lo.map (cv s)) (hi.map (cv s)) none).run P w =
      .ok (.slice (some ⟨(s b).blk, (s b).off + (if (s b).cap = skip + l then (Nat.rec (motive := fun _ => Nat) alt (fun _ _ => off) l) else off + l * tSize P el), none⟩) (u - l) ((s b).cap - (skip + l))) w
    simp only [Instr.sliceAt, Instr.slice, Sem.run_bind, run_underlying hu', Result.andThen_ok, hr', run_sizeOf' (fit_slice hd), Sem.run_pure, Nat.sub_sub]
    congr 3
    by_cases hc : (s b).cap = skip + l
    · rw [if_pos hc, if_pos (by omega)]
      cases l with
      | zero => rw [if_pos (show (s b).cap = skip by omega)]; rfl
      | succ l => rw [if_neg (by omega)]
    · rw [if_neg hc, if_neg (by omega), if_neg (by omega)]
      simp [add_at, Nat.add_assoc]
  · rename_i b off len cap
    obtain ⟨l, u, e3, hl, hu, hr⟩ := twoK_true (P := P) e s
    have hr' := hr true cap w (Nat.le_refl _)
    refine ok_pure R e3 ?_ hx
    rw [slk_val]
    show (Instr.sliceAt t (.slice (some ⟨(s b).blk, (s b).off + off, none⟩) len cap) (lo.map (cv s)) (hi.map (cv s)) none).run P w = _
    simp only [Instr.sliceAt, Instr.slice, Sem.run_bind, run_underlying hu', Result.andThen_ok, hr', run_sizeOf' (fit_slice hd), Sem.run_pure]
    by_cases hc : cap = l
    · rw [if_pos hc, if_pos hc]
    · rw [if_neg hc, if_neg hc]; rfl
end Go.Rk

namespace Go.Rk
open Go
set_option linter.unusedSectionVars false
variable [Nt] [Nu]
variable {P : Program} {X : Nat → Prop} {s : Sig} {h : AH} {w : World}
theorem slice_ok [Fit P] (t : TypeId) : OkS P t (sliceH P t).f := by
  have no : OkS P t (fun _ _ _ _ _ => false) := fun _ _ _ _ _ _ _ _ _ _ e => absurd e Bool.false_ne_true
  unfold sliceH
  cases hd : tU P t with
  | string => exact slStr_ok hd
  | slice el => exact slSl_ok hd
  | array n el => exact slArr_ok hd
  | pointer a =>
    show OkS P t (TypeDesc.rec (motive := fun _ => SlK) _ _ _ _ _ _ _ _ _ _ _ _ _ _ _ _ _ (tU P a) : SlK).f
    cases ha : tU P a with
    | array n el => exact slPtr_ok hd ha
    | _ => exact no
  | _ => exact no
theorem pick_ok (R : Rel P X s h w) {c a b : AV} {k : K} (ha : Wf s h.nx a) (hb : Wf s h.nx b) (e : pickC c a b h k = true) :
    Good P X s h w k (do pure (if ← asBool (cv s c) then cv s a else cv s b)) := by
  obtain ⟨c, rfl, e1⟩ := isB_true e
  cases c with
  | true => exact ok_pure R e1 rfl ha
  | false => exact ok_pure R e1 rfl hb
theorem mkI_ok {t : TypeId} (hk : t < P.types.size) [Fit P] (hi : ∀ ms, tU P t ≠ .interface ms) : Ok1 P (mkI t) (Instr.makeInterface t) := by
  intro X s h w x k R hx e
  refine ok_pure R (v := .ifc t x) e ?_ hx
  obtain ⟨d, hd, _⟩ := und_desc (P := P) hk
  have hu := tU_of hd hk
  show (Instr.makeInterface t (cv s x)).run P w = .ok (.iface t (cv s x)) w
  unfold Instr.makeInterface
  simp only [Sem.run_bind, run_underlying hd, Result.andThen_ok]
  cases d <;> first | rfl | exact absurd hu (hi _)
end Go.Rk

namespace Go.Rk
open Go
set_option linter.unusedSectionVars false
variable [Nt] [Nu]
variable {P : Program} {X : Nat → Prop} {s : Sig} {h : AH} {w : World}

/-! ## maps: keys -/
/-- a test of keys is right for a type of keys -/
def KeyOk (kind : TypeDesc) (q : Kq) : Prop :=
  ∀ (s : Sig) (n : Nat) (x y : AV) (k : Bool → Bool), Wf s n x → Wf s n y → q x y k = true → ∃ b, k b = true ∧ Instr.sameNow kind (cv s x) (cv s y) = some b ∧ (b = true → x = y ∧ Instr.sameBits 10000 (cv s x) (cv s x) = true)
theorem keyIn_ok (j : IntKind) : KeyOk (.int j) eqIn := by
  intro s n x y k _ _ e
  obtain ⟨q, a, rfl, e1⟩ := isI_true e
  obtain ⟨r, b, rfl, e2⟩ := isI_true e1
  obtain ⟨hq, e3⟩ := bif_true e2
  obtain rfl := keq_true hq
  refine ⟨_, e3, ?_, fun hb => ?_⟩
  · show (if q = q then some (a == b) else none) = _
    rw [if_pos rfl, ieq_eq]
  · rw [ieq_eq] at hb; rw [beq_iff_eq.1 hb]; exact ⟨rfl, by simp [cv, Instr.sameBits]⟩
theorem keySt_ok : KeyOk .string eqSt := by
  intro s n x y k hx hy e
  obtain ⟨a, rfl, e1⟩ := isS_true e
  obtain ⟨b, rfl, e2⟩ := isS_true e1
  refine ⟨_, e2, ?_, fun hb => ?_⟩
  · show some (bys a == bys b) = _
    rw [beq_toListBytes, bys_toList, bys_toList, leq_eq a b hx hy]
  · rw [leq_true.1 hb]; refine ⟨rfl, ?_⟩
    show (bys b == bys b) = true
    rw [beq_toListBytes]; simp
theorem keyNo_ok (d : TypeDesc) : KeyOk d eqNo := fun _ _ _ _ _ _ _ e => absurd e Bool.false_ne_true
theorem keyH_ok (t : TypeId) : KeyOk (tU P t) (keyH P t).f := by
  unfold keyH
  cases hd : tU P t with
  | int j => exact keyIn_ok j
  | string => exact keySt_ok
  | _ => exact keyNo_ok _
/-- a key that is found, or none -/
theorem findK_true {kind : TypeDesc} {q : Kq} (hq : KeyOk kind q) {n : Nat} {x : AV} (hx : Wf s n x) : ∀ (es : Ents) (no : Bool) (k : AV → Nat → Bool) (i : Nat), (∀ e ∈ es, Wf s n e.1 ∧ Wf s n e.2.1) →
    findK q x es no k = true →
      (∃ j e, es[j]? = some e ∧ e.1 = x ∧ Instr.sameBits 10000 (cv s x) (cv s x) = true ∧ k e.2.1 e.2.2 = true ∧ Instr.findNow kind (cv s x) (es.map (entOf s)) i = some (some (i + j, cv s e.2.1))) ∨
      (no = true ∧ Instr.findNow kind (cv s x) (es.map (entOf s)) i = some none)
  | [], no, k, i, _, e => .inr ⟨e, rfl⟩
  | a :: es, no, k, i, hw, e => by
    obtain ⟨b, hb, hs, he⟩ := hq s n x a.1 _ hx (hw a (List.mem_cons_self ..)).1 e
    cases b with
    | true =>
      refine .inl ⟨0, a, rfl, (he rfl).1.symm, (he rfl).2, hb, ?_⟩
      show (match Instr.sameNow kind (cv s x) (cv s a.1) with | some true => _ | some false => _ | none => _) = _
      rw [hs]; rfl
    | false =>
      rcases findK_true hq hx es no k (i + 1) (fun e he => hw e (List.mem_cons_of_mem _ he)) hb with ⟨j, f, h1, h2, h2', h3, h4⟩ | ⟨h1, h2⟩
      · refine .inl ⟨j + 1, f, by simpa using h1, h2, h2', h3, ?_⟩
        show (match Instr.sameNow kind (cv s x) (cv s a.1) with | some true => _ | some false => Instr.findNow kind (cv s x) (es.map (entOf s)) (i + 1) | none => _) = _
        rw [hs]; simp only []; rw [h4]
        congr 3; omega
      · refine .inr ⟨h1, ?_⟩
        show (match Instr.sameNow kind (cv s x) (cv s a.1) with | some true => _ | some false => Instr.findNow kind (cv s x) (es.map (entOf s)) (i + 1) | none => _) = _
        rw [hs]; exact h2
end Go.Rk

namespace Go.Rk
open Go
set_option linter.unusedSectionVars false
variable [Nt] [Nu]
variable {P : Program} {X : Nat → Prop} {s : Sig} {h : AH} {w : World}
theorem mapK_true {r : Nat} {k : Ents → Nat → Bool} (e : mapK h r k = true) : ∃ es c wr, h.get r = .gmap es c wr ∧ k es c = true := by
  unfold mapK at e
  cases hb : h.get r with
  | gmap es c wr => rw [hb] at e; exact ⟨es, c, wr, rfl, e⟩
  | _ => rw [hb] at e; exact absurd e Bool.false_ne_true
theorem mapW_true {r : Nat} {k : Ents → Nat → Bool} (e : mapW h r k = true) : ∃ es c, h.get r = .gmap es c true ∧ k es c = true := by
  unfold mapW at e
  cases hb : h.get r with
  | gmap es c wr =>
    rw [hb] at e
    cases wr with
    | true => exact ⟨es, c, rfl, e⟩
    | false => exact absurd e Bool.false_ne_true
  | _ => rw [hb] at e; exact absurd e Bool.false_ne_true
theorem Rel.gmap (R : Rel P X s h w) {i : Nat} {es : Ents} {c : Nat} {wr : Bool} (hb : h.get i = .gmap es c wr) :
    (∀ e ∈ es, Wf s h.nx e.1 ∧ Wf s h.nx e.2.1) ∧ w.heap[(s i).blk]? = some (.map (es.map (entOf s)).toArray c) := Rel.at (R := R) hb

structure Keyed (P : Program) (t : TypeId) (q : Kq) (kt el : TypeId) (kd : TypeDesc) : Prop where
  ty : P.underlying t = some (.map kt el)
  key : P.underlying kt = some kd
  plain : kd = .string ∨ ∃ j, kd = .int j
  ok : KeyOk kd q
theorem onKey_true {t : TypeId} {f : Kq → F} {ec : Ec} {e : Env} {k : K} (he : (onKey P t f).f ec e h k = true) : ∃ q kt el kd, Keyed P t q kt el kd ∧ (f q).f ec e h k = true := by
  unfold onKey at he
  cases hd : tU P t with
  | map kt el =>
    rw [hd] at he
    change (TypeDesc.rec (motive := fun _ => F) _ _ _ _ _ _ _ _ _ _ _ _ _ _ _ _ _ (tU P kt) : F).f ec e h k = true at he
    obtain ⟨hu, _⟩ := tU_und hd (by simp)
    cases hk : tU P kt with
    | int j => rw [hk] at he; exact ⟨eqIn, kt, el, .int j, ⟨hu, (tU_und hk (by simp)).1, .inr ⟨j, rfl⟩, keyIn_ok j⟩, he⟩
    | string => rw [hk] at he; exact ⟨eqSt, kt, el, .string, ⟨hu, (tU_und hk (by simp)).1, .inl rfl, keySt_ok⟩, he⟩
    | _ => rw [hk] at he; exact absurd he Bool.false_ne_true
  | _ => rw [hd] at he; exact absurd he Bool.false_ne_true
section
variable {t : TypeId} {q : Kq} {kt el : TypeId} {kd : TypeDesc}
theorem run_checkKey (K : Keyed P t q kt el kd) (b : Bool) (v : Value) : (Instr.checkKey b 10000 kt v).run P w = .ok () w := by
  have : ∀ n, (Instr.checkKey b (n + 1) kt v).run P w = .ok () w := by
    intro n
    rw [Instr.checkKey]
    simp only [Sem.run_bind, run_underlying K.key, Result.andThen_ok]
    rcases K.plain with h | ⟨j, h⟩ <;> subst h <;> rfl
  exact this 9999
theorem run_findKey (K : Keyed P t q kt el kd) {v : Value} {es : List MapEntry} {r : Option (Nat × Value)} (hr : Instr.findNow kd v es 0 = some r) : (Instr.findKey kt v es).run P w = .ok r w := by
  unfold Instr.findKey
  simp only [Sem.run_bind, run_underlying K.key, Result.andThen_ok, hr]
  rfl
theorem run_getMap {r : Nat} {es : Array MapEntry} {c : Nat} (h : w.heap[r]? = some (.map es c)) : (getObj r).run P w = .ok (.map es c) w := by
  simp only [getObj, Sem.run, h]
theorem run_setMap {r : Nat} {es : Array MapEntry} {c : Nat} {o : Obj} (h : w.heap[r]? = some (.map es c)) : (setObj r o).run P w = .ok () { w with heap := w.heap.setIfInBounds r o } := by
  simp only [setObj, Sem.run, h]
theorem set_same {r : Nat} {o : Obj} (h : w.heap[r]? = some o) : { w with heap := w.heap.setIfInBounds r o } = w := by
  have : w.heap.setIfInBounds r o = w.heap := by
    apply Array.ext_getElem?
    intro i
    rw [Array.getElem?_setIfInBounds]
    by_cases e : r = i
    · subst e; rw [if_pos rfl, if_pos (lt_of_get h), h]
    · rw [if_neg e]
  rw [this]
theorem But.set (w : World) (r : Nat) (o : Obj) : But r w { w with heap := w.heap.setIfInBounds r o } where
  heap k hk := by show (w.heap.setIfInBounds r o)[k]? = _; rw [Array.getElem?_setIfInBounds, if_neg (Ne.symm hk)]
  size := by simp
  tape := rfl
  os := rfl
  output := rfl
theorem set_at {r : Nat} {o o' : Obj} (h : w.heap[r]? = some o') : ({ w with heap := w.heap.setIfInBounds r o } : World).heap[r]? = some o := by
  show (w.heap.setIfInBounds r o)[r]? = _
  rw [Array.getElem?_setIfInBounds, if_pos rfl, if_pos (lt_of_get h)]
/-- a map is turned -/
theorem Rel.mapTurn (R : Rel P X s h w) {i : Nat} {es : Ents} {c : Nat} (hb : h.get i = .gmap es c true) (es' : Ents) (c' : Nat) (hw : ∀ e ∈ es', Wf s h.nx e.1 ∧ Wf s h.nx e.2.1) :
    Rel P X s (h.put i (.gmap es' c' true)) { w with heap := w.heap.setIfInBounds (s i).blk (.map (es'.map (entOf s)).toArray c') } ∧
    Aft X s h w s (h.put i (.gmap es' c' true)) { w with heap := w.heap.setIfInBounds (s i).blk (.map (es'.map (entOf s)).toArray c') } :=
  R.turn (by rw [hb]; rfl) (But.set w _ _) ⟨hw, set_at (R.gmap hb).2⟩

theorem look_ok (K : Keyed P t q kt el kd) (hz : zeroOk P el = true) (ok : Bool) : Ok2 P (lookC q ok (tZero P el)) (fun x y => Instr.lookup t x y ok) := by
  have hzw := fun s n => zero_wf (P := P) s n hz
  intro X s h w x y k R hx hy e
  have fin : ∀ (v : AV) (b : Bool), Wf s h.nx v → Wf s h.nx (Bool.rec (motive := fun _ => AV) v (.tup [v, .bool b]) ok) := by
    intro v b hv; cases ok
    · exact hv
    · exact ⟨hv, trivial, trivial⟩
  have fin2 : ∀ (v : AV) (b : Bool), cv s (Bool.rec (motive := fun _ => AV) v (.tup [v, .bool b]) ok) = if ok then .tuple #[cv s v, .bool b] else cv s v := by
    intro v b; cases ok <;> rfl
  cases x <;> try exact absurd e Bool.false_ne_true
  · refine ok_pure R (v := Bool.rec (motive := fun _ => AV) (tZero P el) (.tup [tZero P el, .bool false]) ok) e ?_ (fin _ _ (hzw s _))
    rw [fin2]
    show (Instr.lookup t (.map none) (cv s y) ok).run P w = _
    unfold Instr.lookup
    simp [run_underlying K.ty, run_checkKey K, run_findKey K (v := cv s y) (es := []) (r := none) rfl, run_zeroValue' s hz]
  · rename_i r
    obtain ⟨es, c, wr, hb, e1⟩ := mapK_true e
    obtain ⟨hwf, hg⟩ := R.gmap hb
    rcases findK_true K.ok hy es _ _ 0 hwf e1 with ⟨j, f, h1, h2, _, h3, h4⟩ | ⟨h1, h2⟩
    · refine ok_pure R h3 ?_ (fin _ _ (hwf f (List.mem_of_getElem? h1)).2)
      rw [fin2]
      show (Instr.lookup t (.map (some (s r).blk)) (cv s y) ok).run P w = _
      unfold Instr.lookup
      simp [run_underlying K.ty, run_getMap hg, run_checkKey K, run_findKey K h4]
    · refine ok_pure R h1 ?_ (fin _ _ (hzw s _))
      rw [fin2]
      show (Instr.lookup t (.map (some (s r).blk)) (cv s y) ok).run P w = _
      unfold Instr.lookup
      simp [run_underlying K.ty, run_getMap hg, run_checkKey K, run_findKey K h2, run_zeroValue' s hz]
end
end Go.Rk

namespace Go.Rk
open Go
set_option linter.unusedSectionVars false
variable [Nt] [Nu]
variable {P : Program} {X : Nat → Prop} {s : Sig} {h : AH} {w : World}
section
variable {t : TypeId} {q : Kq} {kt el : TypeId} {kd : TypeDesc}
theorem updK_true {n : Nat} {x v : AV} {clock : Nat} (hq : KeyOk kd q) (hx : Wf s n x) : ∀ (es : Ents) (k : Ents → Bool → Bool) (i : Nat), (∀ e ∈ es, Wf s n e.1 ∧ Wf s n e.2.1) →
    updK q x v clock es k = true →
      (∃ j e, es[j]? = some e ∧ e.1 = x ∧ Instr.sameBits 10000 (cv s x) (cv s x) = true ∧ k (es.set j (x, v, e.2.2)) false = true ∧ Instr.findNow kd (cv s x) (es.map (entOf s)) i = some (some (i + j, cv s e.2.1))) ∨
      (k (es ++ [(x, v, clock)]) true = true ∧ Instr.findNow kd (cv s x) (es.map (entOf s)) i = some none)
  | [], k, i, _, e => .inr ⟨e, rfl⟩
  | a :: es, k, i, hw, e => by
    obtain ⟨b, hb, hs, he⟩ := hq s n x a.1 _ hx (hw a (List.mem_cons_self ..)).1 (show q x a.1 _ = true from e)
    cases b with
    | true =>
      refine .inl ⟨0, a, rfl, (he rfl).1.symm, (he rfl).2, hb, ?_⟩
      show (match Instr.sameNow kd (cv s x) (cv s a.1) with | some true => _ | some false => _ | none => _) = _
      rw [hs]; rfl
    | false =>
      rcases updK_true hq hx es (fun r n => k (a :: r) n) (i + 1) (fun e he => hw e (List.mem_cons_of_mem _ he)) hb with ⟨j, f, h1, h2, h2', h3, h4⟩ | ⟨h1, h2⟩
      · refine .inl ⟨j + 1, f, by simpa using h1, h2, h2', h3, ?_⟩
        show (match Instr.sameNow kd (cv s x) (cv s a.1) with | some true => _ | some false => Instr.findNow kd (cv s x) (es.map (entOf s)) (i + 1) | none => _) = _
        rw [hs]; simp only []; rw [h4]
        congr 3; omega
      · refine .inr ⟨h1, ?_⟩
        show (match Instr.sameNow kd (cv s x) (cv s a.1) with | some true => _ | some false => Instr.findNow kd (cv s x) (es.map (entOf s)) (i + 1) | none => _) = _
        rw [hs]; exact h2
theorem ltL {α : Type} {l : List α} {i : Nat} {a : α} (h : l[i]? = some a) : i < l.length := (List.getElem?_eq_some_iff.1 h).1
theorem mem_set {α : Type} {l : List α} {i : Nat} {a x : α} (h : x ∈ l.set i a) : x = a ∨ x ∈ l := by
  rcases List.mem_or_eq_of_mem_set h with h | h
  · exact .inr h
  · exact .inl h
theorem upd_ok (K : Keyed P t q kt el kd) (R : Rel P X s h w) {m x v : AV} {k : Rk.K} (hx : Wf s h.nx x) (hv : Wf s h.nx v) (e : mupd q m x v h k = true) :
    GoodU P X s h w k (Instr.mapUpdate t (cv s m) (cv s x) (cv s v)) := by
  obtain ⟨r, rfl, e1⟩ := isM_true e
  obtain ⟨es, c, hb, e2⟩ := mapW_true e1
  obtain ⟨hwf, hg⟩ := R.gmap hb
  rcases updK_true K.ok hx es _ 0 hwf e2 with ⟨j, f, h1, h2, hsb, h3, h4⟩ | ⟨h1, h2⟩
  · have h3' : k .undef (h.put r (.gmap (es.set j (x, v, f.2.2)) c true)) = true := h3
    obtain ⟨R', A'⟩ := R.mapTurn hb (es.set j (x, v, f.2.2)) c (fun e he => by
      rcases mem_set he with rfl | he
      · exact ⟨hx, hv⟩
      · exact hwf e he)
    refine ⟨_, _, h3', ?_, R', A', rfl⟩
    show (Instr.mapUpdate t (.map (some (s r).blk)) (cv s x) (cv s v)).run P w = _
    have hkey : (((es.map (entOf s)).toArray[0 + j]?).map (·.key)).getD (cv s x) = cv s x := by
      simp [h1, entOf, h2]
    have hmod : (es.map (entOf s)).toArray.modify (0 + j) (fun e => { e with key := cv s x, val := cv s v }) = ((es.set j (x, v, f.2.2)).map (entOf s)).toArray := by
      apply Array.ext_getElem?
      intro i
      rw [Array.getElem?_modify]
      simp only [Nat.zero_add, List.getElem?_toArray, List.getElem?_map, List.getElem?_set]
      by_cases hij : j = i
      · subst hij
        rw [if_pos rfl, if_pos rfl, if_pos (ltL h1), h1]
        simp [entOf]
      · rw [if_neg hij, if_neg hij]
    unfold Instr.mapUpdate
    simp only [Sem.run_bind, run_underlying K.ty, Result.andThen_ok, run_getMap hg, run_checkKey K, run_findKey K h4, hkey, Instr.keyThatStays, hsb, if_true, Sem.run_pure, run_setMap hg, hmod]
  · have h1' : k .undef (h.put r (.gmap (es ++ [(x, v, c)]) (c + 1) true)) = true := h1
    obtain ⟨R', A'⟩ := R.mapTurn hb (es ++ [(x, v, c)]) (c + 1) (fun e he => by
      rcases List.mem_append.1 he with he | he
      · exact hwf e he
      · rw [List.mem_singleton.1 he]; exact ⟨hx, hv⟩)
    refine ⟨_, _, h1', ?_, R', A', rfl⟩
    show (Instr.mapUpdate t (.map (some (s r).blk)) (cv s x) (cv s v)).run P w = _
    unfold Instr.mapUpdate
    simp only [Sem.run_bind, run_underlying K.ty, Result.andThen_ok, run_getMap hg, run_checkKey K, run_findKey K h2, run_setMap hg]
    simp [entOf]
theorem ment_ok (K : Keyed P t q kt el kd) (hz : zeroOk P el = true) : Ok2E P (ment q (tZero P el)) (Instr.mapEntry t) := by
  intro X s h w m x k R _ hx e
  obtain ⟨r, rfl, e1⟩ := isM_true (v := m) e
  obtain ⟨es, c, hb, e2⟩ := mapW_true e1
  obtain ⟨hwf, hg⟩ := R.gmap hb
  have hzw := zero_wf (P := P) s h.nx hz
  rcases findK_true K.ok hx es _ _ 0 hwf e2 with ⟨j, f, h1, h2, hsb, h3, h4⟩ | ⟨h1, h2⟩
  · refine okE_pure R h3 ?_ ⟨(hwf f (List.mem_of_getElem? h1)).2, trivial, trivial⟩
    show (Instr.mapEntry t (.map (some (s r).blk)) (cv s x)).run P w = .ok (.tuple #[cv s f.2.1, .int .i64 (f.2.2 : Int)]) w
    have hkey : (((es.map (entOf s)).toArray[0 + j]?).map (·.key)).getD (cv s x) = cv s x := by
      simp [h1, entOf, h2]
    have hmod : (es.map (entOf s)).toArray.modify (0 + j) (fun e => { e with key := cv s x }) = (es.map (entOf s)).toArray := by
      apply Array.ext_getElem?
      intro i
      rw [Array.getElem?_modify]
      simp only [Nat.zero_add, List.getElem?_toArray, List.getElem?_map]
      by_cases hij : j = i
      · subst hij
        rw [if_pos rfl, h1]
        simp [entOf, h2]
      · rw [if_neg hij]
    unfold Instr.mapEntry
    simp only [Sem.run_bind, run_underlying K.ty, Result.andThen_ok, run_getMap hg, run_checkKey K, run_findKey K h4, hkey, Instr.keyThatStays, hsb, if_true, Sem.run_pure, run_setMap hg, hmod, set_same hg]
    simp [h1, entOf, goInt]
  · obtain ⟨R', A'⟩ := R.mapTurn hb (es ++ [(x, tZero P el, c)]) (c + 1) (fun e he => by
      rcases List.mem_append.1 he with he | he
      · exact hwf e he
      · rw [List.mem_singleton.1 he]; exact ⟨hx, hzw⟩)
    rw [lapp_eq] at h1
    refine .inl ⟨_, _, h1, s, _, ?_, R', A', ⟨hzw, trivial, trivial⟩⟩
    show (Instr.mapEntry t (.map (some (s r).blk)) (cv s x)).run P w = .ok (.tuple #[cv s (tZero P el), .int .i64 (c : Int)]) _
    unfold Instr.mapEntry
    simp only [Sem.run_bind, run_underlying K.ty, Result.andThen_ok, run_getMap hg, run_checkKey K, run_findKey K h2, run_zeroValue' s hz, run_setMap hg, Sem.run_pure]
    simp [entOf, goInt]
theorem storeS_true {st : Nat} {v : AV} : ∀ (es : Ents) (k : Ents → Bool), storeS st v es k = true →
    ∃ j e, es[j]? = some e ∧ k (es.set j (e.1, v, e.2.2)) = true ∧ (es.map (entOf s)).findIdx? (fun e => (e.born : Int) == (st : Int)) = some j
  | [], k, e => absurd e Bool.false_ne_true
  | a :: es, k, e => by
    change (Bool.rec (motive := fun _ => Bool) (storeS st v es (fun r => k (a :: r))) (k ((a.1, v, a.2.2) :: es)) (Nat.beq a.2.2 st)) = true at e
    cases hb : Nat.beq a.2.2 st with
    | true =>
      rw [hb] at e
      have := Nat.eq_of_beq_eq_true hb
      exact ⟨0, a, rfl, e, by simp [entOf, this, List.findIdx?_cons]⟩
    | false =>
      rw [hb] at e
      obtain ⟨j, f, h1, h2, h3⟩ := storeS_true es _ e
      refine ⟨j + 1, f, by simpa using h1, h2, ?_⟩
      have hne : ¬ a.2.2 = st := fun h => by subst h; simp at hb
      rw [List.map_cons, List.findIdx?_cons]
      have : (((entOf s a).born : Int) == (st : Int)) = false := by
        show ((a.2.2 : Int) == (st : Int)) = false
        simp; omega
      rw [this, h3]; rfl
theorem mst_ok (R : Rel P X s h w) {m st v : AV} {k : K} (hv : Wf s h.nx v) (e : mst m st v h k = true) :
    GoodU P X s h w k (Instr.entryStore t (cv s m) (cv s st) (cv s v)) := by
  obtain ⟨r, rfl, e1⟩ := isM_true e
  obtain ⟨qk, n, rfl, e2⟩ := isN_true e1
  obtain ⟨es, c, hb, e3⟩ := mapW_true e2
  obtain ⟨hwf, hg⟩ := R.gmap hb
  obtain ⟨j, f, h1, h2, h3⟩ := storeS_true (s := s) es _ e3
  obtain ⟨R', A'⟩ := R.mapTurn hb (es.set j (f.1, v, f.2.2)) c (fun e he => by
    rcases mem_set he with rfl | he
    · exact ⟨(hwf f (List.mem_of_getElem? h1)).1, hv⟩
    · exact hwf e he)
  refine ⟨_, _, h2, ?_, R', A', rfl⟩
  show (Instr.entryStore t (.map (some (s r).blk)) (.int qk (n : Int)) (cv s v)).run P w = _
  have hmod : (es.map (entOf s)).toArray.modify j (fun e => { e with val := cv s v }) = ((es.set j (f.1, v, f.2.2)).map (entOf s)).toArray := by
    apply Array.ext_getElem?
    intro i
    rw [Array.getElem?_modify]
    simp only [List.getElem?_toArray, List.getElem?_map, List.getElem?_set]
    by_cases hij : j = i
    · subst hij
      rw [if_pos rfl, if_pos rfl, if_pos (ltL h1), h1]
      simp [entOf]
    · rw [if_neg hij, if_neg hij]
  unfold Instr.entryStore
  simp only [Sem.run_bind, Result.andThen_ok, run_getMap hg, asInt, asIntOf, Sem.run_pure, List.findIdx?_toArray, h3, run_setMap hg, hmod]
theorem delK_true {n : Nat} {x : AV} (hq : KeyOk kd q) (hx : Wf s n x) : ∀ (es : Ents) (k : Ents → Bool) (i : Nat), (∀ e ∈ es, Wf s n e.1 ∧ Wf s n e.2.1) →
    delK q x es k = true →
      (∃ j e, es[j]? = some e ∧ k (es.eraseIdx j) = true ∧ Instr.findNow kd (cv s x) (es.map (entOf s)) i = some (some (i + j, cv s e.2.1))) ∨
      (k es = true ∧ Instr.findNow kd (cv s x) (es.map (entOf s)) i = some none)
  | [], k, i, _, e => .inr ⟨e, rfl⟩
  | a :: es, k, i, hw, e => by
    obtain ⟨b, hb, hs, he⟩ := hq s n x a.1 _ hx (hw a (List.mem_cons_self ..)).1 (show q x a.1 _ = true from e)
    cases b with
    | true =>
      refine .inl ⟨0, a, rfl, hb, ?_⟩
      show (match Instr.sameNow kd (cv s x) (cv s a.1) with | some true => _ | some false => _ | none => _) = _
      rw [hs]; rfl
    | false =>
      rcases delK_true hq hx es (fun r => k (a :: r)) (i + 1) (fun e he => hw e (List.mem_cons_of_mem _ he)) hb with ⟨j, f, h1, h3, h4⟩ | ⟨h1, h2⟩
      · refine .inl ⟨j + 1, f, by simpa using h1, by simpa using h3, ?_⟩
        show (match Instr.sameNow kd (cv s x) (cv s a.1) with | some true => _ | some false => Instr.findNow kd (cv s x) (es.map (entOf s)) (i + 1) | none => _) = _
        rw [hs]; simp only []; rw [h4]
        congr 3; omega
      · refine .inr ⟨h1, ?_⟩
        show (match Instr.sameNow kd (cv s x) (cv s a.1) with | some true => _ | some false => Instr.findNow kd (cv s x) (es.map (entOf s)) (i + 1) | none => _) = _
        rw [hs]; exact h2
theorem eraseIdx_map' {α β : Type} (f : α → β) : ∀ (l : List α) (i : Nat), (l.map f).eraseIdx i = (l.eraseIdx i).map f
  | [], _ => rfl
  | _ :: _, 0 => rfl
  | a :: l, i + 1 => by simp [eraseIdx_map' f l i]
theorem del_ok (K : Keyed P t q kt el kd) {ts : Array TypeId} (h0 : ts[0]? = some t) (ty : TypeId) : Ok2E P (delC q) (fun m x => Builtin.delete_ ts ty #[m, x]) := by
  intro X s h w m x k R hm hx e
  cases m <;> try exact absurd e Bool.false_ne_true
  · refine okE_pure R (v := .undef) e ?_ trivial
    show (Builtin.delete_ ts ty #[.map none, cv s x]).run P w = _
    unfold Builtin.delete_
    simp only [h0]
    simp [run_underlying K.ty, run_checkKey K]
    rfl
  · rename_i r
    obtain ⟨es, c, hb, e2⟩ := mapW_true e
    obtain ⟨hwf, hg⟩ := R.gmap hb
    rcases delK_true K.ok hx es _ 0 hwf e2 with ⟨j, f, h1, h3, h4⟩ | ⟨h1, h2⟩
    · obtain ⟨R', A'⟩ := R.mapTurn hb (es.eraseIdx j) c (fun e he => hwf e (List.mem_of_mem_eraseIdx he))
      refine .inl ⟨.undef, _, h3, s, _, ?_, R', A', trivial⟩
      show (Builtin.delete_ ts ty #[.map (some (s r).blk), cv s x]).run P w = _
      have hlt : j < es.length := by
        rcases Nat.lt_or_ge j es.length with h' | h'
        · exact h'
        · rw [List.getElem?_eq_none h'] at h1; cases h1
      have her : (es.map (entOf s)).toArray.eraseIdxIfInBounds (0 + j) = ((es.eraseIdx j).map (entOf s)).toArray := by
        simp [Array.eraseIdxIfInBounds, hlt, eraseIdx_map']
      unfold Builtin.delete_
      simp only [h0]
      simp [run_underlying K.ty, run_getMap hg, run_checkKey K, run_findKey K h4, run_setMap hg]
      simp at her
      rw [her]; exact ⟨rfl, rfl⟩
    · obtain ⟨R', A'⟩ := R.mapTurn hb es c hwf
      refine .inl ⟨.undef, _, h1, s, _, ?_, R', A', trivial⟩
      show (Builtin.delete_ ts ty #[.map (some (s r).blk), cv s x]).run P w = _
      unfold Builtin.delete_
      simp only [h0]
      simp [run_underlying K.ty, run_getMap hg, run_checkKey K, run_findKey K h2, run_setMap hg]
      rfl
end
end Go.Rk

namespace Go.Rk
open Go
set_option linter.unusedSectionVars false
variable [Nt] [Nu]
variable {P : Program} {X : Nat → Prop} {s : Sig} {h : AH} {w : World}
theorem no1 {m : Value → Sem Value} : Ok1 P (fun _ _ _ => false) m := fun _ _ _ _ _ _ _ _ e => absurd e Bool.false_ne_true
theorem no2 {m : Value → Value → Sem Value} : Ok2 P (fun _ _ _ _ => false) m := fun _ _ _ _ _ _ _ _ _ _ e => absurd e Bool.false_ne_true
theorem no1E {m : Value → Sem Value} : Ok1E P (fun _ _ _ => false) m := fun _ _ _ _ _ _ _ _ e => absurd e Bool.false_ne_true
theorem no2E {m : Value → Value → Sem Value} : Ok2E P (fun _ _ _ _ => false) m := fun _ _ _ _ _ _ _ _ _ _ e => absurd e Bool.false_ne_true
/-! ## len and cap -/
theorem len_ok (t : TypeId) {ts : Array TypeId} (h0 : ts[0]? = some t) (ty : TypeId) : Ok1 P (lenH P t).f (fun x => Builtin.len_ ts ty #[x]) := by
  unfold lenH
  cases hd : tU P t with
  | string =>
    intro X s h w x k R hx e
    obtain ⟨hu, _⟩ := tU_und hd (by simp)
    obtain ⟨l, rfl, e1⟩ := isS_true e
    have e2 := forceK_true (k := fun n => k (.int .i64 (.ofNat n)) h) e1
    rw [len_eq] at e2
    refine ok_pure R e2 ?_ trivial
    show (Builtin.len_ ts ty #[.string (bys l)]).run P w = .ok (.int .i64 (l.length : Int)) w
    unfold Builtin.len_
    simp only [h0]
    simp [run_underlying hu, goInt, bys_size]
  | array n el =>
    intro X s h w x k R hx e
    obtain ⟨hu, _⟩ := tU_und hd (by simp)
    refine ok_pure R (v := .int .i64 (.ofNat n)) e ?_ trivial
    show (Builtin.len_ ts ty #[cv s x]).run P w = .ok (.int .i64 (n : Int)) w
    unfold Builtin.len_
    simp only [h0]
    simp [run_underlying hu, goInt]
  | slice el =>
    intro X s h w x k R hx e
    obtain ⟨hu, _⟩ := tU_und hd (by simp)
    have sl : ∀ (p : Option Addr) (l c : Nat), (Builtin.len_ ts ty #[.slice p l c]).run P w = .ok (.int .i64 (l : Int)) w := by
      intro p l c
      unfold Builtin.len_
      simp only [h0]
      simp [run_underlying hu, goInt]
    cases x <;> try exact absurd e Bool.false_ne_true
    case opq i =>
      obtain ⟨en, hen, rfl, hk⟩ := findL_true (show findL i (fun v => k v h) Nt.ln = true from e)
      obtain ⟨p, l, c, ho, hl⟩ := Nu.okl en hen
      refine ok_pure R hk ?_ (sv_wf s _ _)
      rw [cv_num hl]
      show (Builtin.len_ ts ty #[Nu.o en.1]).run P w = .ok (.int .i64 (l : Int)) w
      rw [ho]
      exact sl p l c
    all_goals
      refine ok_pure R e ?_ trivial
      first
        | exact sl _ _ _
        | (show (Builtin.len_ ts ty #[.slice _ _ _]).run P w = .ok (.int .i64 _) w
           unfold Builtin.len_
           simp only [h0]
           simp [run_underlying hu, goInt]
           try rfl)
  | map kt el =>
    intro X s h w x k R hx e
    obtain ⟨hu, _⟩ := tU_und hd (by simp)
    cases x <;> try exact absurd e Bool.false_ne_true
    · refine ok_pure R (v := .int .i64 (.ofNat 0)) e ?_ trivial
      show (Builtin.len_ ts ty #[.map none]).run P w = .ok (.int .i64 ((0 : Nat) : Int)) w
      unfold Builtin.len_
      simp only [h0]
      simp [run_underlying hu, goInt]
    · rename_i r
      obtain ⟨es, c, wr, hb, e1⟩ := mapK_true e
      obtain ⟨hwf, hg⟩ := R.gmap hb
      rw [len_eq] at e1
      refine ok_pure R e1 ?_ trivial
      show (Builtin.len_ ts ty #[.map (some (s r).blk)]).run P w = .ok (.int .i64 (es.length : Int)) w
      unfold Builtin.len_
      simp only [h0]
      simp [run_underlying hu, goInt, run_getMap hg]
  | _ => exact no1
theorem cap_ok (t : TypeId) {ts : Array TypeId} (h0 : ts[0]? = some t) (ty : TypeId) : Ok1 P (capH P t).f (fun x => Builtin.cap_ ts ty #[x]) := by
  unfold capH
  cases hd : tU P t with
  | array n el =>
    intro X s h w x k R hx e
    obtain ⟨hu, _⟩ := tU_und hd (by simp)
    refine ok_pure R (v := .int .i64 (.ofNat n)) e ?_ trivial
    show (Builtin.cap_ ts ty #[cv s x]).run P w = .ok (.int .i64 (n : Int)) w
    unfold Builtin.cap_
    simp only [h0]
    simp [run_underlying hu, goInt]
  | slice el =>
    intro X s h w x k R hx e
    obtain ⟨hu, _⟩ := tU_und hd (by simp)
    cases x <;> try exact absurd e Bool.false_ne_true
    all_goals
      refine ok_pure R e ?_ trivial
      show (Builtin.cap_ ts ty #[.slice _ _ _]).run P w = .ok (.int .i64 _) w
      unfold Builtin.cap_
      simp only [h0]
      simp [run_underlying hu, goInt]
      try rfl
  | _ => exact no1
/-! ## complex numbers -/
theorem cplx_ok (ts : Array TypeId) (ty : TypeId) : Ok2 P cplxC (fun x y => Builtin.complex_ ts ty #[x, y]) := by
  intro X s h w x y k R hx hy e
  obtain ⟨q, a, rfl, e1⟩ := isF_true (v := x) e
  obtain ⟨r, b, rfl, e2⟩ := isF_true (v := y) e1
  obtain ⟨hq, e3⟩ := bif_true e2
  obtain rfl := feq_true hq
  refine ok_pure R e3 ?_ trivial
  show (Builtin.complex_ ts ty #[.float q a, .float q b]).run P w = .ok (.complex q a b) w
  cases q <;> rfl
theorem real_ok (ts : Array TypeId) (ty : TypeId) : Ok1 P realC (fun x => Builtin.real_ ts ty #[x]) := by
  intro X s h w x k R hx e
  obtain ⟨q, a, b, rfl, e1⟩ := isC_true e
  exact ok_pure R e1 rfl trivial
theorem imag_ok (ts : Array TypeId) (ty : TypeId) : Ok1 P imagC (fun x => Builtin.imag_ ts ty #[x]) := by
  intro X s h w x k R hx e
  obtain ⟨q, a, b, rfl, e1⟩ := isC_true e
  exact ok_pure R e1 rfl trivial
/-! ## max and min -/
def Two (P : Program) (f : AV → AV → (AV → Bool) → Bool) (m : Value → Value → Sem Value) : Prop :=
  ∀ (s : Sig) (n : Nat) (x y : AV) (k : AV → Bool), f x y k = true → ∃ v, k v = true ∧ Wf s n v ∧ ∀ w, (m (cv s x) (cv s y)).run P w = .ok (cv s v) w
theorem max2_ok : Two P max2 Builtin.max2 := by
  intro s n x y k e
  obtain ⟨q, a, rfl, e1⟩ := isI_true (v := x) e
  obtain ⟨r, b, rfl, e2⟩ := isI_true (v := y) e1
  have e3 : (Bool.rec (motive := fun _ => Bool) (k (.int q a)) (k (.int q b)) (ilt a b)) = true := e2
  rw [ilt_eq] at e3
  by_cases hlt : a < b
  · rw [decide_eq_true hlt] at e3
    exact ⟨_, e3, trivial, fun w => by show (Builtin.max2 (.int q a) (.int r b)).run P w = .ok (.int q b) w; simp [Builtin.max2, hlt]⟩
  · rw [decide_eq_false hlt] at e3
    exact ⟨_, e3, trivial, fun w => by show (Builtin.max2 (.int q a) (.int r b)).run P w = .ok (.int q a) w; simp [Builtin.max2, hlt]⟩
theorem min2_ok : Two P min2 Builtin.min2 := by
  intro s n x y k e
  cases x <;> try exact absurd e Bool.false_ne_true
  · rename_i q a
    obtain ⟨r, b, rfl, e2⟩ := isI_true (v := y) e
    have e3 : (Bool.rec (motive := fun _ => Bool) (k (.int q a)) (k (.int q b)) (ilt b a)) = true := e2
    rw [ilt_eq] at e3
    by_cases hlt : b < a
    · rw [decide_eq_true hlt] at e3
      exact ⟨_, e3, trivial, fun w => by show (Builtin.min2 (.int q a) (.int r b)).run P w = .ok (.int q b) w; simp [Builtin.min2, hlt]⟩
    · rw [decide_eq_false hlt] at e3
      exact ⟨_, e3, trivial, fun w => by show (Builtin.min2 (.int q a) (.int r b)).run P w = .ok (.int q a) w; simp [Builtin.min2, hlt]⟩
  · rename_i q a
    obtain ⟨r, b, rfl, e2⟩ := isF_true (v := y) e
    obtain ⟨o, ho, e3⟩ := onO_true e2
    cases o with
    | lt => exact ⟨.flt q a, e3, trivial, fun w => by show (Builtin.min2 (.float q a) (.float r b)).run P w = .ok (.float q a) w; simp [Builtin.min2, ho]⟩
    | gt => exact ⟨.flt q b, e3, trivial, fun w => by show (Builtin.min2 (.float q a) (.float r b)).run P w = .ok (.float q b) w; simp [Builtin.min2, ho]⟩
    | eq =>
      have e4 : (Bool.rec (motive := fun _ => Bool) (k (.flt q b)) (k (.flt q a)) (q.decode a).neg) = true := e3
      cases hn : (q.decode a).neg with
      | true => rw [hn] at e4; exact ⟨.flt q a, e4, trivial, fun w => by show (Builtin.min2 (.float q a) (.float r b)).run P w = .ok (.float q a) w; simp [Builtin.min2, ho, hn]⟩
      | false => rw [hn] at e4; exact ⟨.flt q b, e4, trivial, fun w => by show (Builtin.min2 (.float q a) (.float r b)).run P w = .ok (.float q b) w; simp [Builtin.min2, ho, hn]⟩
theorem fold_ok {f : AV → AV → (AV → Bool) → Bool} {m : Value → Value → Sem Value} (hf : Two P f m) (s : Sig) (n : Nat) : ∀ (l : List AV) (x : AV) (k : AV → Bool), Wf s n x → foldK f l x k = true →
    ∃ v, k v = true ∧ Wf s n v ∧ ∀ w, ((cvL s l).foldlM m (cv s x)).run P w = .ok (cv s v) w
  | [], x, k, hx, e => ⟨x, e, hx, fun w => rfl⟩
  | y :: l, x, k, hx, e => by
    obtain ⟨v, hk, hv, hr⟩ := hf s n x y (fun v => foldK f l v k) e
    obtain ⟨u, hk', hu, hr'⟩ := fold_ok hf s n l v k hv hk
    refine ⟨u, hk', hu, fun w => ?_⟩
    show ((cv s y :: cvL s l).foldlM m (cv s x)).run P w = _
    rw [List.foldlM_cons, Sem.run_bind, hr w, Result.andThen_ok, hr' w]
theorem foldC_true {f : AV → AV → (AV → Bool) → Bool} {m : Value → Value → Sem Value} (hf : Two P f m) (R : Rel P X s h w) {l : List AV} {k : K} (hl : WfL s h.nx l) (e : foldC f l h k = true) :
    ∃ x r, l = x :: r ∧ Good P X s h w k ((cvL s r).foldlM m (cv s x)) := by
  cases l with
  | nil => exact absurd e Bool.false_ne_true
  | cons x r =>
    obtain ⟨v, hk, hv, hr⟩ := fold_ok hf s h.nx r x (fun v => k v h) hl.1 e
    exact ⟨x, r, rfl, ok_pure R hk (hr w) hv⟩
theorem max_ok (ts : Array TypeId) (ty : TypeId) (R : Rel P X s h w) {l : List AV} {k : K} (hl : WfL s h.nx l) (e : foldC max2 l h k = true) : Good P X s h w k (Builtin.max_ ts ty (cvL s l).toArray) := by
  obtain ⟨x, r, rfl, hg⟩ := foldC_true max2_ok R hl e
  exact hg
theorem min_ok (ts : Array TypeId) (ty : TypeId) (R : Rel P X s h w) {l : List AV} {k : K} (hl : WfL s h.nx l) (e : foldC min2 l h k = true) : Good P X s h w k (Builtin.min_ ts ty (cvL s l).toArray) := by
  obtain ⟨x, r, rfl, hg⟩ := foldC_true min2_ok R hl e
  exact hg
/-! ## functions, iterators, maps made -/
theorem mkFn_ok (R : Rel P X s h w) {f : Fn} {a b : List AV} {k : K} (ha : WfL s h.nx a) (hb : WfL s h.nx b) (e : mkFn f a.length (a ++ b) h k = true) :
    Good P X s h w k (Instr.makeFunc f (cvL s a).toArray (cvL s b).toArray) := by
  obtain ⟨_, e1⟩ := ltakeK_true _ _ _ e
  rw [ldrop_eq, List.take_left, List.drop_left] at e1
  exact ok_pure R e1 rfl ⟨ha, hb⟩
theorem makeMap_ok (t : TypeId) (R : Rel P X s h w) {k : K} (e : allocK h (.gmap [] (nat_lit 0) true) (fun i => .map i) k = true) : GoodE P X s h w k (Instr.makeMap t none) := by
  have e1 := allocK_true e
  obtain ⟨R', A'⟩ := R.alloc (b := .gmap [] 0 true) (o := .map #[] 0) 0 ⟨fun e he => absurd he (by simp), by rw [upd_self]; exact alloc_heap w _⟩
  refine .inl ⟨_, _, e1, _, _, ?_, R', A', Nat.lt_succ_self _⟩
  simp only [Instr.makeMap, Sem.run_bind, Sem.run_pure, Result.andThen_ok, run_newObj_alloc]
  simp [cv, upd_self]
theorem range_ok {t : TypeId} (hd : tU P t = .string) : Ok1E P rangeC (Instr.range t) := by
  intro X s h w x k R hx e
  obtain ⟨l, rfl, e1⟩ := isS_true e
  have e2 := allocK_true e1
  obtain ⟨hu, _⟩ := tU_und hd (by simp)
  obtain ⟨R', A'⟩ := R.alloc (b := .strIter l 0) (o := .stringIter (bys l) 0) 0 ⟨hx, by rw [upd_self], by rw [upd_self]; exact alloc_heap w _⟩
  refine .inl ⟨_, _, e2, _, _, ?_, R', A', Nat.lt_succ_self _⟩
  show (Instr.range t (.string (bys l))).run P w = _
  simp only [Instr.range, Sem.run_bind, run_underlying hu, Sem.run_pure, Result.andThen_ok, run_newObj_alloc]
  simp [cv, upd_self]
theorem nilChk_ok (R : Rel P X s h w) {x : AV} {k : K} (hx : Wf s h.nx x) (e : nilChk x h k = true) : k x h = true ∧ ((∃ b o, x = .ptr b o) ∨ ∃ g a b, x = .fn (.func g) a b) := by
  cases x <;> try exact absurd e Bool.false_ne_true
  · exact ⟨e, .inl ⟨_, _, rfl⟩⟩
  · rename_i f a b
    cases f <;> try exact absurd e Bool.false_ne_true
    exact ⟨e, .inr ⟨_, _, _, rfl⟩⟩
end Go.Rk

namespace Go.Rk
open Go
set_option linter.unusedSectionVars false
variable [Nt] [Nu]
variable {P : Program} {X : Nat → Prop} {s : Sig} {h : AH} {w : World}
/-! ## rows of zeros -/
theorem repl_get (z : List AV) : ∀ (n i : Nat), i < n * z.length → (repl z n)[i]? = z[i % z.length]?
  | 0, i, hi => by omega
  | n + 1, i, hi => by
    show (lapp z (repl z n))[i]? = _
    rw [lapp_eq]
    by_cases h : i < z.length
    · rw [List.getElem?_append_left h, Nat.mod_eq_of_lt h]
    · have h' : z.length ≤ i := Nat.le_of_not_lt h
      rw [List.getElem?_append_right h', repl_get z n (i - z.length) (by rw [Nat.succ_mul] at hi; omega)]
      congr 1
      conv => rhs; rw [← Nat.sub_add_cancel h', Nat.add_mod_right]
theorem zeros_eq (s : Sig) (z : List AV) (n : Nat) : (Array.range (n * z.length)).map (fun i => (cvL s z).toArray[i % (cvL s z).toArray.size]!) = (cvL s (repl z n)).toArray := by
  apply Array.ext_getElem?
  intro i
  have hR : (cvL s (repl z n)).toArray[i]? = (repl z n)[i]?.map (cv s) := by rw [List.getElem?_toArray, cvL_get]
  rw [Array.getElem?_map, hR]
  by_cases hi : i < n * z.length
  · rw [repl_get z n i hi]
    have hz : 0 < z.length := by
      rcases Nat.eq_zero_or_pos z.length with h | h
      · rw [h] at hi; simp at hi
      · exact h
    have hm : i % z.length < z.length := Nat.mod_lt _ hz
    rw [Array.getElem?_range]
    simp only [hi, if_true, Option.map_some, List.size_toArray, cvL_length]
    rw [List.getElem?_eq_getElem hm]
    simp only [Option.map_some]
    congr 1
    have : (cvL s z).toArray[i % z.length]? = some (cv s (z[i % z.length])) := by
      rw [List.getElem?_toArray, cvL_get, List.getElem?_eq_getElem hm]; rfl
    rw [getElem!_def, this]
  · have h1 : (Array.range (n * z.length))[i]? = none := by
      apply Array.getElem?_eq_none; simp; omega
    rw [h1]
    have : (repl z n)[i]? = none := List.getElem?_eq_none (by rw [repl_length]; omega)
    rw [this]; rfl
theorem repl_wf {n : Nat} {z : List AV} (hz : WfL s n z) : ∀ m, WfL s n (repl z m)
  | 0 => trivial
  | m + 1 => by
    show WfL s n (lapp z (repl z m))
    rw [lapp_eq]
    exact hz.app (repl_wf hz m)
theorem run_zeroCells (s : Sig) {e : TypeId} (hz : zeroOk P e = true) : (do pure (← zeroValue e).cells : Sem (Array Value)).run P w = .ok (cvL s (tZero P e).cells).toArray w := by
  simp only [Sem.run_bind, run_zeroValue' s hz, Result.andThen_ok, Sem.run_pure]
  congr 1
  rw [← cv_cells s (tZero P e) (tZero_not_opq P e)]
theorem tElem_true {t e : TypeId} (h : tElem P t = some e) : tU P t = .slice e := by
  unfold tElem at h
  cases hd : tU P t with
  | slice el => rw [hd] at h; cases h; rfl
  | _ => rw [hd] at h; cases h
theorem run_bslice [Fit P] {t e : TypeId} {n : Nat} (he : tElem P t = some e) (hz : zeroOk P e = true) (hsz : Nat.ble (Nat.mul n (tSize P e)) 16777216 = true) {ps : List Nat} {vs cs : List AV}
    (parts : Array (Nat × Value)) (hp : parts.toList = ps.zip (cvL s vs)) (hf : Instr.fill (fun i => some (Nat.mul i (tSize P e), tSize P e)) (cvL s (repl (tZero P e).cells n)).toArray (ps.zip (cvL s vs)) = some (cvL s cs).toArray) (w : World) :
    (Instr.buildSlice t n parts).run P w = .ok (.slice (some ⟨w.heap.size, 0, none⟩) n n) (w.alloc (.cells (cvL s cs).toArray e)) := by
  have hd := tElem_true he
  obtain ⟨hu, _⟩ := tU_und hd (by simp)
  have hlen := zero_len (P := P) hz
  unfold Instr.buildSlice
  have hle := Nat.ble_eq.mp hsz
  have hle' : ¬ (n * tSize P e > 2 ^ 24) := by
    have : Nat.mul n (tSize P e) = n * tSize P e := rfl
    omega
  have hrow : ∀ zs : Array Value, (n * tSize P e = 0 ∨ zs = (cvL s (tZero P e).cells).toArray) → (Array.range (n * tSize P e)).map (fun i => zs[i % zs.size]!) = (cvL s (repl (tZero P e).cells n)).toArray := by
    intro zs hzs
    rw [← zeros_eq s (tZero P e).cells n, hlen]
    rcases hzs with h0 | h0
    · rw [h0]; simp
    · rw [h0]
  have hf' : Instr.fill (fun i => some (i * tSize P e, tSize P e)) (cvL s (repl (tZero P e).cells n)).toArray (ps.zip (cvL s vs)) = some (cvL s cs).toArray := hf
  simp only [Sem.run_bind, run_underlying hu, Result.andThen_ok, run_sizeOf' (fit_slice hd), if_neg hle', Sem.run_pure, hp]
  by_cases h0 : n * tSize P e = 0
  · rw [if_pos h0]
    simp only [Sem.run_bind, Result.andThen_ok, Sem.run_pure, hrow #[] (.inl h0), hf', newRow, run_newObj_alloc]
  · rw [if_neg h0]
    have hzc : (cv s (tZero P e)).cells = (cvL s (tZero P e).cells).toArray := by rw [← cv_cells s (tZero P e) (tZero_not_opq P e)]
    simp only [Sem.run_bind, run_zeroValue' s hz, Result.andThen_ok, Sem.run_pure, hzc, hrow _ (.inr rfl), hf', newRow, run_newObj_alloc]
theorem bslice_ok [Fit P] {t e : TypeId} {n : Nat} (he : tElem P t = some e) (hz : zeroOk P e = true) (hsz : Nat.ble (Nat.mul n (tSize P e)) 16777216 = true) (R : Rel P X s h w) {ps : List Nat} {vs : List AV} {k : K}
    (hv : WfL s h.nx vs) (ek : bslC P e n ps vs h k = true) (parts : Array (Nat × Value)) (hp : parts.toList = ps.zip (cvL s vs)) : GoodE P X s h w k (Instr.buildSlice t n parts) := by
  have hlen := zero_len (P := P) hz
  obtain ⟨cs, hk, hwf, hl, hf⟩ := fillK_true ps _ vs _ (repl_wf (zero_wf s h.nx hz).cells n) hv ek
  rw [repl_length, hlen] at hl
  refine row_good R n hwf hl.symm hk ?_ (Nat.lt_succ_self _)
  rw [run_bslice he hz hsz parts hp hf w]
  simp [cv, upd_self]
theorem run_getIter {r : Nat} {l : ByteArray} {c : Nat} (h : w.heap[r]? = some (.stringIter l c)) : (getObj r).run P w = .ok (.stringIter l c) w := by
  simp only [getObj, Sem.run, h]
theorem run_setIter {r : Nat} {l : ByteArray} {c : Nat} {o : Obj} (h : w.heap[r]? = some (.stringIter l c)) : (setObj r o).run P w = .ok () { w with heap := w.heap.setIfInBounds r o } := by
  simp only [setObj, Sem.run, h]
theorem bys_get {l : List Nat} {i b : Nat} (hb : l[i]? = some b) (h256 : b < 256) : ∃ h : i < (bys l).size, ((bys l)[i]'h).toNat = b := by
  have hlt : i < l.length := ltL hb
  have hsz : i < (bys l).size := by rw [bys_size]; exact hlt
  refine ⟨hsz, ?_⟩
  have : (bys l)[i] = (bys l).data[i]'hsz := rfl
  rw [this]
  simp only [bys, List.getElem_toArray, List.getElem_map]
  rw [List.getElem?_eq_getElem hlt] at hb
  cases hb
  rw [UInt8.toNat_ofNat', Nat.mod_eq_of_lt h256]
theorem next_ok (ty : TypeId) : Ok1E P nextC (fun x => Instr.next x true ty) := by
  intro X s h w x k R hx e
  obtain ⟨r, o, rfl, e1⟩ := isP_true e
  cases o with
  | succ o => exact absurd e1 Bool.false_ne_true
  | zero =>
    change nextS h r k = true at e1
    unfold nextS at e1
    cases hb : h.get r with
    | strIter l pos =>
      obtain ⟨hl, ho, hg⟩ := Rel.at (R := R) hb
      rw [hb] at e1
      have e2 : (Option.rec (motive := fun _ => Bool) (k (.tup [.bool false]) h) (fun c => Bool.rec (motive := fun _ => Bool) (k (.tup [.bool true, .int .i64 (.ofNat pos), .int .i32 (.ofNat c)]) (h.put r (.strIter l (Nat.succ pos)))) false (Nat.ble 128 c)) (lnth l pos)) = true := e1
      rw [lnth_eq] at e2
      show GoodE P X s h w k (Instr.next (.pointer (some ⟨(s r).blk, (s r).off + 0, none⟩)) true ty)
      rw [ho]
      cases hc : l[pos]? with
      | none =>
        rw [hc] at e2
        refine okE_pure R (v := .tup [.bool false]) e2 ?_ ⟨trivial, trivial⟩
        have hge : ¬ pos < (bys l).size := by rw [bys_size]; exact Nat.not_lt.2 (List.getElem?_eq_none_iff.1 hc)
        simp [Instr.next, run_getIter hg, hge]
        rfl
      | some c =>
        rw [hc] at e2
        cases hlt : Nat.ble 128 c with
        | true => have e3 : (Bool.rec (motive := fun _ => Bool) (k (.tup [.bool true, .int .i64 (.ofNat pos), .int .i32 (.ofNat c)]) (h.put r (.strIter l (Nat.succ pos)))) false (Nat.ble 128 c)) = true := e2
                  rw [hlt] at e3; exact absurd e3 Bool.false_ne_true
        | false =>
          have e3 : (Bool.rec (motive := fun _ => Bool) (k (.tup [.bool true, .int .i64 (.ofNat pos), .int .i32 (.ofNat c)]) (h.put r (.strIter l (Nat.succ pos)))) false (Nat.ble 128 c)) = true := e2
          rw [hlt] at e3
          have hc128 : c < 128 := by
            rcases Nat.lt_or_ge c 128 with h' | h'
            · exact h'
            · rw [Nat.ble_eq.mpr h'] at hlt; cases hlt
          obtain ⟨hp, hv⟩ := bys_get hc (by omega)
          obtain ⟨R', A'⟩ := R.turn (i := r) (b' := .strIter l (pos + 1)) (by rw [hb]; rfl) (But.set w (s r).blk (.stringIter (bys l) (pos + 1))) ⟨hl, ho, set_at hg⟩
          refine .inl ⟨_, _, e3, s, _, ?_, R', A', ⟨trivial, trivial, trivial, trivial⟩⟩
          have hdec := decode_ascii (bys l) pos hp (by rw [hv]; exact hc128)
          simp [Instr.next, run_getIter hg, hp, hdec, run_setIter hg, hv, goInt]
          rfl
    | _ => rw [hb] at e1; exact absurd e1 Bool.false_ne_true
end Go.Rk
