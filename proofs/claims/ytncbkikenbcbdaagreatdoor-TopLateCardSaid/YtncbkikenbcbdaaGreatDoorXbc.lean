/- The evaluator is right, part 3: operations, code, calls. No condition. -/
import Derived.Laws.AppendOwn
import Derived.Laws.BytesString
import Derived.Orders
import Derived.Scope
import Derived.Test.YtncbkikenbcbdaaGreatDoorXbb
set_option linter.unusedVariables false
set_option linter.unusedSimpArgs false
set_option linter.unusedSectionVars false
set_option linter.constructorNameAsVariable false
namespace Go.Rk
open Go
set_option linter.unusedSectionVars false
variable [Nt] [Nu]
variable {P : Program} {X : Nat → Prop} {s : Sig} {h : AH} {w : World}

theorem Rel.heap (R : Rel P X s h w) {w' : World} (e : w'.heap = w.heap) : Rel P X s h w' := by
  refine ⟨fun i => ?_, R.inj, R.fresh, R.glob, R.nxG, fun k hk => by rw [e]; exact R.dom k hk, R.own, R.look.keep fun k hk => ⟨hk, by rw [e]⟩⟩
  have := R.lies i
  cases hb : h.get i with
  | dead => trivial
  | cells cs el wr => rw [hb] at this; unfold Lies at this ⊢; rw [e]; exact this
  | gmap es c wr => rw [hb] at this; unfold Lies at this ⊢; rw [e]; exact this
  | strIter l p => rw [hb] at this; unfold Lies at this ⊢; rw [e]; exact this
theorem Aft.drew (X : Nat → Prop) (s : Sig) (h : AH) (w : World) : Aft X s h w s h w.drew := ⟨fun _ _ => rfl, Nat.le_refl _, fun _ _ => rfl, Nat.le_refl _, rfl, rfl, rfl, fun _ _ _ => rfl, (Aft.refl X s h w).lv⟩
/-! ## slices read and written -/
theorem takeK_true {b off n : Nat} {k : List AV → Bool} (R : Rel P X s h w) (e : takeK h b off n k = true) :
    ∃ cs el wr, h.get b = .cells cs el wr ∧ n ≤ (cs.drop off).length ∧ k ((cs.drop off).take n) = true := by
  obtain ⟨cs, el, wr, hb, e2⟩ := cellsK_true e
  obtain ⟨hle, e3⟩ := ltakeK_true _ _ _ e2
  rw [ldrop_eq] at hle e3
  exact ⟨cs, el, wr, hb, hle, e3⟩
theorem u8s_wf (s : Sig) (n : Nat) (l : List Nat) : WfL s n (u8s l) := by
  unfold u8s
  rw [lmap_eq]
  exact WfL_iff.2 fun v hv => by obtain ⟨x, _, rfl⟩ := List.mem_map.1 hv; exact trivial
theorem u8s_length (l : List Nat) : (u8s l).length = l.length := by unfold u8s; rw [lmap_eq, List.length_map]
/-- how long a slice or a string is -/
def alen : AV → Nat | .sl _ _ n _ _ => n | .slk _ _ n _ => n | .str l => l.length | _ => 0
theorem lenOf_al {v : AV} {k : Nat → Bool} (e : lenK v k = true) (s : Sig) : k (alen v) = true ∧ ∀ w, (Builtin.lenOf (cv s v)).run P w = .ok (alen v) w := by
  cases v <;> try exact absurd e Bool.false_ne_true
  · rename_i l
    have e2 := forceK_true e
    rw [len_eq] at e2
    exact ⟨e2, fun w => by show (Builtin.lenOf (.string (bys l))).run P w = _; simp [Builtin.lenOf, bys_size, alen]⟩
  · exact ⟨e, fun w => rfl⟩
  · exact ⟨e, fun w => rfl⟩
  · exact ⟨e, fun w => rfl⟩
/-- what stands behind an address, n cells from it on -/
theorem Rel.first (R : Rel P X s h w) {i : Nat} {cs : List AV} {e : Nat} {wr : Bool} (hb : h.get i = .cells cs e wr) (o m : Nat) (hm : m ≤ (cs.drop o).length) {w' : World} (hw : w'.heap = w.heap) :
    (loadCells ⟨(s i).blk, (s i).off + o, none⟩ m).run P w' = .ok (cvL s ((cs.drop o).take m)).toArray w' := (R.heap hw).cells hb o m hm
/-- the first elements of a slice, the bytes of a string -/
theorem slCells_true {sz n : Nat} {x : AV} {k : List AV → Bool} (R : Rel P X s h w) (hx : Wf s h.nx x) (hn : n ≤ alen x) (e : slCells h sz x n k = true) :
    ∃ l, k l = true ∧ WfL s h.nx l ∧ l.length = n * sz ∧ (∀ w', w'.heap = w.heap → (Builtin.firstCells sz n (cv s x)).run P w' = .ok (cvL s l).toArray w') ∧
      (∀ b off len skip alt cs el wr, x = .sl b off len skip alt → h.get b = .cells cs el wr → l = (cs.drop off).take (n * sz)) := by
  cases x <;> try exact absurd e Bool.false_ne_true
  · rename_i a
    obtain ⟨hs1, e1⟩ := bif_true (show (Bool.rec (motive := fun _ => Bool) false (ltakeK n a (fun l => k (u8s l))) (Nat.beq sz 1)) = true from e)
    have hs1' := Nat.eq_of_beq_eq_true hs1
    obtain ⟨hle, e2⟩ := ltakeK_true _ _ _ e1
    refine ⟨_, e2, u8s_wf s _ _, by rw [u8s_length, List.length_take, hs1']; omega, fun w' _ => ?_, fun _ _ _ _ _ _ _ _ hq => by cases hq⟩
    show (Builtin.firstCells sz n (.string (bys a))).run P w' = _
    have hx' : ∀ x ∈ a, x < 256 := hx
    simp only [Builtin.firstCells, Sem.run_pure, bys_extract]
    congr 1
    apply Array.ext'
    simp only [bys, Array.toList_map, u8s, lmap_eq, cvL_eq, List.drop_zero, Nat.sub_zero, List.map_map]
    apply List.map_congr_left
    intro y hy
    have : y < 256 := hx' y (List.mem_of_mem_take hy)
    show Value.int .u8 (((UInt8.ofNat y).toNat : Nat) : Int) = Value.int .u8 (y : Int)
    rw [UInt8.toNat_ofNat', Nat.mod_eq_of_lt this]
  · have hn0 : n = 0 := Nat.le_zero.1 hn
    subst hn0
    exact ⟨[], e, trivial, by simp, fun w' _ => rfl, fun _ _ _ _ _ _ _ _ hq => by cases hq⟩
  · rename_i b off len skip alt
    have e' : (Nat.rec (motive := fun _ => Bool) (k []) (fun m _ => takeK h b off (m + 1) k) (n * sz)) = true := e
    cases hm : n * sz with
    | zero =>
      rw [hm] at e'
      refine ⟨[], e', trivial, rfl, fun w' _ => ?_, fun _ _ _ _ _ _ _ _ _ _ => by simp⟩
      show (Builtin.firstCells sz n (.slice (some _) len _)).run P w' = _
      simp only [Builtin.firstCells, hm]
      rfl
    | succ m =>
      rw [hm] at e'
      obtain ⟨cs, el, wr, hb, hle, e2⟩ := takeK_true R e'
      refine ⟨_, e2, (R.cellsWf hb).drop.take, by rw [List.length_take]; omega, fun w' hw => ?_, fun _ _ _ _ _ cs' _ _ hq hb' => by cases hq; rw [hb] at hb'; cases hb'; rfl⟩
      have hpos : 0 < n := by
        rcases Nat.eq_zero_or_pos n with h0 | h0
        · subst h0; simp at hm
        · exact h0
      have hc : (s b).cap ≠ skip := by have := hx.2; have : n ≤ len := hn; omega
      show (Builtin.firstCells sz n (.slice (some ⟨(s b).blk, (s b).off + (if (s b).cap = skip then alt else off), none⟩) len _)).run P w' = _
      rw [if_neg hc]
      simp only [Builtin.firstCells, hm]
      exact R.first hb off (m + 1) hle hw
  · rename_i b off len cap
    have e' : (Nat.rec (motive := fun _ => Bool) (k []) (fun m _ => takeK h b off (m + 1) k) (n * sz)) = true := e
    cases hm : n * sz with
    | zero =>
      rw [hm] at e'
      refine ⟨[], e', trivial, rfl, fun w' _ => ?_, fun _ _ _ _ _ _ _ _ hq => by cases hq⟩
      show (Builtin.firstCells sz n (.slice (some _) len _)).run P w' = _
      simp only [Builtin.firstCells, hm]
      rfl
    | succ m =>
      rw [hm] at e'
      obtain ⟨cs, el, wr, hb, hle, e2⟩ := takeK_true R e'
      refine ⟨_, e2, (R.cellsWf hb).drop.take, by rw [List.length_take]; omega, fun w' hw => ?_, fun _ _ _ _ _ _ _ _ hq => by cases hq⟩
      show (Builtin.firstCells sz n (.slice (some ⟨(s b).blk, (s b).off + off, none⟩) len _)).run P w' = _
      simp only [Builtin.firstCells, hm]
      exact R.first hb off (m + 1) hle hw

/-! ## append -/
/-- what is appended: m elements, these cells, in every world of that heap -/
structure NewsS (P : Program) (sz : Nat) (tx : TypeId) (xv : Value) (m : Nat) (news : List Value) (w : World) : Prop where
  kind : (∃ e', P.underlying tx = some (.slice e')) ∨ P.underlying tx = some .string
  len : ∀ w', (Builtin.lenOf xv).run P w' = .ok m w'
  cells : ∀ w' : World, w'.heap = w.heap → (Builtin.firstCells sz m xv).run P w' = .ok news.toArray w'
/-- or m elements that are zero -/
structure NewsZ (P : Program) (sz : Nat) (e tx : TypeId) (xv : Value) (m : Nat) (news : List Value) : Prop where
  kind : ∃ q, P.underlying tx = some (.int q)
  val : ∃ q, xv = .int q (m : Int)
  small : m ≤ 1099511627776
  bytes : ∀ i, P.info? e = some i → m * i.bytes ≤ 1099511627776
  cells : (m * sz = 0 ∧ news = []) ∨ (m * sz ≠ 0 ∧ ∃ i z, P.info? e = some i ∧ i.zero = some z ∧ Builtin.zeroCells z.cells m = news.toArray)
def News (P : Program) (sz : Nat) (e tx : TypeId) (xv : Value) (m : Nat) (news : List Value) (w : World) : Prop := (NewsS P sz tx xv m news w ∨ NewsZ P sz e tx xv m news) ∧ news.length = m * sz
theorem wrap64_nat {n : Nat} (h : n ≤ 1099511627776) : IntKind.i64.wrap (n : Int) = (n : Int) := by
  rw [wrap_nat]
  have h1 : n % kmod .i64 = n := Nat.mod_eq_of_lt (Nat.lt_of_le_of_lt h (by decide))
  rw [h1, if_neg (fun hle => by have := Nat.le_trans hle h; revert this; decide)]
  rfl
section
variable {t tx ty e : TypeId} {i : TypeInfo} {z : Value}
theorem NewsZ.over {sz m : Nat} {xv : Value} {news : List Value} (hs : NewsZ P sz e tx xv m news) (hi : P.info? e = some i) : ¬ (281474976710656 < (m : Int) * (i.bytes : Int)) := by
  have := hs.bytes i hi
  have h : ((m * i.bytes : Nat) : Int) ≤ 1099511627776 := by omega
  rw [Int.natCast_mul] at h
  omega
theorem run_append_room' (ht : P.underlying t = some (.slice e)) (hi : P.info? e = some i) {a : Addr} {n cap m : Nat} {xv : Value} {news : List Value} (hs : News P i.size e tx xv m news w) (hroom : n + m ≤ cap) :
    (Builtin.append_ #[t, tx] ty #[.slice (some a) n cap, xv]).run P w = ((storeCells (a.add (n * i.size)) news).run P w).andThen fun _ w' => .ok (.slice (some a) (n + m) cap) w' := by
  obtain ⟨hs | hs, _⟩ := hs
  · rcases hs.kind with ⟨e', hk⟩ | hk <;> simp [Builtin.append_, run_underlying ht, run_underlying hk, sizeOf, typeInfo, hi, hs.len, hroom, hs.cells w rfl]
  · obtain ⟨q, hk⟩ := hs.kind
    obtain ⟨q', rfl⟩ := hs.val
    have n2 := hs.over hi
    have n3 : ¬ (m : Int) < 0 := by omega
    rcases hs.cells with ⟨h0, rfl⟩ | ⟨h0, i', z, hi', hz, hc⟩
    · simp [Builtin.append_, run_underlying ht, run_underlying hk, sizeOf, typeInfo, hi, asInt, asIntOf, wrap64_nat hs.small, n2, n3, hroom, h0]
    · rw [hi] at hi'; cases hi'
      simp [Builtin.append_, run_underlying ht, run_underlying hk, sizeOf, typeInfo, hi, asInt, asIntOf, wrap64_nat hs.small, n2, n3, hroom, h0, zeroValue, hz, hc]
theorem run_append_none (ht : P.underlying t = some (.slice e)) (hi : P.info? e = some i) {xv : Value} {news : List Value} (hs : News P i.size e tx xv 0 news w) :
    (Builtin.append_ #[t, tx] ty #[.slice none 0 0, xv]).run P w = .ok (.slice none 0 0) w := by
  obtain ⟨hs | hs, _⟩ := hs
  · rcases hs.kind with ⟨e', hk⟩ | hk <;> simp [Builtin.append_, run_underlying ht, run_underlying hk, sizeOf, typeInfo, hi, hs.len, hs.cells w rfl]
  · obtain ⟨q, hk⟩ := hs.kind
    obtain ⟨q', rfl⟩ := hs.val
    have hw0 : IntKind.i64.wrap 0 = 0 := wrap64_nat (n := 0) (by decide)
    simp [Builtin.append_, run_underlying ht, run_underlying hk, sizeOf, typeInfo, hi, asInt, asIntOf, hw0]
theorem run_append_grow' (ht : P.underlying t = some (.slice e)) (hi : P.info? e = some i) (hz : i.zero = some z) {base : Option Addr} {n cap m : Nat} {xv : Value} {olds news : List Value}
    (hold : ∀ w' : World, w'.heap = w.heap → (Builtin.firstCells i.size n (.slice base n cap)).run P w' = .ok olds.toArray w') (hs : News P i.size e tx xv m news w)
    (hg : cap < n + m) (h63 : ((n + m : Nat) : Int) ≤ 9223372036854775807) (hfit : Builtin.nextslicecap (n + m) cap * i.bytes ≤ 281474976710656) :
    (Builtin.append_ #[t, tx] ty #[.slice base n cap, xv]).run P w = .ok (.slice (some ⟨w.heap.size, 0, none⟩) (n + m) (grownCap w (n + m) cap e))
      (w.drew.alloc (.cells ((olds ++ news).toArray ++ Builtin.zeroCells z.cells (grownCap w (n + m) cap e - (n + m))) e)) := by
  have hn : ¬ (n + m ≤ cap) := by omega
  have h63' : ¬ (9223372036854775807 < ((n : Int) + (m : Int))) := by omega
  have h48' : ¬ (281474976710656 < Builtin.nextslicecap (n + m) cap * i.bytes) := by omega
  obtain ⟨hs | hs, _⟩ := hs
  · rcases hs.kind with ⟨e', hk⟩ | hk <;>
    (simp [Builtin.append_, run_underlying ht, run_underlying hk, sizeOf, typeInfo, zeroValue, hi, hz, hs.len, hn, h63', h48', Question.forced, hs.cells w.drew rfl, hold w.drew rfl, newRow, grownCap]
     congr 2
     apply Array.ext'
     simp [List.append_assoc])
  · obtain ⟨q, hk⟩ := hs.kind
    obtain ⟨q', rfl⟩ := hs.val
    have n2 := hs.over hi
    have n3 : ¬ (m : Int) < 0 := by omega
    rcases hs.cells with ⟨h0, rfl⟩ | ⟨h0, i', z', hi', hz', hc⟩
    · simp [Builtin.append_, run_underlying ht, run_underlying hk, sizeOf, typeInfo, hi, asInt, asIntOf, wrap64_nat hs.small, n2, n3, h0, zeroValue, hz, hn, h63', h48', Question.forced, hold w.drew rfl, newRow, grownCap]
    · rw [hi] at hi'; cases hi'
      rw [hz] at hz'; cases hz'
      simp [Builtin.append_, run_underlying ht, run_underlying hk, sizeOf, typeInfo, hi, asInt, asIntOf, wrap64_nat hs.small, n2, n3, h0, zeroValue, hz, hc, hn, h63', h48', Question.forced, hold w.drew rfl, newRow, grownCap]
      try
        congr 2
        apply Array.ext'
        simp [List.append_assoc]
theorem growK_true {sz eb n m : Nat} {sv : AV} {new : List AV} {h0 : AH} {w : World} {k : K} (R : Rel P X s h0 w) (hsv : Wf s h0.nx sv) (hn : n ≤ alen sv) (he : growK e sz eb n m sv new h0 h k = true) :
    ∃ old, WfL s h0.nx old ∧ old.length = n * sz ∧ (∀ w', w'.heap = w.heap → (Builtin.firstCells sz n (cv s sv)).run P w' = .ok (cvL s old).toArray w') ∧ (n + m) * (eb + 1) ≤ 1099511627776 ∧
      (∀ b off len skip alt cs el wr, sv = .sl b off len skip alt → h0.get b = .cells cs el wr → old = (cs.drop off).take (n * sz)) ∧ allocK h (.cells (old ++ new) e true) (fun i => .sl i 0 (n + m) 0 0) k = true := by
  obtain ⟨old, hk, h1, h2, h3, h6⟩ := slCells_true R hsv hn he
  have hk' := forceK_true hk
  obtain ⟨hle, hk2⟩ := bif_true hk'
  rw [lapp_eq] at hk2
  exact ⟨old, h1, h2, h3, Nat.ble_eq.mp hle, h6, hk2⟩
theorem zeroInfo (hz : zeroOk P e = true) : ∃ i z, P.info? e = some i ∧ i.zero = some z ∧ z.cells.size = i.size ∧ i.size = tSize P e ∧ i.bytes = tBytes P e := by
  obtain ⟨i, z, hi, hzz, _, hs⟩ := zeroOk_true hz
  refine ⟨i, z, hi, hzz, hs, ?_, ?_⟩
  · unfold tSize; rw [hi]
  · unfold tBytes; rw [hi]
/-- a new row is made, and the cells go over to it -/
theorem grow_good {n m cap : Nat} {old new : List AV} {base : Option Addr} {xv : Value} {k : K} (ht : P.underlying t = some (.slice e)) (hz : zeroOk P e = true) (R : Rel P X s h w)
    (hold : ∀ w' : World, w'.heap = w.heap → (Builtin.firstCells (tSize P e) n (.slice base n cap)).run P w' = .ok (cvL s old).toArray w') (hs : News P (tSize P e) e tx xv m (cvL s new) w)
    (how : WfL s h.nx old) (hnw : WfL s h.nx new) (hol : old.length = n * tSize P e) (hg : cap < n + m) (hle : (n + m) * (tBytes P e + 1) ≤ 1099511627776)
    (hk : allocK h (.cells (old ++ new) e true) (fun i => .sl i 0 (n + m) 0 0) k = true) : GoodE P X s h w k (Builtin.append_ #[t, tx] ty #[.slice base n cap, xv]) := by
  obtain ⟨i, z, hi, hzz, hzs, hsz, hby⟩ := zeroInfo hz
  rw [← hsz] at hold hs hol
  rw [← hby] at hle
  have hle1 : (n + m) * i.bytes ≤ 1099511627776 := Nat.le_trans (Nat.mul_le_mul_left _ (Nat.le_succ _)) hle
  have hle2 : n + m ≤ 1099511627776 := Nat.le_trans (Nat.le_mul_of_pos_right _ (Nat.succ_pos _)) hle
  have hrun := run_append_grow' (ty := ty) ht hi hzz hold hs hg (by omega) (growslice_fits hg (by omega))
  have hge := grownCap_ge w (n + m) cap e
  generalize grownCap w (n + m) cap e = cap' at *
  have hC : (cvL s old ++ cvL s new).toArray ++ Builtin.zeroCells z.cells (cap' - (n + m)) = (cvL s old ++ cvL s new ++ (Builtin.zeroCells z.cells (cap' - (n + m))).toList).toArray := by
    apply Array.ext'; simp
  rw [hC] at hrun
  have hnl := hs.2
  rw [cvL_length] at hnl
  have hlen : (cvL s old ++ cvL s new ++ (Builtin.zeroCells z.cells (cap' - (n + m))).toList).length = cap' * i.size := by
    have hzl : (Builtin.zeroCells z.cells (cap' - (n + m))).toList.length = (cap' - (n + m)) * z.cells.size := by rw [Array.length_toList, size_zeroCells]
    rw [List.length_append, List.length_append, cvL_length, cvL_length, hzl, hol, hnl, hzs, ← Nat.add_mul, ← Nat.add_mul]
    congr 1; omega
  have R1 : Rel P X s h w.drew := R.heap rfl
  obtain ⟨R', A'⟩ := R1.newRow (cs := old ++ new) (e := e) (cvL s old ++ cvL s new ++ (Builtin.zeroCells z.cells (cap' - (n + m))).toList) cap' (how.app hnw) (fun k v hk => by
      have : (cvL s old ++ cvL s new)[k]? = some (cv s v) := by rw [← cvL_app, cvL_get, hk]; rfl
      rw [List.getElem?_append_left (ltL this)]; exact this)
    (by rw [hlen, hsz]) (by rw [hlen, List.length_append, hol, hnl, ← Nat.add_mul]; exact Nat.mul_le_mul_right _ hge)
  refine .inl ⟨_, _, allocK_true hk, _, _, ?_, R', (Aft.drew X s h w).trans A', ?_⟩
  · rw [hrun]
    simp [cv, upd_self]
  · refine ⟨Nat.lt_succ_self _, ?_⟩
    rw [upd_self]
    show 0 + (n + m) ≤ cap'
    omega
end
end Go.Rk

namespace Go.Rk
open Go
set_option linter.unusedSectionVars false
variable [Nt] [Nu]
variable {P : Program} {X : Nat → Prop} {s : Sig} {h : AH} {w : World}
section
variable {t tx ty e : TypeId}
theorem ownE_true {b : Nat} {k : Bool} (he : ownE h b e k = true) : ∃ cs, h.get b = .cells cs e true ∧ k = true := by
  unfold ownE at he
  cases hb : h.get b with
  | cells cs el wr =>
    rw [hb] at he
    obtain ⟨h1, h2⟩ := bif_true (show (Bool.rec (motive := fun _ => Bool) false k (and wr (Nat.beq el e))) = true from he)
    obtain ⟨h3, h4⟩ := and_true' h1
    have := Nat.eq_of_beq_eq_true h4
    subst this; subst h3
    exact ⟨cs, rfl, h2⟩
  | _ => rw [hb] at he; exact absurd he Bool.false_ne_true
/-- cells are stored behind a slice whose room is not known: its block is let go of, and comes back under a new name -/
theorem reuse (R : Rel P X s h w) {b off n m skip : Nat} {cs old new : List AV} (hb : h.get b = .cells cs e true) (hoff : off = skip * tSize P e) (hold : old = (cs.drop off).take (n * tSize P e)) (hol : old.length = n * tSize P e)
    (hnew : WfL s h.nx new) (hnl : new.length = m * tSize P e) (hone : lall oneV new = true) (hroom : skip + (n + m) ≤ (s b).cap) :
    ∃ w' l, (storeCells ⟨(s b).blk, (s b).off + off + n * tSize P e, none⟩ (cvL s new)).run P w = .ok () w' ∧ l = ⟨(s b).blk, (s b).off + off, (s b).cap - skip⟩ ∧
      Rel P X (upd s h.nx l) ((h.put b .dead).add (.cells (old ++ new) e true)) w' ∧ Aft X s h w (upd s h.nx l) ((h.put b .dead).add (.cells (old ++ new) e true)) w' := by
  obtain ⟨hwf, C, fr, hg, hc, hcap, hlen, hfr⟩ := Rel.at (R := R) hb
  replace hcap := And.intro (hcap.1 rfl) hcap.2
  have hone' : ∀ v ∈ cvL s new, v.oneCell' = true := by
    intro v hv
    rw [cvL_eq] at hv
    obtain ⟨x, hx, rfl⟩ := List.mem_map.1 hv
    exact oneV_true s (lall_true hone x hx)
  have hmul : (skip + (n + m)) * tSize P e ≤ (s b).cap * tSize P e := Nat.mul_le_mul_right _ hroom
  rw [Nat.add_mul, Nat.add_mul] at hmul
  obtain ⟨w', C', hr, hg', hs', hb', hj'⟩ := run_storeCells_row P (s b).blk ((s b).off + off + n * tSize P e) e fr (cvL s new) 0 C w hg (hfr rfl) (by rw [cvL_length, hnl]; omega) hone'
  have hwr : (h.get b).writable = true := by rw [hb]; rfl
  obtain ⟨R1, A1⟩ := R.drop hwr
  have hlive : (h.get b).live = true := by rw [hb]; rfl
  have hold_wf : WfL s h.nx old := by rw [hold]; exact hwf.drop.take
  obtain ⟨R2, A2⟩ := R1.grow (b := .cells (old ++ new) e true) (l := ⟨(s b).blk, (s b).off + off, (s b).cap - skip⟩) (w' := w') (fun k x hk hx => by rw [hb'.heap k hk]; exact hx) (by rw [hb'.size]; exact Nat.le_refl _) hb'.tape hb'.os hb'.output
    (fun j hj hq => by
      rw [AH.get_put] at hj
      by_cases e' : j = b
      · rw [if_pos e'] at hj; cases hj
      · rw [if_neg e'] at hj; exact e' (R.inj j b hj hlive hq))
    (R.own b hwr)
    (by
      refine ⟨(hold_wf.app hnew).ext (Nat.le_succ _) (fun j hj => upd_ne s _ (Nat.ne_of_lt hj)), C', fr, ?_, fun k v hk => ?_, ⟨?_, ?_⟩, ?_, fun _ => by rw [hs']; exact hfr rfl⟩
      · rw [upd_self]; exact hg'
      · rw [upd_self]
        have hwfv : Wf s h.nx v := (hold_wf.app hnew).get hk
        have hcv : cv (upd s h.nx ⟨(s b).blk, (s b).off + off, (s b).cap - skip⟩) v = cv s v := cv_congr (fun j hj => upd_ne s _ (Nat.ne_of_lt hj)) hwfv
        show C'[(s b).off + off + k]? = some (cv (upd s h.nx _) v)
        rw [hcv, hj', cvL_length]
        by_cases hko : k < old.length
        · rw [List.getElem?_append_left hko] at hk
          rw [if_neg (by omega)]
          rw [hold, List.getElem?_take_of_lt (by omega), List.getElem?_drop] at hk
          rw [Nat.add_assoc]
          exact hc _ v hk
        · have hko' : old.length ≤ k := Nat.le_of_not_lt hko
          rw [List.getElem?_append_right hko'] at hk
          have := ltL hk
          rw [if_pos (by omega), cvL_get]
          have : (s b).off + off + k - ((s b).off + off + n * tSize P e + 0) = k - old.length := by omega
          rw [this, hk]; rfl
      · intro _
        rw [upd_self, hs', ← hcap.1]
        show (s b).off + off + ((s b).cap - skip) * tSize P e = _
        rw [hoff, Nat.sub_mul]
        omega
      · rw [upd_self]
        show tSize P e ∣ (s b).off + off
        rw [hoff]
        exact Nat.dvd_add hcap.2 (Nat.dvd_mul_left _ _)
      · rw [upd_self, hs', List.length_append, hol, hnl]
        show (s b).off + off + _ ≤ _
        omega)
  exact ⟨w', _, hr, rfl, R2, A1.trans A2⟩
theorem appK_ok [Fit P] (ht : P.underlying t = some (.slice e)) (hte : e < P.types.size) (hz : zeroOk P e = true) (R : Rel P X s h w) {sv : AV} (hsv : Wf s h.nx sv) {m : Nat} {new : List AV} {xv : Value} {k : K}
    (hnw : WfL s h.nx new) (hs : News P (tSize P e) e tx xv m (cvL s new) w) (he : appK e (tSize P e) (tBytes P e) sv m new h k = true) : GoodE P X s h w k (Builtin.append_ #[t, tx] ty #[cv s sv, xv]) := by
  obtain ⟨i, z, hi, hzz, hzs, hsz, hby⟩ := zeroInfo hz
  have hnl := hs.2
  rw [cvL_length] at hnl
  cases sv <;> try exact absurd he Bool.false_ne_true
  · cases m with
    | zero => exact okE_pure R (v := .nils) he (run_append_none ht hi (hsz ▸ hs)) trivial
    | succ m =>
      obtain ⟨old, h1, h2, h3, h4, h6, h5⟩ := growK_true R hsv (Nat.zero_le _) (show growK e (tSize P e) (tBytes P e) 0 (m + 1) .nils new h h k = true from he)
      exact grow_good ht hz R h3 hs h1 hnw h2 (by omega) h4 h5
  · rename_i b off n skip alt
    obtain ⟨hbn, hbc⟩ := hsv
    cases m with
    | zero =>
      refine okE_pure R (v := .sl b off n skip alt) he ?_ ⟨hbn, hbc⟩
      have hnil : new = [] := List.eq_nil_of_length_eq_zero (by rw [hnl]; simp)
      subst hnil
      have hrun := run_append_room' (ty := ty) ht hi (a := ⟨(s b).blk, (s b).off + (if (s b).cap = skip then alt else off), none⟩) (n := n) (cap := (s b).cap - skip) (hsz ▸ hs) (by omega)
      exact hrun
    | succ m =>
      obtain ⟨hc1, he1⟩ := bif_true (show (Bool.rec (motive := fun _ => Bool) false (ownE h b e (growK e (tSize P e) (tBytes P e) n (m + 1) (.sl b off n skip alt) new h (h.put b .dead) k)) (and (Nat.beq off (Nat.mul skip (tSize P e))) (lall oneV new))) = true from he)
      obtain ⟨hc2, hc3⟩ := and_true' hc1
      have hoff : off = skip * tSize P e := Nat.eq_of_beq_eq_true hc2
      obtain ⟨cs, hb, he2⟩ := ownE_true he1
      obtain ⟨old, h1, h2, h3, h4, h6, h5⟩ := growK_true (n := n) R (sv := .sl b off n skip alt) ⟨hbn, hbc⟩ (Nat.le_refl _) he2
      by_cases hroom : n + (m + 1) ≤ (s b).cap - skip
      · have hcne : (s b).cap ≠ skip := by omega
        have hold := h6 b off n skip alt cs e true rfl hb
        obtain ⟨w', l, hst, hl, R', A'⟩ := reuse R hb hoff hold h2 hnw hnl hc3 (m := m + 1) (by omega)
        refine .inl ⟨_, _, allocK_true h5, _, w', ?_, R', A', ⟨Nat.lt_succ_self _, ?_⟩⟩
        · have happ := run_append_room' (ty := ty) ht hi (a := ⟨(s b).blk, (s b).off + off, none⟩) (n := n) (cap := (s b).cap - skip) (hsz ▸ hs) hroom
          rw [add_at, hsz, hst] at happ
          show (Builtin.append_ #[t, tx] ty #[.slice (some ⟨(s b).blk, (s b).off + (if (s b).cap = skip then alt else off), none⟩) n ((s b).cap - skip), xv]).run P w = _
          rw [if_neg hcne, happ, hl]
          show Result.ok (Value.slice (some ⟨(s b).blk, (s b).off + off, none⟩) (n + (m + 1)) ((s b).cap - skip)) w' = .ok (cv (upd s h.nx ⟨(s b).blk, (s b).off + off, (s b).cap - skip⟩) (.sl h.nx 0 (n + (m + 1)) 0 0)) w'
          simp [cv, upd_self]
        · rw [hl]
          show 0 + (n + (m + 1)) ≤ (upd s h.nx _ h.nx).cap
          rw [upd_self]
          show 0 + (n + (m + 1)) ≤ (s b).cap - skip
          omega
      · have hrun := grow_good (tx := tx) (ty := ty) (n := n) (m := m + 1) (cap := (s b).cap - skip) (base := some ⟨(s b).blk, (s b).off + (if (s b).cap = skip then alt else off), none⟩) ht hz (R.drop (i := b) (by rw [hb]; rfl)).1 h3 hs h1 hnw h2 (by omega) h4 h5
        rcases hrun with ⟨v, h', hk, s', w', hr, R', A', hv⟩ | ha
        · exact .inl ⟨v, h', hk, s', w', hr, R', (R.drop (i := b) (by rw [hb]; rfl)).2.trans A', hv⟩
        · exact .inr ha
  · rename_i b off n cap
    have he' : (Bool.rec (motive := fun _ => Bool) (growK e (tSize P e) (tBytes P e) n m (.slk b off n cap) new h h k) (storeC h b (off + n * tSize P e) new (fun h => k (.slk b off (n + m) cap) h)) (Nat.ble (n + m) cap)) = true := he
    cases hr : Nat.ble (n + m) cap with
    | true =>
      rw [hr] at he'
      obtain ⟨h', w', hk, hrun, R', A', hn⟩ := storeC_true (k := fun h => k (.slk b off (n + m) cap) h) R hnw he'
      refine .inl ⟨_, h', hk, s, w', ?_, R', A', by rw [hn]; exact hsv⟩
      have happ := run_append_room' (ty := ty) ht hi (a := ⟨(s b).blk, (s b).off + off, none⟩) (n := n) (cap := cap) (hsz ▸ hs) (Nat.ble_eq.mp hr)
      rw [add_at, hsz, Nat.add_assoc, hrun] at happ
      exact happ
    | false =>
      rw [hr] at he'
      obtain ⟨old, h1, h2, h3, h4, h6, h5⟩ := growK_true (n := n) R hsv (Nat.le_refl _) he'
      refine grow_good ht hz R h3 hs h1 hnw h2 ?_ h4 h5
      rcases Nat.lt_or_ge cap (n + m) with h' | h'
      · exact h'
      · rw [Nat.ble_eq.mpr h'] at hr; cases hr
end
end Go.Rk

namespace Go.Rk
open Go
set_option linter.unusedSectionVars false
variable [Nt] [Nu]
variable {P : Program} {X : Nat → Prop} {s : Sig} {h : AH} {w : World}
theorem zeroCells_eq (s : Sig) {e : TypeId} (hz : zeroOk P e = true) (n : Nat) : (Builtin.zeroCells (cv s (tZero P e)).cells n) = (cvL s (repl (tZero P e).cells n)).toArray := by
  have hzc : (cv s (tZero P e)).cells = (cvL s (tZero P e).cells).toArray := by rw [← cv_cells s (tZero P e) (tZero_not_opq P e)]
  unfold Builtin.zeroCells
  rw [hzc, ← zeros_eq]
  simp
theorem append_ok [Fit P] (t tx ty : TypeId) : Ok2E P (appendH P t tx).f (fun x y => Builtin.append_ #[t, tx] ty #[x, y]) := by
  unfold appendH
  cases hd : tU P t with
  | slice el =>
    obtain ⟨hu, _⟩ := tU_und hd (by simp)
    show Ok2E P (Bool.rec (motive := fun _ => H2) _ _ (zeroOk P el) : H2).f _
    cases hz : zeroOk P el with
    | false => exact no2E
    | true =>
      have key : ∀ d, tU P tx = d → ((∃ e', d = .slice e') ∨ d = .string) → Ok2E P (appC el (tSize P el) (tBytes P el)) (fun x y => Builtin.append_ #[t, tx] ty #[x, y]) := by
        intro d hd' hk X s h w x y k R hx hy e
        have hk' : (∃ e', P.underlying tx = some (.slice e')) ∨ P.underlying tx = some .string := by
          rcases hk with ⟨e', rfl⟩ | rfl
          · exact .inl ⟨e', (tU_und hd' (by simp)).1⟩
          · exact .inr (tU_und hd' (by simp)).1
        obtain ⟨e1, hlen⟩ := lenOf_al e s (P := P)
        obtain ⟨new, e2, hwf, hnl, hcells, _⟩ := slCells_true R hy (Nat.le_refl _) e1
        exact appK_ok hu (fit_slice hd) hz R hx hwf ⟨.inl ⟨hk', hlen, hcells⟩, by rw [cvL_length]; exact hnl⟩ e2
      show Ok2E P (TypeDesc.rec (motive := fun _ => H2) _ _ _ _ _ _ _ _ _ _ _ _ _ _ _ _ _ (tU P tx) : H2).f _
      cases hd' : tU P tx with
      | slice e' => exact key _ hd' (.inl ⟨e', rfl⟩)
      | string => exact key _ hd' (.inr rfl)
      | int q =>
        intro X s h w x y k R hx hy e
        obtain ⟨q', m, rfl, e1⟩ := isN_true (v := y) e
        obtain ⟨hle, e2⟩ := bif_true e1
        have hle' : m * (tBytes P el + 1) ≤ 1099511627776 := Nat.ble_eq.mp hle
        obtain ⟨i, z, hi, hzz, hzs, hsz, hby⟩ := zeroInfo hz
        have hzl := zero_len (P := P) hz
        refine appK_ok hu (fit_slice hd) hz R hx (repl_wf (zero_wf s h.nx hz).cells m) ⟨.inr ⟨⟨q, (tU_und hd' (by simp)).1⟩, ⟨q', rfl⟩, ?_, fun i' hi' => ?_, ?_⟩, by rw [cvL_length, repl_length, hzl]⟩ e2
        · exact Nat.le_trans (Nat.le_mul_of_pos_right _ (Nat.succ_pos _)) hle'
        · rw [hi] at hi'; cases hi'
          rw [hby]
          exact Nat.le_trans (Nat.mul_le_mul_left _ (Nat.le_succ _)) hle'
        · by_cases h0 : m * tSize P el = 0
          · refine .inl ⟨h0, ?_⟩
            have : (cvL s (repl (tZero P el).cells m)).length = 0 := by rw [cvL_length, repl_length, hzl, h0]
            exact List.eq_nil_of_length_eq_zero this
          · refine .inr ⟨h0, i, z, hi, hzz, ?_⟩
            rw [← zeroCells_eq s hz m]
            have : cv s (tZero P el) = z := by
              obtain ⟨i', z', hi', hz', hv', _⟩ := zeroOk_true hz
              rw [hi] at hi'; cases hi'
              rw [hzz] at hz'; cases hz'
              unfold tZero; simp only [hi, hzz]; exact cv_of s 8 z hv'
            rw [this]
      | _ => exact no2E
  | _ => exact no2E
/-! ## copy, clear, make -/
theorem lenD_al {v : AV} {k : Nat → Bool} (e : lenD v k = true) : k (alen v) = true ∧ (v = .nils ∨ (∃ b o n i j, v = .sl b o n i j) ∨ ∃ b o n c, v = .slk b o n c) := by
  cases v <;> try exact absurd e Bool.false_ne_true
  · exact ⟨e, .inl rfl⟩
  · exact ⟨e, .inr (.inl ⟨_, _, _, _, _, rfl⟩)⟩
  · exact ⟨e, .inr (.inr ⟨_, _, _, _, rfl⟩)⟩
theorem nmin_eq (a b : Nat) : (Bool.rec (motive := fun _ => Nat) a b (Nat.ble b a)) = Nat.min b a := by
  cases hb : Nat.ble b a with
  | true => have := Nat.ble_eq.mp hb; show b = Nat.min b a; exact (Nat.min_eq_left this).symm
  | false =>
    have : ¬ b ≤ a := fun hle => by rw [Nat.ble_eq.mpr hle] at hb; cases hb
    show a = Nat.min b a
    exact (Nat.min_eq_right (by omega)).symm
theorem copy_ok [Fit P] {t e : TypeId} (he : tElem P t = some e) (tx ty : TypeId) : Ok2E P (copyC (tSize P e)) (fun x y => Builtin.copy_ #[t, tx] ty #[x, y]) := by
  have hd := tElem_true he
  obtain ⟨hu, _⟩ := tU_und hd (by simp)
  intro X s h w x y k R hx hy ek
  obtain ⟨e1, hshape⟩ := lenD_al ek
  obtain ⟨e2, hlen⟩ := lenOf_al e1 s (P := P)
  have e3 := forceK_true e2
  rw [nmin_eq] at e3
  obtain ⟨l, e4, hwf, hll, hcells, _⟩ := slCells_true R hy (Nat.min_le_left _ _) e3
  have hrun : ∀ (base : Option Addr) (c : Nat), cv s x = .slice base (alen x) c → (Builtin.copy_ #[t, tx] ty #[cv s x, cv s y]).run P w =
      ((match base with | some a => storeCells a (cvL s l) | none => pure ()).run P w).andThen fun _ w' => .ok (.int .i64 (Nat.min (alen y) (alen x) : Nat)) w' := by
    intro base c hc
    rw [hc]
    unfold Builtin.copy_
    simp [run_underlying hu, hlen, run_sizeOf' (fit_slice hd), hcells w rfl]
    cases base <;> simp [goInt]
  cases l with
  | nil =>
    have e5 : k (.int .i64 (.ofNat (Nat.min (alen y) (alen x)))) h = true := e4
    refine okE_pure R e5 ?_ trivial
    have : ∃ base c, cv s x = .slice base (alen x) c := by
      rcases hshape with rfl | ⟨b, o, n, i, j, rfl⟩ | ⟨b, o, n, c, rfl⟩
      · exact ⟨none, 0, rfl⟩
      · exact ⟨_, _, rfl⟩
      · exact ⟨_, _, rfl⟩
    obtain ⟨base, c, hc⟩ := this
    rw [hrun base c hc]
    cases base <;> rfl
  | cons v l =>
    have hpos : 0 < alen x := by
      rcases Nat.eq_zero_or_pos (alen x) with h0 | h0
      · rw [h0] at hll; simp at hll
      · exact h0
    rcases hshape with rfl | ⟨b, o, n, i, j, rfl⟩ | ⟨b, o, n, c, rfl⟩
    · exact absurd hpos (by simp [alen])
    · obtain ⟨h', w', hk, hst, R', A', hn⟩ := storeC_true (k := fun h => k (.int .i64 (.ofNat (Nat.min (alen y) (alen (.sl b o n i j))))) h) R hwf e4
      refine .inl ⟨_, h', hk, s, w', ?_, R', A', trivial⟩
      have hcne : (s b).cap ≠ i := by have := hx.2; have : 0 < n := hpos; omega
      rw [hrun (some ⟨(s b).blk, (s b).off + o, none⟩) ((s b).cap - i) (by simp [cv, hcne, alen])]
      simp only [hst]
      rfl
    · obtain ⟨h', w', hk, hst, R', A', hn⟩ := storeC_true (k := fun h => k (.int .i64 (.ofNat (Nat.min (alen y) (alen (.slk b o n c))))) h) R hwf e4
      refine .inl ⟨_, h', hk, s, w', ?_, R', A', trivial⟩
      rw [hrun (some ⟨(s b).blk, (s b).off + o, none⟩) c rfl]
      simp only [hst]
      rfl
theorem clear_ok [Fit P] {t e : TypeId} (he : tElem P t = some e) (hz : zeroOk P e = true) (ty : TypeId) : Ok1E P (clearC (tZero P e).cells) (fun x => Builtin.clear_ #[t] ty #[x]) := by
  have hd := tElem_true he
  obtain ⟨hu, _⟩ := tU_und hd (by simp)
  intro X s h w x k R hx ek
  have hzw := zero_wf (P := P) s h.nx hz
  have nothing : ∀ (base : Option Addr) (c : Nat), (Builtin.clear_ #[t] ty #[.slice base 0 c]).run P w = .ok (.tuple #[]) w := by
    intro base c
    unfold Builtin.clear_
    cases base <;> simp [run_underlying hu]
  have some_ : ∀ (a : Addr) (n c : Nat), (Builtin.clear_ #[t] ty #[.slice (some a) (n + 1) c]).run P w = ((storeCells a (cvL s (repl (tZero P e).cells (n + 1)))).run P w).andThen fun _ w' => .ok (.tuple #[]) w' := by
    intro a n c
    unfold Builtin.clear_
    simp [run_underlying hu, run_zeroValue' s hz, zeroCells_eq s hz]
  cases x <;> try exact absurd ek Bool.false_ne_true
  · exact okE_pure R (v := .undef) ek (nothing none 0) trivial
  · rename_i b off n skip alt
    cases n with
    | zero => exact okE_pure R (v := .undef) ek (nothing _ _) trivial
    | succ n =>
      obtain ⟨h', w', hk, hst, R', A', hn⟩ := storeC_true (k := fun h => k .undef h) R (repl_wf hzw.cells (n + 1)) ek
      refine .inl ⟨_, h', hk, s, w', ?_, R', A', trivial⟩
      have hcne : (s b).cap ≠ skip := by have := hx.2; omega
      show (Builtin.clear_ #[t] ty #[.slice (some ⟨(s b).blk, (s b).off + (if (s b).cap = skip then alt else off), none⟩) (n + 1) _]).run P w = _
      rw [if_neg hcne, some_, hst]
      rfl
  · rename_i b off n c
    cases n with
    | zero => exact okE_pure R (v := .undef) ek (nothing _ _) trivial
    | succ n =>
      obtain ⟨h', w', hk, hst, R', A', hn⟩ := storeC_true (k := fun h => k .undef h) R (repl_wf hzw.cells (n + 1)) ek
      refine .inl ⟨_, h', hk, s, w', ?_, R', A', trivial⟩
      show (Builtin.clear_ #[t] ty #[.slice (some ⟨(s b).blk, (s b).off + off, none⟩) (n + 1) _]).run P w = _
      rw [some_, hst]
      rfl
theorem makeSl_ok [Fit P] {t e : TypeId} (he : tElem P t = some e) (hz : zeroOk P e = true) : Ok2E P (makeSl e (tBytes P e) (tZero P e).cells) (Instr.makeSlice t) := by
  have hd := tElem_true he
  obtain ⟨hu, _⟩ := tU_und hd (by simp)
  intro X s h w x y k R hx hy ek
  obtain ⟨ql, l, rfl, e1⟩ := isN_true (v := x) ek
  obtain ⟨qc, c, rfl, e2⟩ := isN_true (v := y) e1
  obtain ⟨hc, e3⟩ := bif_true e2
  obtain ⟨hc1, hc2⟩ := and_true' hc
  have hlc : l ≤ c := Nat.ble_eq.mp hc1
  have hle : c * (tBytes P e + 1) ≤ 1099511627776 := Nat.ble_eq.mp hc2
  have hcs : c ≤ 1099511627776 := Nat.le_trans (Nat.le_mul_of_pos_right _ (Nat.succ_pos _)) hle
  have hcb : tBytes P e * c ≤ 1099511627776 := by rw [Nat.mul_comm]; exact Nat.le_trans (Nat.mul_le_mul_left _ (Nat.le_succ _)) hle
  obtain ⟨i, z, hi, hzz, hzs, hsz, hby⟩ := zeroInfo hz
  have hlen := zero_len (P := P) hz
  refine row_good R c (repl_wf (zero_wf s h.nx hz).cells c) (by rw [repl_length, hlen]) e3 ?_ (Nat.lt_succ_self _)
  show (Instr.makeSlice t (.int ql (l : Int)) (.int qc (c : Int))).run P w = _
  have wl := wrap64_nat (n := l) (by omega)
  have wc := wrap64_nat hcs
  have n1 : ¬ (c : Int) < 0 := by omega
  have n2 : ¬ (281474976710656 < (i.bytes : Int) * (c : Int)) := by
    rw [hby]
    have : ((tBytes P e * c : Nat) : Int) ≤ 1099511627776 := by omega
    rw [Int.natCast_mul] at this; omega
  have n3 : ¬ (l : Int) < 0 := by omega
  have n4 : ¬ (c : Int) < (l : Int) := by omega
  have hzc : (cv s (tZero P e)).cells = (cvL s (tZero P e).cells).toArray := by rw [← cv_cells s (tZero P e) (tZero_not_opq P e)]
  have hrow : ∀ zs : Array Value, (c * tSize P e = 0 ∨ zs = (cvL s (tZero P e).cells).toArray) → (Array.range (c * tSize P e)).map (fun i => zs[i % zs.size]!) = (cvL s (repl (tZero P e).cells c)).toArray := by
    intro zs hzs
    rw [← zeros_eq s (tZero P e).cells c, hlen]
    rcases hzs with h0 | h0
    · rw [h0]; simp
    · rw [h0]
  unfold Instr.makeSlice
  simp only [Sem.run_bind, run_underlying hu, Result.andThen_ok, asInt, asIntOf, Sem.run_pure, run_typeInfo' hi, wl, wc]
  rw [if_neg (by simp [n1, n2, n3, n4])]
  simp only [Sem.run_bind, run_askRoom, Result.andThen_ok, run_sizeOf' (fit_slice hd), Int.toNat_natCast]
  by_cases h0 : c * tSize P e = 0
  · rw [if_pos h0]
    simp only [Sem.run_bind, Result.andThen_ok, Sem.run_pure, hrow #[] (.inl h0), newRow, run_newObj_alloc]
    simp [cv, upd_self]
  · rw [if_neg h0]
    simp only [Sem.run_bind, run_zeroValue' s hz, Result.andThen_ok, Sem.run_pure, hzc, hrow _ (.inr rfl), newRow, run_newObj_alloc]
    simp [cv, upd_self]
end Go.Rk

namespace Go.Rk
open Go
set_option linter.unusedSectionVars false
variable [Nt] [Nu]
variable {P : Program} {X : Nat → Prop} {s : Sig} {h : AH} {w : World}
/-! ## numbers -/
theorem wrapK_true {q : IntKind} {n : Nat} {k : K} (e : wrapK q n h k = true) : k (.int q (q.wrap (n : Int))) h = true := by
  have e' := forceK_true (n := Nat.mod n (kmod q)) e
  rw [wrap_nat]
  have hmod : Nat.mod n (kmod q) = n % kmod q := rfl
  rw [hmod] at e'
  cases hb : Nat.ble (khalf q) (n % kmod q) with
  | true => rw [hb] at e'; rw [if_pos (Nat.ble_eq.mp hb)]; exact e'
  | false => rw [hb] at e'; rw [if_neg (fun hle => by rw [Nat.ble_eq.mpr hle] at hb; cases hb)]; exact e'

section
variable {src dst : TypeId} {ds : TypeDesc}
theorem cvInt_ok {q : IntKind} (hs : P.underlying src = some ds) (hd : P.underlying dst = some (.int q)) : Ok1 P (cvInt q) (convert src dst) := by
  intro X s h w x k R hx e
  cases x <;> try exact absurd e Bool.false_ne_true
  · rename_i r n
    have hrun : (convert src dst (.int r n)).run P w = .ok (.int q (q.wrap n)) w := by simp [convert, run_underlying hs, run_underlying hd, Conv.intToInt]
    cases n with
    | ofNat n => exact ok_pure R (wrapK_true e) hrun trivial
    | negSucc n =>
      obtain ⟨v, hm, hv, hk⟩ := semK_true (show semK (Conv.intToInt q (.negSucc n)) h k = true from e)
      cases hm
      exact ok_pure R hk hrun trivial
  · rename_i r b
    obtain ⟨v, hm, hv, hk⟩ := semK_true e
    refine ok_pure R hk ?_ (Wf_simple s _ v hv)
    show (convert src dst (.float r b)).run P w = _
    rw [cv_simple s v hv]
    simp [convert, run_underlying hs, run_underlying hd, hm]
theorem cvFlt_ok {q : FloatKind} (hs : P.underlying src = some ds) (hd : P.underlying dst = some (.float q)) : Ok1 P (cvFlt q) (convert src dst) := by
  intro X s h w x k R hx e
  cases x <;> try exact absurd e Bool.false_ne_true
  · rename_i r n
    refine ok_pure R (v := .flt q (q.nearest n)) e ?_ trivial
    show (convert src dst (.int r n)).run P w = .ok (.float q (q.nearest n)) w
    simp [convert, run_underlying hs, run_underlying hd, Conv.intToFloat]
  · rename_i r b
    obtain ⟨h1, h2⟩ := bif_true e
    obtain rfl := feq_true h1
    refine ok_pure R (v := .flt _ b) h2 ?_ trivial
    show (convert src dst (.float _ b)).run P w = .ok (.float _ b) w
    simp [convert, run_underlying hs, run_underlying hd, Conv.floatToFloat]
theorem cvStr_ok (hs : P.underlying src = some ds) (hd : P.underlying dst = some .string) : Ok1 P cvStr (convert src dst) := by
  intro X s h w x k R hx e
  cases x <;> try exact absurd e Bool.false_ne_true
  · rename_i r n
    refine ok_pure R (v := .str (bytesOf (Utf8.encode n))) e ?_ (bytesOf_lt _)
    show (convert src dst (.int r n)).run P w = .ok (.string (bys (bytesOf (Utf8.encode n)))) w
    rw [bys_bytesOf]
    simp [convert, run_underlying hs, run_underlying hd, Conv.intToString]
  · rename_i l
    refine ok_pure R (v := .str l) e ?_ hx
    show (convert src dst (.string (bys l))).run P w = .ok (.string (bys l)) w
    simp [convert, run_underlying hs, run_underlying hd]
/-! ## bytes -/
theorem bytesK_true : ∀ (l : List AV) (k : List Nat → Bool), bytesK l k = true → ∃ r : List Nat, k r = true ∧ l = u8s r ∧ ∀ x ∈ r, x < 256
  | [], k, e => ⟨[], e, rfl, by simp⟩
  | v :: l, k, e => by
    obtain ⟨q, n, rfl, e1⟩ := isI_true (show isI v _ = true from e)
    cases q <;> try exact absurd e1 Bool.false_ne_true
    cases n with
    | negSucc n => exact absurd e1 Bool.false_ne_true
    | ofNat n =>
      obtain ⟨hle, e2⟩ := bif_true e1
      obtain ⟨r, hk, hl, hr⟩ := bytesK_true l (fun r => k (n :: r)) e2
      refine ⟨n :: r, hk, by rw [hl]; rfl, fun x hx => ?_⟩
      rcases List.mem_cons.1 hx with rfl | hx
      · have hle' : x ≤ 255 := Nat.ble_eq.mp hle
        omega
      · exact hr x hx
theorem bys_fold (r : List Nat) : ∀ b : ByteArray, (r.map (fun (n : Nat) => (n : Int))).foldl (fun b n => b.push (UInt8.ofNat n.toNat)) b = b ++ bys r := by
  induction r with
  | nil => intro b; apply ByteArray.ext; rw [ByteArray.data_append]; simp [bys]
  | cons x r ih =>
    intro b
    simp only [List.map_cons, List.foldl_cons]
    rw [ih]
    apply ByteArray.ext
    rw [ByteArray.data_append, ByteArray.data_append]
    simp [bys, ByteArray.push]
theorem bys_empty (r : List Nat) : (r.map (fun (n : Nat) => (n : Int))).foldl (fun b n => b.push (UInt8.ofNat n.toNat)) ByteArray.empty = bys r := by
  rw [bys_fold]
  apply ByteArray.ext
  rw [ByteArray.data_append]
  show (#[] : Array UInt8) ++ _ = _
  simp
theorem cvL_u8s (s : Sig) (r : List Nat) : cvL s (u8s r) = (r.map (fun (n : Nat) => (n : Int))).map (Value.int .u8) := by
  unfold u8s
  rw [lmap_eq, cvL_eq, List.map_map, List.map_map]
  rfl
theorem isU8s_true {t : TypeId} (e : isU8s P t = true) : ∃ el, P.underlying t = some (.slice el) ∧ P.underlying el = some (.int .u8) := by
  unfold isU8s at e
  cases hd : tU P t with
  | slice el =>
    rw [hd] at e
    change (TypeDesc.rec (motive := fun _ => Bool) _ _ _ _ _ _ _ _ _ _ _ _ _ _ _ _ _ (tU P el) : Bool) = true at e
    refine ⟨el, (tU_und hd (by simp)).1, ?_⟩
    cases hk : tU P el with
    | int q =>
      rw [hk] at e
      cases q <;> first | exact absurd e Bool.false_ne_true | exact (tU_und hk (by simp)).1
    | _ => rw [hk] at e; exact absurd e Bool.false_ne_true
  | _ => rw [hd] at e; exact absurd e Bool.false_ne_true
theorem cvStrB_ok (hs : isU8s P src = true) (hd : P.underlying dst = some .string) : ∀ (X : Nat → Prop) (s : Sig) (h : AH) (w : World) (x : AV) (k : K), Rel P X s h w → Wf s h.nx x →
    cvStrB x h k = true → Good P X s h w k (convert src dst (cv s x)) := by
  intro X s h w x k R hx e
  obtain ⟨el, hu, hue⟩ := isU8s_true hs
  obtain ⟨e1, _⟩ := lenD_al e
  obtain ⟨l, e2, hwf, hll, hcells, _⟩ := slCells_true R hx (Nat.le_refl _) e1
  obtain ⟨r, hk, rfl, hr⟩ := bytesK_true _ _ e2
  refine ok_pure R (v := .str r) hk ?_ hr
  have fin : ∀ (a : Addr) (len cap : Nat), (loadCells a len).run P w = .ok ((r.map (fun (n : Nat) => (n : Int))).map (Value.int .u8)).toArray w → (convert src dst (.slice (some a) len cap)).run P w = .ok (.string (bys r)) w := by
    intro a len cap hl
    rw [run_convert_bytes_string w src dst el _ _ _ hu hue hd, run_bytesToString w a len cap _ hl, bys_empty]
  have hc := hcells w rfl
  rw [cvL_u8s] at hc
  cases x with
  | nils =>
    show (convert src dst (.slice none 0 0)).run P w = _
    rw [run_convert_bytes_string w src dst el _ _ _ hu hue hd]
    have : r = [] := by
      have : (u8s r).length = 0 * 1 := hll
      rw [u8s_length] at this
      exact List.eq_nil_of_length_eq_zero (by omega)
    subst this
    rfl
  | sl b off n skip alt =>
    refine fin _ n _ ?_
    have hc' : (loadCells ⟨(s b).blk, (s b).off + (if (s b).cap = skip then alt else off), none⟩ (n * 1)).run P w = _ := hc
    rw [Nat.mul_one] at hc'
    exact hc'
  | slk b off n c =>
    refine fin _ n _ ?_
    have hc' : (loadCells ⟨(s b).blk, (s b).off + off, none⟩ (n * 1)).run P w = _ := hc
    rw [Nat.mul_one] at hc'
    exact hc'
  | _ => exact absurd e Bool.false_ne_true
end
/-! ## bytes made, bytes shared -/
theorem Rel.congr {h' : AH} (R : Rel P X s h w) (hg : ∀ j, h'.get j = h.get j) (hn : h'.nx = h.nx) : Rel P X s h' w := by
  refine ⟨fun i => ?_, fun i j hi hj => ?_, fun i hi => ?_, R.glob, by rw [hn]; exact R.nxG, R.dom, fun i hi => ?_, R.look⟩
  · rw [hg, hn]; exact R.lies i
  · rw [hg] at hi hj; exact R.inj i j hi hj
  · rw [hg]; exact R.fresh i (by rw [hn] at hi; exact hi)
  · rw [hg] at hi; exact R.own i hi
theorem put_self (h : AH) (i j : Nat) : (h.put i (h.get i)).get j = h.get j := by
  rw [AH.get_put]; split
  · rename_i e; rw [e]
  · rfl
theorem run_markStringish {C : Array Value} {e : TypeId} {fr : Nat × Nat} {a : Addr} (hg : w.heap[a.block]? = some (.cells C e fr)) : (markStringish a).run P w = .ok () (w.freeze ⟨a.block, C.size, none⟩ 1) := by
  simp [markStringish, World.shape?, hg]
theorem freeze_heap {C : Array Value} {e : TypeId} {fr : Nat × Nat} {g : Nat} (hg : w.heap[g]? = some (.cells C e fr)) (o n : Nat) (hn : n ≠ 0) :
    (w.freeze ⟨g, o, none⟩ n).heap[g]? = some (.cells C e (if fr.1 = fr.2 then (o, o + n) else (min fr.1 o, max fr.2 (o + n)))) ∧ But g w (w.freeze ⟨g, o, none⟩ n) := by
  obtain ⟨lo, hi⟩ := fr
  unfold World.freeze
  rw [if_neg hn]
  refine ⟨?_, fun k hk => ?_, ?_, rfl, rfl, rfl⟩
  · simp only [Array.getElem?_modify, if_true, hg, Option.map_some]
    simp
  · simp only [Array.getElem?_modify, if_neg (Ne.symm hk)]
  · simp
/-- a row's end is shared -/
theorem Rel.mark (R : Rel P X s h w) {b : Nat} {cs : List AV} {e : TypeId} (hb : h.get b = .cells cs e true) (o : Nat) :
    ∃ w', (markStringish ⟨(s b).blk, o, none⟩).run P w = .ok () w' ∧ Rel P X s h w' ∧ Aft X s h w s h w' := by
  obtain ⟨hwf, C, fr, hg, hc, hcap, hlen, hfr⟩ := Rel.at (R := R) hb
  obtain ⟨hg', hbut⟩ := freeze_heap hg C.size 1 (by decide)
  have hl : Lies P s h.nx (w.freeze ⟨(s b).blk, C.size, none⟩ 1) b (h.get b) := by
    rw [hb]
    refine ⟨hwf, C, _, hg', hc, hcap, hlen, fun _ => .inr ?_⟩
    rcases hfr rfl with h1 | h1
    · rw [if_pos h1]; exact Nat.le_refl _
    · split
      · exact Nat.le_refl _
      · show C.size ≤ min fr.1 C.size; omega
  obtain ⟨R', A'⟩ := R.turn (i := b) (by rw [hb]; rfl) hbut hl (by rw [hb]; intro _; rfl)
  have R2 := R'.congr (h' := h) (fun j => (put_self h b j).symm) rfl
  exact ⟨_, run_markStringish hg, R2, ⟨A'.sig, Nat.le_refl _, A'.keep, A'.size, A'.tape, A'.os, A'.output, fun _ _ _ => rfl, (Aft.refl X s h w).lv⟩⟩
theorem ownK_true {b : Nat} {k : Bool} (he : ownK h b k = true) : ∃ cs e, h.get b = .cells cs e true ∧ k = true := by
  unfold ownK at he
  cases hb : h.get b with
  | cells cs el wr =>
    rw [hb] at he
    obtain ⟨h1, h2⟩ := bif_true (show (Bool.rec (motive := fun _ => Bool) false k wr) = true from he)
    subst h1
    exact ⟨cs, el, rfl, h2⟩
  | _ => rw [hb] at he; exact absurd he Bool.false_ne_true
theorem cvSame_ok {t : TypeId} (hs : isU8s P t = true) : Ok1E P cvSame (convert t t) := by
  obtain ⟨el, hu, hue⟩ := isU8s_true hs
  intro X s h w x k R hx e
  have fin : ∀ (a : Addr) (n c : Nat) (w' : World), (markStringish a).run P w = .ok () w' → (convert t t (.slice (some a) n c)).run P w = .ok (.slice (some a) n c) w' := by
    intro a n c w' hm
    simp [convert, run_underlying hu, run_underlying hue, hm]
  cases x <;> try exact absurd e Bool.false_ne_true
  · obtain ⟨cs, e', hb, hk⟩ := ownK_true e
    obtain ⟨w', hm, R', A'⟩ := R.mark hb _
    exact .inl ⟨_, h, hk, s, w', fin _ _ _ _ hm, R', A', hx⟩
  · obtain ⟨cs, e', hb, hk⟩ := ownK_true e
    obtain ⟨w', hm, R', A'⟩ := R.mark hb _
    exact .inl ⟨_, h, hk, s, w', fin _ _ _ _ hm, R', A', hx⟩
theorem cvBytes_ok {src dst e : TypeId} (hs : P.underlying src = some .string) (hd : P.underlying dst = some (.slice e)) (he : P.underlying e = some (.int .u8)) (h1 : tSize P e = 1) : Ok1E P (cvBytes e) (convert src dst) := by
  intro X s h w x k R hx ek
  obtain ⟨l, rfl, e1⟩ := isS_true ek
  have hx' : ∀ x ∈ l, x < 256 := hx
  have e2 := allocK_true e1
  have hge := grownCap_ge w l.length 0 e
  have hbytes : (bys l).data.map (fun b => Value.int .u8 b.toNat) = (cvL s (u8s l)).toArray := by
    apply Array.ext'
    simp only [bys, Array.toList_map, u8s, lmap_eq, cvL_eq, List.map_map]
    apply List.map_congr_left
    intro y hy
    show Value.int .u8 (((UInt8.ofNat y).toNat : Nat) : Int) = Value.int .u8 (y : Int)
    rw [UInt8.toNat_ofNat', Nat.mod_eq_of_lt (hx' y hy)]
  let cap' := grownCap w l.length 0 e
  let C : Array Value := (cvL s (u8s l) ++ List.replicate (cap' - l.length) (Value.int .u8 0)).toArray
  have hCs : C.size = cap' := by
    show (cvL s (u8s l) ++ List.replicate (cap' - l.length) (Value.int .u8 0)).toArray.size = cap'
    simp only [List.size_toArray, List.length_append, cvL_length, u8s_length, List.length_replicate]
    omega
  have hnew : (w.drew.alloc (.cells C e)).heap[w.heap.size]? = some (.cells C e (0, 0)) := alloc_heap w.drew _
  have hm := run_markStringish (P := P) (a := ⟨w.heap.size, 0, none⟩) hnew
  obtain ⟨hg2, hbut⟩ := freeze_heap hnew C.size 1 (by decide)
  rw [if_pos rfl] at hg2
  generalize hw2 : (w.drew.alloc (.cells C e)).freeze ⟨w.heap.size, C.size, none⟩ 1 = w2 at hm hg2 hbut
  have hrun : (convert src dst (.string (bys l))).run P w = .ok (.slice (some ⟨w.heap.size, 0, none⟩) l.length cap') w2 := by
    have hC : (cvL s (u8s l)).toArray ++ Array.replicate ((Question.appendCap l.length 0 e).cut (w.tape w.drawn (Question.appendCap l.length 0 e)) - l.length) (Value.int .u8 0) = C := by
      apply Array.ext'
      simp [C, cap', grownCap]
    simp only [convert, Sem.run_bind, run_underlying hs, run_underlying hd, run_underlying he, Result.andThen_ok, Conv.stringToBytes, run_choose_drew, Question.forced, Bool.false_eq_true, if_false, hbytes, bys_size, newRow, run_newObj_alloc, Sem.run_pure, hC]
    show ((markStringish ⟨w.heap.size, 0, none⟩).run P (w.drew.alloc (.cells C e))).andThen _ = _
    rw [hm]
    rfl
  obtain ⟨R', A'⟩ := R.grow (b := .cells (u8s l) e true) (l := ⟨w.heap.size, 0, cap'⟩) (w' := w2) (fun k x hk hx => by
      rw [hbut.heap k hk]
      show (w.heap.push _)[k]? = _
      have := lt_of_get hx
      rw [Array.getElem?_push, if_neg (by omega)]; exact hx)
    (by rw [hbut.size]; show w.heap.size ≤ (w.heap.push _).size; simp) hbut.tape hbut.os hbut.output (fun j hj => by have := R.blk_lt hj; exact Nat.ne_of_lt this) (fun hx => Nat.lt_irrefl _ (R.dom _ hx)) (by
    refine ⟨u8s_wf _ _ _, C, (C.size, C.size + 1), ?_, fun i v hi => ?_, ⟨?_, ?_⟩, ?_, fun _ => .inr (Nat.le_refl _)⟩
    · rw [upd_self]; exact hg2
    · rw [upd_self]
      have hcv : cv (upd s h.nx ⟨w.heap.size, 0, cap'⟩) v = cv s v := by
        have : (u8s l)[i]? = some v := hi
        unfold u8s at this
        rw [lmap_eq, List.getElem?_map] at this
        cases hq : l[i]? with
        | none => rw [hq] at this; cases this
        | some y => rw [hq] at this; cases this; rfl
      rw [hcv]
      show (cvL s (u8s l) ++ List.replicate (cap' - l.length) (Value.int .u8 0)).toArray[0 + i]? = _
      have h2 : (cvL s (u8s l))[i]? = some (cv s v) := by rw [cvL_get, hi]; rfl
      rw [Nat.zero_add, List.getElem?_toArray, List.getElem?_append_left (ltL h2), h2]
    · intro _; rw [upd_self, hCs, h1]; show 0 + cap' * 1 = cap'; omega
    · rw [upd_self]; exact Nat.dvd_zero _
    · rw [upd_self, hCs, u8s_length]; show 0 + l.length ≤ cap'; omega)
  refine .inl ⟨_, _, e2, _, _, ?_, R', A', ⟨Nat.lt_succ_self _, ?_⟩⟩
  · show (convert src dst (.string (bys l))).run P w = _
    rw [hrun, len_eq]
    simp only [cv, upd_self]
    simp
  · rw [upd_self, len_eq]; show 0 + l.length ≤ cap'; omega
end Go.Rk

namespace Go.Rk
open Go
set_option linter.unusedSectionVars false
variable [Nt] [Nu]
variable {P : Program} {X : Nat → Prop} {s : Sig} {h : AH} {w : World}
/-! ## unsafe pointers -/
theorem shape_row {C : Array Value} {e : TypeId} {fr : Nat × Nat} {b : Nat} (hg : w.heap[b]? = some (.cells C e fr)) : w.shape? b = some (e, C.size) := by simp [World.shape?, hg]
theorem run_seenAt {C : Array Value} {e : TypeId} {fr : Nat × Nat} {a : Addr} (hg : w.heap[a.block]? = some (.cells C e fr)) : (Conv.seenAt a).run P w = .ok a w := by
  simp [Conv.seenAt, viewAt, shape_row hg]
theorem cvToU_ok {src dst t : TypeId} (hs : P.underlying src = some (.pointer t)) (hd : P.underlying dst = some .unsafePointer) (ht : t < P.types.size) (h0 : tSize P t ≠ 0) : Ok1 P cvToU (convert src dst) := by
  intro X s h w x k R hx e
  cases x <;> try exact absurd e Bool.false_ne_true
  · refine ok_pure R (v := .nilp) e ?_ trivial
    show (convert src dst (.pointer none)).run P w = .ok (.pointer none) w
    simp [convert, Conv.unsafePointer, run_underlying hs, run_underlying hd]
  · rename_i b o
    obtain ⟨cs, el, wr, hb, e1⟩ := cellsK_true e
    obtain ⟨v, hv, hk⟩ := onO_true e1
    rw [lnth_eq] at hv
    obtain ⟨hwf, C, fr, hg, hc, hcap, hlen, hfr⟩ := Rel.at (R := R) hb
    have hlt := ltL hv
    refine ok_pure R (v := .ptr b o) hk ?_ hx
    show (convert src dst (.pointer (some ⟨(s b).blk, (s b).off + o, none⟩))).run P w = .ok (.pointer (some ⟨(s b).blk, (s b).off + o, none⟩)) w
    have hn : ¬ (C.size ≤ (s b).off + o) := by omega
    simp [convert, Conv.unsafePointer, run_underlying hs, run_underlying hd, run_seenAt (a := ⟨(s b).blk, (s b).off + o, none⟩) hg, cellsIn, shape_row hg, hn, run_sizeOf' ht, h0]
theorem rowK_true {b u : Nat} {k : List AV → Bool} (e : rowK h b u k = true) : ∃ cs wr, h.get b = .cells cs u wr ∧ k cs = true := by
  unfold rowK at e
  cases hb : h.get b with
  | cells cs el wr =>
    rw [hb] at e
    obtain ⟨h1, h2⟩ := bif_true (show (Bool.rec (motive := fun _ => Bool) false (k cs) (Nat.beq el u)) = true from e)
    have := Nat.eq_of_beq_eq_true h1
    subst this
    exact ⟨cs, wr, rfl, h2⟩
  | _ => rw [hb] at e; exact absurd e Bool.false_ne_true
theorem cellsOf_eq (t : TypeId) : P.cellsOf t = tSize P t := by unfold Program.cellsOf tSize; cases P.info? t <;> rfl
theorem sameLayout_self (d : Nat) (t : TypeId) : sameLayout P (d + 1) t t = true := by unfold sameLayout; simp
theorem rowAt_self {fits : TypeId → Bool} {d : Nat} {e : TypeId} {count j n : Nat} (h0 : tSize P e ≠ 0) (hj : j + n ≤ count) (hf : fits e = true) : rowAt P fits (d + 1) e count (tSize P e * j) n = true := by
  have hpos : 0 < tSize P e := Nat.pos_of_ne_zero h0
  unfold rowAt
  rw [cellsOf_eq]
  simp only [h0, if_false]
  rw [Nat.mul_mod_right, Nat.mul_div_cancel_left _ hpos]
  simp [hj, hf]
/-- n variables of the row's own type lie there -/
theorem run_variablesAt {C : Array Value} {e : TypeId} {fr : Nat × Nat} {g o n : Nat} (hg : w.heap[g]? = some (.cells C e fr)) (h0 : tSize P e ≠ 0) (hdvd : tSize P e ∣ o) (hle : o + n * tSize P e ≤ C.size) :
    (variablesAt ⟨g, o, none⟩ e n).run P w = .ok true w := by
  have hdep : P.depth = (2 * (P.types.size + Made.depth) + 1) + 1 := rfl
  have key : liesAt P P.depth e (C.size / P.cellsOf e) o e n = true := by
    obtain ⟨j, rfl⟩ := hdvd
    have hpos : 0 < tSize P e := Nat.pos_of_ne_zero h0
    have hj : j + n ≤ C.size / tSize P e := by
      rw [Nat.le_div_iff_mul_le hpos, Nat.add_mul, Nat.mul_comm j]
      exact hle
    rw [hdep]
    unfold liesAt
    rw [Bool.or_eq_true]
    left
    rw [cellsOf_eq]
    exact rowAt_self h0 hj (sameLayout_self _ _)
  simp [variablesAt, shape_row hg, key]
theorem cvFromU_ok {src dst u : TypeId} (hs : P.underlying src = some .unsafePointer) (hd : P.underlying dst = some (.pointer u)) (hu : u < P.types.size) (h0 : tSize P u ≠ 0) : Ok1 P (cvFromU u (tSize P u)) (convert src dst) := by
  intro X s h w x k R hx e
  cases x <;> try exact absurd e Bool.false_ne_true
  · refine ok_pure R (v := .nilp) e ?_ trivial
    show (convert src dst (.pointer none)).run P w = .ok (.pointer none) w
    simp [convert, Conv.unsafePointer, run_underlying hs, run_underlying hd]
  · rename_i b o
    cases o with
    | succ o => exact absurd e Bool.false_ne_true
    | zero =>
      obtain ⟨cs, wr, hb, e1⟩ := rowK_true (show rowK h b u _ = true from e)
      obtain ⟨hle, hk⟩ := bif_true e1
      rw [len_eq] at hle
      have hle' := Nat.ble_eq.mp hle
      obtain ⟨hwf, C, fr, hg, hc, hcap, hlen, hfr⟩ := Rel.at (R := R) hb
      refine ok_pure R (v := .ptr b 0) hk ?_ hx
      show (convert src dst (.pointer (some ⟨(s b).blk, (s b).off + 0, none⟩))).run P w = .ok (.pointer (some ⟨(s b).blk, (s b).off + 0, none⟩)) w
      have hv := run_variablesAt (P := P) (n := 1) hg h0 (o := (s b).off + 0) hcap.2 (by omega)
      simp only [convert, Conv.unsafePointer, Sem.run_bind, run_underlying hs, run_underlying hd, Result.andThen_ok, run_seenAt (a := ⟨(s b).blk, (s b).off + 0, none⟩) hg, run_sizeOf' hu, hv]
      simp
theorem sd_ok {ts : Array TypeId} (ty : TypeId) : Ok1 P sdC (fun x => Builtin.unsafeSliceData_ ts ty #[x]) := by
  intro X s h w x k R hx e
  cases x <;> try exact absurd e Bool.false_ne_true
  · exact ok_pure R (v := .nilp) e rfl trivial
  · rename_i b off n skip alt
    cases n with
    | zero => exact absurd e Bool.false_ne_true
    | succ n =>
      refine ok_pure R (v := .ptr b off) e ?_ hx.1
      have hc : (s b).cap ≠ skip := by have := hx.2; omega
      have hc2 : (s b).cap - skip ≠ 0 := by have := hx.2; omega
      show (Builtin.unsafeSliceData_ ts ty #[.slice (some ⟨(s b).blk, (s b).off + (if (s b).cap = skip then alt else off), none⟩) (n + 1) ((s b).cap - skip)]).run P w = .ok (.pointer (some ⟨(s b).blk, (s b).off + off, none⟩)) w
      rw [if_neg hc]
      show Sem.run P (if (s b).cap - skip ≠ 0 then _ else _) w = _
      rw [if_pos hc2]
      rfl
  · rename_i b off n c
    cases c with
    | zero => exact absurd e Bool.false_ne_true
    | succ c => exact ok_pure R (v := .ptr b off) e rfl hx
theorem run_loadBytes {g : Nat} : ∀ (r : List Nat) (o : Nat) (acc : ByteArray), (∀ x ∈ r, x < 256) → (∀ j v, (r.map fun (n : Nat) => Value.int .u8 (n : Int))[j]? = some v → w.cell? ⟨g, o + j, none⟩ = some v) →
    (loadBytes ⟨g, o, none⟩ acc r.length).run P w = .ok (acc ++ bys r) w
  | [], o, acc, _, _ => by
    show Result.ok acc w = _
    congr 1
    apply ByteArray.ext
    rw [ByteArray.data_append]
    simp [bys]
  | x :: r, o, acc, hr, hc => by
    have h0 : w.cell? ⟨g, o, none⟩ = some (.int .u8 (x : Int)) := hc 0 _ (by rfl)
    have ih := run_loadBytes r (o + 1) (acc.push (x : Int).toNat.toUInt8) (fun y hy => hr y (List.mem_cons_of_mem _ hy)) (fun j v hj => by
      have := hc (j + 1) v (by simpa using hj)
      rw [Nat.add_assoc, Nat.add_comm 1 j]; exact this)
    simp only [List.length_cons, loadBytes, Sem.run_bind, run_load, h0, Result.andThen_ok, add_at]
    rw [ih]
    congr 1
    apply ByteArray.ext
    rw [ByteArray.data_append, ByteArray.data_append]
    simp [bys, ByteArray.push]
theorem unsafeString_eq (pt px ty : TypeId) (p : Option Addr) (x : Value) : Builtin.unsafeString_ #[pt, px] ty #[.pointer p, x] = (do
    let n ← asInt x
    if n < 0 then runtimePanic (.error "unsafe.String: len out of range")
    if n > IntKind.i64.max then unsupported (.unsafePointer "String: a length above the largest int")
    match p with
    | none =>
      if n = 0 then pure (.string .empty)
      else runtimePanic (.error "unsafe.String: ptr is nil and len is not zero")
    | some a =>
      if n = 0 then pure (.string .empty)
      else if ← variablesAt a (← elemOf pt) n.toNat then do
        let s' ← loadBytes a .empty n.toNat
        freeze a n.toNat
        pure (.string s')
      else unsupported (.unsafePointer "String: not so many bytes at ptr")) := rfl
theorem us_ok {pt px ty : TypeId} : Ok2E P (usH P pt).f (fun x y => Builtin.unsafeString_ #[pt, px] ty #[x, y]) := by
  unfold usH
  cases hd : tU P pt with
  | pointer u =>
    obtain ⟨hu, _⟩ := tU_und hd (by simp)
    show Ok2E P (Nat.rec (motive := fun _ => H2) _ _ (tSize P u) : H2).f _
    cases hsz : tSize P u with
    | zero => exact no2E
    | succ m =>
      cases m with
      | succ m => exact no2E
      | zero =>
        intro X s h w x y k R hx hy e
        obtain ⟨q, n, rfl, e1⟩ := isN_true (v := y) e
        have zero : ∀ p : Option Addr, (Builtin.unsafeString_ #[pt, px] ty #[.pointer p, .int q (0 : Int)]).run P w = .ok (.string .empty) w := by
          intro p
          rw [unsafeString_eq]
          have n2 : ¬ ((0 : Int) > IntKind.i64.max) := by decide
          cases p <;> simp [asInt, asIntOf, n2]
        have emp : (ByteArray.empty : ByteArray) = bys [] := rfl
        cases x <;> try exact absurd e1 Bool.false_ne_true
        · cases n with
          | succ n => exact absurd e1 Bool.false_ne_true
          | zero => exact okE_pure R (v := .str []) e1 (zero none) (by intro x hx; cases hx)
        · rename_i b off
          cases n with
          | zero => exact okE_pure R (v := .str []) e1 (zero _) (by intro x hx; cases hx)
          | succ n =>
            obtain ⟨hle, e2⟩ := bif_true e1
            have hle' : n + 1 ≤ 1099511627776 := Nat.ble_eq.mp hle
            obtain ⟨cs, hb, e3⟩ := ownE_true e2
            obtain ⟨cs', el', wr', hb', hl, e4⟩ := takeK_true R e3
            rw [hb] at hb'; cases hb'
            obtain ⟨r, hk, hr, hr256⟩ := bytesK_true _ _ e4
            obtain ⟨hwf, C, fr, hg, hc, hcap, hlen, hfr⟩ := Rel.at (R := R) hb
            rw [List.length_drop] at hl
            obtain ⟨hg', hbut⟩ := freeze_heap hg ((s b).off + off) (n + 1) (by omega)
            obtain ⟨R', A'⟩ := R.turn (i := b) (b' := .dead) (by rw [hb]; rfl) hbut trivial
            have hrl : r.length = n + 1 := by
              have := congrArg List.length hr
              rw [u8s_length, List.length_take, List.length_drop] at this
              omega
            refine .inl ⟨.str r, _, hk, s, _, ?_, R', A', hr256⟩
            show (Builtin.unsafeString_ #[pt, px] ty #[.pointer (some ⟨(s b).blk, (s b).off + off, none⟩), .int q ((n + 1 : Nat) : Int)]).run P w = .ok (.string (bys r)) _
            have hva := run_variablesAt (P := P) (n := n + 1) hg (by rw [hsz]; decide) (o := (s b).off + off) (by rw [hsz]; exact Nat.one_dvd _) (by rw [hsz]; omega)
            have hlb := run_loadBytes (P := P) (w := w) (g := (s b).blk) r ((s b).off + off) .empty hr256 (fun j v hj => by
              have hj' : (cvL s (u8s r))[j]? = some v := by rw [cvL_u8s, List.map_map]; exact hj
              rw [cvL_get] at hj'
              cases hq : (u8s r)[j]? with
              | none => rw [hq] at hj'; cases hj'
              | some x =>
                rw [hq] at hj'; cases hj'
                have hjr := ltL hq
                rw [u8s_length, hrl] at hjr
                rw [← hr, List.getElem?_take_of_lt hjr, List.getElem?_drop] at hq
                exact R.cell hb hq _ (by omega))
            rw [hrl] at hlb
            have n1 : ¬ (((n + 1 : Nat) : Int) < 0) := by omega
            have n2 : ¬ (((n + 1 : Nat) : Int) > IntKind.i64.max) := by
              have : IntKind.i64.max = 9223372036854775807 := by decide
              rw [this]; omega
            have n3 : ¬ (((n + 1 : Nat) : Int) = 0) := by omega
            have hel : (elemOf pt).run P w = .ok u w := by simp [elemOf, run_underlying hu]
            have hbe : (ByteArray.empty : ByteArray) ++ bys r = bys r := by
              apply ByteArray.ext
              rw [ByteArray.data_append]
              show (#[] : Array UInt8) ++ _ = _
              simp
            rw [hbe] at hlb
            rw [unsafeString_eq]
            simp only [asInt, asIntOf, Sem.run_bind, Sem.run_pure, Result.andThen_ok, if_neg n1, if_neg n2, if_neg n3, hel, Int.toNat_natCast, hva, if_true, hlb, run_freeze]
  | _ => exact no2E
theorem convH'_ok [Fit P] (src dst : TypeId) (hk : src < P.types.size) (hns : ∀ e, tU P dst ≠ .slice e) : Ok1 P (convH' P src dst).f (convert src dst) := by
  obtain ⟨ds, hs, _⟩ := und_desc (P := P) hk
  unfold convH'
  cases hd : tU P dst with
  | int q => exact cvInt_ok hs (tU_und hd (by simp)).1
  | float q => exact cvFlt_ok hs (tU_und hd (by simp)).1
  | string =>
    obtain ⟨hu, _⟩ := tU_und hd (by simp)
    show Ok1 P (Bool.rec (motive := fun _ => H1) _ _ (isSl P src) : H1).f _
    cases hsl : isSl P src with
    | false => exact cvStr_ok hs hu
    | true =>
      show Ok1 P (Bool.rec (motive := fun _ => H1) _ _ (isU8s P src) : H1).f _
      cases hu8 : isU8s P src with
      | false => exact no1
      | true =>
        intro X s h w x k R hx e
        exact cvStrB_ok hu8 hu X s h w x k R hx e
  | slice el => exact absurd hd (hns el)
  | unsafePointer =>
    obtain ⟨hu, _⟩ := tU_und hd (by simp)
    show Ok1 P (TypeDesc.rec (motive := fun _ => H1) _ _ _ _ _ _ _ _ _ _ _ _ _ _ _ _ _ (tU P src) : H1).f _
    cases hts : tU P src with
    | pointer t =>
      show Ok1 P (Nat.rec (motive := fun _ => H1) _ _ (tSize P t) : H1).f _
      cases hz : tSize P t with
      | zero => exact no1
      | succ m => exact cvToU_ok (tU_und hts (by simp)).1 hu (fit_pointer hts) (by rw [hz]; omega)
    | _ => exact no1
  | pointer u =>
    obtain ⟨hu, _⟩ := tU_und hd (by simp)
    show Ok1 P (TypeDesc.rec (motive := fun _ => H1) _ _ _ _ _ _ _ _ _ _ _ _ _ _ _ _ _ (tU P src) : H1).f _
    cases hts : tU P src with
    | unsafePointer =>
      show Ok1 P (Nat.rec (motive := fun _ => H1) _ _ (tSize P u) : H1).f _
      cases hz : tSize P u with
      | zero => exact no1
      | succ m =>
        have := cvFromU_ok (P := P) (tU_und hts (by simp)).1 hu (fit_pointer hd) (by rw [hz]; omega)
        rw [hz] at this
        exact this
    | _ => exact no1
  | _ => exact no1
theorem conv_ok [Fit P] (src dst : TypeId) (hns : ∀ e, tU P dst ≠ .slice e) : Ok1 P (convH P src dst).f (convert src dst) := by
  unfold convH
  cases hk : tKn P src with
  | false => exact no1
  | true => exact convH'_ok src dst (tKn_lt.1 hk) hns
theorem convHE'_ok [Fit P] (src dst : TypeId) (hk : src < P.types.size) : Ok1E P (convH' P src dst).f (convert src dst) := by
  obtain ⟨ds, hs, _⟩ := und_desc (P := P) hk
  unfold convH'
  cases hd : tU P dst with
  | int q => exact (cvInt_ok hs (tU_und hd (by simp)).1).e
  | float q => exact (cvFlt_ok hs (tU_und hd (by simp)).1).e
  | string =>
    obtain ⟨hu, _⟩ := tU_und hd (by simp)
    show Ok1E P (Bool.rec (motive := fun _ => H1) _ _ (isSl P src) : H1).f _
    cases hsl : isSl P src with
    | false => exact (cvStr_ok hs hu).e
    | true =>
      show Ok1E P (Bool.rec (motive := fun _ => H1) _ _ (isU8s P src) : H1).f _
      cases hu8 : isU8s P src with
      | false => exact no1E
      | true =>
        intro X s h w x k R hx e
        exact (cvStrB_ok hu8 hu X s h w x k R hx e).e R
  | slice el =>
    obtain ⟨hu, _⟩ := tU_und hd (by simp)
    show Ok1E P (Bool.rec (motive := fun _ => H1) _ _ (isU8s P dst) : H1).f _
    cases hu8 : isU8s P dst with
    | false => exact no1E
    | true =>
      show Ok1E P (Bool.rec (motive := fun _ => H1) _ _ (isSl P src) : H1).f _
      cases hsl : isSl P src with
      | true =>
        show Ok1E P (Bool.rec (motive := fun _ => H1) _ _ (Nat.beq src dst) : H1).f _
        cases hq : Nat.beq src dst with
        | false => exact no1E
        | true => have := Nat.eq_of_beq_eq_true hq; subst this; exact cvSame_ok hu8
      | false =>
        show Ok1E P (TypeDesc.rec (motive := fun _ => H1) _ _ _ _ _ _ _ _ _ _ _ _ _ _ _ _ _ (tU P src) : H1).f _
        cases hts : tU P src with
        | string =>
          show Ok1E P (Nat.rec (motive := fun _ => H1) _ _ (Nat.pred (tSize P el)) : H1).f _
          cases hp : Nat.pred (tSize P el) with
          | succ m => exact no1E
          | zero =>
            show Ok1E P (Nat.rec (motive := fun _ => H1) _ _ (tSize P el) : H1).f _
            cases hz : tSize P el with
            | zero => exact no1E
            | succ m =>
              have h1 : tSize P el = 1 := by rw [hz] at hp ⊢; simp at hp; omega
              obtain ⟨el', hu', hue⟩ := isU8s_true hu8
              rw [hu] at hu'; cases hu'
              exact cvBytes_ok (tU_und hts (by simp)).1 hu hue h1
        | _ => exact no1E
  | unsafePointer =>
    obtain ⟨hu, _⟩ := tU_und hd (by simp)
    show Ok1E P (TypeDesc.rec (motive := fun _ => H1) _ _ _ _ _ _ _ _ _ _ _ _ _ _ _ _ _ (tU P src) : H1).f _
    cases hts : tU P src with
    | pointer t =>
      show Ok1E P (Nat.rec (motive := fun _ => H1) _ _ (tSize P t) : H1).f _
      cases hz : tSize P t with
      | zero => exact no1E
      | succ m => exact (cvToU_ok (tU_und hts (by simp)).1 hu (fit_pointer hts) (by rw [hz]; omega)).e
    | _ => exact no1E
  | pointer u =>
    obtain ⟨hu, _⟩ := tU_und hd (by simp)
    show Ok1E P (TypeDesc.rec (motive := fun _ => H1) _ _ _ _ _ _ _ _ _ _ _ _ _ _ _ _ _ (tU P src) : H1).f _
    cases hts : tU P src with
    | unsafePointer =>
      show Ok1E P (Nat.rec (motive := fun _ => H1) _ _ (tSize P u) : H1).f _
      cases hz : tSize P u with
      | zero => exact no1E
      | succ m =>
        have := cvFromU_ok (P := P) (tU_und hts (by simp)).1 hu (fit_pointer hd) (by rw [hz]; omega)
        rw [hz] at this
        exact this.e
    | _ => exact no1E
  | _ => exact no1E
theorem convE_ok [Fit P] (src dst : TypeId) : Ok1E P (convH P src dst).f (convert src dst) := by
  unfold convH
  cases hk : tKn P src with
  | false => exact no1E
  | true => exact convHE'_ok src dst (tKn_lt.1 hk)
end Go.Rk

namespace Go.Rk
open Go
set_option linter.unusedSectionVars false
variable [Nt] [Nu]
variable {P : Program}
/-! ## a handler that only yields a value goes on with that value, or not at all -/
def DetK {α : Type} (F : (α → Bool) → Bool) : Prop := (∀ k, F k = false) ∨ ∃ a, ∀ k, F k = k a
def Det (h : AH) (F : K → Bool) : Prop := (∀ k, F k = false) ∨ ∃ v, ∀ k, F k = k v h
theorem det_no {h : AH} : Det h (fun _ => false) := .inl fun _ => rfl
theorem detK_no {α : Type} : DetK (fun _ : α → Bool => false) := .inl fun _ => rfl
theorem det_go {h : AH} (v : AV) : Det h (fun k => k v h) := .inr ⟨v, fun _ => rfl⟩
theorem detK_go {α : Type} (a : α) : DetK (fun k : α → Bool => k a) := .inr ⟨a, fun _ => rfl⟩
theorem DetK.bind {α β : Type} {F : (α → Bool) → Bool} {G : α → (β → Bool) → Bool} (hF : DetK F) (hG : ∀ a, DetK (G a)) : DetK (fun k => F (fun a => G a k)) := by
  rcases hF with h | ⟨a, h⟩
  · exact .inl fun k => h _
  · rcases hG a with h' | ⟨b, h'⟩
    · exact .inl fun k => (h _).trans (h' k)
    · exact .inr ⟨b, fun k => (h _).trans (h' k)⟩
theorem DetK.then {α : Type} {h : AH} {F : (α → Bool) → Bool} {G : α → K → Bool} (hF : DetK F) (hG : ∀ a, Det h (G a)) : Det h (fun k => F (fun a => G a k)) := by
  rcases hF with h | ⟨a, h⟩
  · exact .inl fun k => h _
  · rcases hG a with h' | ⟨b, h'⟩
    · exact .inl fun k => (h _).trans (h' k)
    · exact .inr ⟨b, fun k => (h _).trans (h' k)⟩
theorem det_bif {h : AH} {F : K → Bool} (c : Bool) (hF : Det h F) : Det h (fun k => Bool.rec (motive := fun _ => Bool) false (F k) c) := by cases c; exact det_no; exact hF
theorem detK_bif {α : Type} {F : (α → Bool) → Bool} (c : Bool) (hF : DetK F) : DetK (fun k => Bool.rec (motive := fun _ => Bool) false (F k) c) := by cases c; exact detK_no; exact hF
theorem det_ite {h : AH} {F G : K → Bool} (c : Bool) (hF : Det h F) (hG : Det h G) : Det h (fun k => Bool.rec (motive := fun _ => Bool) (F k) (G k) c) := by cases c; exact hF; exact hG
theorem detK_force (n : Nat) : DetK (forceK n) := .inr ⟨n, fun k => by cases n <;> rfl⟩
theorem detK_onO {α : Type} (o : Option α) : DetK (onO o) := by cases o; exact detK_no; exact detK_go _
theorem detK_isB (v : AV) : DetK (isB v) := by cases v <;> first | exact detK_no | exact detK_go _
theorem detK_isS (v : AV) : DetK (isS v) := by cases v <;> first | exact detK_no | exact detK_go _
theorem detK_isT (v : AV) : DetK (isT v) := by cases v <;> first | exact detK_no | exact detK_go _
theorem detK_isA (v : AV) : DetK (isA v) := by cases v <;> first | exact detK_no | exact detK_go _
theorem detK_isM (v : AV) : DetK (isM v) := by cases v <;> first | exact detK_no | exact detK_go _
theorem detK_isN (v : AV) : DetK (isN v) := by
  cases v with
  | int q n => cases n; exact detK_go _; exact detK_no
  | _ => exact detK_no
theorem det_isI {h : AH} (v : AV) {G : IntKind → Int → K → Bool} (hG : ∀ q n, Det h (G q n)) : Det h (fun k => isI v (fun q n => G q n k)) := by cases v <;> first | exact det_no | exact hG _ _
theorem det_isP {h : AH} (v : AV) {G : Nat → Nat → K → Bool} (hG : ∀ q n, Det h (G q n)) : Det h (fun k => isP v (fun q n => G q n k)) := by cases v <;> first | exact det_no | exact hG _ _
theorem det_isF {h : AH} (v : AV) {G : FloatKind → Nat → K → Bool} (hG : ∀ q n, Det h (G q n)) : Det h (fun k => isF v (fun q n => G q n k)) := by cases v <;> first | exact det_no | exact hG _ _
theorem det_isC {h : AH} (v : AV) {G : FloatKind → Nat → Nat → K → Bool} (hG : ∀ q n m, Det h (G q n m)) : Det h (fun k => isC v (fun q n m => G q n m k)) := by cases v <;> first | exact det_no | exact hG _ _ _
theorem detK_ltake {α : Type} : ∀ (i : Nat) (l : List α), DetK (ltakeK i l)
  | 0, _ => detK_go _
  | _ + 1, [] => detK_no
  | i + 1, a :: l => by
    show DetK (fun k => ltakeK i l (fun r => k (a :: r)))
    exact (detK_ltake i l).bind (fun r => detK_go _)
theorem detK_splice : ∀ (cs : List AV) (off : Nat) (new : List AV), DetK (spliceK cs off new)
  | [], _, [] => detK_go _
  | [], _, _ :: _ => detK_no
  | c :: cs, 0, [] => detK_go _
  | c :: cs, 0, n :: ns => (detK_splice cs 0 ns).bind (G := fun r k => k (n :: r)) fun r => detK_go _
  | c :: cs, o + 1, new => (detK_splice cs o new).bind (G := fun r k => k (c :: r)) fun r => detK_go _
theorem det_sem (m : Sem Value) (h : AH) : Det h (semK m h) := by
  unfold semK
  cases m with
  | pure v => exact det_bif _ (det_go _)
  | _ => exact det_no
theorem det_wrap (q : IntKind) (n : Nat) (h : AH) : Det h (wrapK q n h) := (detK_force _).then fun m => det_ite _ (det_go _) (det_go _)
/-! ## operators -/
def DetI (f : I2) : Prop := ∀ q a b h, Det h (f q a b h)
theorem det_nat {f : Nat → Nat → Nat} {m : IntKind → Int → Int → Sem Value} : DetI (fun q a b h k => natK f (m q) q a b h k) := by
  intro q a b h
  cases a with
  | ofNat a => cases b with
    | ofNat b => exact det_wrap _ _ _
    | negSucc b => exact det_sem _ _
  | negSucc a => exact det_sem _ _
theorem det_subK : DetI subK := by
  intro q a b h
  cases a with
  | ofNat a => cases b with
    | ofNat b => exact det_ite _ (det_sem (Op.intArith .sub q (.ofNat a) (.ofNat b)) h) (det_wrap _ _ _)
    | negSucc b => exact det_sem (Op.intArith .sub q (.ofNat a) (.negSucc b)) h
  | negSucc a => exact det_sem (Op.intArith .sub q (.negSucc a) b) h
theorem det_shrK : DetI shrK := by
  intro q a b h
  cases a with
  | ofNat a => cases b with
    | ofNat b => exact det_ite _ (det_sem _ _) ((detK_force _).then fun n => det_go _)
    | negSucc b => exact det_sem _ _
  | negSucc a => exact det_sem _ _
theorem det_semI {m : IntKind → Int → Int → Sem Value} : DetI (fun q a b h k => semK (m q a b) h k) := fun _ _ _ _ => det_sem _ _
theorem det_boolI {g : Int → Int → Bool} : DetI (fun _ a b h k => k (.bool (g a b)) h) := fun _ _ _ _ => det_go _
def Det2 (f : C2) : Prop := ∀ x y h, Det h (f x y h)
def Det1 (f : C1) : Prop := ∀ x h, Det h (f x h)
theorem det_onI {f : I2} (hf : DetI f) (q : IntKind) (a : Int) (y : AV) (h : AH) : Det h (onI f q a y h) := det_isI y fun _ _ => det_bif _ (hf _ _ _ _)
theorem det_intC {f : I2} (hf : DetI f) : Det2 (intC f) := fun x y h => det_isI x fun _ _ => det_onI hf _ _ _ _
theorem det_shC {f : I2} (hf : DetI f) : Det2 (shC f) := fun x y h => det_isI x fun _ _ => det_isI y fun _ _ => hf _ _ _ _
theorem det_fltA (op : BinOp) (q : FloatKind) (a : Nat) (y : AV) (h : AH) : Det h (fltA op q a y h) := det_isF y fun _ _ => det_bif _ (det_sem _ _)
theorem det_fltC (op : BinOp) (q : FloatKind) (a : Nat) (y : AV) (h : AH) : Det h (fltC op q a y h) := det_isF y fun _ _ => det_bif _ (det_sem _ _)
theorem det_cplxA (op : BinOp) (q : FloatKind) (a b : Nat) (y : AV) (h : AH) : Det h (cplxA op q a b y h) := det_isC y fun _ _ _ => det_bif _ (det_sem _ _)
theorem det_strCat (a : List Nat) (y : AV) (h : AH) : Det h (strCat a y h) := (detK_isS y).then fun _ => det_bif _ (det_go _)
theorem det_strCmp (f : List Nat → List Nat → Bool) (a : List Nat) (y : AV) (h : AH) : Det h (strCmp f a y h) := (detK_isS y).then fun _ => det_go _
theorem det_addC : Det2 addC := by
  intro x y h
  cases x <;> first | exact det_no | exact det_onI det_nat _ _ _ _ | exact det_strCat _ _ _ | exact det_fltA _ _ _ _ _ | exact det_cplxA _ _ _ _ _ _
theorem det_subC : Det2 subC := by
  intro x y h
  cases x <;> first | exact det_no | exact det_onI det_subK _ _ _ _ | exact det_fltA _ _ _ _ _ | exact det_cplxA _ _ _ _ _ _
theorem det_mulC : Det2 mulC := by
  intro x y h
  cases x <;> first | exact det_no | exact det_onI det_nat _ _ _ _ | exact det_fltA _ _ _ _ _
theorem det_cmpC {op : BinOp} {f : I2} {g : List Nat → List Nat → Bool} (hf : DetI f) : Det2 (cmpC op f g) := by
  intro x y h
  cases x <;> first | exact det_no | exact det_onI hf _ _ _ _ | exact det_strCmp _ _ _ _ | exact det_fltC _ _ _ _ _
theorem detK_subV (t : TypeId) (l : List AV) (off : Nat) : DetK (subV P t l off) := by
  unfold subV
  cases tAgg P t with
  | true => exact (detK_ltake _ _).bind fun r => detK_go _
  | false => exact detK_onO _
/-! ## equality -/
def DetQ (f : AV → AV → (Bool → Bool) → Bool) : Prop := ∀ x y, DetK (f x y)
theorem detQ_no : DetQ eqNo := fun _ _ => detK_no
theorem detQ_Bo : DetQ eqBo := fun x y => (detK_isB x).bind fun a => (detK_isB y).bind fun b => detK_go _
theorem detQ_In : DetQ eqIn := by
  intro x y
  cases x <;> try exact detK_no
  cases y <;> try exact detK_no
  exact detK_bif _ (detK_go _)
theorem detQ_Fl : DetQ eqFl := by
  intro x y
  cases x <;> try exact detK_no
  cases y <;> try exact detK_no
  exact detK_bif _ (detK_go _)
theorem detQ_Cx : DetQ eqCx := by
  intro x y
  cases x <;> try exact detK_no
  cases y <;> try exact detK_no
  exact detK_bif _ (detK_go _)
theorem detQ_St : DetQ eqSt := fun x y => (detK_isS x).bind fun a => (detK_isS y).bind fun b => detK_go _
theorem detQ_Pt : DetQ eqPt := by
  intro x y
  cases x <;> first | exact detK_no | (cases y <;> first | exact detK_no | exact detK_go _ | exact detK_bif _ (detK_go _))
theorem detQ_Pn : DetQ eqPn := by
  intro x y
  cases x <;> first | exact detK_no | (cases y <;> first | exact detK_no | exact detK_go _)
theorem detQ_If (n : Bool) : DetQ (eqIf n) := by
  intro x y
  cases x <;> first | exact detK_no | (cases y <;> first | exact detK_no | exact detK_go _ | exact detK_bif _ (detK_go _))
theorem detQ_Sl : DetQ eqSl := by
  intro x y
  cases x <;> first | exact detK_no | (cases y <;> first | exact detK_no | exact detK_go _)
theorem detQ_Mp : DetQ eqMp := by
  intro x y
  cases x <;> first | exact detK_no | (cases y <;> first | exact detK_no | exact detK_go _)
theorem detQ_Fu : DetQ eqFu := by
  intro x y
  cases x <;> first | exact detK_no | (cases y <;> first | exact detK_no | exact detK_go _)
theorem detK_eqFs {ev : Eqk} (hev : ∀ t, DetQ (ev t)) (xs ys : List AV) : ∀ fs : List Field, DetK (eqFs P ev fs xs ys)
  | [] => detK_go _
  | f :: fs => by
    show DetK (fun k => subV P f.type xs f.offset (fun a => subV P f.type ys f.offset (fun b => ev f.type a b (fun e => Bool.rec (motive := fun _ => Bool) (k false) (eqFs P ev fs xs ys k) e))))
    refine (detK_subV _ _ _).bind fun a => (detK_subV _ _ _).bind fun b => (hev _ a b).bind fun e => ?_
    cases e
    · exact detK_go _
    · exact detK_eqFs hev xs ys fs
theorem detQ_Ag {ev : Eqk} (hev : ∀ t, DetQ (ev t)) (fs : List Field) : DetQ (eqAg P ev fs) := fun x y => (detK_isA x).bind fun _ => (detK_isA y).bind fun _ => detK_eqFs hev _ _ _
theorem detQ_T {ev : Eqk} (hev : ∀ t, DetQ (ev t)) (t : TypeId) (n : Bool) : DetQ (eqT P ev t n).f := by
  unfold eqT
  cases tU P t with
  | bool => exact detQ_Bo
  | int q => exact detQ_In
  | float q => exact detQ_Fl
  | complex q => exact detQ_Cx
  | string => exact detQ_St
  | pointer e =>
    show DetQ (Nat.rec (motive := fun _ => EqW) _ _ (tSize P e) : EqW).f
    cases tSize P e with
    | zero => exact detQ_Pn
    | succ m => exact detQ_Pt
  | unsafePointer => exact detQ_Pn
  | interface ms => exact detQ_If n
  | slice e => exact detQ_Sl
  | map a b => exact detQ_Mp
  | func a b v => exact detQ_Fu
  | struct fs =>
    show DetQ (Bool.rec (motive := fun _ => EqW) ⟨eqAg P ev fs.toList⟩ ⟨eqNo⟩ _ : EqW).f
    generalize (or (P.stoodInHeld t) (fs.toList.any (fun f => f.name == "_"))) = c
    cases c with
    | true => exact detQ_no
    | false => exact detQ_Ag hev _
  | _ => exact detQ_no
theorem detQ_N : ∀ n t, DetQ (eqN P n t)
  | 0, _ => fun _ _ => detK_no
  | n + 1, t => by
    show DetQ (fun x y k => (EqW.rec (motive := fun _ => Bool) (fun f => f x y k) (eqT P (eqN P n) t true)))
    have := detQ_T (P := P) (ev := eqN P n) (detQ_N n) t true
    cases h : eqT P (eqN P n) t true with
    | mk f => rw [h] at this; exact this
theorem det_eqTop (t : TypeId) (c : Bool) : DetQ (eqTop P t c).f := by
  unfold eqTop
  cases aggOk P t with
  | true => exact detQ_T (detQ_N 6) t _
  | false => exact detQ_no
theorem det_binH' (op : BinOp) (t : TypeId) (c : Bool) : Det2 (binH' P op t c).f := by
  have heq : ∀ (e : EqW), DetQ e.f → Det2 (eqH e).f := fun ⟨f⟩ hf x y h => (hf x y).then fun b => det_go _
  have hne : ∀ (e : EqW), DetQ e.f → Det2 (neH e).f := fun ⟨f⟩ hf x y h => (hf x y).then fun b => det_go _
  cases op with
  | add => exact det_addC
  | sub => exact det_subC
  | mul => exact det_mulC
  | quo => exact det_intC det_semI
  | rem => exact det_intC det_semI
  | and => exact det_intC det_nat
  | or => exact det_intC det_nat
  | xor => exact det_intC det_nat
  | andNot => exact det_intC det_semI
  | shl => exact det_shC det_semI
  | shr => exact det_shC det_shrK
  | lss => exact det_cmpC det_boolI
  | gtr => exact det_cmpC (f := gtI) (fun _ _ _ _ => det_go _)
  | leq => exact det_cmpC (f := leI) (fun _ _ _ _ => det_go _)
  | geq => exact det_cmpC (f := geI) (fun _ _ _ _ => det_go _)
  | eql => exact heq _ (det_eqTop t c)
  | neq => exact hne _ (det_eqTop t c)
theorem detK_findB (n : Nat) (x y : AV) : ∀ l : List BE, DetK (fun k => findB n x y k l)
  | [] => detK_no
  | ⟨o, a, b, r⟩ :: l => by
    show DetK (fun k => (Bool.rec (findB n x y k l) (k r.av) (and (Nat.beq o n) (and (svIs a x) (svIs b y))) : Bool))
    cases and (Nat.beq o n) (and (svIs a x) (svIs b y)) with
    | true => exact detK_go _
    | false => exact detK_findB n x y l
theorem detK_findL (i : Nat) : ∀ l : List (Nat × SV), DetK (fun k => findL i k l)
  | [] => detK_no
  | e :: l => by
    show DetK (fun k => (Bool.rec (findL i k l) (k e.2.av) (Nat.beq e.1 i) : Bool))
    cases Nat.beq e.1 i with
    | true => exact detK_go _
    | false => exact detK_findL i l
theorem detK_findX (i : Nat) (x : AV) : ∀ l : List (Nat × SV × Nat), DetK (fun k => findX i x k l)
  | [] => detK_no
  | e :: l => by
    show DetK (fun k => (Bool.rec (findX i x k l) (k (.opq e.2.2)) (and (Nat.beq e.1 i) (svIs e.2.1 x)) : Bool))
    cases and (Nat.beq e.1 i) (svIs e.2.1 x) with
    | true => exact detK_go _
    | false => exact detK_findX i x l
theorem det_symC {n : Nat} {f : C2} (hf : Det2 f) : Det2 (symC n f) := by
  intro x y h
  show Det h (fun k => (Bool.rec (f x y h k) (findB n x y (fun r => k r h) Nt.tb) (or (isSym x) (isSym y)) : Bool))
  cases or (isSym x) (isSym y) with
  | true => exact (detK_findB n x y _).then fun _ => det_go _
  | false => exact hf x y h
theorem det_binH (op : BinOp) (t : TypeId) (c : Bool) : Det2 (binH P op t c).f := by
  have h := det_binH' (P := P) op t c
  unfold binH
  cases hh : binH' P op t c with
  | mk f => rw [hh] at h; exact det_symC h
theorem det_unH (op : UnOp) : Det1 (unH op).f := by
  cases op with
  | neg => exact fun x h => det_isI x fun _ _ => det_sem _ _
  | not => exact fun x h => (detK_isB x).then fun _ => det_go _
  | xor => exact fun x h => det_isI x fun _ _ => det_sem _ _
  | _ => exact fun x h => det_no
/-! ## looking into memory and into values -/
theorem detK_cells (h : AH) (b : Nat) : DetK (cellsK h b) := by
  unfold cellsK
  cases h.get b <;> first | exact detK_no | exact detK_go _
theorem detK_take (h : AH) (b off n : Nat) : DetK (takeK h b off n) := (detK_cells h b).bind fun _ => detK_ltake _ _
theorem detK_map (h : AH) (r : Nat) {G : Ents → Nat → K → Bool} (hG : ∀ es c, Det h (G es c)) : Det h (fun k => mapK h r (fun es c => G es c k)) := by
  unfold mapK
  cases h.get r <;> first | exact det_no | exact hG _ _
theorem det_load (t : TypeId) : Det1 (loadH P t).f := by
  unfold loadH
  cases tKn P t with
  | false => exact fun x h => det_no
  | true =>
    show Det1 (Bool.rec (motive := fun _ => H1) ⟨load1⟩ ⟨loadN (tSize P t)⟩ (tAgg P t)).f
    cases tAgg P t with
    | true => exact fun x h => det_isP x fun b off => (detK_take h b off _).then fun _ => det_go _
    | false =>
      intro x h
      cases x <;> first
        | exact det_no
        | exact (detK_cells h _).then fun cs => (detK_onO _).then fun v => det_go v
        | (rename_i i; show Det h (fun k => findL i (fun v => k v h) Nt.ld); exact (detK_findL _ _).then fun v => det_go v)
theorem detK_fill {place : Nat → Option (Nat × Nat)} : ∀ (ps : List Nat) (cells vs : List AV), DetK (fillK place ps cells vs)
  | [], _, _ => detK_go _
  | _ :: _, _, [] => detK_no
  | i :: ps, cells, v :: vs => by
    show DetK (fun k => onO (place i) (fun p => Bool.rec (motive := fun _ => Bool) false (spliceK cells p.1 v.cells (fun cs => fillK place ps cs vs k)) (and (lenIs v p.2) (Nat.ble (nat_lit 1) p.2))))
    exact (detK_onO _).bind fun p => detK_bif _ ((detK_splice _ _ _).bind fun cs => detK_fill ps cs vs)
theorem det_build (t : TypeId) (ps : List Nat) (vs : List AV) (h : AH) : Det h ((buildH P t ps).f vs h) := by
  unfold buildH
  cases tU P t with
  | struct fs => exact (detK_fill _ _ _).then fun _ => det_go _
  | array n e => exact (detK_fill _ _ _).then fun _ => det_go _
  | _ => exact det_no
theorem det_fAddr (off : Nat) : Det1 (fAddr off) := fun x h => det_isP x fun b o => (detK_force _).then fun o => det_go (.ptr b o)
theorem det_fieldC (t : TypeId) (off : Nat) : Det1 (fieldC P t off) := fun x h => (detK_isA x).then fun cs => (detK_subV _ _ _).then fun v => det_go v
theorem det_ext (i : Nat) : Det1 (extC i) := fun x h => (detK_isT x).then fun vs => (detK_onO _).then fun v => det_go v
theorem det_addr (b off i n sz : Nat) (h : AH) : Det h (addrK b off i n sz h) := det_bif _ ((detK_force _).then fun o => det_go (.ptr b o))
theorem det_idxAddr (t : TypeId) : Det2 (idxAddrH P t).f := by
  unfold idxAddrH
  cases tU P t with
  | array n e => exact fun x y h => det_isP x fun b off => (detK_isN y).then fun i => det_addr _ _ _ _ _ _
  | slice e =>
    intro x y h
    cases x <;> first
      | exact det_no
      | exact (detK_isN y).then fun i => det_addr _ _ _ _ _ _
      | (rename_i i
         show Det h (fun k => (Bool.rec (motive := fun _ => Bool) false (findX i y (fun v => k v h) Nt.ix) (Nat.beq (tSize P e) (nat_lit 1))))
         exact det_bif _ ((detK_findX _ _ _).then fun v => det_go v))
  | _ => exact fun x y h => det_no
theorem det_index (t : TypeId) : Det2 (indexH P t).f := by
  unfold indexH
  cases tU P t with
  | string => exact fun x y h => (detK_isS x).then fun s => (detK_isN y).then fun i => (detK_onO _).then fun b => det_go (AV.int .u8 (.ofNat b))
  | array n e => exact fun x y h => (detK_isA x).then fun cs => (detK_isN y).then fun i => det_bif _ ((detK_subV _ _ _).then fun v => det_go v)
  | _ => exact fun x y h => det_no
theorem detK_bnd (v : Option AV) (d : Nat) : DetK (bndK v d) := by cases v; exact detK_go _; exact detK_isN _
theorem det_two {h : AH} (lo hi : Option AV) (d m : Nat) {G : Nat → Nat → K → Bool} (hG : ∀ l u, Det h (G l u)) : Det h (fun k => twoK lo hi d m (fun l u => G l u k)) :=
  (detK_bnd lo _).then fun l => (detK_bnd hi _).then fun u => det_bif _ (det_bif _ (hG _ _))
def DetS (f : CS) : Prop := ∀ x lo hi h, Det h (f x lo hi h)
theorem det_slice (t : TypeId) : DetS (sliceH P t).f := by
  have hstr : DetS slStr := fun x lo hi h => (detK_isS x).then fun s => (detK_force _).then fun n => det_two lo hi n n fun l u => by
    show Det h (fun k => Bool.rec (motive := fun _ => Bool) (ltakeK (Nat.sub u l) (ldrop s l) (fun r => k (.str r) h)) (k (.str (ldrop s l)) h) (Nat.beq u n))
    exact det_ite _ ((detK_ltake _ _).then fun r => det_go (.str r)) (det_go _)
  have hsl : ∀ sz, DetS (slSl sz) := by
    intro sz x lo hi h
    cases x <;> first | exact det_no | exact det_two _ _ _ _ fun l u => det_go _
  have harr : ∀ m sz, DetS (slArr m sz) := fun m sz x lo hi h => det_isP x fun b off => det_two _ _ _ _ fun l u => det_go _
  have hno : DetS (fun _ _ _ _ _ => false) := fun _ _ _ _ => det_no
  unfold sliceH
  cases tU P t with
  | string => exact hstr
  | slice e => exact hsl _
  | array n e => exact harr _ _
  | pointer a =>
    show DetS (TypeDesc.rec (motive := fun _ => SlK) _ _ _ _ _ _ _ _ _ _ _ _ _ _ _ _ _ (tU P a) : SlK).f
    cases tU P a with
    | array n e => exact harr _ _
    | _ => exact hno
  | _ => exact hno
theorem det_pick (c a b : AV) (h : AH) : Det h (pickC c a b h) := (detK_isB c).then fun c => det_ite c (det_go b) (det_go a)
theorem det_mkI (t : TypeId) : Det1 (mkI t) := fun x h => det_go _
theorem det_nilChk : Det1 nilChk := by
  intro x h
  cases x with
  | ptr b o => exact det_go _
  | fn f a b => cases f <;> first | exact det_no | exact det_go _
  | _ => exact det_no
theorem det_find {h : AH} {q : Kq} (hq : DetQ q) (x : AV) {no : K → Bool} {G : AV → Nat → K → Bool} (hno : Det h no) (hG : ∀ v s, Det h (G v s)) : ∀ es : Ents, Det h (fun k => findK q x es (no k) (fun v s => G v s k))
  | [] => hno
  | e :: es => by
    show Det h (fun k => q x e.1 (fun b => Bool.rec (motive := fun _ => Bool) (findK q x es (no k) (fun v s => G v s k)) (G e.2.1 e.2.2 k) b))
    exact (hq x e.1).then fun b => det_ite b (det_find hq x hno hG es) (hG _ _)
theorem det_look {q : Kq} (hq : DetQ q) (ok : Bool) (z : AV) : Det2 (lookC q ok z) := by
  intro x y h
  cases x <;> first | exact det_no | exact det_go _ | exact detK_map h _ fun es c => det_find hq y (det_go _) (fun v s => det_go _) es
theorem det_len (t : TypeId) : Det1 (lenH P t).f := by
  unfold lenH
  cases tU P t with
  | string => exact fun x h => (detK_isS x).then fun s => (detK_force _).then fun n => det_go (AV.int .i64 (.ofNat n))
  | array n e => exact fun x h => det_go _
  | slice e => exact fun x h => by cases x <;> first | exact det_no | exact det_go _ | (rename_i i; show Det h (fun k => findL i (fun v => k v h) Nt.ln); exact (detK_findL _ _).then fun v => det_go v)
  | map a b => exact fun x h => by cases x <;> first | exact det_no | exact det_go _ | exact detK_map h _ fun es c => det_go _
  | _ => exact fun x h => det_no
theorem det_cap (t : TypeId) : Det1 (capH P t).f := by
  unfold capH
  cases tU P t with
  | array n e => exact fun x h => det_go _
  | slice e => exact fun x h => by cases x <;> first | exact det_no | exact det_go _
  | _ => exact fun x h => det_no
theorem det_cplx : Det2 cplxC := fun x y h => det_isF x fun _ _ => det_isF y fun _ _ => det_bif _ (det_go _)
theorem det_real : Det1 realC := fun x h => det_isC x fun _ _ _ => det_go _
theorem det_imag : Det1 imagC := fun x h => det_isC x fun _ _ _ => det_go _
theorem detK_max2 (x y : AV) : DetK (max2 x y) := by
  cases x <;> try exact detK_no
  cases y <;> try exact detK_no
  rename_i q a r b
  show DetK (fun k : AV → Bool => Bool.rec (motive := fun _ => Bool) (k (AV.int q a)) (k (AV.int q b)) (ilt a b))
  cases ilt a b <;> exact detK_go _
theorem detK_min2 (x y : AV) : DetK (min2 x y) := by
  cases x <;> try exact detK_no
  · rename_i q a
    cases y <;> try exact detK_no
    rename_i r b
    show DetK (fun k : AV → Bool => Bool.rec (motive := fun _ => Bool) (k (AV.int q a)) (k (AV.int q b)) (ilt b a))
    cases ilt b a <;> exact detK_go _
  · rename_i q a
    cases y <;> try exact detK_no
    rename_i r b
    show DetK (fun k => onO (q.format.order a b) (fun o => Ordering.rec (motive := fun _ => Bool) (k (AV.flt q a)) (Bool.rec (motive := fun _ => Bool) (k (AV.flt q b)) (k (AV.flt q a)) (q.decode a).neg) (k (AV.flt q b)) o))
    refine (detK_onO _).bind fun o => ?_
    cases o
    · exact detK_go _
    · show DetK (fun k : AV → Bool => Bool.rec (motive := fun _ => Bool) (k (AV.flt q b)) (k (AV.flt q a)) (q.decode a).neg)
      cases (q.decode a).neg <;> exact detK_go _
    · exact detK_go _
theorem detK_fold {f : AV → AV → (AV → Bool) → Bool} (hf : ∀ x y, DetK (f x y)) : ∀ (l : List AV) (x : AV), DetK (foldK f l x)
  | [], x => detK_go x
  | y :: l, x => (hf x y).bind (G := fun v k => foldK f l v k) fun v => detK_fold hf l v
theorem det_fold {f : AV → AV → (AV → Bool) → Bool} (hf : ∀ x y, DetK (f x y)) (l : List AV) (h : AH) : Det h (foldC f l h) := by
  cases l with
  | nil => exact det_no
  | cons x l => exact (detK_fold hf l x).then fun v => det_go v
theorem det_sd : Det1 sdC := by
  intro x h
  cases x with
  | nils => exact det_go _
  | sl b off n i j => cases n; exact det_no; exact det_go _
  | slk b off n c => cases c; exact det_no; exact det_go _
  | _ => exact det_no
theorem det_mkFn (f : Fn) (n : Nat) (l : List AV) (h : AH) : Det h (mkFn f n l h) := (detK_ltake _ _).then fun x => det_go (.fn f x (ldrop l n))
/-! ## conversions -/
theorem detK_bytes : ∀ l : List AV, DetK (bytesK l)
  | [] => detK_go _
  | v :: l => by
    cases v <;> try exact detK_no
    rename_i q n
    cases q <;> try exact detK_no
    cases n with
    | negSucc n => exact detK_no
    | ofNat n => exact detK_bif _ ((detK_bytes l).bind (G := fun r k => k (n :: r)) fun r => detK_go _)
theorem detK_lenD (v : AV) : DetK (lenD v) := by cases v <;> first | exact detK_no | exact detK_go _
theorem detK_slCells (h : AH) (sz : Nat) (x : AV) (n : Nat) : DetK (slCells h sz x n) := by
  cases x with
  | nils => exact detK_go _
  | sl b off l i j =>
    show DetK (fun k => (Nat.rec (motive := fun _ => Bool) (k []) (fun m _ => takeK h b off (m + 1) k) (Nat.mul n sz)))
    cases Nat.mul n sz
    · exact detK_go _
    · exact detK_take _ _ _ _
  | slk b off l c =>
    show DetK (fun k => (Nat.rec (motive := fun _ => Bool) (k []) (fun m _ => takeK h b off (m + 1) k) (Nat.mul n sz)))
    cases Nat.mul n sz
    · exact detK_go _
    · exact detK_take _ _ _ _
  | str s => exact detK_bif _ ((detK_ltake _ _).bind fun l => detK_go _)
  | _ => exact detK_no
theorem det_cvInt (q : IntKind) : Det1 (cvInt q) := by
  intro x h
  cases x <;> try exact det_no
  · rename_i r n
    cases n
    · exact det_wrap _ _ _
    · rename_i n; exact det_sem (Conv.intToInt q (.negSucc n)) h
  · rename_i r b; exact det_sem (Conv.floatToInt r b q) h
theorem det_cvStrB : Det1 cvStrB := by
  intro x h
  show Det h (fun k => lenD x (fun n => slCells h 1 x n (fun l => bytesK l (fun r => k (.str r) h))))
  exact (detK_lenD x).then (G := fun n k => slCells h 1 x n (fun l => bytesK l (fun r => k (.str r) h))) fun n => (detK_slCells h 1 x n).then (G := fun l k => bytesK l (fun r => k (.str r) h)) fun l => (detK_bytes l).then (G := fun r k => k (.str r) h) fun r => det_go (.str r)
theorem det_conv (src dst : TypeId) (hns : ∀ e, tU P dst ≠ .slice e) : Det1 (convH P src dst).f := by
  have hno : Det1 (no1H).f := fun _ _ => det_no
  unfold convH
  cases tKn P src with
  | false => exact hno
  | true =>
    show Det1 (convH' P src dst).f
    unfold convH'
    cases hd : tU P dst with
    | int q => exact det_cvInt q
    | float q =>
      intro x h
      cases x <;> first | exact det_no | exact det_go _ | exact det_bif _ (det_go _)
    | string =>
      show Det1 (Bool.rec (motive := fun _ => H1) _ _ (isSl P src) : H1).f
      cases isSl P src with
      | false => intro x h; cases x <;> first | exact det_no | exact det_go _
      | true =>
        show Det1 (Bool.rec (motive := fun _ => H1) _ _ (isU8s P src) : H1).f
        cases isU8s P src with
        | false => exact hno
        | true => exact det_cvStrB
    | slice e => exact absurd hd (hns e)
    | unsafePointer =>
      show Det1 (TypeDesc.rec (motive := fun _ => H1) _ _ _ _ _ _ _ _ _ _ _ _ _ _ _ _ _ (tU P src) : H1).f
      cases tU P src with
      | pointer t =>
        show Det1 (Nat.rec (motive := fun _ => H1) _ _ (tSize P t) : H1).f
        cases tSize P t with
        | zero => exact hno
        | succ m => intro x h; cases x <;> first | exact det_no | exact det_go _ | exact (detK_cells _ _).then fun cs => (detK_onO _).then fun _ => det_go _
      | _ => exact hno
    | pointer u =>
      show Det1 (TypeDesc.rec (motive := fun _ => H1) _ _ _ _ _ _ _ _ _ _ _ _ _ _ _ _ _ (tU P src) : H1).f
      cases tU P src with
      | unsafePointer =>
        show Det1 (Nat.rec (motive := fun _ => H1) _ _ (tSize P u) : H1).f
        cases tSize P u with
        | zero => exact hno
        | succ m =>
          intro x h
          cases x <;> try first | exact det_no | exact det_go _
          rename_i b o
          cases o with
          | succ o => exact det_no
          | zero =>
            show Det h (fun k => rowK h b u (fun cs => Bool.rec (motive := fun _ => Bool) false (k (.ptr b (nat_lit 0)) h) (Nat.ble (m + 1) (len cs))))
            unfold rowK
            cases h.get b with
            | cells cs e w => exact det_bif _ (det_bif _ (det_go _))
            | _ => exact det_no
      | _ => exact hno
    | _ => exact hno
end Go.Rk

namespace Go.Rk
open Go
set_option linter.unusedSectionVars false
variable [Nt] [Nu]
variable {P : Program} {X : Nat → Prop} {s : Sig} {h : AH} {w : World}

/-! ## what is asked of the code -/
noncomputable def oprOk (P : Program) (o : Operand) : Bool := match o with
  | .tmp _ => true | .const v => okV 8 v | .global g => Nat.ble (Nat.succ g) P.globals.size | .func _ => true
noncomputable def operOk (P : Program) (nt : Nat) (o : Oper) : Bool :=
  and (match o.dst with | some d => Nat.ble (Nat.succ d) nt | none => true) (lall (oprOk P) o.op.operands.toList)
noncomputable def codeOk (P : Program) (nt : Nat) (c : Code) : Bool :=
  Code.rec (motive := fun _ => Bool) true (fun _ ops _ => lall (operOk P nt) ops.toList) (fun _ _ a b => and a b) (fun c _ _ a b => and (oprOk P c) (and a b))
    (fun _ _ c => c) (fun _ c => c) (fun _ _ _ _ _ _ => true) (fun _ => true) (fun _ c => c) (fun _ => true) (fun _ => true) true (fun _ => true) c
noncomputable def fnOk (P : Program) (fn : Func) : Bool := match fn.body with | some c => and (not (fn.name == "runtime.NumGoroutine")) (codeOk P fn.ntmps c) | none => true
noncomputable def codesOk (P : Program) : Bool := lall (fnOk P) P.funcs.toList
class FitC (P : Program) : Prop extends Fit P where
  codes : codesOk P = true
  mixed : P.follows .mixedOrders = true

/-! ## slots and temporaries -/
structure EnvOk (s : Sig) (n nt : Nat) (t : Env) (a : Act) : Prop where
  val : ∀ i, a.tmps.getD i undef = cv s (Tr.get .undef (path i) t)
  wf : ∀ i, Wf s n (Tr.get .undef (path i) t)
  size : nt ≤ a.tmps.size
  defers : a.defers = []
theorem EnvOk.ext {s s' : Sig} {n n' nt : Nat} {t : Env} {a : Act} (E : EnvOk s n nt t a) (hn : n ≤ n') (hs : ∀ i, i < n → s' i = s i) : EnvOk s' n' nt t a :=
  ⟨fun i => by rw [E.val i, cv_congr hs (E.wf i)], fun i => (E.wf i).ext hn hs, E.size, E.defers⟩
theorem EnvOk.aft {X : Nat → Prop} {s s' : Sig} {h h' : AH} {w w' : World} {nt : Nat} {t : Env} {a : Act} (E : EnvOk s h.nx nt t a) (A : Aft X s h w s' h' w') : EnvOk s' h'.nx nt t a := E.ext A.nx A.sig
theorem EnvOk.put {n nt : Nat} {t : Env} {a : Act} (E : EnvOk s n nt t a) {d : Nat} {v : AV} (hd : d < nt) (hv : Wf s n v) : EnvOk s n nt (Tr.set .undef v (path d) t) (a.put (some d) (cv s v)) := by
  have hlt : d < a.tmps.size := Nat.lt_of_lt_of_le hd E.size
  refine ⟨fun i => ?_, fun i => ?_, by simpa [Act.put] using E.size, E.defers⟩
  · rw [Tr.get_set]
    by_cases e : i = d
    · subst e
      rw [if_pos rfl]
      simp [Act.put, hlt]
    · rw [if_neg (fun h => e (path_inj h)), ← E.val i]
      simp [Act.put, Ne.symm e]
  · rw [Tr.get_set]
    by_cases e : path i = path d
    · rw [if_pos e]; exact hv
    · rw [if_neg e]; exact E.wf i
theorem pd_ok {nt : Nat} {t : Env} {a : Act} {o : Operand} (R : Rel P X s h w) (E : EnvOk s h.nx nt t a) (ho : oprOk P o = true) :
    ∃ g, pd o = ⟨g⟩ ∧ cv s (g t) = a.eval o ∧ Wf s h.nx (g t) := by
  cases o with
  | tmp i => exact ⟨_, acc_mk _, (E.val i).symm, E.wf i⟩
  | const v => exact ⟨_, rfl, cv_of s 8 v ho, Wf_of s _ 8 v ho⟩
  | global g =>
    have hg : g < P.globals.size := Nat.ble_eq.mp ho
    obtain ⟨h1, h2⟩ := R.glob g hg
    refine ⟨_, rfl, ?_, Nat.lt_of_lt_of_le hg R.nxG⟩
    show Value.pointer (some ⟨(s g).blk, (s g).off + 0, none⟩) = _
    rw [h1, h2]; rfl
  | func f => exact ⟨_, rfl, rfl, trivial, trivial⟩
theorem evL_nil (t : Env) : evL [] t = [] := rfl
theorem evL_cons (x : V) (l : List V) (t : Env) : evL (x :: l) t = x.f t :: evL l t := by cases x; rfl
theorem pds_cons (o : Operand) (l : List Operand) : lmap pd (o :: l) = pd o :: lmap pd l := rfl
theorem pdL_ok {nt : Nat} {t : Env} {a : Act} (R : Rel P X s h w) (E : EnvOk s h.nx nt t a) : ∀ l : List Operand, (∀ o ∈ l, oprOk P o = true) →
    cvL s (evL (lmap pd l) t) = l.map a.eval ∧ WfL s h.nx (evL (lmap pd l) t)
  | [], _ => ⟨rfl, trivial⟩
  | o :: l, ho => by
    obtain ⟨g, hg, h1, h2⟩ := pd_ok R E (ho o (List.mem_cons_self ..))
    obtain ⟨h3, h4⟩ := pdL_ok R E l (fun x hx => ho x (List.mem_cons_of_mem _ hx))
    rw [pds_cons, evL_cons, hg]
    exact ⟨by show cv s (g t) :: _ = _; rw [h1, h3]; rfl, h2, h4⟩
theorem pds_ok {nt : Nat} {t : Env} {a : Act} (R : Rel P X s h w) (E : EnvOk s h.nx nt t a) (l : Array Operand) (ho : ∀ o ∈ l.toList, oprOk P o = true) :
    (cvL s (evL (pds l) t)).toArray = l.map a.eval ∧ WfL s h.nx (evL (pds l) t) := by
  obtain ⟨h1, h2⟩ := pdL_ok R E l.toList ho
  refine ⟨?_, h2⟩
  show (cvL s (evL (lmap pd l.toList) t)).toArray = _
  rw [h1]
  apply Array.ext'
  simp

/-! ## what an operation does, by the program logic of the model -/
/-- what follows an operation -/
def Next' (P : Program) (X : Nat → Prop) (s : Sig) (h : AH) (w : World) (k : K) (dst : Option Tmp) (a : Act) (N : Act → World → Prop) : Prop :=
  ∀ v s' h' w', k v h' = true → Rel P X s' h' w' → Aft X s h w s' h' w' → Wf s' h'.nx v → N (a.put dst (cv s' v)) w'
theorem wp_good {o : Oper} {a : Act} {k : K} {m : Sem Value} {N : Act → World → Prop} {Q : Exit → Act → World → Prop} (hex : execOp a.eval o = (do pure (.value (← m)))) (g : GoodE P X s h w k m)
    (hN : Next' P X s h w k o.dst a N) : o.wp P a w N Q := by
  rcases g with ⟨v, h', hk, s', w', hr, R', A', hv⟩ | g
  · unfold Oper.wp
    rw [hex, Sem.run_bind, hr]
    exact hN v s' h' w' hk R' A' hv
  · exact g.elim
theorem wp_goodU {o : Oper} {a : Act} {k : K} {m : Sem Unit} {N : Act → World → Prop} {Q : Exit → Act → World → Prop} (hex : execOp a.eval o = (do m; pure .skip)) (g : GoodU P X s h w k m)
    (hN : Next' P X s h w k o.dst a N) : o.wp P a w N Q := by
  obtain ⟨h', w', hk, hr, R', A', hn⟩ := g
  unfold Oper.wp
  rw [hex, Sem.run_bind, hr]
  exact hN .undef s h' w' hk R' A' trivial

/-! ## calls -/
/-- what a call comes to -/
def CallOk (P : Program) (X : Nat → Prop) (s : Sig) (h : AH) (w : World) (k : K) (f : FuncId) (args : Array Value) : Prop :=
  (∃ v s' h' w', k v h' = true ∧ (callFunc f args).run P w = .ok (.value (cv s' v)) w' ∧ Rel P X s' h' w' ∧ Aft X s h w s' h' w' ∧ Wf s' h'.nx v) ∨
  ((callFunc f args).run P w = .ok (.enter f args) w ∧ Calls P f args w fun
    | .returned u, w' => ∃ v s' h', u = cv s' v ∧ k v h' = true ∧ Rel P X s' h' w' ∧ Aft X s h w s' h' w' ∧ Wf s' h'.nx v
    | _, _ => False)
def EcOk (P : Program) (ec : Ec) : Prop :=
  ∀ (f : FuncId) (args : List AV) (X : Nat → Prop) (s : Sig) (h : AH) (w : World) (k : K), Rel P X s h w → WfL s h.nx args → ec f args h k = true → CallOk P X s h w k f (cvL s args).toArray
theorem wp_call {o : Oper} {a : Act} {k : K} {f : FuncId} {args : Array Value} {N : Act → World → Prop} {Q : Exit → Act → World → Prop} (hex : (execOp a.eval o).run P w = (callFunc f args).run P w) (g : CallOk P X s h w k f args)
    (hN : Next' P X s h w k o.dst a N) : o.wp P a w N Q := by
  unfold Oper.wp
  rw [hex]
  rcases g with ⟨v, s', h', w', hk, hr, R', A', hv⟩ | ⟨hr, hc⟩
  · rw [hr]
    exact hN v s' h' w' hk R' A' hv
  · rw [hr]
    refine Calls.mono hc fun e w' he => ?_
    cases e with
    | returned u =>
      obtain ⟨v, s', h', rfl, hk, R', A', hv⟩ := he
      exact hN v s' h' w' hk R' A' hv
    | panicked c => exact he.elim
    | outgrown => exact he.elim
/-- a prepared operation is right -/
def FOk (P : Program) (ec : Ec) (o : Oper) (f : F) : Prop :=
  ∀ (X : Nat → Prop) (s : Sig) (h : AH) (w : World) (nt : Nat) (t : Env) (a : Act) (k : K) (N : Act → World → Prop) (Q : Exit → Act → World → Prop),
    Rel P X s h w → EnvOk s h.nx nt t a → f.f ec t h k = true → Next' P X s h w k o.dst a N → o.wp P a w N Q
end Go.Rk

namespace Go.Rk
open Go
set_option linter.unusedSectionVars false
variable [Nt] [Nu]
variable {P : Program} {ec : Ec}
theorem fok_no {o : Oper} : FOk P ec o oNo := fun _ _ _ _ _ _ _ _ _ _ _ _ e _ => absurd e Bool.false_ne_true
section
variable {o : Oper} {x y z : Operand}
theorem fok_mv (hx : oprOk P x = true) (hex : ∀ ρ : Operand → Value, execOp ρ o = pure (.value (ρ x))) : FOk P ec o (oMv (pd x)) := by
  intro X s h w nt t a k N Q R E e hN
  obtain ⟨g, hg, h1, h2⟩ := pd_ok R E hx
  rw [hg] at e
  change k (g t) h = true at e
  unfold Oper.wp
  rw [hex]
  show N (a.put o.dst (a.eval x)) w
  rw [← h1]
  exact hN _ s h w e R (Aft.refl X s h w) h2
theorem fok_1 {g : H1} {m : Value → Sem Value} (hx : oprOk P x = true) (hg : Ok1E P g.f m) (hex : ∀ ρ : Operand → Value, execOp ρ o = (do pure (.value (← m (ρ x))))) : FOk P ec o (o1 (pd x) g) := by
  intro X s h w nt t a k N Q R E e hN
  obtain ⟨gx, hgx, h1, h2⟩ := pd_ok R E hx
  rw [hgx] at e
  obtain ⟨f⟩ := g
  have := hg X s h w (gx t) k R h2 e
  rw [h1] at this
  exact wp_good (hex _) this hN
theorem fok_2 {g : H2} {m : Value → Value → Sem Value} (hx : oprOk P x = true) (hy : oprOk P y = true) (hg : Ok2E P g.f m) (hex : ∀ ρ : Operand → Value, execOp ρ o = (do pure (.value (← m (ρ x) (ρ y))))) : FOk P ec o (o2 (pd x) (pd y) g) := by
  intro X s h w nt t a k N Q R E e hN
  obtain ⟨gx, hgx, h1, h2⟩ := pd_ok R E hx
  obtain ⟨gy, hgy, h3, h4⟩ := pd_ok R E hy
  rw [hgx, hgy] at e
  obtain ⟨f⟩ := g
  have := hg X s h w (gx t) (gy t) k R h2 h4 e
  rw [h1, h3] at this
  exact wp_good (hex _) this hN
end
theorem lall_mem {α : Type} {f : α → Bool} {l : Array α} (h : lall f l.toList = true) : ∀ x ∈ l.toList, f x = true := lall_true h
theorem ps_zip' (ps : List (Nat × Operand)) (a : Act) : ps.map (fun x => (x.1, a.eval x.2)) = (lmap (fun x => x.1) ps).zip ((ps.map (·.2)).map a.eval) := by
  rw [lmap_eq]
  induction ps with
  | nil => rfl
  | cons p ps ih => simp [ih]
theorem ps2_eq (ps : Array (Nat × Operand)) : ps2 ps = lmap pd (ps.toList.map (·.2)) := by
  unfold ps2
  rw [lmap_eq, lmap_eq, List.map_map]; rfl
variable [Fit P]
theorem fok_build {o : Oper} {t : TypeId} {ps : Array (Nat × Operand)} (ho : o.op = .build t ps) (hp : ∀ x ∈ ps.toList.map (·.2), oprOk P x = true) (hz : zeroOk P t = true) : FOk P ec o (oL (ps2 ps) (buildH P t (ps1 ps))) := by
  intro X s h w nt te a k N Q R E e hN
  rw [ps2_eq] at e
  obtain ⟨h1, h2⟩ := pdL_ok R E _ hp
  have e' : (buildH P t (ps1 ps)).f (evL (lmap pd (ps.toList.map (·.2))) te) h k = true := by
    revert e; unfold oL; cases buildH P t (ps1 ps); exact id
  have g := build_ok hz R h2 e' (ps.map fun (i, x) => (i, a.eval x)) (by rw [h1, Array.toList_map]; exact ps_zip' ps.toList a)
  exact wp_good (by simp only [execOp, ho]) (g.e R) hN
theorem fok_bslice {o : Oper} {t e : TypeId} {n : Nat} {ps : Array (Nat × Operand)} (ho : o.op = .buildSlice t n ps) (hp : ∀ x ∈ ps.toList.map (·.2), oprOk P x = true) (he : tElem P t = some e) (hz : zeroOk P e = true) (hs : Nat.ble (Nat.mul n (tSize P e)) 16777216 = true) :
    FOk P ec o (oL (ps2 ps) ⟨bslC P e n (ps1 ps)⟩) := by
  intro X s h w nt te a k N Q R E ek hN
  rw [ps2_eq] at ek
  obtain ⟨h1, h2⟩ := pdL_ok R E _ hp
  have g := bslice_ok he hz hs R h2 ek (ps.map fun (i, x) => (i, a.eval x)) (by rw [h1, Array.toList_map]; exact ps_zip' ps.toList a)
  exact wp_good (by simp only [execOp, ho]) g hN
theorem evL_lapp (a b : List V) (t : Env) : evL (lapp a b) t = evL a t ++ evL b t := by
  unfold evL
  rw [lapp_eq, lmap_eq, lmap_eq, lmap_eq, List.map_append]
theorem evL_length (l : List V) (t : Env) : (evL l t).length = l.length := by unfold evL; rw [lmap_eq, List.length_map]
theorem fok_makeFunc {o : Oper} {f : Fn} {l r : Array Operand} (ho : o.op = .makeFunc f l r) (hl : ∀ x ∈ l.toList, oprOk P x = true) (hr : ∀ x ∈ r.toList, oprOk P x = true) : FOk P ec o (oL (lapp (pds l) (pds r)) ⟨mkFn f l.size⟩) := by
  intro X s h w nt te a k N Q R E ek hN
  obtain ⟨h1, h2⟩ := pds_ok R E l hl
  obtain ⟨h3, h4⟩ := pds_ok R E r hr
  have e' : mkFn f l.size (evL (lapp (pds l) (pds r)) te) h k = true := ek
  rw [evL_lapp] at e'
  have hlen : (evL (pds l) te).length = l.size := by rw [evL_length]; unfold pds; rw [lmap_eq, List.length_map]; simp
  rw [← hlen] at e'
  have g := mkFn_ok R h2 h4 e'
  rw [h1, h3] at g
  exact wp_good (by simp only [execOp, ho]) (g.e R) hN
theorem fok_slice {o : Oper} {t : TypeId} {x : Operand} {lo hi : Option Operand} (ho : o.op = .slice t x lo hi none) (hx : oprOk P x = true) (hlo : ∀ y, lo = some y → oprOk P y = true) (hhi : ∀ y, hi = some y → oprOk P y = true) :
    FOk P ec o (oSlice (pd x) (pdO lo) (pdO hi) (sliceH P t)) := by
  intro X s h w nt te a k N Q R E ek hN
  obtain ⟨gx, hgx, h1, h2⟩ := pd_ok R E hx
  have hs := slice_ok (P := P) t
  have ob : ∀ (l : Option Operand), (∀ y, l = some y → oprOk P y = true) → (l = none) ∨ ∃ y gy, l = some y ∧ pd y = ⟨gy⟩ ∧ cv s (gy te) = a.eval y := by
    intro l hl
    cases l with
    | none => exact .inl rfl
    | some y =>
      obtain ⟨gy, hgy, h3, _⟩ := pd_ok R E (hl y rfl)
      exact .inr ⟨y, gy, rfl, hgy, h3⟩
  unfold oSlice at ek
  cases hsl : sliceH P t with
  | mk f =>
    rw [hsl] at hs
    rw [hsl, hgx] at ek
    have fin : ∀ (l u : Option AV), f (gx te) l u h k = true → l.map (cv s) = lo.map a.eval → u.map (cv s) = hi.map a.eval → o.wp P a w N Q := by
      intro l u e hl hu
      have g := hs X s h w (gx te) l u k R h2 e
      rw [h1, hl, hu] at g
      exact wp_good (by simp only [execOp, ho, Option.map_none]) (g.e R) hN
    rcases ob lo hlo with rfl | ⟨y, gy, rfl, hgy, h3⟩
    · rcases ob hi hhi with rfl | ⟨y', gy', rfl, hgy', h3'⟩
      · exact fin none none ek rfl rfl
      · simp only [pdO, hgy'] at ek
        exact fin none (some (gy' te)) ek rfl (by simp [h3'])
    · rcases ob hi hhi with rfl | ⟨y', gy', rfl, hgy', h3'⟩
      · simp only [pdO, hgy] at ek
        exact fin (some (gy te)) none ek (by simp [h3]) rfl
      · simp only [pdO, hgy, hgy'] at ek
        exact fin (some (gy te)) (some (gy' te)) ek (by simp [h3]) (by simp [h3'])
theorem fok_onKey {o : Oper} {t : TypeId} {f : Kq → F} (hf : ∀ q kt el kd, Keyed P t q kt el kd → FOk P ec o (f q)) : FOk P ec o (onKey P t f) := by
  intro X s h w nt te a k N Q R E ek hN
  obtain ⟨q, kt, el, kd, K, e1⟩ := onKey_true ek
  exact hf q kt el kd K X s h w nt te a k N Q R E e1 hN
theorem fok_lookup {o : Oper} {t : TypeId} {x k : Operand} {ok : Bool} (ho : o.op = .lookup t x k ok) (hx : oprOk P x = true) (hk : oprOk P k = true) : FOk P ec o (prepOp P (.lookup t x k ok)) := by
  show FOk P ec o (match tU P t with | .map _ e => (Bool.rec (motive := fun _ => F) oNo (onKey P t (fun q => o2 (pd x) (pd k) ⟨lookC q ok (tZero P e)⟩)) (zeroOk P e)) | _ => oNo)
  cases hd : tU P t with
  | map kt e =>
    show FOk P ec o (Bool.rec (motive := fun _ => F) oNo (onKey P t (fun q => o2 (pd x) (pd k) ⟨lookC q ok (tZero P e)⟩)) (zeroOk P e))
    cases hz : zeroOk P e with
    | false => exact fok_no
    | true =>
      refine fok_onKey fun q kt' el kd K => ?_
      have hty := K.ty
      rw [(tU_und hd (by simp)).1] at hty
      cases hty
      exact fok_2 hx hk (look_ok K hz ok).e (fun ρ => by simp only [execOp, ho])
  | _ => exact fok_no
theorem fok_mapUpdate {o : Oper} {t : TypeId} {m x v : Operand} (hex : ∀ ρ : Operand → Value, execOp ρ o = (do Instr.mapUpdate t (ρ m) (ρ x) (ρ v); pure .skip)) (hm : oprOk P m = true) (hx : oprOk P x = true) (hv : oprOk P v = true) :
    FOk P ec o (onKey P t (fun q => o3 (pd m) (pd x) (pd v) (mupd q))) := by
  refine fok_onKey fun q kt el kd K => ?_
  intro X s h w nt te a k N Q R E ek hN
  obtain ⟨gm, hgm, h1, h2⟩ := pd_ok R E hm
  obtain ⟨gx, hgx, h3, h4⟩ := pd_ok R E hx
  obtain ⟨gv, hgv, h5, h6⟩ := pd_ok R E hv
  rw [hgm, hgx, hgv] at ek
  have g := upd_ok K R (m := gm te) (x := gx te) (v := gv te) h4 h6 ek
  rw [h1, h3, h5] at g
  exact wp_goodU (hex _) g hN
theorem fok_mapEntry {o : Oper} {t : TypeId} {m x : Operand} (ho : o.op = .mapEntry t m x) (hm : oprOk P m = true) (hx : oprOk P x = true) : FOk P ec o (prepOp P (.mapEntry t m x)) := by
  show FOk P ec o (match tU P t with | .map _ e => (Bool.rec (motive := fun _ => F) oNo (onKey P t (fun q => o2 (pd m) (pd x) ⟨ment q (tZero P e)⟩)) (zeroOk P e)) | _ => oNo)
  cases hd : tU P t with
  | map kt e =>
    show FOk P ec o (Bool.rec (motive := fun _ => F) oNo (onKey P t (fun q => o2 (pd m) (pd x) ⟨ment q (tZero P e)⟩)) (zeroOk P e))
    cases hz : zeroOk P e with
    | false => exact fok_no
    | true =>
      refine fok_onKey fun q kt' el kd K => ?_
      have hty := K.ty
      rw [(tU_und hd (by simp)).1] at hty
      cases hty
      exact fok_2 hm hx (ment_ok K hz) (fun ρ => by simp only [execOp, ho])
  | _ => exact fok_no
theorem fok_entryStore {o : Oper} {t : TypeId} {m st v : Operand} (ho : o.op = .entryStore t m st v) (hm : oprOk P m = true) (hx : oprOk P st = true) (hv : oprOk P v = true) : FOk P ec o (o3 (pd m) (pd st) (pd v) mst) := by
  intro X s h w nt te a k N Q R E ek hN
  obtain ⟨gm, hgm, h1, h2⟩ := pd_ok R E hm
  obtain ⟨gx, hgx, h3, h4⟩ := pd_ok R E hx
  obtain ⟨gv, hgv, h5, h6⟩ := pd_ok R E hv
  rw [hgm, hgx, hgv] at ek
  have g := mst_ok (t := t) R (m := gm te) (st := gx te) (v := gv te) h6 ek
  rw [h1, h3, h5] at g
  exact wp_goodU (by simp only [execOp, ho]) g hN
theorem fok_store {o : Oper} {t : TypeId} {x v : Operand} (ho : o.op = .store t x v) (hx : oprOk P x = true) (hv : oprOk P v = true) (ht : t < P.types.size) : FOk P ec o (o2 (pd x) (pd v) ⟨storeN (tSize P t)⟩) := by
  intro X s h w nt te a k N Q R E ek hN
  obtain ⟨gx, hgx, h3, h4⟩ := pd_ok R E hx
  obtain ⟨gv, hgv, h5, h6⟩ := pd_ok R E hv
  rw [hgx, hgv] at ek
  have g := store_ok ht R (a := gx te) (v := gv te) h6 ek
  rw [h3, h5] at g
  exact wp_goodU (by simp only [execOp, ho]) g hN
theorem fok_pick {o : Oper} {c x y : Operand} (ho : o.op = .pick c x y) (hc : oprOk P c = true) (hx : oprOk P x = true) (hy : oprOk P y = true) : FOk P ec o (o3 (pd c) (pd x) (pd y) pickC) := by
  intro X s h w nt te a k N Q R E ek hN
  obtain ⟨gm, hgm, h1, h2⟩ := pd_ok R E hc
  obtain ⟨gx, hgx, h3, h4⟩ := pd_ok R E hx
  obtain ⟨gv, hgv, h5, h6⟩ := pd_ok R E hy
  rw [hgm, hgx, hgv] at ek
  have g := pick_ok R (c := gm te) (a := gx te) (b := gv te) h4 h6 ek
  rw [h1, h3, h5] at g
  exact wp_good (m := do pure (if ← asBool (a.eval c) then a.eval x else a.eval y)) (by
    simp only [execOp, ho]
    cases a.eval c <;> rfl) (g.e R) hN
theorem fok_nilCheck {o : Oper} {x : Operand} (ho : o.op = .nilCheck x) (hx : oprOk P x = true) : FOk P ec o (o1 (pd x) ⟨nilChk⟩) := by
  intro X s h w nt te a k N Q R E ek hN
  obtain ⟨gx, hgx, h3, h4⟩ := pd_ok R E hx
  rw [hgx] at ek
  obtain ⟨hk, hv⟩ := nilChk_ok R (x := gx te) h4 ek
  have hex : execOp a.eval o = pure (.value (a.eval x)) := by
    simp only [execOp, ho]
    rw [← h3]
    rcases hv with ⟨b, u, hv⟩ | ⟨g, l, r, hv⟩
    · rw [hv]; rfl
    · rw [hv]; rfl
  unfold Oper.wp
  rw [hex]
  show N (a.put o.dst (a.eval x)) w
  rw [← h3]
  exact hN _ s h w hk R (Aft.refl X s h w) h4
theorem fok_alloc {o : Oper} {t : TypeId} (ho : o.op = .alloc t) (hz : zeroOk P t = true) : FOk P ec o (o0 (fun h k => allocK h (.cells (tZero P t).cells t true) (fun i => .ptr i (nat_lit 0)) k)) := by
  intro X s h w nt te a k N Q R E ek hN
  exact wp_good (by simp only [execOp, ho]) (alloc_ok hz R ek) hN
theorem fok_makeMap {o : Oper} {t : TypeId} (ho : o.op = .makeMap t none) : FOk P ec o (o0 (fun h k => allocK h (.gmap [] (nat_lit 0) true) (fun i => .map i) k)) := by
  intro X s h w nt te a k N Q R E ek hN
  exact wp_good (by simp only [execOp, ho, Option.map_none]) (makeMap_ok t R ek) hN
end Go.Rk

namespace Go.Rk
open Go
set_option linter.unusedSectionVars false
variable [Nt] [Nu]
variable {P : Program} {ec : Ec}
/-! ## builtins -/
theorem exec_builtin {o : Oper} {c : Call} {b : Builtin} (ho : o.op = .call c) (hc : c.callee = .builtin b) (ρ : Operand → Value) (m : Sem Value)
    (hm : builtin b c.argTypes o.type (c.args.map fun | .const _ => true | _ => false) (c.args.map ρ) = (do pure (.value (← m)))) : execOp ρ o = (do pure (.value (← m))) := by
  simp only [execOp, ho, resolve, hc]
  exact hm
section
variable [Fit P] {o : Oper} {c : Call} {b : Builtin}
theorem call_args {c : Call} (h : ∀ x ∈ c.operands.toList, oprOk P x = true) : ∀ x ∈ c.args.toList, oprOk P x = true := by
  intro x hx
  apply h
  unfold Call.operands
  cases c.callee <;> simp <;> simp at hx <;> (first | exact hx | exact .inr hx)
theorem arr1 {l : Array Operand} {x : Operand} (h : l.toList = [x]) : l = #[x] := by apply Array.ext'; simpa using h
theorem arr2 {l : Array Operand} {x y : Operand} (h : l.toList = [x, y]) : l = #[x, y] := by apply Array.ext'; simpa using h
theorem arrT1 {l : Array TypeId} {x : TypeId} (h : l.toList = [x]) : l = #[x] := by apply Array.ext'; simpa using h
theorem arrT2 {l : Array TypeId} {x y : TypeId} (h : l.toList = [x, y]) : l = #[x, y] := by apply Array.ext'; simpa using h
theorem lmap_pd1 {l : List Operand} {v : V} (h : lmap pd l = [v]) : ∃ x, l = [x] ∧ v = pd x := by
  cases l with
  | nil => cases h
  | cons x l =>
    cases l with
    | nil => cases h; exact ⟨x, rfl, rfl⟩
    | cons y l => cases h
theorem lmap_pd2 {l : List Operand} {v u : V} (h : lmap pd l = [v, u]) : ∃ x y, l = [x, y] ∧ v = pd x ∧ u = pd y := by
  cases l with
  | nil => cases h
  | cons x l =>
    cases l with
    | nil => cases h
    | cons y l =>
      cases l with
      | nil => cases h; exact ⟨x, y, rfl, rfl, rfl⟩
      | cons z l => cases h
/-- a builtin of one value -/
theorem fok_b1 (ho : o.op = .call c) (hc : c.callee = .builtin b) (ha : ∀ x ∈ c.args.toList, oprOk P x = true) {v : V} {g : H1} {m : Value → Sem Value} (hv : pds c.args = [v]) (hg : Ok1E P g.f m)
    (hm : ∀ u : Value, ∀ cs, builtin b c.argTypes o.type cs #[u] = (do pure (.value (← m u)))) : FOk P ec o (o1 v g) := by
  obtain ⟨x, hx, rfl⟩ := lmap_pd1 hv
  have hargs := arr1 hx
  exact fok_1 (ha x (by rw [hx]; simp)) hg (fun ρ => exec_builtin ho hc ρ (m (ρ x)) (by rw [hargs, show (#[x] : Array Operand).map ρ = #[ρ x] by simp]; exact hm (ρ x) _))
theorem fok_b2 (ho : o.op = .call c) (hc : c.callee = .builtin b) (ha : ∀ x ∈ c.args.toList, oprOk P x = true) {v u : V} {g : H2} {m : Value → Value → Sem Value} (hv : pds c.args = [v, u]) (hg : Ok2E P g.f m)
    (hm : ∀ p q : Value, ∀ cs, builtin b c.argTypes o.type cs #[p, q] = (do pure (.value (← m p q)))) : FOk P ec o (o2 v u g) := by
  obtain ⟨x, y, hx, rfl, rfl⟩ := lmap_pd2 hv
  have hargs := arr2 hx
  exact fok_2 (ha x (by rw [hx]; simp)) (ha y (by rw [hx]; simp)) hg (fun ρ => exec_builtin ho hc ρ (m (ρ x) (ρ y)) (by rw [hargs, show (#[x, y] : Array Operand).map ρ = #[ρ x, ρ y] by simp]; exact hm (ρ x) (ρ y) _))
theorem fok_bL (ho : o.op = .call c) (hc : c.callee = .builtin b) (ha : ∀ x ∈ c.args.toList, oprOk P x = true) {f : List AV → AH → K → Bool} {m : Array Value → Sem Value}
    (hf : ∀ (X : Nat → Prop) (s : Sig) (h : AH) (w : World) (l : List AV) (k : K), Rel P X s h w → WfL s h.nx l → f l h k = true → GoodE P X s h w k (m (cvL s l).toArray))
    (hm : ∀ (us : Array Value) cs, builtin b c.argTypes o.type cs us = (do pure (.value (← m us)))) : FOk P ec o (oL (pds c.args) ⟨f⟩) := by
  intro X s h w nt te a k N Q R E ek hN
  obtain ⟨h1, h2⟩ := pds_ok R E c.args ha
  have g := hf X s h w _ k R h2 ek
  rw [h1] at g
  exact wp_good (exec_builtin ho hc a.eval _ (hm _ _)) g hN
theorem fok_builtin (ho : o.op = .call c) (hc : c.callee = .builtin b) (ha : ∀ x ∈ c.args.toList, oprOk P x = true) : FOk P ec o (builtinF P b c.argTypes.toList (pds c.args)) := by
  cases b with
  | append =>
    show FOk P ec o (match c.argTypes.toList with | [st, xt] => (match pds c.args with | [x, y] => o2 x y (appendH P st xt) | _ => oNo) | _ => oNo)
    split
    · rename_i st xt ht
      split
      · rename_i x y hv
        exact fok_b2 ho hc ha hv (append_ok st xt o.type) (fun p q cs => by rw [arrT2 ht]; rfl)
      · exact fok_no
    · exact fok_no
  | len =>
    show FOk P ec o (match c.argTypes.toList with | [t] => (match pds c.args with | [x] => o1 x (lenH P t) | _ => oNo) | _ => oNo)
    split
    · rename_i t ht
      split
      · rename_i x hv
        exact fok_b1 ho hc ha hv (len_ok t (ts := #[t]) rfl o.type).e (fun p cs => by rw [arrT1 ht]; rfl)
      · exact fok_no
    · exact fok_no
  | cap =>
    show FOk P ec o (match c.argTypes.toList with | [t] => (match pds c.args with | [x] => o1 x (capH P t) | _ => oNo) | _ => oNo)
    split
    · rename_i t ht
      split
      · rename_i x hv
        exact fok_b1 ho hc ha hv (cap_ok t (ts := #[t]) rfl o.type).e (fun p cs => by rw [arrT1 ht]; rfl)
      · exact fok_no
    · exact fok_no
  | complex =>
    show FOk P ec o (match pds c.args with | [x, y] => o2 x y ⟨cplxC⟩ | _ => oNo)
    split
    · rename_i x y hv
      exact fok_b2 ho hc ha hv (g := ⟨cplxC⟩) (cplx_ok c.argTypes o.type).e (fun p q cs => rfl)
    · exact fok_no
  | real =>
    show FOk P ec o (match pds c.args with | [x] => o1 x ⟨realC⟩ | _ => oNo)
    split
    · rename_i x hv
      exact fok_b1 ho hc ha hv (g := ⟨realC⟩) (real_ok c.argTypes o.type).e (fun p cs => rfl)
    · exact fok_no
  | imag =>
    show FOk P ec o (match pds c.args with | [x] => o1 x ⟨imagC⟩ | _ => oNo)
    split
    · rename_i x hv
      exact fok_b1 ho hc ha hv (g := ⟨imagC⟩) (imag_ok c.argTypes o.type).e (fun p cs => rfl)
    · exact fok_no
  | copy =>
    show FOk P ec o (match c.argTypes.toList with | [t, _] => (match pds c.args with | [x, y] => oOpt (tElem P t) (fun e => o2 x y ⟨copyC (tSize P e)⟩) | _ => oNo) | _ => oNo)
    split
    · rename_i t xt ht
      split
      · rename_i x y hv
        cases he : tElem P t with
        | none => exact fok_no
        | some e => exact fok_b2 ho hc ha hv (g := ⟨copyC (tSize P e)⟩) (copy_ok he xt o.type) (fun p q cs => by rw [arrT2 ht]; rfl)
      · exact fok_no
    · exact fok_no
  | delete =>
    show FOk P ec o (match c.argTypes.toList with | [t, _] => (match pds c.args with | [x, y] => onKey P t (fun q => o2 x y ⟨delC q⟩) | _ => oNo) | _ => oNo)
    split
    · rename_i t xt ht
      split
      · rename_i x y hv
        exact fok_onKey fun q kt el kd K => fok_b2 ho hc ha hv (g := ⟨delC q⟩) (del_ok K (ts := #[t, xt]) rfl o.type) (fun p q cs => by rw [arrT2 ht]; rfl)
      · exact fok_no
    · exact fok_no
  | clear =>
    show FOk P ec o (match c.argTypes.toList with | [t] => (match pds c.args with | [x] => oOpt (tElem P t) (fun e => Bool.rec (motive := fun _ => F) oNo (o1 x ⟨clearC (tZero P e).cells⟩) (zeroOk P e)) | _ => oNo) | _ => oNo)
    split
    · rename_i t ht
      split
      · rename_i x hv
        cases he : tElem P t with
        | none => exact fok_no
        | some e =>
          show FOk P ec o (Bool.rec (motive := fun _ => F) oNo (o1 x ⟨clearC (tZero P e).cells⟩) (zeroOk P e))
          cases hz : zeroOk P e with
          | false => exact fok_no
          | true => exact fok_b1 ho hc ha hv (g := ⟨clearC (tZero P e).cells⟩) (clear_ok he hz o.type) (fun p cs => by rw [arrT1 ht]; rfl)
      · exact fok_no
    · exact fok_no
  | max => exact fok_bL ho hc ha (m := fun us => Builtin.max_ c.argTypes o.type us) (fun X s h w l k R hl e => (max_ok c.argTypes o.type R hl e).e R) (fun us cs => rfl)
  | min => exact fok_bL ho hc ha (m := fun us => Builtin.min_ c.argTypes o.type us) (fun X s h w l k R hl e => (min_ok c.argTypes o.type R hl e).e R) (fun us cs => rfl)
  | unsafeSliceData =>
    show FOk P ec o (match pds c.args with | [x] => o1 x ⟨sdC⟩ | _ => oNo)
    split
    · rename_i x hv
      exact fok_b1 ho hc ha hv (g := ⟨sdC⟩) (sd_ok (ts := c.argTypes) o.type).e (fun p cs => rfl)
    · exact fok_no
  | unsafeString =>
    show FOk P ec o (match c.argTypes.toList with | [pt, _] => (match pds c.args with | [x, y] => o2 x y (usH P pt) | _ => oNo) | _ => oNo)
    split
    · rename_i pt px ht
      split
      · rename_i x y hv
        exact fok_b2 ho hc ha hv us_ok (fun p q cs => by rw [arrT2 ht]; rfl)
      · exact fok_no
    · exact fok_no
  | _ => exact fok_no
/-! ## calls of functions -/
theorem fok_call (hec : EcOk P ec) (ho : o.op = .call c) (ha : ∀ x ∈ c.operands.toList, oprOk P x = true) : FOk P ec o (callF P c) := by
  have hargs := call_args (P := P) ha
  unfold callF
  cases hc : c.callee with
  | builtin b => exact fok_builtin ho hc hargs
  | invoke r m => exact fok_no
  | value f =>
    have hf : oprOk P f = true := ha f (by unfold Call.operands; rw [hc]; simp)
    have exec : ∀ (a : Act) (w : World) (g : FuncId) (first cap : Array Value), a.eval f = .func (.func g) first cap → (execOp a.eval o).run P w = (callFunc g (first ++ c.args.map a.eval ++ cap)).run P w := by
      intro a w g first cap hv
      have : execOp a.eval o = (do let d ← Deferred.ofValue (a.eval f) (c.args.map a.eval); invoke d.target d.args) := by simp only [execOp, ho, resolve, hc]
      rw [this, hv]
      rfl
    have dyn : FOk P ec o (oCallV (pd f) (pds c.args)) := by
      intro X s h w nt te a k N Q R E ek hN
      obtain ⟨gf, hgf, h1, h2⟩ := pd_ok R E hf
      obtain ⟨h3, h4⟩ := pds_ok R E c.args hargs
      rw [hgf] at ek
      have e1 : callV ec (gf te) (evL (pds c.args) te) h k = true := ek
      unfold callV at e1
      cases hgv : gf te with
      | fn ff first cap =>
        rw [hgv] at e1 h1 h2
        cases ff with
        | func g =>
          have e2 : ec g (lapp first (lapp (evL (pds c.args) te) cap)) h k = true := e1
          rw [lapp_eq, lapp_eq] at e2
          have := hec g _ X s h w k R (h2.1.app (h4.app h2.2)) e2
          have hv : a.eval f = .func (.func g) (cvL s first).toArray (cvL s cap).toArray := h1.symm
          refine wp_call ?_ this hN
          rw [exec a w g _ _ hv]
          congr 2
          rw [cvL_app, cvL_app, ← h3]
          apply Array.ext'
          simp [List.append_assoc]
        | _ => exact absurd e1 Bool.false_ne_true
      | _ => rw [hgv] at e1; exact absurd e1 Bool.false_ne_true
    cases f with
    | func g =>
      intro X s h w nt te a k N Q R E ek hN
      obtain ⟨h3, h4⟩ := pds_ok R E c.args hargs
      have := hec g _ X s h w k R h4 (show ec g (evL (pds c.args) te) h k = true from ek)
      rw [h3] at this
      refine wp_call ?_ this hN
      rw [exec a w g #[] #[] rfl]
      simp
    | _ => exact dyn
/-! ## every operation -/
theorem prep_ok (hec : EcOk P ec) (o : Oper) (hop : ∀ x ∈ o.op.operands.toList, oprOk P x = true) : FOk P ec o (prepOp P o.op) := by
  obtain ⟨dst, op, type, pos, after, guard⟩ := o
  cases op with
  | move x => exact fok_mv (hop x (by simp [Op.operands])) (fun ρ => rfl)
  | assign x => exact fok_mv (hop x (by simp [Op.operands])) (fun ρ => rfl)
  | pick c x y => exact fok_pick rfl (hop c (by simp [Op.operands])) (hop x (by simp [Op.operands])) (hop y (by simp [Op.operands]))
  | alloc t =>
    show FOk P ec _ (Bool.rec (motive := fun _ => F) oNo (o0 (fun h k => allocK h (.cells (tZero P t).cells t true) (fun i => .ptr i (nat_lit 0)) k)) (zeroOk P t))
    cases hz : zeroOk P t with
    | false => exact fok_no
    | true => exact fok_alloc rfl hz
  | box t x =>
    show FOk P ec _ (Bool.rec (motive := fun _ => F) oNo (o1 (pd x) ⟨boxC t (tSize P t)⟩) (tKn P t))
    cases hz : tKn P t with
    | false => exact fok_no
    | true => exact fok_1 (g := ⟨boxC t (tSize P t)⟩) (hop x (by simp [Op.operands])) (fun X s h w x k R hx e => box_ok R hx e) (fun ρ => rfl)
  | build t ps =>
    show FOk P ec _ (Bool.rec (motive := fun _ => F) oNo (oL (ps2 ps) (buildH P t (ps1 ps))) (zeroOk P t))
    cases hz : zeroOk P t with
    | false => exact fok_no
    | true => exact fok_build rfl (fun x hx => hop x (by simpa [Op.operands] using hx)) hz
  | buildSlice t n ps =>
    show FOk P ec _ (oOpt (tElem P t) (fun e => Bool.rec (motive := fun _ => F) oNo (oL (ps2 ps) ⟨bslC P e n (ps1 ps)⟩) (and (zeroOk P e) (Nat.ble (Nat.mul n (tSize P e)) (nat_lit 16777216)))))
    cases he : tElem P t with
    | none => exact fok_no
    | some e =>
      show FOk P ec _ (Bool.rec (motive := fun _ => F) oNo (oL (ps2 ps) ⟨bslC P e n (ps1 ps)⟩) (and (zeroOk P e) (Nat.ble (Nat.mul n (tSize P e)) (nat_lit 16777216))))
      cases hz : and (zeroOk P e) (Nat.ble (Nat.mul n (tSize P e)) (nat_lit 16777216)) with
      | false => exact fok_no
      | true => exact fok_bslice rfl (fun x hx => hop x (by simpa [Op.operands] using hx)) he (and_true' hz).1 (and_true' hz).2
  | load t x => exact fok_1 (hop x (by simp [Op.operands])) (load_ok t).e (fun ρ => rfl)
  | store t x v =>
    show FOk P ec _ (Bool.rec (motive := fun _ => F) oNo (o2 (pd x) (pd v) ⟨storeN (tSize P t)⟩) (tKn P t))
    cases hz : tKn P t with
    | false => exact fok_no
    | true => exact fok_store rfl (hop x (by simp [Op.operands])) (hop v (by simp [Op.operands])) (tKn_lt.1 hz)
  | nilCheck x => exact fok_nilCheck rfl (hop x (by simp [Op.operands]))
  | binOp op t x y u => exact fok_2 (hop x (by simp [Op.operands])) (hop y (by simp [Op.operands])) (bin_ok op t x y).e (fun ρ => rfl)
  | unOp op t x => exact fok_1 (hop x (by simp [Op.operands])) (un_ok op).e (fun ρ => rfl)
  | convert a b x => exact fok_1 (hop x (by simp [Op.operands])) (convE_ok a b) (fun ρ => rfl)
  | makeInterface t x =>
    show FOk P ec _ (TypeDesc.rec (motive := fun _ => F) _ _ _ _ _ _ _ _ _ _ _ _ _ _ _ _ _ (tU P t))
    have key : ∀ d, tU P t = d → (∀ ms, d ≠ .interface ms) → d ≠ .invalid → FOk P ec ⟨dst, .makeInterface t x, type, pos, after, guard⟩ (o1 (pd x) ⟨mkI t⟩) := by
      intro d hd hi hv
      obtain ⟨_, ht⟩ := tU_und hd hv
      exact fok_1 (g := ⟨mkI t⟩) (hop x (by simp [Op.operands])) (mkI_ok ht (fun ms hq => hi ms (hd.symm.trans hq))).e (fun ρ => rfl)
    cases hd : tU P t <;> first | exact fok_no | exact key _ hd (by simp) (by simp)
  | makeFunc f l r => exact fok_makeFunc rfl (fun x hx => hop x (by simp [Op.operands]; exact .inl (by simpa using hx))) (fun x hx => hop x (by simp [Op.operands]; exact .inr (by simpa using hx)))
  | makeMap t r =>
    cases r with
    | none => exact fok_makeMap rfl
    | some r => exact fok_no
  | makeSlice t l c =>
    show FOk P ec _ (oOpt (tElem P t) (fun e => Bool.rec (motive := fun _ => F) oNo (o2 (pd l) (pd c) ⟨makeSl e (tBytes P e) (tZero P e).cells⟩) (zeroOk P e)))
    cases he : tElem P t with
    | none => exact fok_no
    | some e =>
      show FOk P ec _ (Bool.rec (motive := fun _ => F) oNo (o2 (pd l) (pd c) ⟨makeSl e (tBytes P e) (tZero P e).cells⟩) (zeroOk P e))
      cases hz : zeroOk P e with
      | false => exact fok_no
      | true => exact fok_2 (g := ⟨makeSl e (tBytes P e) (tZero P e).cells⟩) (hop l (by simp [Op.operands])) (hop c (by simp [Op.operands])) (makeSl_ok he hz) (fun ρ => rfl)
  | slice t x lo hi mx =>
    cases mx with
    | some m => exact fok_no
    | none => exact fok_slice rfl (hop x (by simp [Op.operands])) (fun y hy => hop y (by subst hy; simp [Op.operands])) (fun y hy => hop y (by subst hy; simp [Op.operands]))
  | fieldAddr t x f =>
    show FOk P ec _ (oOpt (fieldOf P t f) (fun fl => Nat.rec (motive := fun _ => F) oNo (fun _ _ => o1 (pd x) ⟨fAddr fl.offset⟩) (tSize P fl.type)))
    cases hf : fieldOf P t f with
    | none => exact fok_no
    | some fl =>
      show FOk P ec _ (Nat.rec (motive := fun _ => F) oNo (fun _ _ => o1 (pd x) ⟨fAddr fl.offset⟩) (tSize P fl.type))
      cases hz : tSize P fl.type with
      | zero => exact fok_no
      | succ m => exact fok_1 (g := ⟨fAddr fl.offset⟩) (hop x (by simp [Op.operands])) (fAddr_ok hf hz).e (fun ρ => rfl)
  | field t x f =>
    show FOk P ec _ (oOpt (fieldOf P t f) (fun fl => o1 (pd x) ⟨fieldC P fl.type fl.offset⟩))
    cases hf : fieldOf P t f with
    | none => exact fok_no
    | some fl => exact fok_1 (g := ⟨fieldC P fl.type fl.offset⟩) (hop x (by simp [Op.operands])) (fieldC_ok hf).e (fun ρ => rfl)
  | indexAddr t x i => exact fok_2 (hop x (by simp [Op.operands])) (hop i (by simp [Op.operands])) (idxAddr_ok t).e (fun ρ => rfl)
  | index t x i => exact fok_2 (hop x (by simp [Op.operands])) (hop i (by simp [Op.operands])) (index_ok t).e (fun ρ => rfl)
  | lookup t x k ok => exact fok_lookup rfl (hop x (by simp [Op.operands])) (hop k (by simp [Op.operands]))
  | mapUpdate t m k v => exact fok_mapUpdate (fun ρ => rfl) (hop m (by simp [Op.operands])) (hop k (by simp [Op.operands])) (hop v (by simp [Op.operands]))
  | insert t m k v => exact fok_mapUpdate (fun ρ => rfl) (hop m (by simp [Op.operands])) (hop k (by simp [Op.operands])) (hop v (by simp [Op.operands]))
  | mapEntry t m k => exact fok_mapEntry rfl (hop m (by simp [Op.operands])) (hop k (by simp [Op.operands]))
  | entryStore t m st v => exact fok_entryStore rfl (hop m (by simp [Op.operands])) (hop st (by simp [Op.operands])) (hop v (by simp [Op.operands]))
  | range t x =>
    show FOk P ec _ (match tU P t with | .string => o1 (pd x) ⟨rangeC⟩ | _ => oNo)
    cases hd : tU P t with
    | string => exact fok_1 (g := ⟨rangeC⟩) (hop x (by simp [Op.operands])) (range_ok hd) (fun ρ => rfl)
    | _ => exact fok_no
  | next x b =>
    cases b with
    | false => exact fok_no
    | true => exact fok_1 (g := ⟨nextC⟩) (hop x (by simp [Op.operands])) (next_ok type) (fun ρ => rfl)
  | extract x i => exact fok_1 (g := ⟨extC i⟩) (hop x (by simp [Op.operands])) (ext_ok i).e (fun ρ => rfl)
  | call c => exact fok_call hec rfl (fun x hx => hop x hx)
  | _ => exact fok_no
end
end Go.Rk

namespace Go.Rk
open Go
set_option linter.unusedSectionVars false
variable [Nt] [Nu]
variable {P : Program} {ec : Ec}
/-! ## an operation with its slot and its guard -/
/-- what follows, by the slots -/
def Then (P : Program) (X : Nat → Prop) (nt : Nat) (s : Sig) (h : AH) (w : World) (k : KN) (N : Act → World → Prop) : Prop :=
  ∀ s' h' w' t' a', k t' h' = true → Rel P X s' h' w' → Aft X s h w s' h' w' → EnvOk s' h'.nx nt t' a' → N a' w'
theorem Then.aft {X : Nat → Prop} {nt : Nat} {s s1 : Sig} {h h1 : AH} {w w1 : World} {k : KN} {N : Act → World → Prop} (H : Then P X nt s h w k N) (A : Aft X s h w s1 h1 w1) : Then P X nt s1 h1 w1 k N :=
  fun s' h' w' t' a' hk R' A' E' => H s' h' w' t' a' hk R' (A.trans A') E'
theorem prepD_run (d : Option Nat) (f : F) (ec : Ec) (k : KN) (t : Env) (h : AH) : (prepD d f).f ec k t h = f.f ec t h (fun v h => match d with | none => k t h | some d => k (Tr.set .undef v (path d) t) h) := by
  obtain ⟨f⟩ := f
  cases d with
  | none => rfl
  | some d =>
    show (W.rec (motive := fun _ => PO) (fun w => ⟨fun ec k t h => f ec t h (fun v h => k (w v t) h)⟩) (wset (path d)) : PO).f ec k t h = _
    rw [wset_mk]
theorem skipD_run (d : Option Nat) (ec : Ec) (k : KN) (t : Env) (h : AH) : (skipD d).f ec k t h = (match d with | none => k t h | some d => k (Tr.set .undef .undef (path d) t) h) := by
  cases d with
  | none => rfl
  | some d =>
    show (W.rec (motive := fun _ => PO) (fun w => ⟨fun _ k t h => k (w .undef t) h⟩) (wset (path d)) : PO).f ec k t h = _
    rw [wset_mk]
section
variable {X : Nat → Prop} {s : Sig} {h : AH} {w : World} {nt : Nat} {t : Env} {a : Act} {o : Oper}
theorem dst_lt (hok : operOk P nt o = true) {d : Nat} (hd : o.dst = some d) : d < nt := by
  unfold operOk at hok
  rw [hd] at hok
  exact Nat.ble_eq.mp (and_true' hok).1
theorem ops_ok (hok : operOk P nt o = true) : ∀ x ∈ o.op.operands.toList, oprOk P x = true := lall_true (and_true' hok).2
/-- an operation is carried out, and its value put -/
theorem next_put {f : F} (hf : FOk P ec o f) (hok : operOk P nt o = true) (R : Rel P X s h w) (E : EnvOk s h.nx nt t a) {k : KN} {N : Act → World → Prop} {Q : Exit → Act → World → Prop} (e : (prepD o.dst f).f ec k t h = true) (hN : Then P X nt s h w k N) : o.wp P a w N Q := by
  rw [prepD_run] at e
  refine hf X s h w nt t a _ N Q R E e fun v s' h' w' hk R' A' hv => ?_
  have E' := E.aft A'
  cases hd : o.dst with
  | none =>
    rw [hd] at hk
    exact hN s' h' w' t a hk R' A' E'
  | some d =>
    rw [hd] at hk
    exact hN s' h' w' _ _ hk R' A' (E'.put (dst_lt hok hd) hv)
theorem skip_put (hok : operOk P nt o = true) (R : Rel P X s h w) (E : EnvOk s h.nx nt t a) {k : KN} {N : Act → World → Prop} (e : (skipD o.dst).f ec k t h = true) (hN : Then P X nt s h w k N) : N (a.put o.dst undef) w := by
  rw [skipD_run] at e
  cases hd : o.dst with
  | none => rw [hd] at e; exact hN s h w t a e R (Aft.refl X s h w) E
  | some d => rw [hd] at e; exact hN s h w _ _ e R (Aft.refl X s h w) (E.put (v := .undef) (dst_lt hok hd) trivial)
theorem slot_bool (E : EnvOk s h.nx nt t a) (d : Nat) : (∃ b, Tr.get .undef (path d) t = .bool b ∧ a.tmps[d]? = some (.bool b)) ∨ ((∀ b, Tr.get .undef (path d) t ≠ .bool b) ∧ ∀ b, a.tmps[d]? ≠ some (.bool b)) ∨ (∃ i, Tr.get .undef (path d) t = .opq i) := by
  have hv := E.val d
  cases hs : Tr.get .undef (path d) t with
  | bool b =>
    left
    refine ⟨b, rfl, ?_⟩
    rw [hs] at hv
    have hv' : a.tmps.getD d undef = .bool b := hv
    rw [Array.getD_eq_getD_getElem?] at hv'
    cases hq : a.tmps[d]? with
    | none => rw [hq] at hv'; cases hv'
    | some u => rw [hq] at hv'; simp at hv'; rw [hv']
  | opq i => exact .inr (.inr ⟨i, rfl⟩)
  | _ =>
    right; left
    refine ⟨fun b hb => (by cases hb), fun b hb => ?_⟩
    rw [hs, Array.getD_eq_getD_getElem?, hb] at hv
    cases hv
theorem guard_cases {ops : Array Oper} {f : F} (E : EnvOk s h.nx nt t a) {k : KN} (e : (prepO' ops o f).f ec k t h = true) :
    (Region.wanted o (yielded ops a.tmps) = true ∧ (prepD o.dst f).f ec k t h = true) ∨ (Region.wanted o (yielded ops a.tmps) = false ∧ (skipD o.dst).f ec k t h = true) := by
  unfold prepO' at e
  cases hg : o.guard with
  | none =>
    rw [hg] at e
    have hw : Region.wanted o (yielded ops a.tmps) = true := by unfold Region.wanted; rw [hg]
    exact .inl ⟨hw, e⟩
  | some g =>
    obtain ⟨j, want⟩ := g
    rw [hg] at e
    simp only [] at e
    cases hj : ops[j]? with
    | none => rw [hj] at e; exact absurd e Bool.false_ne_true
    | some oj =>
      rw [hj] at e
      simp only [] at e
      cases hd : oj.dst with
      | none => rw [hd] at e; exact absurd e Bool.false_ne_true
      | some d =>
        rw [hd] at e
        change (guardD (acc (path d)) want (prepD o.dst f) (skipD o.dst)).f ec k t h = true at e
        have hy : yielded ops a.tmps j = match (a.tmps[d]? : Option Value) with | some (.bool b) => some b | _ => none := by
          unfold yielded; rw [hj]; simp only [Option.bind_some, hd]
          cases hq : a.tmps[d]? with
          | none => rfl
          | some u => cases u <;> rfl
        have e' : (AV.rec (motive_1 := fun _ => Bool) (motive_2 := fun _ => PUnit.{1}) (fun b => Bool.rec (motive := fun _ => Bool) ((skipD o.dst).f ec k t h) ((prepD o.dst f).f ec k t h) (Bool.rec (motive := fun _ => Bool) (not want) want b))
            (fun _ _ => (skipD o.dst).f ec k t h) (fun _ _ => (skipD o.dst).f ec k t h) (fun _ _ _ => (skipD o.dst).f ec k t h) (fun _ => (skipD o.dst).f ec k t h) ((skipD o.dst).f ec k t h) (fun _ _ => (skipD o.dst).f ec k t h) ((skipD o.dst).f ec k t h)
            (fun _ _ _ _ _ => (skipD o.dst).f ec k t h) (fun _ _ _ _ => (skipD o.dst).f ec k t h) ((skipD o.dst).f ec k t h) (fun _ => (skipD o.dst).f ec k t h) ((skipD o.dst).f ec k t h) (fun _ _ _ _ _ => (skipD o.dst).f ec k t h) ((skipD o.dst).f ec k t h)
            (fun _ _ _ => (skipD o.dst).f ec k t h) (fun _ _ => (skipD o.dst).f ec k t h) (fun _ _ => (skipD o.dst).f ec k t h) (fun _ => (skipD o.dst).f ec k t h) (fun _ => false) PUnit.unit (fun _ _ _ _ => PUnit.unit) (Tr.get .undef (path d) t)) = true := by
          rw [← acc_eq]
          revert e
          unfold guardD
          cases acc (path d); cases prepD o.dst f; cases skipD o.dst
          exact id
        rcases slot_bool E d with ⟨b, hb, ht⟩ | ⟨hnb, hnt⟩ | ⟨i, hi⟩
        · rw [hb] at e'
          rw [ht] at hy
          have hw : Region.wanted o (yielded ops a.tmps) = (Bool.rec (motive := fun _ => Bool) (not want) want b) := by
            unfold Region.wanted; rw [hg]; simp only [hy]; cases b <;> cases want <;> rfl
          rw [hw]
          clear hw
          change (Bool.rec (motive := fun _ => Bool) ((skipD o.dst).f ec k t h) ((prepD o.dst f).f ec k t h) (Bool.rec (motive := fun _ => Bool) (not want) want b)) = true at e'
          generalize (Bool.rec (motive := fun _ => Bool) (not want) want b : Bool) = c at *
          cases c with
          | true => exact .inl ⟨rfl, e'⟩
          | false => exact .inr ⟨rfl, e'⟩
        · have hw : Region.wanted o (yielded ops a.tmps) = false := by
            have hy' : yielded ops a.tmps j = none := by
              rw [hy]
              cases hq : a.tmps[d]? with
              | none => rfl
              | some u => cases u <;> first | rfl | exact absurd hq (hnt _)
            unfold Region.wanted; rw [hg]; simp only [hy']
            rfl
          rw [hw]
          refine .inr ⟨rfl, ?_⟩
          cases hs : Tr.get .undef (path d) t with
          | bool b => exact absurd hs (hnb b)
          | opq i => rw [hs] at e'; exact absurd e' Bool.false_ne_true
          | _ => rw [hs] at e'; exact e'
        · rw [hi] at e'; exact absurd e' Bool.false_ne_true
theorem prepO'_ok {ops : Array Oper} {i : Nat} (hi : ops[i]? = some o) {f : F} (hf : FOk P ec o f) (hok : operOk P nt o = true) (R : Rel P X s h w) (E : EnvOk s h.nx nt t a) {k : KN} {N : Act → World → Prop} {Q : Exit → Act → World → Prop}
    (e : (prepO' ops o f).f ec k t h = true) (hN : Then P X nt s h w k N) : wpOp P ops Q i N a w := by
  unfold wpOp
  rw [hi]
  show (if Region.wanted o (yielded ops a.tmps) = true then o.wp P a w N Q ∨ (o.asks P a w ∧ LetsOut Q) else N (a.put o.dst undef) w)
  rcases guard_cases E e with ⟨hw, e1⟩ | ⟨hw, e1⟩
  · rw [hw]; exact .inl (next_put hf hok R E e1 hN)
  · rw [hw]; exact skip_put hok R E e1 hN
end
/-! ## a region in the order of its text -/
theorem evOps_cons (o : PO) (l : List PO) (k : KN) : evOps ec (o :: l) k = o.f ec (evOps ec l k) := by cases o; rfl
theorem ops_seq [Fit P] (hec : EcOk P ec) {ops : Array Oper} {nt : Nat} (hok : ∀ o ∈ ops.toList, operOk P nt o = true) {X : Nat → Prop} {Q : Exit → Act → World → Prop} {k : KN} :
    ∀ (n i : Nat), i + n = ops.size → ∀ (s : Sig) (h : AH) (w : World) (t : Env) (a : Act), Rel P X s h w → EnvOk s h.nx nt t a → evOps ec (lmap (prepO P ops) (ops.toList.drop i)) k t h = true → Then P X nt s h w k (Q .normal) →
      wpOps P ops Q (List.range' i n) a w
  | 0, i, hi, s, h, w, t, a, R, E, e, hN => by
    have : ops.toList.drop i = [] := by apply List.drop_eq_nil_of_le; simp; omega
    rw [this] at e
    exact hN s h w t a e R (Aft.refl X s h w) E
  | n + 1, i, hi, s, h, w, t, a, R, E, e, hN => by
    have hlt : i < ops.toList.length := by simp; omega
    have hi' : ops[i]? = some ops.toList[i] := by rw [← Array.getElem?_toList, List.getElem?_eq_getElem hlt]
    rw [List.drop_eq_getElem_cons hlt] at e
    have e1 : (prepO P ops ops.toList[i]).f ec (evOps ec (lmap (prepO P ops) (ops.toList.drop (i + 1))) k) t h = true := by
      have := evOps_cons (ec := ec) (prepO P ops ops.toList[i]) (lmap (prepO P ops) (ops.toList.drop (i + 1))) k
      rw [← this]; exact e
    have hoi := hok _ (List.getElem_mem hlt)
    rw [List.range'_succ, wpOps_cons]
    exact prepO'_ok hi' (prep_ok hec _ (ops_ok hoi)) hoi R E e1 (fun s' h' w' t' a' hk R' A' E' =>
      ops_seq hec hok n (i + 1) (by omega) s' h' w' t' a' R' E' hk (hN.aft A'))
end Go.Rk

namespace Go.Rk
open Go
set_option linter.unusedSectionVars false
variable [Nt] [Nu]
variable {P : Program}
/-! ## loops and scopes, one round at a time -/
def LoopWp (P : Program) (c : Code) (Q : Exit → Act → World → Prop) (a : Act) (w : World) : Prop :=
  ∀ (b : Frame) (k : List Item) (cs : List Frame), ∃ e a' w', Q e a' w' ∧ Arrives P (lone (b.at a (.code c :: .inLoop c :: k)) cs w) b k cs e a' w'
theorem LoopWp.wp {c : Code} {Q : Exit → Act → World → Prop} {a : Act} {w : World} (H : LoopWp P c Q a w) : (Code.loop c).wp P Q a w := by
  intro b k cs
  obtain ⟨e, a', w', hq, harr⟩ := H b k cs
  exact ⟨e, a', w', hq, .of_steps (.one step_loop) harr⟩
theorem LoopWp.round {c : Code} {Q : Exit → Act → World → Prop} {a : Act} {w : World} (H : c.wp P (Exit.then (LoopWp P c Q) Q) a w) : LoopWp P c Q a w := by
  intro b k cs
  obtain ⟨e, a₁, w₁, hq, harr⟩ := H b (.inLoop c :: k) cs
  cases e with
  | normal =>
    obtain ⟨e₂, a₂, w₂, hq₂, harr₂⟩ := hq b k cs
    exact ⟨e₂, a₂, w₂, hq₂, .of_steps (Steps.trans harr (.one step_inLoop)) harr₂⟩
  | exit id => exact ⟨_, a₁, w₁, hq, .pass (x := .inLoop c) rfl (fun _ _ => .inl (by simp)) harr⟩
  | goto l => exact ⟨_, a₁, w₁, hq, .pass (x := .inLoop c) rfl (fun _ _ => .inl (by simp)) harr⟩
  | ret => exact ⟨_, a₁, w₁, hq, .pass (x := .inLoop c) rfl (fun _ _ => .inl (by simp)) harr⟩
  | panic ch => exact ⟨_, a₁, w₁, hq, .pass (x := .inLoop c) rfl (fun _ _ => .inl (by simp)) harr⟩
  | outgrown => exact ⟨_, a₁, w₁, hq, .pass (x := .inLoop c) rfl (fun _ _ => .inl (by simp)) harr⟩
def ScopeWp (P : Program) (body : Code) (Q : Exit → Act → World → Prop) (c : Code) (a : Act) (w : World) : Prop :=
  ∀ (b : Frame) (k : List Item) (cs : List Frame), ∃ e a' w', Q e a' w' ∧ Arrives P (lone (b.at a (.code c :: .inScope body :: k)) cs w) b k cs e a' w'
theorem ScopeWp.wp {c : Code} {Q : Exit → Act → World → Prop} {a : Act} {w : World} (H : ScopeWp P c Q c a w) : (Code.scope c).wp P Q a w := by
  intro b k cs
  obtain ⟨e, a', w', hq, harr⟩ := H b k cs
  exact ⟨e, a', w', hq, .of_steps (.one step_scope) harr⟩
/-- what follows within a scope -/
def scopeQ (P : Program) (body : Code) (Q : Exit → Act → World → Prop) : Exit → Act → World → Prop
  | .goto l, a, w => match findLabel body l with
    | some rest => ScopeWp P body Q rest a w
    | none => Q (.goto l) a w
  | e, a, w => Q e a w
theorem ScopeWp.round {body c : Code} {Q : Exit → Act → World → Prop} {a : Act} {w : World} (H : c.wp P (scopeQ P body Q) a w) : ScopeWp P body Q c a w := by
  intro b k cs
  obtain ⟨e, a₁, w₁, hq, harr⟩ := H b (.inScope body :: k) cs
  cases e with
  | normal => exact ⟨.normal, a₁, w₁, hq, Steps.trans harr (.one step_inScope)⟩
  | exit id => exact ⟨.exit id, a₁, w₁, hq, fun k' hk => harr k' (by simp [exitTo, hk])⟩
  | goto l =>
    have harr' : ∀ k', gotoIn l (.inScope body :: k) = some k' → Steps P (lone (b.at a (.code c :: .inScope body :: k)) cs w) (lone (b.at a₁ k') cs w₁) := harr
    simp only [gotoIn] at harr'
    simp only [scopeQ] at hq
    cases hf : findLabel body l with
    | some rest =>
      rw [hf] at hq harr'
      obtain ⟨e₂, a₂, w₂, hq₂, harr₂⟩ := hq b k cs
      exact ⟨e₂, a₂, w₂, hq₂, .of_steps (harr' _ rfl) harr₂⟩
    | none =>
      rw [hf] at hq harr'
      exact ⟨.goto l, a₁, w₁, hq, fun k' hk => harr' k' hk⟩
  | ret => exact ⟨_, a₁, w₁, hq, harr⟩
  | panic ch => exact ⟨_, a₁, w₁, hq, harr⟩
  | outgrown => exact ⟨_, a₁, w₁, hq, harr⟩
theorem codeOk_label {nt : Nat} : ∀ (body : Code) {l : Nat} {rest : Code}, codeOk P nt body = true → findLabel body l = some rest → codeOk P nt rest = true
  | .seq a b, l, rest, hok, hf => by
    have hok' : and (codeOk P nt a) (codeOk P nt b) = true := hok
    obtain ⟨h1, h2⟩ := and_true' hok'
    simp only [findLabel] at hf
    cases ha : findLabel a l with
    | some r =>
      rw [ha] at hf; cases hf
      have := codeOk_label a h1 ha
      show and (codeOk P nt r) (codeOk P nt b) = true
      rw [this, h2]; rfl
    | none => rw [ha] at hf; exact codeOk_label b h2 hf
  | .label l', l, rest, _, hf => by
    simp only [findLabel] at hf
    split at hf
    · cases hf; rfl
    · cases hf
  | .skip, _, _, _, hf => by simp [findLabel] at hf
  | .region _ _ _, _, _, _, hf => by simp [findLabel] at hf
  | .cond _ _ _, _, _, _, hf => by simp [findLabel] at hf
  | .block _ _, _, _, _, hf => by simp [findLabel] at hf
  | .loop _, _, _, _, hf => by simp [findLabel] at hf
  | .rangeFunc _ _ _ _, _, _, _, hf => by simp [findLabel] at hf
  | .exit _, _, _, _, hf => by simp [findLabel] at hf
  | .scope _, _, _, _, hf => by simp [findLabel] at hf
  | .goto _, _, _, _, hf => by simp [findLabel] at hf
  | .ret, _, _, _, hf => by simp [findLabel] at hf
  | .refuse _, _, _, _, hf => by simp [findLabel] at hf

/-! ## code -/
def exOf : AX → Exit | .ret => .ret | .exit i => .exit i | .goto l => .goto l
/-- what follows on leaving -/
def Leave (P : Program) (X : Nat → Prop) (nt : Nat) (s : Sig) (h : AH) (w : World) (kx : KX) (Q : Exit → Act → World → Prop) : Prop :=
  ∀ x, Then P X nt s h w (kx x) (Q (exOf x))
theorem Leave.aft {X : Nat → Prop} {nt : Nat} {s s1 : Sig} {h h1 : AH} {w w1 : World} {kx : KX} {Q : Exit → Act → World → Prop} (H : Leave P X nt s h w kx Q) (A : Aft X s h w s1 h1 w1) : Leave P X nt s1 h1 w1 kx Q := fun x => (H x).aft A
/-- an evaluator is right -/
def EvOk (P : Program) (ev : Ev) : Prop :=
  ∀ (c : Code) (nt : Nat), codeOk P nt c = true → ∀ (X : Nat → Prop) (s : Sig) (h : AH) (w : World) (t : Env) (a : Act) (kn : KN) (kx : KX) (Q : Exit → Act → World → Prop),
    Rel P X s h w → EnvOk s h.nx nt t a → ev (pc P c) t h kn kx = true → Then P X nt s h w kn (Q .normal) → Leave P X nt s h w kx Q → c.wp P Q a w
def LoopOk (P : Program) (ev : Ev) : Prop :=
  ∀ (c : Code) (nt : Nat), codeOk P nt c = true → ∀ (X : Nat → Prop) (s : Sig) (h : AH) (w : World) (t : Env) (a : Act) (kn : KN) (kx : KX) (Q : Exit → Act → World → Prop),
    Rel P X s h w → EnvOk s h.nx nt t a → ev (.loop (pc P c)) t h kn kx = true → Then P X nt s h w kn (Q .normal) → Leave P X nt s h w kx Q → LoopWp P c Q a w
/-- regions that draw their order -/
def DrawOk (P : Program) : Prop :=
  ∀ (ec : Ec), EcOk P ec → ∀ (id : Nat) (ops : Array Oper) (nt : Nat), (∀ o ∈ ops.toList, operOk P nt o = true) → ∀ (X : Nat → Prop) (s : Sig) (h : AH) (w : World) (t : Env) (a : Act) (k : KN) (Q : Exit → Act → World → Prop),
    Rel P X s h w → EnvOk s h.nx nt t a → evOps ec (prep P ops true) k t h = true → Then P X nt s h w k (Q .normal) → (Code.region id ops true).wp P Q a w
/-- summaries of functions are right -/
def SummOk (P : Program) (S : Summ) : Prop :=
  ∀ f T, S f = some T → ∀ (args : List AV) (X : Nat → Prop) (s : Sig) (h : AH) (w : World) (k : K), Rel P X s h w → WfL s h.nx args → T args h k = true → CallOk P X s h w k f (cvL s args).toArray

theorem step_ok [FitC P] (hD : DrawOk P) {S : Summ} {n : Nat} {ev : Ev} (hev : EvOk P ev) (hlp : LoopOk P ev) (hec : EcOk P (callA P S ev)) : EvOk P (stepC P S n ev) ∧ LoopOk P (stepC P S n ev) := by
  have loop' : LoopOk P (stepC P S n ev) := by
    intro c nt hok X s h w t a kn kx Q R E e hN hL
    have e1 : ev (pc P c) t h (fun t h => ev (.loop (pc P c)) t h kn kx) kx = true := e
    refine LoopWp.round (hev c nt hok X s h w t a _ kx (Exit.then (LoopWp P c Q) Q) R E e1 ?_ ?_)
    · intro s' h' w' t' a' hk R' A' E'
      exact hlp c nt hok X s' h' w' t' a' kn kx Q R' E' hk (hN.aft A') (hL.aft A')
    · intro x s' h' w' t' a' hk R' A' E'
      cases x <;> exact hL _ s' h' w' t' a' hk R' A' E'
  refine ⟨?_, loop'⟩
  intro c
  cases c with
  | skip => intro nt hok X s h w t a kn kx Q R E e hN hL; exact wp_skip (hN s h w t a e R (Aft.refl X s h w) E)
  | label l => intro nt hok X s h w t a kn kx Q R E e hN hL; exact wp_label (hN s h w t a e R (Aft.refl X s h w) E)
  | ret => intro nt hok X s h w t a kn kx Q R E e hN hL; exact wp_ret (hL .ret s h w t a e R (Aft.refl X s h w) E)
  | exit i => intro nt hok X s h w t a kn kx Q R E e hN hL; exact wp_exit (hL (.exit i) s h w t a e R (Aft.refl X s h w) E)
  | goto l => intro nt hok X s h w t a kn kx Q R E e hN hL; exact wp_goto (hL (.goto l) s h w t a e R (Aft.refl X s h w) E)
  | refuse m => intro nt hok X s h w t a kn kx Q R E e hN hL; exact absurd e Bool.false_ne_true
  | rangeFunc f ps x y => intro nt hok X s h w t a kn kx Q R E e hN hL; exact absurd e Bool.false_ne_true
  | region id ops d =>
    intro nt hok X s h w t a kn kx Q R E e hN hL
    have hok' : ∀ o ∈ ops.toList, operOk P nt o = true := lall_true hok
    cases d with
    | true => exact hD _ hec id ops nt hok' X s h w t a kn Q R E e hN
    | false =>
      have e1 : evOps (callA P S ev) (lmap (prepO P ops) ops.toList) kn t h = true := e
      refine wp_region ?_
      have := ops_seq hec hok' (X := X) (Q := Q) (k := kn) ops.size 0 (by simp) s h w t a R E (by simpa using e1) hN
      rw [List.range_eq_range']
      exact this
  | seq x y =>
    intro nt hok X s h w t a kn kx Q R E e hN hL
    obtain ⟨h1, h2⟩ := and_true' (show and (codeOk P nt x) (codeOk P nt y) = true from hok)
    have e1 : ev (pc P x) t h (fun t h => ev (pc P y) t h kn kx) kx = true := e
    refine wp_seq (hev x nt h1 X s h w t a _ kx _ R E e1 ?_ ?_)
    · intro s' h' w' t' a' hk R' A' E'
      exact hev y nt h2 X s' h' w' t' a' kn kx Q R' E' hk (hN.aft A') (hL.aft A')
    · intro z s' h' w' t' a' hk R' A' E'
      cases z <;> exact hL _ s' h' w' t' a' hk R' A' E'
  | cond c x y =>
    intro nt hok X s h w t a kn kx Q R E e hN hL
    obtain ⟨h0, h12⟩ := and_true' (show and (oprOk P c) (and (codeOk P nt x) (codeOk P nt y)) = true from hok)
    obtain ⟨h1, h2⟩ := and_true' h12
    obtain ⟨g, hg, hc, _⟩ := pd_ok R E h0
    have e1 : (V.rec (motive := fun _ => Bool) (fun c => isB (c t) (fun b' => Bool.rec (motive := fun _ => Bool) (ev (pc P y) t h kn kx) (ev (pc P x) t h kn kx) b')) (pd c)) = true := e
    rw [hg] at e1
    obtain ⟨b, hb, e2⟩ := isB_true (show isB (g t) _ = true from e1)
    rw [hb] at hc
    cases b with
    | true => exact wp_cond (t := true) hc.symm (hev x nt h1 X s h w t a kn kx Q R E e2 hN hL)
    | false => exact wp_cond (t := false) hc.symm (hev y nt h2 X s h w t a kn kx Q R E e2 hN hL)
  | block id c =>
    intro nt hok X s h w t a kn kx Q R E e hN hL
    have e1 : ev (pc P c) t h kn (blockX id kn kx) = true := e
    refine wp_block (hev c nt hok X s h w t a kn _ _ R E e1 ?_ ?_)
    · exact hN
    · intro x s' h' w' t' a' hk R' A' E'
      cases x with
      | ret => exact hL .ret s' h' w' t' a' hk R' A' E'
      | goto l => exact hL (.goto l) s' h' w' t' a' hk R' A' E'
      | exit i =>
        have hk' : (Bool.rec (motive := fun _ => Bool) (kx (.exit i) t' h') (kn t' h') (Nat.beq i id)) = true := hk
        show (if i = id then Q .normal a' w' else Q (.exit i) a' w')
        by_cases hi : i = id
        · subst hi
          rw [Nat.beq_refl] at hk'
          rw [if_pos rfl]
          exact hN s' h' w' t' a' hk' R' A' E'
        · have hb : Nat.beq i id = false := by
            cases hq : Nat.beq i id with
            | true => exact absurd (Nat.eq_of_beq_eq_true hq) hi
            | false => rfl
          rw [hb] at hk'
          rw [if_neg hi]
          exact hL (.exit i) s' h' w' t' a' hk' R' A' E'
  | loop c =>
    intro nt hok X s h w t a kn kx Q R E e hN hL
    exact (loop' c nt hok X s h w t a kn kx Q R E e hN hL).wp
  | scope body =>
    intro nt hok X s h w t a kn kx Q R E e hN hL
    have hokb : codeOk P nt body = true := hok
    have key : ∀ (m : Nat) (c : Code), codeOk P nt c = true → ∀ (s' : Sig) (h' : AH) (w' : World) (t' : Env) (a' : Act), Rel P X s' h' w' → Aft X s h w s' h' w' → EnvOk s' h'.nx nt t' a' → scopeF P ev body kn kx m (pc P c) t' h' = true → ScopeWp P body Q c a' w' := by
      intro m
      induction m with
      | zero => intro c _ s' h' w' t' a' _ _ _ e; exact absurd e Bool.false_ne_true
      | succ m ih =>
        intro c hc s' h' w' t' a' R' A' E' e'
        have e1 : ev (pc P c) t' h' kn (scopeX (fun c => scopeF P ev body kn kx m (pc P c)) body kx) = true := e'
        refine ScopeWp.round (hev c nt hc X s' h' w' t' a' kn _ _ R' E' e1 (hN.aft A') ?_)
        intro x s2 h2 w2 t2 a2 hk R2 A2 E2
        cases x with
        | ret => exact hL .ret s2 h2 w2 t2 a2 hk R2 (A'.trans A2) E2
        | exit i => exact hL (.exit i) s2 h2 w2 t2 a2 hk R2 (A'.trans A2) E2
        | goto l =>
          have hk' : (Option.rec (motive := fun _ => Bool) (kx (.goto l) t2 h2) (fun c => scopeF P ev body kn kx m (pc P c) t2 h2) (findLabel body l)) = true := hk
          show scopeQ P body Q (.goto l) a2 w2
          simp only [scopeQ]
          cases hf : findLabel body l with
          | none => rw [hf] at hk'; exact hL (.goto l) s2 h2 w2 t2 a2 hk' R2 (A'.trans A2) E2
          | some rest => rw [hf] at hk'; exact ih rest (codeOk_label body hokb hf) s2 h2 w2 t2 a2 R2 (A'.trans A2) E2 hk'
    exact (key n body hokb s h w t a R (Aft.refl X s h w) E e).wp
end Go.Rk

namespace Go.Rk
open Go
set_option linter.unusedSectionVars false
variable [Nt] [Nu]
variable {P : Program} {X : Nat → Prop} {s : Sig} {h : AH} {w : World}
/-! ## a call -/
theorem mkT_get : ∀ (l : List AV) (i : Nat) (t : Env) (j : Nat), Tr.get .undef (path j) (mkT l i t) = if i ≤ j ∧ j < i + l.length then (l[j - i]?).getD .undef else Tr.get .undef (path j) t
  | [], i, t, j => by rw [if_neg (by simp only [List.length_nil]; omega)]; rfl
  | v :: l, i, t, j => by
    have e : mkT (v :: l) i t = mkT l (i + 1) (Tr.set .undef v (path i) t) := by
      show (W.rec (motive := fun _ => Env) (fun w => mkT l (i + 1) (w v t)) (wset (path i)) : Env) = _
      rw [wset_mk]
    rw [e, mkT_get l (i + 1) _ j, Tr.get_set]
    simp only [List.length_cons]
    by_cases h1 : i + 1 ≤ j ∧ j < i + 1 + l.length
    · rw [if_pos h1, if_pos (by omega)]
      have : j - i = (j - (i + 1)) + 1 := by omega
      rw [this]; simp
    · rw [if_neg h1]
      by_cases h2 : j = i
      · subst h2
        rw [if_pos rfl, if_pos (by omega)]
        simp
      · rw [if_neg (fun h => h2 (path_inj h)), if_neg (by omega)]
theorem env_args {args : List AV} {nt : Nat} (hw : WfL s h.nx args) : EnvOk s h.nx nt (mkT args 0 .e) { tmps := (cvL s args).toArray ++ Array.replicate (nt - (cvL s args).toArray.size) undef, defers := [] } := by
  refine ⟨fun i => ?_, fun i => ?_, by simp; omega, rfl⟩
  · rw [mkT_get]
    simp only [Array.getD_eq_getD_getElem?, Array.getElem?_append, List.size_toArray, cvL_length, Nat.zero_add, Nat.zero_le, true_and, Nat.sub_zero]
    by_cases hi : i < args.length
    · rw [if_pos hi, if_pos hi, List.getElem?_toArray, cvL_get, List.getElem?_eq_getElem hi]
      rfl
    · rw [if_neg hi, if_neg hi, Tr.get_e]
      simp only [Array.getElem?_replicate]
      split <;> rfl
  · rw [mkT_get]
    split
    · rename_i h1
      cases hq : args[i - 0]? with
      | none => exact trivial
      | some v => exact hw.get hq
    · rw [Tr.get_e]; exact trivial
theorem run_loadVar_of {t : TypeId} {v u : Value} {w' : World} (hr : (Instr.loadAt t v).run P w = .ok u w') : (do loadVar t (← asAddr v) : Sem Value).run P w = .ok u w' := by
  cases v with
  | pointer a =>
    cases a with
    | some a => exact hr
    | none => simp [Instr.loadAt, Instr.sureAddr] at hr
  | _ => simp [Instr.loadAt, Instr.sureAddr] at hr
def resOne (tmps : Array Value) (r : ResultVar) : Sem Value := match r with | .tmp t => pure (tmps.getD t undef) | .cell c ty => (do loadVar ty (← asAddr (tmps.getD c undef)))
/-- one result -/
theorem res1_ok [Fit P] {nt : Nat} {t : Env} {a : Act} {ec : Ec} {r : ResultVar} {k : K} (R : Rel P X s h w) (E : EnvOk s h.nx nt t a) (e : (res1 P r).f ec t h k = true) :
    ∃ v, k v h = true ∧ Wf s h.nx v ∧ (resOne a.tmps r).run P w = .ok (cv s v) w := by
  cases r with
  | tmp i =>
    obtain ⟨g, hg, h1, h2⟩ := pd_ok (o := .tmp i) R E rfl
    have e' : (oMv (pd (.tmp i))).f ec t h k = true := e
    rw [hg] at e'
    exact ⟨g t, e', h2, by rw [h1]; rfl⟩
  | cell c ty =>
    obtain ⟨g, hg, h1, h2⟩ := pd_ok (o := .tmp c) R E rfl
    have e' : (o1 (pd (.tmp c)) (loadH P ty)).f ec t h k = true := e
    rw [hg] at e'
    have e2 : (loadH P ty).f (g t) h k = true := by
      revert e'; unfold o1; cases loadH P ty; exact id
    obtain ⟨v, hk, hr, hv⟩ := load_ok ty X s h w (g t) k R h2 e2
    rw [h1] at hr
    exact ⟨v, hk, hv, run_loadVar_of hr⟩
theorem resL_ok [Fit P] {nt : Nat} {t : Env} {a : Act} {ec : Ec} (R : Rel P X s h w) (E : EnvOk s h.nx nt t a) : ∀ (l : List ResultVar) (k : List AV → Bool), resL P l ec t h k = true →
    ∃ vs, k vs = true ∧ WfL s h.nx vs ∧ vs.length = l.length ∧ (l.mapM (resOne a.tmps)).run P w = .ok (cvL s vs) w
  | [], k, e => ⟨[], e, trivial, rfl, rfl⟩
  | r :: l, k, e => by
    have e1 : (res1 P r).f ec t h (fun v _ => resL P l ec t h (fun vs => k (v :: vs))) = true := by
      have : resL P (r :: l) ec t h k = (F.rec (motive := fun _ => Bool) (fun f => f ec t h (fun v _ => resL P l ec t h (fun vs => k (v :: vs)))) (res1 P r)) := rfl
      rw [this] at e
      revert e; cases res1 P r; exact id
    obtain ⟨v, hk, hv, hr⟩ := res1_ok R E e1
    obtain ⟨vs, hk', hvs, hl, hr'⟩ := resL_ok R E l _ hk
    refine ⟨v :: vs, hk', ⟨hv, hvs⟩, by simp [hl], ?_⟩
    rw [List.mapM_cons, Sem.run_bind, hr, Result.andThen_ok, Sem.run_bind, hr']
    rfl
theorem results_ok [Fit P] {nt : Nat} {t : Env} {a : Act} {ec : Ec} {fn : Func} {k : K} (R : Rel P X s h w) (E : EnvOk s h.nx nt t a) (e : (resF P fn.results.toList).f ec t h k = true) :
    ∃ v, k v h = true ∧ Wf s h.nx v ∧ (results fn a.tmps).run P w = .ok (cv s v) w := by
  have hres : results fn a.tmps = (do let vs ← fn.results.mapM (resOne a.tmps); pure (if h : vs.size = 1 then vs[0] else .tuple vs)) := rfl
  have hm : ∀ vs : List AV, (fn.results.toList.mapM (resOne a.tmps)).run P w = .ok (cvL s vs) w →
      (results fn a.tmps).run P w = .ok (if h : (cvL s vs).toArray.size = 1 then (cvL s vs).toArray[0] else .tuple (cvL s vs).toArray) w := by
    intro vs hv
    rw [hres, Sem.run_bind, Array.mapM_eq_mapM_toList, ← bind_pure_comp, Sem.run_bind, hv]
    rfl
  unfold resF at e
  split at e
  · rename_i r hr
    obtain ⟨v, hk, hv, hrun⟩ := res1_ok R E e
    refine ⟨v, hk, hv, ?_⟩
    rw [hm [v] (by rw [hr, List.mapM_cons, Sem.run_bind, hrun]; rfl)]
    simp [cvL]
  · rename_i l hl
    obtain ⟨vs, hk, hv, hlen, hrun⟩ := resL_ok R E fn.results.toList (fun vs => k (.tup vs) h) e
    refine ⟨.tup vs, hk, hv, ?_⟩
    rw [hm vs hrun, dif_neg]
    · rfl
    · intro h1
      have : fn.results.toList.length = 1 := by rw [← hlen]; simpa using h1
      match hq : fn.results.toList, this with
      | [r], _ => exact hl r hq
theorem callFunc_enter {f : FuncId} {fn : Func} {c : Code} (hf : P.funcs[f]? = some fn) (hb : fn.body = some c) (hn : (fn.name == "runtime.NumGoroutine") = false) (args : Array Value) :
    (callFunc f args).run P w = .ok (.enter f args) w := by
  have hn' : ¬ fn.name = "runtime.NumGoroutine" := by simpa using hn
  simp [callFunc, hf, hn', hb]
/-- calls are right, where the evaluator of code is -/
theorem callA_ok [FitC P] {S : Summ} (hS : SummOk P S) {ev : Ev} (hev : EvOk P ev) : EcOk P (callA P S ev) := by
  intro f args X s h w k R hw e
  have e1 : (Option.rec (motive := fun _ => Bool) (onO (fi P f) (fun i => callI ev noEc i args h k)) (fun T => T args h k) (S f)) = true := e
  cases hSf : S f with
  | some T => rw [hSf] at e1; exact hS f T hSf args X s h w k R hw e1
  | none =>
    rw [hSf] at e1
    obtain ⟨i, hi, e2⟩ := onO_true (show onO (fi P f) (fun i => callI ev noEc i args h k) = true from e1)
    unfold fi at hi
    cases hf : P.funcs[f]? with
    | none => rw [hf] at hi; cases hi
    | some fn =>
      rw [hf] at hi
      simp only [] at hi
      cases hb : fn.body with
      | none => rw [hb] at hi; cases hi
      | some c =>
        rw [hb] at hi
        cases hi
        have hmem : fn ∈ P.funcs.toList := by simpa using Array.mem_of_getElem? hf
        have hfn := lall_true (FitC.codes (P := P)) fn hmem
        unfold fnOk at hfn
        rw [hb] at hfn
        obtain ⟨hname, hok⟩ := and_true' hfn
        have hname' : (fn.name == "runtime.NumGoroutine") = false := by revert hname; cases (fn.name == "runtime.NumGoroutine") <;> simp
        refine .inr ⟨callFunc_enter hf hb hname' _, ?_⟩
        have e3 : ev (pc P c) (mkT args 0 .e) h (fun t h => (resF P fn.results.toList).f noEc t h k) (retX (fun t h => (resF P fn.results.toList).f noEc t h k)) = true := by
          revert e2; unfold callI; cases resF P fn.results.toList; exact id
        refine calls_of_wp hf hb (hev c fn.ntmps hok X s h w _ _ _ _ _ R (env_args hw) e3 ?_ ?_)
        · intro s' h' w' t' a' hk R' A' E'
          obtain ⟨v, hkv, hv, hr⟩ := results_ok R' E' hk
          exact ⟨E'.defers, _, hr, v, s', h', rfl, hkv, R', A', hv⟩
        · intro x s' h' w' t' a' hk R' A' E'
          cases x with
          | ret =>
            obtain ⟨v, hkv, hv, hr⟩ := results_ok R' E' hk
            exact ⟨E'.defers, _, hr, v, s', h', rfl, hkv, R', A', hv⟩
          | exit i => exact absurd hk Bool.false_ne_true
          | goto l => exact absurd hk Bool.false_ne_true
/-- the evaluator is right -/
theorem evC_ok [FitC P] (hD : DrawOk P) {S : Summ} (hS : SummOk P S) : ∀ n, EvOk P (evC P S n) ∧ LoopOk P (evC P S n)
  | 0 => ⟨fun _ _ _ _ _ _ _ _ _ _ _ _ _ _ e => absurd e Bool.false_ne_true, fun _ _ _ _ _ _ _ _ _ _ _ _ _ _ e => absurd e Bool.false_ne_true⟩
  | n + 1 => by
    obtain ⟨h1, h2⟩ := evC_ok hD hS n
    exact step_ok hD h1 h2 (callA_ok hS h1)
theorem evCall_ok [FitC P] (hD : DrawOk P) {S : Summ} (hS : SummOk P S) (n : Nat) : EcOk P (evCall P S n) := callA_ok hS (evC_ok hD hS n).1
end Go.Rk
