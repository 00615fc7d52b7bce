/- Heaps of which one number moves. No condition. -/
import Derived.Below
import Derived.Test.YtncbkikenbcbdaaGreatDoorXbe
import Derived.Test.YtncbkikenbcbdaaGreatDoorXev
set_option linter.unusedVariables false
set_option linter.unusedSimpArgs false
set_option linter.unusedSectionVars false
set_option linter.constructorNameAsVariable false
namespace Go.Rk
open Go
set_option linter.unusedSectionVars false
/-! ## names: two ways of reading one heap -/
theorem bif2_true {a b : Bool} (h : (Bool.rec (motive := fun _ => Bool) false b a) = true) : a = true ∧ b = true := by cases a <;> cases b <;> simp_all
section
variable {T0 T1 : Nt} (N0 : @Nu T0) (N1 : @Nu T1) {S : Nat → Bool} (hS : ∀ j, S j = true → N1.i j = N0.i j)
include hS
mutual
theorem cv_agree (s : Sig) : ∀ v : AV, okA S v = true → @cv T1 N1 s v = @cv T0 N0 s v
  | .sym j, e => by show Value.int .i64 (N1.i j) = .int .i64 (N0.i j); rw [hS j e]
  | .opq _, e => absurd e Bool.false_ne_true
  | .fn f a b, e => by
    obtain ⟨h1, h2⟩ := bif2_true (show (Bool.rec (motive := fun _ => Bool) false (okL S b) (okL S a)) = true from e)
    show Value.func f (@cvL T1 N1 s a).toArray (@cvL T1 N1 s b).toArray = Value.func f (@cvL T0 N0 s a).toArray (@cvL T0 N0 s b).toArray
    rw [cvL_agree s a h1, cvL_agree s b h2]
  | .ifc t v, e => by
    show Value.iface t (@cv T1 N1 s v) = Value.iface t (@cv T0 N0 s v)
    rw [cv_agree s v e]
  | .agg l, e => by
    show Value.agg (@cvL T1 N1 s l).toArray = Value.agg (@cvL T0 N0 s l).toArray
    rw [cvL_agree s l e]
  | .tup l, e => by
    show Value.tuple (@cvL T1 N1 s l).toArray = Value.tuple (@cvL T0 N0 s l).toArray
    rw [cvL_agree s l e]
  | .bool _, _ => rfl | .int _ _, _ => rfl | .flt _ _, _ => rfl | .cplx _ _ _, _ => rfl | .str _, _ => rfl | .nilp, _ => rfl | .ptr _ _, _ => rfl | .nils, _ => rfl
  | .sl _ _ _ _ _, _ => rfl | .slk _ _ _ _, _ => rfl | .nilm, _ => rfl | .map _, _ => rfl | .nilf, _ => rfl | .nili, _ => rfl
theorem cvL_agree (s : Sig) : ∀ l : List AV, okL S l = true → @cvL T1 N1 s l = @cvL T0 N0 s l
  | [], _ => rfl
  | v :: l, e => by
    obtain ⟨h1, h2⟩ := bif2_true (show (Bool.rec (motive := fun _ => Bool) false (okL S l) (okA S v)) = true from e)
    show @cv T1 N1 s v :: @cvL T1 N1 s l = @cv T0 N0 s v :: @cvL T0 N0 s l
    rw [cv_agree s v h1, cvL_agree s l h2]
end
end
theorem okL_mem {S : Nat → Bool} : ∀ {l : List AV}, okL S l = true → ∀ v ∈ l, okA S v = true
  | [], _, v, hv => absurd hv (by simp)
  | x :: l, e, v, hv => by
    obtain ⟨h1, h2⟩ := bif2_true (show (Bool.rec (motive := fun _ => Bool) false (okL S l) (okA S x)) = true from e)
    rcases List.mem_cons.1 hv with rfl | hv
    · exact h1
    · exact okL_mem h2 v hv
theorem okE_mem {S : Nat → Bool} : ∀ {l : Ents}, okE S l = true → ∀ e ∈ l, okA S e.1 = true ∧ okA S e.2.1 = true
  | [], _, v, hv => absurd hv (by simp)
  | x :: l, e, v, hv => by
    obtain ⟨h1, h2⟩ := bif2_true (show (Bool.rec (motive := fun _ => Bool) false (Bool.rec (motive := fun _ => Bool) false (okE S l) (okA S x.2.1)) (okA S x.1)) = true from e)
    obtain ⟨h3, h4⟩ := bif2_true h2
    rcases List.mem_cons.1 hv with rfl | hv
    · exact ⟨h1, h3⟩
    · exact okE_mem h4 v hv
theorem okT_get {S : Nat → Bool} : ∀ (p : Path) (t : Tr AB), okT S t = true → okAB S (Tr.get .dead p t) = true
  | [], .e, _ => rfl
  | [], .n v a b c d, e => (bif2_true (show (Bool.rec (motive := fun _ => Bool) false _ (okAB S v)) = true from e)).1
  | x :: p, .e, _ => by rw [Tr.get_e]; rfl
  | x :: p, .n v a b c d, e => by
    obtain ⟨_, h1⟩ := bif2_true (show (Bool.rec (motive := fun _ => Bool) false (Bool.rec (motive := fun _ => Bool) false (Bool.rec (motive := fun _ => Bool) false (Bool.rec (motive := fun _ => Bool) false (okT S d) (okT S c)) (okT S b)) (okT S a)) (okAB S v)) = true from e)
    obtain ⟨ha, h2⟩ := bif2_true h1
    obtain ⟨hb, h3⟩ := bif2_true h2
    obtain ⟨hc, hd⟩ := bif2_true h3
    cases x with
    | a => exact okT_get p a ha
    | b => exact okT_get p b hb
    | c => exact okT_get p c hc
    | d => exact okT_get p d hd
theorem okT_ok {S : Nat → Bool} {h : AH} (e : okT S h.t = true) (i : Nat) : okAB S (h.get i) = true := okT_get _ _ e
theorem lockT_get : ∀ (p : Path) (t : Tr AB), Tr.get .dead p (lockT t) = lockB (Tr.get .dead p t)
  | [], .e => rfl
  | [], .n v a b c d => rfl
  | x :: p, .e => by
    rw [Tr.get_e]
    exact Tr.get_e _ _
  | x :: p, .n v a b c d => by
    cases x with
    | a => exact lockT_get p a
    | b => exact lockT_get p b
    | c => exact lockT_get p c
    | d => exact lockT_get p d
theorem lockAll_get (h : AH) (i : Nat) : (lockAll h).get i = lockB (h.get i) := lockT_get _ _
section
variable {P : Program} {X : Nat → Prop} {s : Sig} {n : Nat} {h : AH} {w : World}
theorem Lies_agree {T0 T1 : Nt} (N0 : @Nu T0) (N1 : @Nu T1) {S : Nat → Bool} (hS : ∀ j, S j = true → N1.i j = N0.i j) {i : Nat} {b : AB} (e : okAB S b = true) (hl : @Lies T0 N0 P s n w i b) : @Lies T1 N1 P s n w i b := by
  cases b with
  | dead => trivial
  | cells cs el wr =>
    obtain ⟨h0, C, fr, h1, h2, h3⟩ := hl
    refine ⟨h0, C, fr, h1, fun k v hk => ?_, h3⟩
    rw [cv_agree N0 N1 hS s v (okL_mem (show okL S cs = true from e) v (List.mem_of_getElem? hk))]
    exact h2 k v hk
  | gmap es c wr =>
    obtain ⟨h0, h1⟩ := hl
    refine ⟨h0, ?_⟩
    have : es.map (@entOf T1 N1 s) = es.map (@entOf T0 N0 s) := List.map_congr_left fun x hx => by
      obtain ⟨q1, q2⟩ := okE_mem (show okE S es = true from e) x hx
      unfold entOf
      rw [cv_agree N0 N1 hS s _ q1, cv_agree N0 N1 hS s _ q2]
    rw [this]; exact h1
  | strIter l p => exact hl
end
/-! ## lists with one place set -/
variable [Nt] [Nu]
theorem lset_length : ∀ (l : List AV) (n : Nat) (v : AV), (lset l n v).length = l.length
  | [], _, _ => rfl
  | _ :: _, 0, _ => rfl
  | _ :: l, n + 1, v => congrArg (· + 1) (lset_length l n v)
theorem lset_get : ∀ (l : List AV) (n : Nat) (v : AV) (k : Nat), (lset l n v)[k]? = if k = n ∧ n < l.length then some v else l[k]?
  | [], n, v, k => by rw [if_neg (by simp)]; rfl
  | x :: l, 0, v, 0 => by rw [if_pos (by simp)]; rfl
  | x :: l, 0, v, k + 1 => by rw [if_neg (by omega)]; rfl
  | x :: l, n + 1, v, 0 => by rw [if_neg (by omega)]; rfl
  | x :: l, n + 1, v, k + 1 => by
    show (lset l n v)[k]? = _
    rw [lset_get l n v k]
    by_cases e : k = n ∧ n < l.length
    · rw [if_pos e, if_pos (by simp only [List.length_cons]; omega)]
    · rw [if_neg e, if_neg (by simp only [List.length_cons]; omega)]; rfl
theorem eqV_true {x y : AV} (e : eqV x y = true) : x = y := by
  cases x <;> cases y <;> (try exact absurd e Bool.false_ne_true) <;> (try rfl)
  case bool.bool a b => cases a <;> cases b <;> first | rfl | exact absurd e Bool.false_ne_true
  case int.int k n q m => obtain ⟨h1, h2⟩ := and_true' e; obtain rfl := keq_true h1; rw [ieq_eq] at h2; simp only [beq_iff_eq] at h2; rw [h2]
  case flt.flt k n q m => obtain ⟨h1, h2⟩ := and_true' e; obtain rfl := feq_true h1; rw [Nat.eq_of_beq_eq_true h2]
  case cplx.cplx k a b q c d => obtain ⟨h1, h2⟩ := and_true' e; obtain ⟨h3, h4⟩ := and_true' h2; obtain rfl := feq_true h1; rw [Nat.eq_of_beq_eq_true h3, Nat.eq_of_beq_eq_true h4]
  case str.str a b => rw [leq_true.1 e]
  case ptr.ptr a b c d => obtain ⟨h1, h2⟩ := and_true' e; rw [Nat.eq_of_beq_eq_true h1, Nat.eq_of_beq_eq_true h2]
  case sl.sl =>
    obtain ⟨h1, e⟩ := and_true' e; obtain ⟨h2, e⟩ := and_true' e; obtain ⟨h3, e⟩ := and_true' e; obtain ⟨h4, h5⟩ := and_true' e
    rw [Nat.eq_of_beq_eq_true h1, Nat.eq_of_beq_eq_true h2, Nat.eq_of_beq_eq_true h3, Nat.eq_of_beq_eq_true h4, Nat.eq_of_beq_eq_true h5]
  case slk.slk =>
    obtain ⟨h1, e⟩ := and_true' e; obtain ⟨h2, e⟩ := and_true' e; obtain ⟨h3, h4⟩ := and_true' e
    rw [Nat.eq_of_beq_eq_true h1, Nat.eq_of_beq_eq_true h2, Nat.eq_of_beq_eq_true h3, Nat.eq_of_beq_eq_true h4]
  case map.map a b => rw [Nat.eq_of_beq_eq_true e]
  case sym.sym a b => rw [Nat.eq_of_beq_eq_true e]
theorem eqVs_true : ∀ {xs ys : List AV}, eqVs xs ys = true → xs = ys
  | [], [], _ => rfl
  | [], _ :: _, e => absurd e Bool.false_ne_true
  | _ :: _, [], e => absurd e Bool.false_ne_true
  | x :: xs, y :: ys, e => by
    obtain ⟨h1, h2⟩ := and_true' (show and (eqV x y) (eqVs xs ys) = true from e)
    rw [eqV_true h1, eqVs_true h2]
theorem eqRow_true {b : AB} {cs : List AV} {e : Nat} (h : eqRow b cs e = true) : b = .cells cs e true := by
  unfold eqRow at h
  split at h
  · rename_i cs' e' w
    obtain ⟨h1, h2⟩ := and_true' h
    obtain ⟨h3, h4⟩ := and_true' h2
    rw [h1, Nat.eq_of_beq_eq_true h3, eqVs_true h4]
  · exact absurd h Bool.false_ne_true
theorem rowOf_true {b : AB} {k : List AV → Nat → Bool} (h : rowOf b k = true) : ∃ cs e, b = .cells cs e true ∧ k cs e = true := by
  unfold rowOf at h
  split at h
  · rename_i cs e w
    obtain ⟨h1, h2⟩ := and_true' h
    exact ⟨cs, e, by rw [h1], h2⟩
  · exact absurd h Bool.false_ne_true
theorem isLit_true {v : AV} {n : Nat} (h : isLit v n = true) : v = .int .i64 (.ofNat n) := by
  obtain ⟨q, m, rfl, e⟩ := isI_true (show isI v _ = true from h)
  obtain ⟨h1, h2⟩ := and_true' e
  obtain rfl := keq_true h1
  rw [ieq_eq] at h2
  simp only [beq_iff_eq] at h2
  rw [h2]
theorem isSymN_true {v : AV} {j : Nat} (h : isSymN v j = true) : v = .sym j := by
  unfold isSymN at h
  split at h
  · rw [Nat.eq_of_beq_eq_true h]
  · exact absurd h Bool.false_ne_true
theorem isOpqN_true {v : AV} {j : Nat} (h : isOpqN v j = true) : v = .opq j := by
  unfold isOpqN at h
  split at h
  · rw [Nat.eq_of_beq_eq_true h]
  · exact absurd h Bool.false_ne_true
theorem isPtrN_true {v : AV} {b : Nat} (h : isPtrN v b = true) : v = .ptr b 0 := by
  unfold isPtrN at h
  split at h
  · obtain ⟨h1, h2⟩ := and_true' h
    rw [Nat.eq_of_beq_eq_true h1, Nat.eq_of_beq_eq_true h2]
  · exact absurd h Bool.false_ne_true
theorem isU_true {v : AV} (h : isU v = true) : v = .undef := by
  unfold isU at h
  split at h
  · rfl
  · exact absurd h Bool.false_ne_true
theorem allU_get : ∀ (p : Path) (t : Env), allU t = true → Tr.get .undef p t = .undef
  | p, .e, _ => Tr.get_e _ _
  | [], .n v a b c d, e => isU_true (and_true' (show and (isU v) _ = true from e)).1
  | x :: p, .n v a b c d, e => by
    obtain ⟨_, h1⟩ := and_true' (show and (isU v) (and (allU a) (and (allU b) (and (allU c) (allU d)))) = true from e)
    obtain ⟨ha, h2⟩ := and_true' h1
    obtain ⟨hb, h3⟩ := and_true' h2
    obtain ⟨hc, hd⟩ := and_true' h3
    cases x with
    | a => exact allU_get p a ha
    | b => exact allU_get p b hb
    | c => exact allU_get p c hc
    | d => exact allU_get p d hd
theorem clr_get {nt : Nat} {t : Env} (h : allU (clr nt t) = true) {k : Nat} (hk : nt ≤ k) : Tr.get .undef (path k) t = .undef := by
  have h1 := allU_get (path k) _ h
  unfold clr at h1
  rw [mkT_get, if_neg (by rw [List.length_replicate]; omega)] at h1
  exact h1
end Go.Rk

namespace Go.Rk
open Go
set_option linter.unusedSectionVars false
/-! ## no names -/
noncomputable abbrev NtE : Nt := ⟨[], [], [], []⟩
noncomputable abbrev nuE (f : Nat → Int) : @Nu NtE := @Nu.mk NtE f (fun _ => undef) (fun e he => absurd (show e ∈ ([] : List BE) from he) (by simp)) (fun e he => absurd (show e ∈ ([] : List (Nat × SV)) from he) (by simp)) (fun e he => absurd (show e ∈ ([] : List (Nat × SV × Nat)) from he) (by simp))
theorem late_round {P : Program} {c : Code} {Q : Exit → Act → World → Prop} {a : Act} {w : World} (H : c.wp P (Exit.then (LoopWp P c Q) Q) a w) : LoopWp P c Q a w := @LoopWp.round NtE (nuE fun _ => 0) P c Q a w H
theorem late_loop {P : Program} {c : Code} {Q : Exit → Act → World → Prop} {a : Act} {w : World} (H : LoopWp P c Q a w) : (Code.loop c).wp P Q a w := @LoopWp.wp NtE (nuE fun _ => 0) P c Q a w H
/-! ## a heap of which one number moves -/
section
variable {P : Program} {X : Nat → Prop}
/-- the heap h with a number at one place of a row that has the name j: read with whatever names, if j is `now`, and the other names are as ρ says -/
def RelNow (P : Program) (X : Nat → Prop) (S : Nat → Bool) (ρ : Nat → Int) (N : Nat) (b : Nat) (h : AH) (cs : List AV) (e : Nat) (now : Int) (s : Sig) (w : World) : Prop :=
  ∀ (T : Nt) (M : @Nu T) (j : Nat), M.i j = now → (∀ k, S k = true → M.i k = ρ k) → @LookOk T M X w → @Rel T M P X s (h.put b (.cells (lset cs N (.sym j)) e true)) w
theorem relNow_of {T0 : Nt} {M0 : @Nu T0} {S : Nat → Bool} {ρ : Nat → Int} {N b : Nat} {h G : AH} {cs gs : List AV} {e : Nat} {now : Int} {s : Sig} {w : World} {g : AV} (R : @Rel T0 M0 P X s G w)
    (hb : h.get b = .cells cs e true) (hS : okT S h.t = true) (hρ : ∀ k, S k = true → M0.i k = ρ k) (hnx : G.nx = h.nx) (hG : ∀ i, i ≠ b → G.get i = h.get i) (hGb : G.get b = .cells gs e true)
    (hgs : ∀ k, k ≠ N → gs[k]? = cs[k]?) (hlen : gs.length = cs.length) (hg : gs[N]? = some g) (hv : @cv T0 M0 s g = .int .i64 now) : RelNow P X S ρ N b h cs e now s w := by
  have rl := R.lies
  have ri := R.inj
  have rf := R.fresh
  have rg := R.glob
  have rn := R.nxG
  have rd := R.dom
  have ro := R.own
  rw [hnx] at rn
  intro T M j hj hk hL
  have hag : ∀ k, S k = true → M.i k = M0.i k := fun k hk' => (hk k hk').trans (hρ k hk').symm
  have hokcs : ∀ k v, cs[k]? = some v → okA S v = true := fun k v hv' => okL_mem (show okL S cs = true from by have := okT_ok hS b; rw [hb] at this; exact this) v (List.mem_of_getElem? hv')
  have hN : N < cs.length := by
    rw [← hlen]
    rcases Nat.lt_or_ge N gs.length with h1 | h1
    · exact h1
    · rw [List.getElem?_eq_none h1] at hg; cases hg
  have hget : ∀ i, (h.put b (.cells (lset cs N (.sym j)) e true)).get i = if i = b then .cells (lset cs N (.sym j)) e true else h.get i := fun i => AH.get_put _ _ _ _
  have hlb : @Lies T0 M0 P s h.nx w b (.cells gs e true) := by
    have := rl b
    rw [hGb, hnx] at this; exact this
  have live : ∀ i, ((h.put b (.cells (lset cs N (.sym j)) e true)).get i).live = (G.get i).live := fun i => by
    rw [hget]
    by_cases e' : i = b
    · rw [if_pos e', e', hGb]; rfl
    · rw [if_neg e', hG i e']
  have wrt : ∀ i, ((h.put b (.cells (lset cs N (.sym j)) e true)).get i).writable = (G.get i).writable := fun i => by
    rw [hget]
    by_cases e' : i = b
    · rw [if_pos e', e', hGb]; rfl
    · rw [if_neg e', hG i e']
  refine @Rel.mk T M P X s _ w (fun i => ?_) (fun i k hi hk => ri i k (by rw [← live]; exact hi) (by rw [← live]; exact hk)) (fun i hi => ?_) rg rn rd (fun i hi => ro i (by rw [← wrt]; exact hi)) hL
  · rw [hget]
    by_cases e' : i = b
    · rw [if_pos e', e']
      obtain ⟨h0, C, fr, h1, h2, h3, h4, h5⟩ := hlb
      refine ⟨?_, C, fr, h1, fun k v hk' => ?_, h3, by rw [lset_length, ← hlen]; exact h4, h5⟩
      · rw [WfL_iff] at h0 ⊢
        intro v hv'
        obtain ⟨k, hk'⟩ := List.mem_iff_getElem?.1 hv'
        rw [lset_get] at hk'
        by_cases e2 : k = N ∧ N < cs.length
        · rw [if_pos e2] at hk'; cases hk'; trivial
        · rw [if_neg e2] at hk'
          have hkN : k ≠ N := fun q => e2 ⟨q, hN⟩
          rw [← hgs k hkN] at hk'
          exact h0 v (List.mem_of_getElem? hk')
      · rw [lset_get] at hk'
        by_cases e2 : k = N ∧ N < cs.length
        · rw [if_pos e2] at hk'
          cases hk'
          rw [e2.1]
          have := h2 N g hg
          rw [hv] at this
          rw [this, ← hj]; rfl
        · rw [if_neg e2] at hk'
          have hkN : k ≠ N := fun q => e2 ⟨q, hN⟩
          have hkg := hk'
          rw [← hgs k hkN] at hkg
          rw [h2 k v hkg, cv_agree M0 M hag s v (hokcs k v hk')]
    · rw [if_neg e']
      have := rl i
      rw [hG i e', hnx] at this
      exact Lies_agree M0 M hag (okT_ok hS i) this
  · rw [hget]
    by_cases e' : i = b
    · have := rf i (by rw [hnx]; exact hi)
      rw [e', hGb] at this; cases this
    · rw [if_neg e', ← hG i e']
      exact rf i (by rw [hnx]; exact hi)
end
variable [Nt] [Nu] {P : Program} {X : Nat → Prop} {s : Sig} {h : AH} {w : World}
/-! ## only one row may be written -/
def LX (X : Nat → Prop) (s : Sig) (h : AH) (b : Nat) : Nat → Prop := fun k => X k ∨ ∃ i, i ≠ b ∧ (h.get i).live = true ∧ (s i).blk = k
theorem lockB_live {c : AB} (hc : (lockB c).live = true) : c.live = true := by cases c <;> first | rfl | cases hc
theorem lockB_ro (c : AB) : (lockB c).writable = false := by cases c <;> rfl
theorem lockB_lies {n i : Nat} {c : AB} (hl : Lies P s n w i c) : Lies P s n w i (lockB c) := by
  cases c with
  | dead => trivial
  | cells cs e wr =>
    obtain ⟨h0, C, fr, h1, h2, h3, h4, h5⟩ := hl
    exact ⟨h0, C, fr, h1, h2, ⟨(fun hq => by cases hq), h3.2⟩, h4, fun hq => by cases hq⟩
  | gmap es c wr => exact hl
  | strIter l p => trivial
theorem Rel.locked (R : Rel P X s h w) {b e : Nat} {cs : List AV} (hb : h.get b = .cells cs e true) {L : AH} (hnx : L.nx = h.nx) (hL : ∀ i, L.get i = if i = b then .cells cs e true else lockB (h.get i)) : Rel P (LX X s h b) s L w := by
  have lv : ∀ i, (L.get i).live = true → (h.get i).live = true := fun i hi => by
    rw [hL] at hi
    by_cases e' : i = b
    · rw [e', hb]; rfl
    · rw [if_neg e'] at hi; exact lockB_live hi
  refine ⟨fun i => ?_, fun i j hi hj => R.inj i j (lv i hi) (lv j hj), fun i hi => ?_, R.glob, by rw [hnx]; exact R.nxG, fun k hk => ?_, fun i hi => ?_, R.look.keep fun k hk => ⟨.inl hk, rfl⟩⟩
  · rw [hL, hnx]
    by_cases e' : i = b
    · rw [if_pos e', e', ← hb]; exact R.lies b
    · rw [if_neg e']; exact lockB_lies (R.lies i)
  · rw [hL]
    have := R.fresh i (by rw [← hnx]; exact hi)
    by_cases e' : i = b
    · rw [e', hb] at this; cases this
    · rw [if_neg e', this]; rfl
  · rcases hk with hk | ⟨i, _, hi, rfl⟩
    · exact R.dom k hk
    · exact R.blk_lt hi
  · rw [hL] at hi
    by_cases e' : i = b
    · rw [e']
      rintro (hx | ⟨j, hjb, hj, hq⟩)
      · exact R.own b (by rw [hb]; rfl) hx
      · exact hjb (R.inj j b hj (by rw [hb]; rfl) hq)
    · rw [if_neg e', lockB_ro] at hi; cases hi
theorem Rel.stay (R : Rel P X s h w) {b e : Nat} {cs cs2 : List AV} (hb : h.get b = .cells cs e true) {L : AH} (hnx : L.nx = h.nx) {s' : Sig} {h' : AH} {w' : World}
    (R' : Rel P (LX X s h b) s' h' w') (A : Aft (LX X s h b) s L w s' h' w') (hb2 : h'.get b = .cells cs2 e true) (hw2 : WfL s h.nx cs2) : Rel P X s (h.put b (.cells cs2 e true)) w' := by
  have hbn : b < h.nx := R.lt (by rw [hb]; rfl)
  have hsb : s' b = s b := A.sig b (by rw [hnx]; exact hbn)
  have hsig : ∀ i, i < h.nx → s' i = s i := fun i hi => A.sig i (by rw [hnx]; exact hi)
  have lv : ∀ i, ((h.put b (.cells cs2 e true)).get i).live = true → (h.get i).live = true := fun i hi => by
    rw [AH.get_put] at hi
    by_cases e' : i = b
    · rw [e', hb]; rfl
    · rw [if_neg e'] at hi; exact hi
  refine ⟨fun i => ?_, fun i j hi hj => R.inj i j (lv i hi) (lv j hj), fun i hi => ?_, R.glob, R.nxG, fun k hk => Nat.lt_of_lt_of_le (R.dom k hk) A.size, fun i hi => ?_, R.look.keep fun k hk => ⟨hk, A.keep k (.inl hk)⟩⟩
  · rw [AH.get_put]
    by_cases e' : i = b
    · rw [if_pos e', e']
      have hl := R'.lies b
      rw [hb2] at hl
      obtain ⟨h0, C, fr, h1, h2, h3, h4, h5⟩ := hl
      rw [hsb] at h1 h2 h3 h4
      refine ⟨hw2, C, fr, h1, fun k v hk => ?_, h3, h4, h5⟩
      rw [h2 k v hk, cv_congr (s := s) (s' := s') (n := h.nx) hsig (WfL_iff.1 hw2 v (List.mem_of_getElem? hk))]
    · rw [if_neg e']
      cases hl : (h.get i).live with
      | false => rw [show h.get i = .dead by revert hl; cases h.get i <;> simp [AB.live]]; trivial
      | true =>
        show Lies P s h.nx w' i (h.get i)
        exact (R.lies i).keep (Nat.le_refl _) (fun _ _ => rfl) rfl (fun x hx => (A.keep _ (.inr ⟨i, e', hl, rfl⟩)).trans hx)
  · rw [AH.get_put]
    have := R.fresh i hi
    by_cases e' : i = b
    · rw [e', hb] at this; cases this
    · rw [if_neg e']; exact this
  · rw [AH.get_put] at hi
    by_cases e' : i = b
    · rw [e']; exact R.own b (by rw [hb]; rfl)
    · rw [if_neg e'] at hi; exact R.own i hi
/-! ## one piece of code behind the other -/
def seqs : List Code → Code → Code | [], r => r | c :: l, r => .seq c (seqs l r)
theorem evs_append {ev : Ev} {kx : KX} {kn : KN} : ∀ (l m : List Code), evs P ev kx kn (l ++ m) = evs P ev kx (evs P ev kx kn m) l
  | [], _ => rfl
  | c :: l, m => by
    show (fun t h => ev (pc P c) t h (evs P ev kx kn (l ++ m)) kx) = fun t h => ev (pc P c) t h (evs P ev kx (evs P ev kx kn m) l) kx
    rw [evs_append l m]
theorem evs_ok {ev : Ev} (hev : EvOk P ev) {nt : Nat} {rest : Code} {kx : KX} {kn : KN} {Q : Exit → Act → World → Prop} :
    ∀ (l : List Code), (∀ c ∈ l, codeOk P nt c = true) → ∀ (s : Sig) (h : AH) (w : World) (t : Env) (a : Act), Rel P X s h w → EnvOk s h.nx nt t a → evs P ev kx kn l t h = true →
      Then P X nt s h w kn (rest.wp P Q) → Leave P X nt s h w kx Q → (seqs l rest).wp P Q a w
  | [], _, s, h, w, t, a, R, E, e, hN, _ => hN s h w t a e R (Aft.refl X s h w) E
  | c :: l, hok, s, h, w, t, a, R, E, e, hN, hL => by
    refine wp_seq (hev c nt (hok c (List.mem_cons_self ..)) X s h w t a _ kx _ R E e ?_ ?_)
    · intro s' h' w' t' a' hk R' A' E'
      exact evs_ok hev l (fun c hc => hok c (List.mem_cons_of_mem _ hc)) s' h' w' t' a' R' E' hk (hN.aft A') (hL.aft A')
    · intro x s' h' w' t' a' hk R' A' E'
      cases x <;> exact hL _ s' h' w' t' a' hk R' A' E'
theorem codeOk_seqs {nt : Nat} {c : Code} : ∀ (n : Nat), codeOk P nt c = true → (∀ d ∈ lefts n c, codeOk P nt d = true) ∧ codeOk P nt (right n c) = true := by
  intro n
  induction n generalizing c with
  | zero => exact fun h => ⟨fun d hd => absurd hd (by simp [lefts]), h⟩
  | succ n ih =>
    intro h
    have hL : codeOk P nt (sL c) = true := by
      cases c with
      | seq a b => exact (and_true' (show and (codeOk P nt a) (codeOk P nt b) = true from h)).1
      | _ => exact h
    have hR : codeOk P nt (sR c) = true := by
      cases c with
      | seq a b => exact (and_true' (show and (codeOk P nt a) (codeOk P nt b) = true from h)).2
      | _ => exact h
    obtain ⟨h1, h2⟩ := ih hR
    exact ⟨fun d hd => by rcases List.mem_cons.1 hd with rfl | hd; exact hL; exact h1 d hd, h2⟩
end Go.Rk
