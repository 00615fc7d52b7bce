/- TopLate: its loop. No condition. -/
import Derived.KernelRfl
import Derived.Test.YtncbkikenbcbdaaGreatDoorXtr
import Derived.Test.YtncbkikenbcbdaaGreatDoorXlz
import Derived.Test.YtncbkikenbcbdaaGreatDoorXly
set_option linter.unusedVariables false
set_option linter.unusedSimpArgs false
set_option linter.unusedSectionVars false
set_option linter.constructorNameAsVariable false
namespace Go.Rk
open Go Go.Proofs Go.RowKit
set_option linter.unusedSectionVars false
set_option linter.unusedVariables false
/-! ## TopLate: the loop, by its state -/
theorem late_ok_loop : codeOk LP 167 lateLoop = true := by kernel_rfl
theorem late_ok_tail : codeOk LP 167 lateTail = true := by kernel_rfl
theorem late_ok_pre : lall (codeOk LP 167) latePre = true := by kernel_rfl
theorem late_parts : lateBody = seqs (lefts 11 lateBody) (.seq (.seq (sL (sL lateMid)) (.block 0 (.loop lateLoop))) lateTail) := by kernel_rfl
theorem late_code : Tryz.f4.body = some lateBody := by kernel_rfl
theorem late_name : (Tryz.f4.name == "runtime.NumGoroutine") = false := by kernel_rfl
theorem late_nt : Tryz.f4.ntmps = 167 := by kernel_rfl
/-- the ticks: a slice of the caller's -/
structure Ticks (W : World) (tv : Value) (xs : List Int) : Prop where
  val : ∃ (po : Option Addr) (c : Nat), tv = .slice po xs.length c ∧ ∀ (i : Nat) n, xs[i]? = some n → ∃ (p : Addr) (C : Array Value) (t : TypeId) (fr : Nat × Nat), po = some p ∧ p.spot = none ∧ p.block < W.heap.size ∧ W.heap[p.block]? = some (.cells C t fr) ∧ C[p.off + i]? = some (.int .i64 n)
def LYes (W : World) (e : Ending) (w' : World) : Prop := e = .returned (.bool true) ∧ Below W.heap.size W w'
def Q0 (W : World) : Exit → Act → World → Prop := bodyPost LP Tryz.f4 (LYes W)
noncomputable def Q2 (W : World) : Exit → Act → World → Prop := Exit.inBlock 0 (Exit.then (lateTail.wp LP (Q0 W)) (Q0 W))
/-! ### facts -/
theorem ok_lt {f : Nat → Int} {x y : SV} {a b : Int} {r : Bool} (hx : x.num f = some a) (hy : y.num f = some b) (hr : decide (a < b) = r) : (mk 2 x y (.bool r)).Ok f := ⟨a, b, hx, hy, by show SV.bool r = .bool (decide (a < b)); rw [hr]⟩
theorem ok_le {f : Nat → Int} {x y : SV} {a b : Int} {r : Bool} (hx : x.num f = some a) (hy : y.num f = some b) (hr : decide (a ≤ b) = r) : (mk 3 x y (.bool r)).Ok f := ⟨a, b, hx, hy, by show SV.bool r = .bool (decide (a ≤ b)); rw [hr]⟩
theorem ok_gt {f : Nat → Int} {x y : SV} {a b : Int} {r : Bool} (hx : x.num f = some a) (hy : y.num f = some b) (hr : decide (a > b) = r) : (mk 4 x y (.bool r)).Ok f := ⟨a, b, hx, hy, by show SV.bool r = .bool (decide (a > b)); rw [hr]⟩
theorem ok_ge {f : Nat → Int} {x y : SV} {a b : Int} {r : Bool} (hx : x.num f = some a) (hy : y.num f = some b) (hr : decide (a ≥ b) = r) : (mk 5 x y (.bool r)).Ok f := ⟨a, b, hx, hy, by show SV.bool r = .bool (decide (a ≥ b)); rw [hr]⟩
theorem ok_ne {f : Nat → Int} {x y : SV} {a b : Int} {r : Bool} (hx : x.num f = some a) (hy : y.num f = some b) (hr : (!decide (a = b)) = r) : (mk 7 x y (.bool r)).Ok f := ⟨a, b, hx, hy, by show SV.bool r = .bool (!decide (a = b)); rw [hr]⟩
theorem ok_add {f : Nat → Int} {x y r : SV} {a b c : Int} (hx : x.num f = some a) (hy : y.num f = some b) (hr : r.num f = some c) (hc : IntKind.i64.wrap (a + b) = c) : (mk 0 x y r).Ok f := ⟨a, b, hx, hy, by show r.num f = some (IntKind.i64.wrap (a + b)); rw [hr, hc]⟩
theorem ok_sub {f : Nat → Int} {x y r : SV} {a b c : Int} (hx : x.num f = some a) (hy : y.num f = some b) (hr : r.num f = some c) (hc : IntKind.i64.wrap (a - b) = c) : (mk 1 x y r).Ok f := ⟨a, b, hx, hy, by show r.num f = some (IntKind.i64.wrap (a - b)); rw [hr, hc]⟩
theorem wrap_id {n : Int} (h1 : -9223372036854775808 ≤ n) (h2 : n < 9223372036854775808) : IntKind.i64.wrap n = n := by
  have h : IntKind.i64.wrap n = if n % 18446744073709551616 ≥ 9223372036854775808 then n % 18446744073709551616 - 18446744073709551616 else n % 18446744073709551616 := by
    unfold IntKind.wrap
    simp [IntKind.bits, IntKind.signed]
  rw [h]
  split <;> omega
/-! ### names at the head of a round -/
noncomputable def nuI (d : Nat) (now n i L : Int) (ρ : Nat → Int) : Nat → Int := fun j =>
  if j = d then now else if j = d + 1 then n else if j = d + 2 then now + n else if j = d + 3 then i else if j = d + 4 then i + 1 else if j = d + 5 then MT - now else if j = 20 then L else ρ j
noncomputable def nuO (tv ad : Value) (a : Act) : Nat → Value := fun j => if j = 0 then tv else if j = 1 then ad else a.tmps.getD (j - 1000) undef
structure Head (how most b : Nat) (tv : Value) (now i : Int) (s : Sig) (a : Act) : Prop where
  v0 : a.tmps.getD 0 undef = .int .i64 (.ofNat how)
  v1 : a.tmps.getD 1 undef = tv
  v5 : a.tmps.getD 5 undef = .pointer (some ⟨(s b).blk, (s b).off + 0, none⟩)
  v7 : a.tmps.getD 7 undef = .int .i64 (.ofNat most)
  v8 : a.tmps.getD 8 undef = .int .i64 now
  v9 : a.tmps.getD 9 undef = .int .i64 i
  big : ∀ k, 167 ≤ k → a.tmps.getD k undef = undef
  size : 167 ≤ a.tmps.size
  defers : a.defers = []
theorem late_get [Nt] [Nu] (d how most b k : Nat) : Tr.get .undef (path k) (lateT d how most b) = if k < 167 then lateEnv d how most b k else .undef := by
  unfold lateT
  rw [mkT_get, lmap_eq]
  simp only [Nat.zero_le, true_and, List.length_map, List.length_range, Nat.zero_add, Nat.sub_zero]
  by_cases hk : k < 167
  · rw [if_pos hk, if_pos hk, List.getElem?_map, List.getElem?_range hk]; rfl
  · rw [if_neg hk, if_neg hk, Tr.get_e]
theorem env_late {T : Nt} (M : @Nu T) {d how most b n : Nat} {tv : Value} {now i : Int} {s : Sig} {a : Act} (H : Head how most b tv now i s a) (hd : M.i d = now) (hi : M.i (d + 3) = i) (ho : M.o 0 = tv)
    (hj : ∀ k, M.o (k + 1000) = a.tmps.getD k undef) (hb : b < n) : @EnvOk T M s n 167 (lateT d how most b) a := by
  refine ⟨fun k => ?_, fun k => ?_, H.size, H.defers⟩
  · rw [late_get]
    by_cases hk : k < 167
    · rw [if_pos hk]
      unfold lateEnv
      by_cases h0 : k = 0
      · subst h0; rw [H.v0]; rfl
      by_cases h1 : k = 1
      · subst h1; rw [H.v1, ← ho]; rfl
      by_cases h5 : k = 5
      · subst h5; rw [H.v5]; rfl
      by_cases h7 : k = 7
      · subst h7; rw [H.v7]; rfl
      by_cases h8 : k = 8
      · subst h8; rw [H.v8, ← hd]; rfl
      by_cases h9 : k = 9
      · subst h9; rw [H.v9, ← hi]; rfl
      simp only [nat_beq, beq_false_of_ne h0, beq_false_of_ne h1, beq_false_of_ne h5, beq_false_of_ne h7, beq_false_of_ne h8, beq_false_of_ne h9, cond_false]
      exact (hj k).symm
    · rw [if_neg hk, H.big k (by omega)]; rfl
  · rw [late_get]
    by_cases hk : k < 167
    · rw [if_pos hk]
      unfold lateEnv
      cases Nat.beq k 0 with
      | true => trivial
      | false =>
        cases Nat.beq k 1 with
        | true => trivial
        | false =>
          cases Nat.beq k 5 with
          | true => exact hb
          | false =>
            cases Nat.beq k 7 with
            | true => trivial
            | false => cases Nat.beq k 8 <;> first | trivial | (cases Nat.beq k 9 <;> trivial)
    · rw [if_neg hk]; trivial
theorem head_of {T : Nt} (M : @Nu T) {how most b n : Nat} {n8 n9 : AV → Bool} {s : Sig} {t : Env} {a : Act} {now i : Int} (E : @EnvOk T M s n 167 t a) (hk : headOk t how most b n8 n9 = true)
    (h8 : ∀ v, n8 v = true → @cv T M s v = .int .i64 now) (h9 : ∀ v, n9 v = true → @cv T M s v = .int .i64 i) : Head how most b (M.o 0) now i s a := by
  unfold headOk at hk
  obtain ⟨hu, hk⟩ := and_true' hk
  obtain ⟨k0, hk⟩ := and_true' hk
  obtain ⟨k1, hk⟩ := and_true' hk
  obtain ⟨k5, hk⟩ := and_true' hk
  obtain ⟨k7, hk⟩ := and_true' hk
  obtain ⟨k8, k9⟩ := and_true' hk
  refine ⟨?_, ?_, ?_, ?_, ?_, ?_, fun k hk' => ?_, E.size, E.defers⟩
  · rw [E.val 0, show Tr.get .undef (path 0) t = _ from isLit_true k0]; rfl
  · rw [E.val 1, show Tr.get .undef (path 1) t = _ from isOpqN_true k1]; rfl
  · rw [E.val 5, show Tr.get .undef (path 5) t = _ from isPtrN_true k5]; rfl
  · rw [E.val 7, show Tr.get .undef (path 7) t = _ from isLit_true k7]; rfl
  · rw [E.val 8]; exact h8 _ k8
  · rw [E.val 9]; exact h9 _ k9
  · rw [E.val k, clr_get hu hk']; rfl
end Go.Rk

namespace Go.Rk
open Go Go.Proofs Go.RowKit
set_option linter.unusedSectionVars false
set_option linter.unusedVariables false
/-! ## TopLate: rounds -/
abbrev EvAll : Prop := ∀ (T : Nt) (M : @Nu T), @EvOk T M LP (@evC LP T S6 LN)
noncomputable abbrev tickNu (T : Nt) (d : Nat) (now n : Int) (i L : Nat) (ρ : Nat → Int) (tv : Value) (p : Addr) (c : Nat) (a : Act) (hd : d = 0 ∨ d = 10) (hb : ∀ e ∈ T.tb, e.Ok (nuI d now n i L ρ)) (hl : T.ln = lnL) (hx : T.ix = ixL d)
    (htv : tv = .slice (some p) L c) (hi : i < L) (hs : p.spot = none) : @Nu T :=
  @Nu.mk T (nuI d now n i L ρ) (nuO tv (.pointer (some ⟨p.block, p.off + i, none⟩)) a) hb
    (by
      rw [hl]
      intro e he
      obtain rfl : e = (0, .sym 20) := by simpa [lnL] using he
      refine ⟨some p, L, c, htv, ?_⟩
      rcases hd with rfl | rfl <;> rfl)
    (by
      rw [hx]
      intro e he
      obtain rfl : e = (0, .sym (d + 3), 1) := by simpa [ixL] using he
      refine ⟨p, L, c, i, htv, ?_, hi, hs, rfl⟩
      rcases hd with rfl | rfl <;> rfl)
theorem look_tick {T : Nt} (M : @Nu T) {W w : World} {d i : Nat} {n : Int} {p : Addr} {C : Array Value} {t : TypeId} {fr : Nat × Nat} (hld : T.ld = ldL d) (ho : M.o 1 = .pointer (some ⟨p.block, p.off + i, none⟩)) (hn : M.i (d + 1) = n)
    (hp : p.block < W.heap.size) (hC : W.heap[p.block]? = some (.cells C t fr)) (hc : C[p.off + i]? = some (.int .i64 n)) (hB : Below W.heap.size W w) : @LookOk T M (Olds W) w := by
  intro e he
  rw [hld] at he
  obtain rfl : e = (1, .sym (d + 1)) := by simpa [ldL] using he
  exact ⟨_, C, t, fr, n, ho, rfl, hp, (hB.block _ hp).trans hC, congrArg some hn, hc⟩
theorem look_none {T : Nt} (M : @Nu T) {X : Nat → Prop} {w : World} (hld : T.ld = []) : @LookOk T M X w := by
  intro e he
  rw [hld] at he
  exact absurd he (by simp)
noncomputable abbrev outNu (most : Nat) (r : Bool) (now : Int) (i L : Nat) (ρ : Nat → Int) (tv : Value) (po : Option Addr) (c : Nat) (a : Act) (htv : tv = .slice po L c) (hi : ¬ i < L) (hr : decide (now < (most : Int)) = r) : @Nu (tOut most r) :=
  @Nu.mk (tOut most r) (nuI 0 now 0 i L ρ) (nuO tv undef a)
    (by
      intro e he
      have he1 : e ∈ [mk 2 (.sym 3) (.sym 20) (.bool false), mk 2 (.sym 0) (.lit (.ofNat most)) (.bool r)] := he
      have he' : e = mk 2 (.sym 3) (.sym 20) (.bool false) ∨ e = mk 2 (.sym 0) (.lit (.ofNat most)) (.bool r) := by simpa using he1
      rcases he' with rfl | rfl
      · exact ok_lt (a := i) (b := L) rfl rfl (by simp; omega)
      · exact ok_lt (a := now) (b := most) rfl rfl hr)
    (by
      intro e he
      have he1 : e ∈ [((0, .sym 20) : Nat × SV)] := he
      obtain rfl : e = (0, .sym 20) := by simpa using he1
      exact ⟨po, L, c, htv, rfl⟩)
    (by
      intro e he
      have he1 : e ∈ ([] : List (Nat × SV × Nat)) := he
      exact absurd he1 (by simp))
/-! ### leaving -/
theorem true_of {v : AV} {h' : AH} (e : tTrue v h' = true) : v = .bool true := by
  unfold tTrue at e
  split at e
  · rw [e]
  · exact absurd e Bool.false_ne_true
theorem ret_ok {T : Nt} (M : @Nu T) {W w w' : World} {s s' : Sig} {h h' : AH} {t' : Env} {a' : Act} (hk : @resT LP T Tryz.f4 t' h' = true) (R' : @Rel T M LP (Olds W) s' h' w') (A' : Aft (Olds W) s h w s' h' w') (E' : @EnvOk T M s' h'.nx 167 t' a')
    (hB : Below W.heap.size W w) : Q0 W .ret a' w' := by
  obtain ⟨v, hkv, hv, hr⟩ := results_ok (fn := Tryz.f4) (k := tTrue) R' E' hk
  refine ⟨E'.defers, _, hr, ?_, hB.trans ⟨A'.os, A'.tape, A'.output, A'.size, A'.keep⟩⟩
  rw [true_of hkv]; rfl
theorem q2_ret (W : World) (a : Act) (w : World) : Q2 W .ret a w = Q0 W .ret a w := rfl
theorem q2_exit (W : World) (a : Act) (w : World) : Q2 W (.exit 0) a w = lateTail.wp LP (Q0 W) a w := rfl
theorem bad_ok (hev : EvAll) {T : Nt} (M : @Nu T) {W w : World} {s : Sig} {h : AH} {t : Env} {a : Act} {N : Act → World → Prop} (R : @Rel T M LP (Olds W) s h w) (E : @EnvOk T M s h.nx 167 t a) (hB : Below W.heap.size W w) (e : badOk T t h = true) :
    lateLoop.wp LP (Exit.then N (Q2 W)) a w := by
  refine hev T M lateLoop 167 late_ok_loop (Olds W) s h w t a noN (@retT LP T Tryz.f4) _ R E e ?_ ?_
  · intro s' h' w' t' a' hk; exact absurd hk Bool.false_ne_true
  · intro x s' h' w' t' a' hk R' A' E'
    cases x with
    | ret => exact ret_ok M hk R' A' E' hB
    | exit i => exact absurd hk Bool.false_ne_true
    | goto l => exact absurd hk Bool.false_ne_true
theorem out_ok (hev : EvAll) {T : Nt} (M : @Nu T) {W w : World} {s : Sig} {h : AH} {t : Env} {a : Act} {N : Act → World → Prop} (R : @Rel T M LP (Olds W) s h w) (E : @EnvOk T M s h.nx 167 t a) (hB : Below W.heap.size W w)
    (e : runB T t h noN (@outX LP T Tryz.f4 (runT T)) = true) : lateLoop.wp LP (Exit.then N (Q2 W)) a w := by
  refine hev T M lateLoop 167 late_ok_loop (Olds W) s h w t a noN _ _ R E e ?_ ?_
  · intro s' h' w' t' a' hk; exact absurd hk Bool.false_ne_true
  · intro x s' h' w' t' a' hk R' A' E'
    have hB' : Below W.heap.size W w' := hB.trans ⟨A'.os, A'.tape, A'.output, A'.size, A'.keep⟩
    cases x with
    | ret => exact ret_ok M hk R' A' E' hB
    | goto l => exact absurd hk Bool.false_ne_true
    | exit i =>
      cases i with
      | succ i => exact absurd hk Bool.false_ne_true
      | zero =>
        show Q2 W (.exit 0) a' w'
        rw [q2_exit]
        refine hev T M lateTail 167 late_ok_tail (Olds W) s' h' w' t' a' _ _ _ R' E' hk ?_ ?_
        · intro s2 h2 w2 t2 a2 hk2 R2 A2 E2
          exact ret_ok M hk2 R2 A2 E2 hB'
        · intro x s2 h2 w2 t2 a2 hk2 R2 A2 E2
          cases x with
          | ret => exact ret_ok M hk2 R2 A2 E2 hB'
          | exit i => exact absurd hk2 Bool.false_ne_true
          | goto l => exact absurd hk2 Bool.false_ne_true
end Go.Rk

namespace Go.Rk
open Go Go.Proofs Go.RowKit
set_option linter.unusedSectionVars false
set_option linter.unusedVariables false
/-! ## TopLate: one round -/
theorem lset_wf [Nt] [Nu] {s : Sig} {n N : Nat} {cs : List AV} {i j : Nat} (h : WfL s n (lset cs N (.sym i))) : WfL s n (lset cs N (.sym j)) := by
  rw [WfL_iff] at h ⊢
  intro v hv
  obtain ⟨k, hk⟩ := List.mem_iff_getElem?.1 hv
  rw [lset_get] at hk
  by_cases e2 : k = N ∧ N < cs.length
  · rw [if_pos e2] at hk; cases hk; trivial
  · rw [if_neg e2] at hk
    refine h v (List.mem_of_getElem? (i := k) ?_)
    rw [lset_get, if_neg e2]; exact hk
theorem step_late (hev : EvAll) {T : Nt} (M : @Nu T) {W w : World} {s : Sig} {h : AH} {b e how most : Nat} {cs : List AV} {now2 i2 : Int} {S : Nat → Bool} {ρ : Nat → Int} {a : Act} {N : Act → World → Prop}
    (R : @Rel T M LP (Olds W) s (atB b h cs e 0) w) (E : @EnvOk T M s h.nx 167 (lateT 0 how most b) a) (hB : Below W.heap.size W w) (hb : h.get b = .cells cs e true) (hN : NOW < cs.length) (hS : okT S h.t = true) (hρ : ∀ k, S k = true → M.i k = ρ k)
    (h2 : M.i 2 = now2) (h4 : M.i 4 = i2)
    (e' : runB T (lateT 0 how most b) (atB b (lockAll h) cs e 0) (fun t' h' => and (headOk t' how most b (fun v => isSymN v 2) (fun v => isSymN v 4)) (eqRow (h'.get b) (lset cs NOW (.sym 2)) e)) noX = true)
    (hnext : ∀ a' w', Head how most b (M.o 0) now2 i2 s a' → RelNow LP (Olds W) S ρ NOW b h cs e now2 s w' → Below W.heap.size W w' → N a' w') : lateLoop.wp LP (Exit.then N (Q2 W)) a w := by
  have hGb : (atB b h cs e 0).get b = .cells (lset cs NOW (.sym 0)) e true := by unfold atB; rw [AH.get_put, if_pos rfl]
  have hGn : ∀ i, i ≠ b → (atB b h cs e 0).get i = h.get i := fun i hi => by unfold atB; rw [AH.get_put, if_neg hi]
  have RL := R.locked (b := b) (L := atB b (lockAll h) cs e 0) hGb rfl (fun i => by
    show ((lockAll h).put b _).get i = _
    rw [AH.get_put]
    by_cases hi : i = b
    · rw [if_pos hi, if_pos hi]
    · rw [if_neg hi, if_neg hi, lockAll_get, hGn i hi])
  refine hev T M lateLoop 167 late_ok_loop _ s _ w _ a _ noX _ RL E e' ?_ ?_
  · intro s' h' w' t' a' hk R' A' E'
    obtain ⟨k1, k2⟩ := and_true' hk
    have hb2 := eqRow_true k2
    have hbn : b < h.nx := R.lt (i := b) (by rw [hGb]; rfl)
    have hsb : s' b = s b := A'.sig b hbn
    have hwf : WfL s (atB b h cs e 0).nx (lset cs NOW (.sym 0)) := by
      have := R.lies b
      rw [hGb] at this
      exact this.1
    have Rn := R.stay (L := atB b (lockAll h) cs e 0) hGb rfl R' A' hb2 (lset_wf hwf)
    have Hd := head_of M (now := now2) (i := i2) E' k1 (fun v hv => by rw [isSymN_true hv]; show Value.int .i64 (M.i 2) = _; rw [h2]) (fun v hv => by rw [isSymN_true hv]; show Value.int .i64 (M.i 4) = _; rw [h4])
    have hB' : Below W.heap.size W w' := hB.trans ⟨A'.os, A'.tape, A'.output, A'.size, fun k hk => A'.keep k (.inl hk)⟩
    refine hnext a' w' { Hd with v5 := by rw [← hsb]; exact Hd.v5 } ?_ hB'
    refine relNow_of (M0 := M) (g := .sym 2) (gs := lset cs NOW (.sym 2)) Rn hb hS hρ rfl (fun i hi => ?_) ?_ (fun k hk => ?_) (lset_length _ _ _) ?_ ?_
    · rw [AH.get_put, if_neg hi, hGn i hi]
    · rw [AH.get_put, if_pos rfl]
    · rw [lset_get, if_neg (fun q => hk q.1)]
    · rw [lset_get, if_pos ⟨rfl, hN⟩]
    · show Value.int .i64 (M.i 2) = _; rw [h2]
  · intro x s' h' w' t' a' hk
    exact absurd hk Bool.false_ne_true
theorem turn_late (hev : EvAll) {T : Nt} (M : @Nu T) {W w : World} {s : Sig} {h : AH} {b e how most : Nat} {cs : List AV} {now2 i2 : Int} {a : Act} {N : Act → World → Prop}
    (R : @Rel T M LP (Olds W) s (atB b h cs e 10) w) (E : @EnvOk T M s h.nx 167 (lateT 10 how most b) a) (hB : Below W.heap.size W w) (h2 : M.i 12 = now2) (h4 : M.i 14 = i2)
    (e' : runB T (lateT 10 how most b) (atB b h cs e 10) (fun t' h' => and (headOk t' how most b (fun v => isSymN v 12) (fun v => isSymN v 14)) (rowOf (h'.get b) (fun cs e => and (isSymN ((cs[NOW]?).getD .undef) 12) (stayOk ten true how most b h' cs e)))) noX = true)
    (hnext : ∀ a' w' s' h' cs' e', h'.get b = .cells cs' e' true → NOW < cs'.length → stayOk ten true how most b h' cs' e' = true → Head how most b (M.o 0) now2 i2 s' a' → RelNow LP (Olds W) ten M.i NOW b h' cs' e' now2 s' w' → Below W.heap.size W w' → N a' w') :
    lateLoop.wp LP (Exit.then N (Q2 W)) a w := by
  refine hev T M lateLoop 167 late_ok_loop _ s _ w _ a _ noX _ R E e' ?_ ?_
  · intro s' h' w' t' a' hk R' A' E'
    obtain ⟨k1, k2⟩ := and_true' hk
    obtain ⟨cs', e2, hb2, k3⟩ := rowOf_true k2
    obtain ⟨k4, k5⟩ := and_true' k3
    have hg : cs'[NOW]? = some (.sym 12) := by
      have := isSymN_true k4
      cases hq : cs'[NOW]? with
      | none => rw [hq] at this; cases this
      | some v => rw [hq] at this; rw [← this]; rfl
    have hN : NOW < cs'.length := (List.getElem?_eq_some_iff.1 hg).1
    have Hd := head_of M (now := now2) (i := i2) E' k1 (fun v hv => by rw [isSymN_true hv]; show Value.int .i64 (M.i 12) = _; rw [h2]) (fun v hv => by rw [isSymN_true hv]; show Value.int .i64 (M.i 14) = _; rw [h4])
    have hB' : Below W.heap.size W w' := hB.trans ⟨A'.os, A'.tape, A'.output, A'.size, fun k hk => A'.keep k hk⟩
    have hok : okT ten h'.t = true := (and_true' k5).1
    refine hnext a' w' s' h' cs' e2 hb2 hN k5 Hd ?_ hB'
    refine relNow_of (M0 := M) (g := .sym 12) (gs := cs') R' hb2 hok (fun _ _ => rfl) rfl (fun i hi => rfl) hb2 (fun k hk => rfl) rfl hg ?_
    show Value.int .i64 (M.i 12) = _; rw [h2]
  · intro x s' h' w' t' a' hk
    exact absurd hk Bool.false_ne_true
/-! ### facts of a tick -/
theorem nuI_far {d : Nat} {now n i L : Int} {ρ : Nat → Int} {k : Nat} (hd : d = 0) (h1 : 10 ≤ k) (h2 : k ≤ 15) : nuI d now n i L ρ k = ρ k := by
  subst hd
  unfold nuI
  rw [if_neg (by omega), if_neg (by omega), if_neg (by omega), if_neg (by omega), if_neg (by omega), if_neg (by omega), if_neg (by omega)]
theorem nuO_junk (tv ad : Value) (a : Act) (k : Nat) : nuO tv ad a (k + 1000) = a.tmps.getD k undef := by
  unfold nuO
  rw [if_neg (by omega), if_neg (by omega), Nat.add_sub_cancel]
theorem tick_facts {d most : Nat} {over : Bool} {now n : Int} {i L : Nat} {ρ : Nat → Int} (hd : d = 0 ∨ d = 10) (h1 : 1 ≤ n) (h2 : n ≤ 100) (h0 : 0 ≤ now) (h3 : now ≤ 6000) (hi : i < L) (hL : L ≤ 60) (ho : decide (now + n ≥ (most : Int)) = over) :
    ∀ e ∈ (tTick d most over).tb, e.Ok (nuI d now n i L ρ) := by
  intro e he
  have hMT : MT = 1099511627776 := rfl
  change e ∈ [_, _, _, _, _, _, _, _, _, _, _, _, _] at he
  simp only [List.mem_cons, List.mem_nil_iff, or_false] at he
  rcases hd with rfl | rfl <;> rcases he with rfl | rfl | rfl | rfl | rfl | rfl | rfl | rfl | rfl | rfl | rfl | rfl | rfl
  all_goals first
    | exact ok_lt (a := i) (b := L) rfl rfl (by simp; omega)
    | exact ok_lt (a := n) (b := 1) rfl rfl (by simp; omega)
    | exact ok_gt (a := n) (b := 100) rfl rfl (by simp; omega)
    | exact ok_gt (a := n) (b := 10000) rfl rfl (by simp; omega)
    | exact ok_sub (a := MT) (b := now) (c := MT - now) rfl rfl rfl (wrap_id (by omega) (by omega))
    | exact ok_gt (a := n) (b := MT - now) rfl rfl (by simp; omega)
    | exact ok_add (a := now) (b := n) (c := now + n) rfl rfl rfl (wrap_id (by omega) (by omega))
    | exact ok_sub (a := now + n) (b := 0) (c := now + n) rfl rfl rfl (by rw [Int.sub_zero]; exact wrap_id (by omega) (by omega))
    | exact ok_ge (a := now + n) (b := most) rfl rfl ho
    | exact ok_ne (a := now + n) (b := now + n) rfl rfl (by simp)
    | exact ok_ge (a := now + n) (b := 0) rfl rfl (by simp; omega)
    | exact ok_le (a := now + n) (b := MT) rfl rfl (by simp; omega)
    | exact ok_add (a := i) (b := 1) (c := (i : Int) + 1) rfl rfl rfl (wrap_id (by omega) (by omega))
end Go.Rk

namespace Go.Rk
open Go Go.Proofs Go.RowKit
set_option linter.unusedSectionVars false
set_option linter.unusedVariables false
/-! ## TopLate: all rounds -/
theorem ten_range {k : Nat} (h : ten k = true) : 10 ≤ k ∧ k ≤ 15 := by
  have h' : (Nat.ble 10 k && Nat.ble k 15) = true := h
  rw [Bool.and_eq_true] at h'
  exact ⟨Nat.ble_eq.mp h'.1, Nat.ble_eq.mp h'.2⟩
theorem stay_round (hev : EvAll) {W : World} {tv : Value} {xs : List Int} (hT : Ticks W tv xs) (hlen : xs.length ≤ 60) {S : Nat → Bool} {over : Bool} {how most b e : Nat} {h : AH} {cs : List AV} {ρ : Nat → Int} (hb : h.get b = .cells cs e true) (hN : NOW < cs.length)
    (hSr : ∀ k, S k = true → 10 ≤ k ∧ k ≤ 15) (hst : stayOk S over how most b h cs e = true) {i : Nat} (hi : i ≤ xs.length) {now : Int} {a : Act} {w : World} {s : Sig} {N : Act → World → Prop} (H : Head how most b tv now i s a)
    (RN : RelNow LP (Olds W) S ρ NOW b h cs e now s w) (hB : Below W.heap.size W w) (h0 : 0 ≤ now) (h6 : now ≤ 6000) (hov : over = decide ((most : Int) ≤ now))
    (hnext : ∀ n, xs[i]? = some n → 1 ≤ n → n ≤ 100 → decide (now + n ≥ (most : Int)) = over → ∀ a' w', Head how most b tv (now + n) ((i : Int) + 1) s a' → RelNow LP (Olds W) S ρ NOW b h cs e (now + n) s w' → Below W.heap.size W w' → N a' w')
    (hturn : ∀ n, xs[i]? = some n → 1 ≤ n → n ≤ 100 → decide (now + n ≥ (most : Int)) ≠ over → lateLoop.wp LP (Exit.then N (Q2 W)) a w) : lateLoop.wp LP (Exit.then N (Q2 W)) a w := by
  unfold stayOk at hst
  have and5 : ∀ {a b c d e : Bool}, and a (and b (and c (and d e))) = true → a = true ∧ b = true ∧ c = true ∧ d = true ∧ e = true := by intro a b c d e; cases a <;> cases b <;> cases c <;> cases d <;> cases e <;> simp
  obtain ⟨hok, hb1, hb2, hst1, hlv⟩ := and5 hst
  obtain ⟨po, c, htv, hcell⟩ := hT.val
  have bn : b < h.nx := by
    -- a row that is there has a number below the next one
    rcases Nat.lt_or_ge b h.nx with hq | hq
    · exact hq
    · exfalso
      let M0 : @Nu NtE := nuE (fun j => if j = 0 then now else ρ j)
      have R0 := RN NtE M0 0 rfl (fun k hk => by have := hSr k hk; show (if k = 0 then now else ρ k) = ρ k; rw [if_neg (by omega)]) (fun e he => absurd (show e ∈ ([] : List (Nat × SV)) from he) (by simp))
      have := (@Rel.fresh NtE M0 LP (Olds W) s _ w R0) b hq
      rw [AH.get_put, if_pos rfl] at this
      cases this
  cases hx : xs[i]? with
  | none =>
    have hil : ¬ i < xs.length := by
      rw [List.getElem?_eq_none_iff] at hx; omega
    have hr : decide (now < (most : Int)) = (!over) := by rw [hov]; by_cases q : (most : Int) ≤ now <;> simp [q] <;> omega
    let M := outNu most (!over) now i xs.length ρ tv po c a htv hil hr
    exact out_ok hev M (RN _ M 0 rfl (fun k hk => nuI_far rfl (hSr k hk).1 (hSr k hk).2) (look_none M rfl)) (env_late M H rfl rfl rfl (nuO_junk _ _ _) bn) hB hlv
  | some n =>
    have hil : i < xs.length := (List.getElem?_eq_some_iff.1 hx).1
    obtain ⟨p, C, t, fr, rfl, hsp, hpb, hC, hcc⟩ := hcell i n hx
    by_cases q1 : n < 1
    · let M := tickNu tBad1 0 now n i xs.length ρ tv p c a (.inl rfl) (fun e he => by
        change e ∈ [_, _] at he
        simp only [List.mem_cons, List.mem_nil_iff, or_false] at he
        rcases he with rfl | rfl
        · exact ok_lt (a := i) (b := xs.length) rfl rfl (by simp; omega)
        · exact ok_lt (a := n) (b := 1) rfl rfl (by simp; omega)) rfl rfl htv hil hsp
      exact bad_ok hev M (RN _ M 0 rfl (fun k hk => nuI_far rfl (hSr k hk).1 (hSr k hk).2) (look_tick M (d := 0) rfl rfl rfl hpb hC hcc hB)) (env_late M H rfl rfl rfl (nuO_junk _ _ _) bn) hB hb1
    by_cases q2 : n > 100
    · let M := tickNu tBad2 0 now n i xs.length ρ tv p c a (.inl rfl) (fun e he => by
        change e ∈ [_, _, _] at he
        simp only [List.mem_cons, List.mem_nil_iff, or_false] at he
        rcases he with rfl | rfl | rfl
        · exact ok_lt (a := i) (b := xs.length) rfl rfl (by simp; omega)
        · exact ok_lt (a := n) (b := 1) rfl rfl (by simp; omega)
        · exact ok_gt (a := n) (b := 100) rfl rfl (by simp; omega)) rfl rfl htv hil hsp
      exact bad_ok hev M (RN _ M 0 rfl (fun k hk => nuI_far rfl (hSr k hk).1 (hSr k hk).2) (look_tick M (d := 0) rfl rfl rfl hpb hC hcc hB)) (env_late M H rfl rfl rfl (nuO_junk _ _ _) bn) hB hb2
    by_cases q3 : decide (now + n ≥ (most : Int)) = over
    · let M := tickNu (tTick 0 most over) 0 now n i xs.length ρ tv p c a (.inl rfl) (tick_facts (.inl rfl) (by omega) (by omega) h0 h6 hil hlen q3) rfl rfl htv hil hsp
      exact step_late hev M (now2 := now + n) (i2 := (i : Int) + 1) (RN _ M 0 rfl (fun k hk => nuI_far rfl (hSr k hk).1 (hSr k hk).2) (look_tick M (d := 0) rfl rfl rfl hpb hC hcc hB)) (env_late M H rfl rfl rfl (nuO_junk _ _ _) bn) hB hb hN hok
        (fun k hk => nuI_far rfl (hSr k hk).1 (hSr k hk).2) rfl rfl hst1 (hnext n hx (by omega) (by omega) q3)
    · exact hturn n hx (by omega) (by omega) q3
theorem over_loop (hev : EvAll) {W : World} {tv : Value} {xs : List Int} (hT : Ticks W tv xs) (hlen : xs.length ≤ 60) {how most b e : Nat} {h : AH} {cs : List AV} {ρ : Nat → Int} (hb : h.get b = .cells cs e true) (hN : NOW < cs.length)
    (hst : stayOk ten true how most b h cs e = true) : ∀ (m i : Nat), i + m = xs.length → ∀ (now : Int) (a : Act) (w : World) (s : Sig), Head how most b tv now i s a → RelNow LP (Olds W) ten ρ NOW b h cs e now s w → Below W.heap.size W w →
      (most : Int) ≤ now → 0 ≤ now → now ≤ 100 * i → LoopWp LP lateLoop (Q2 W) a w
  | 0, i, him, now, a, w, s, H, RN, hB, hm, h0, h1 => by
    refine late_round ?_
    exact stay_round hev hT hlen hb hN (fun k => ten_range) hst (by omega) H RN hB h0 (by omega) (by simp [hm])
      (fun n hx => by rw [List.getElem?_eq_none (by omega)] at hx; cases hx) (fun n hx => by rw [List.getElem?_eq_none (by omega)] at hx; cases hx)
  | m + 1, i, him, now, a, w, s, H, RN, hB, hm, h0, h1 => by
    refine late_round ?_
    refine stay_round hev hT hlen hb hN (fun k => ten_range) hst (by omega) H RN hB h0 (by omega) (by simp [hm]) (fun n hx n1 n2 hq a' w' H' RN' hB' => ?_) (fun n hx n1 n2 hq => ?_)
    · exact over_loop hev hT hlen hb hN hst m (i + 1) (by omega) (now + n) a' w' s (by rw [show ((i + 1 : Nat) : Int) = (i : Int) + 1 from by omega]; exact H') RN' hB' (by omega) (by omega) (by omega)
    · exact absurd (by simp; omega) hq
theorem open_loop (hev : EvAll) {W : World} {tv : Value} {xs : List Int} (hT : Ticks W tv xs) (hlen : xs.length ≤ 60) {how most b e : Nat} {h : AH} {cs : List AV} {ρ : Nat → Int} (hb : h.get b = .cells cs e true) (hN : NOW < cs.length)
    (hst : stayOk noSym false how most b h cs e = true) (htn : turnOk how most b h cs e = true) : ∀ (m i : Nat), i + m = xs.length → ∀ (now : Int) (a : Act) (w : World) (s : Sig), Head how most b tv now i s a → RelNow LP (Olds W) noSym ρ NOW b h cs e now s w → Below W.heap.size W w →
      now < (most : Int) → 0 ≤ now → now ≤ 100 * i → LoopWp LP lateLoop (Q2 W) a w
  | 0, i, him, now, a, w, s, H, RN, hB, hm, h0, h1 => by
    refine late_round ?_
    exact stay_round hev hT hlen hb hN (fun k hk => absurd hk Bool.false_ne_true) hst (by omega) H RN hB h0 (by omega) (by simp; omega)
      (fun n hx => by rw [List.getElem?_eq_none (by omega)] at hx; cases hx) (fun n hx => by rw [List.getElem?_eq_none (by omega)] at hx; cases hx)
  | m + 1, i, him, now, a, w, s, H, RN, hB, hm, h0, h1 => by
    refine late_round ?_
    refine stay_round hev hT hlen hb hN (fun k hk => absurd hk Bool.false_ne_true) hst (by omega) H RN hB h0 (by omega) (by simp; omega) (fun n hx n1 n2 hq a' w' H' RN' hB' => ?_) (fun n hx n1 n2 hq => ?_)
    · exact open_loop hev hT hlen hb hN hst htn m (i + 1) (by omega) (now + n) a' w' s (by rw [show ((i + 1 : Nat) : Int) = (i : Int) + 1 from by omega]; exact H') RN' hB' (by simpa using hq) (by omega) (by omega)
    · -- the time is over
      have hge : (most : Int) ≤ now + n := by
        rcases Int.lt_or_le (now + n) most with hlt | hle
        · exact absurd (by simp; omega) hq
        · exact hle
      obtain ⟨po, c, htv, hcell⟩ := hT.val
      have hil : i < xs.length := (List.getElem?_eq_some_iff.1 hx).1
      obtain ⟨p, C, t, fr, rfl, hsp, hpb, hC, hcc⟩ := hcell i n hx
      let M := tickNu (tTick 10 most true) 10 now n i xs.length ρ tv p c a (.inr rfl) (tick_facts (.inr rfl) n1 n2 h0 (by omega) hil hlen (by simp; omega)) rfl rfl htv hil hsp
      have RM := RN _ M 10 rfl (fun k hk => absurd hk Bool.false_ne_true) (look_tick M (d := 10) rfl rfl rfl hpb hC hcc hB)
      have bn : b < h.nx := by
        rcases Nat.lt_or_ge b h.nx with hq | hq
        · exact hq
        · exfalso
          have := (@Rel.fresh (tTick 10 most true) M LP (Olds W) s _ w RM) b hq
          rw [AH.get_put, if_pos rfl] at this
          cases this
      refine turn_late hev M (now2 := now + n) (i2 := (i : Int) + 1) RM (env_late M H rfl rfl rfl (nuO_junk _ _ _) bn) hB rfl rfl htn (fun a' w' s' h' cs' e' hb' hN' hst' H' RN' hB' => ?_)
      exact over_loop hev hT hlen hb' hN' hst' m (i + 1) (by omega) (now + n) a' w' s' (by rw [show ((i + 1 : Nat) : Int) = (i : Int) + 1 from by omega]; exact H') RN' hB' hge (by omega) (by omega)
end Go.Rk
