/- TopLate at every input. No condition. -/
import Derived.Test.YtncbkikenbcbdaaGreatDoorXlt
import Derived.Test.YtncbkikenbcbdaaGreatDoorXka0
import Derived.Test.YtncbkikenbcbdaaGreatDoorXka1
import Derived.Test.YtncbkikenbcbdaaGreatDoorXka2
import Derived.Test.YtncbkikenbcbdaaGreatDoorXkx
set_option linter.unusedVariables false
set_option linter.unusedSimpArgs false
set_option linter.unusedSectionVars false
set_option linter.constructorNameAsVariable false
namespace Go.Rk
open Go Go.Proofs Go.RowKit
set_option linter.unusedSectionVars false
set_option linter.unusedVariables false
/-! ## TopLate at every input -/
def lsig : Sig := fun i => ⟨i, 0, 0⟩
noncomputable abbrev preNu (T : Nt) (how : Int) (L : Nat) (tv : Value) (po : Option Addr) (c : Nat) (htv : tv = .slice po L c) (hb : ∀ e ∈ T.tb, e.Ok (fun j => if j = 20 then (L : Int) else if j = 21 then how else 0)) (hl : T.ln = lnL) (hx : T.ix = []) : @Nu T :=
  @Nu.mk T (fun j => if j = 20 then (L : Int) else if j = 21 then how else 0) (fun _ => tv) hb
    (by
      rw [hl]
      intro e he
      obtain rfl : e = (0, .sym 20) := by simpa [lnL] using he
      exact ⟨po, L, c, htv, rfl⟩)
    (by rw [hx]; intro e he; exact absurd he (by simp))
theorem ev_all : EvAll := fun T M => (evC_ok (draw_ok _) summ6 LN).1
theorem late_known {T : Nt} (M : @Nu T) {W : World} {t : Nat} (hl : @Lies T M LP lsig 2 W 1 (.cells (p10 20 1) t false)) (hld : T.ld = []) (e : @evCall LP T S6 LN 4 [.sym 21, .opq 0] (Hk t) tTrue = true) :
    Calls LP 4 #[.int .i64 (M.i 21), M.o 0] W (LYes W) := by
  have Rk := Rel.pow10 (w := W) (s := lsig) tryz_size (fun _ _ => ⟨rfl, rfl⟩) hl (look_none M hld)
  rcases tryz_ec summ6 LN 4 [.sym 21, .opq 0] (Olds W) lsig (Hk t) W tTrue Rk ⟨trivial, trivial, trivial⟩ e with ⟨v, s', h', w', _, hr, _⟩ | ⟨_, hc⟩
  · rw [callFunc_enter Tryz.func4 late_code late_name] at hr; cases hr
  · refine Calls.mono hc fun e w' he => ?_
    cases e with
    | returned u =>
      obtain ⟨v, s', h', rfl, hk, R', A', _⟩ := he
      rw [true_of hk]
      exact ⟨rfl, A'.os, A'.tape, A'.output, A'.size, A'.keep⟩
    | panicked c => exact he.elim
    | outgrown => exact he.elim
noncomputable def lateKN (how most : Nat) : KN := fun t h => match slt0 t 5 with
    | .ptr b _ => and (headOk t how most b (fun v => isLit v 0) (fun v => isLit v 0)) (rowOf (h.get b) (fun cs e => and (isLit ((cs[NOW]?).getD .undef) 0) (and (stayOk noSym false how most b h cs e) (turnOk how most b h cs e))))
    | _ => false
theorem late_main {W : World} {tv : Value} {xs : List Int} (hT : Ticks W tv xs) (hlen : xs.length ≤ 60) {t : Nat} (hl : ∀ (T : Nt) (M : @Nu T), @Lies T M LP lsig 2 W 1 (.cells (p10 20 1) t false)) {how most : Nat} (hm : 0 < most) (hr : lateOk how most t = true) :
    Calls LP 4 #[.int .i64 (.ofNat how), tv] W (LYes W) := by
  refine calls_of_wp Tryz.func4 late_code ?_
  obtain ⟨po, c, htv, hcell⟩ := hT.val
  let M := preNu (tP false) 0 xs.length tv po c htv (fun e he => by
    change e ∈ [_] at he
    simp only [List.mem_cons, List.mem_nil_iff, or_false] at he
    rw [he]
    exact ok_gt (a := xs.length) (b := 60) rfl rfl (by simp; omega)) rfl rfl
  have R := @Rel.pow10 (tP false) M LP lsig W tryz_size (fun _ _ => ⟨rfl, rfl⟩) t false 2 (hl _ M) (look_none M rfl)
  have E := @env_args (tP false) M lsig (Hk t) [.int .i64 (.ofNat how), .opq 0] 167 ⟨trivial, trivial, trivial⟩
  have hpre : ∀ c ∈ latePre, codeOk LP 167 c = true := by
    have h := late_ok_pre
    intro c hc
    exact @lall_true (tP false) M _ _ _ h c hc
  rw [late_parts, late_nt]
  have hr' : @evs LP (tP false) (@evC LP (tP false) S6 LN) noX (lateKN how most) latePre (mkT [.int .i64 (.ofNat how), .opq 0] 0 .e) (Hk t) = true := hr
  unfold latePre at hr'
  rw [@evs_append (tP false) M] at hr'
  refine @evs_ok (tP false) M LP (Olds W) _ (ev_all _ M) 167 _ noX _ (Q0 W) (lefts 11 lateBody) (fun c hc => hpre c (List.mem_append_left _ hc)) lsig (Hk t) W _ _ R E hr' ?_ (fun x s' h' w' t' a' hk => absurd hk Bool.false_ne_true)
  intro s' h' w' t' a' hk R' A' E'
  refine wp_seq (wp_seq ?_)
  refine ev_all _ M (sL (sL lateMid)) 167 (hpre _ (List.mem_append_right _ (List.mem_singleton_self _))) (Olds W) s' h' w' t' a' (lateKN how most) noX _ R' E' hk ?_ (fun x s' h' w' t' a' hk => absurd hk Bool.false_ne_true)
  intro s2 h2 w2 t2 a2 hk2 R2 A2 E2
  show (Code.block 0 (.loop lateLoop)).wp LP (Exit.then (lateTail.wp LP (Q0 W)) (Q0 W)) a2 w2
  have hB : Below W.heap.size W w2 := Below.trans ⟨A'.os, A'.tape, A'.output, A'.size, fun k hk => A'.keep k hk⟩ ⟨A2.os, A2.tape, A2.output, A2.size, fun k hk => A2.keep k hk⟩
  refine wp_block (late_loop ?_)
  have hk3 : (match slt0 t2 5 with
    | .ptr b _ => and (headOk t2 how most b (fun v => isLit v 0) (fun v => isLit v 0)) (rowOf (h2.get b) (fun cs e => and (isLit ((cs[NOW]?).getD .undef) 0) (and (stayOk noSym false how most b h2 cs e) (turnOk how most b h2 cs e))))
    | _ => false) = true := hk2
  have and2 : ∀ {a b : Bool}, and a b = true → a = true ∧ b = true := by intro a b; cases a <;> cases b <;> simp
  split at hk3
  · rename_i b o hb5
    obtain ⟨k1, k2⟩ := and2 hk3
    obtain ⟨cs, e, hb, k3⟩ := @rowOf_true (tP false) M _ _ k2
    obtain ⟨k4, k5⟩ := and2 k3
    obtain ⟨k6, k7⟩ := and2 k5
    have hg : cs[NOW]? = some (.int .i64 0) := by
      have := @isLit_true (tP false) M _ _ k4
      cases hq : cs[NOW]? with
      | none => rw [hq] at this; cases this
      | some v => rw [hq] at this; exact congrArg some this
    have hok : okT noSym h2.t = true := (and2 k6).1
    have Hd := head_of M (now := 0) (i := 0) E2 k1 (fun v hv => by rw [@isLit_true (tP false) M _ _ hv]; rfl) (fun v hv => by rw [@isLit_true (tP false) M _ _ hv]; rfl)
    exact open_loop ev_all hT hlen hb (List.getElem?_eq_some_iff.1 hg).1 k6 k7 xs.length 0 (by omega) 0 a2 w2 s2 Hd
      (relNow_of (M0 := M) (ρ := fun _ => 0) R2 hb hok (fun k hk => absurd hk Bool.false_ne_true) rfl (fun i hi => rfl) hb (fun k hk => rfl) rfl hg rfl) hB (by omega) (by omega) (by omega)
  · exact absurd hk3 Bool.false_ne_true
theorem late_calls {W : World} {tv : Value} {xs : List Int} (hT : Ticks W tv xs) {t : Nat} (hl : ∀ (T : Nt) (M : @Nu T), @Lies T M LP lsig 2 W 1 (.cells (p10 20 1) t false)) (how : Int) : Calls LP 4 #[.int .i64 how, tv] W (LYes W) := by
  obtain ⟨po, c, htv, hcell⟩ := hT.val
  by_cases h1 : how < 0
  · let M := preNu tNeg how xs.length tv po c htv (fun e he => by
      change e ∈ [_] at he
      simp only [List.mem_cons, List.mem_nil_iff, or_false] at he
      rw [he]
      exact ok_lt (a := how) (b := 0) rfl rfl (by simp; omega)) rfl rfl
    exact late_known M (hl _ M) rfl (late_neg t)
  by_cases h2 : 2 < how
  · let M := preNu tBig how xs.length tv po c htv (fun e he => by
      change e ∈ [_, _] at he
      simp only [List.mem_cons, List.mem_nil_iff, or_false] at he
      rcases he with rfl | rfl
      · exact ok_lt (a := how) (b := 0) rfl rfl (by simp; omega)
      · exact ok_gt (a := how) (b := 2) rfl rfl (by simp; omega)) rfl rfl
    exact late_known M (hl _ M) rfl (late_big t)
  by_cases h3 : 60 < xs.length
  · let M := preNu tLong how xs.length tv po c htv (fun e he => by
      change e ∈ [_, _, _] at he
      simp only [List.mem_cons, List.mem_nil_iff, or_false] at he
      rcases he with rfl | rfl | rfl
      · exact ok_lt (a := how) (b := 0) rfl rfl (by simp; omega)
      · exact ok_gt (a := how) (b := 2) rfl rfl (by simp; omega)
      · exact ok_gt (a := xs.length) (b := 60) rfl rfl (by simp; omega)) rfl rfl
    exact late_known M (hl _ M) rfl (late_long t)
  have h4 : how = 0 ∨ how = 1 ∨ how = 2 := by omega
  rcases h4 with rfl | rfl | rfl
  · exact late_main hT (by omega) hl (by omega) (late_0 t)
  · exact late_main hT (by omega) hl (by omega) (late_1 t)
  · exact late_main hT (by omega) hl (by omega) (late_2 t)
end Go.Rk
