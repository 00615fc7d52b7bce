/- From a run of the evaluator to calls. No condition. -/
import Derived.KernelRfl
import Derived.Below
import Derived.Test.YtncbkikenbcbdaaGreatDoorXtq
import Derived.Test.YtncbkikenbcbdaaGreatDoorXfi
import Derived.Test.YtncbkikenbcbdaaGreatDoorXsda
import Derived.Test.YtncbkikenbcbdaaGreatDoorXsdb
import Derived.Test.YtncbkikenbcbdaaGreatDoorXka
import Derived.Test.YtncbkikenbcbdaaGreatDoorXlb
set_option linter.unusedVariables false
set_option linter.unusedSimpArgs false
set_option linter.unusedSectionVars false
set_option linter.constructorNameAsVariable false
namespace Go.Rk
open Go Go.Proofs Go.RowKit
set_option linter.unusedSectionVars false
variable [Nt] [Nu]
instance tryzFit : FitC Tryz.prog where
  ok := tryz_fit
  codes := tryz_codes
  mixed := tryz_mixed
theorem tryz_ec {S : Summ} (hS : SummOk Tryz.prog S) (n : Nat) : EcOk Tryz.prog (evCall Tryz.prog S n) := evCall_ok (draw_ok _) hS n
theorem summ_none : SummOk Tryz.prog (fun _ => none) := fun f T h => by cases h
theorem summ_one {n : Nat} {T : Sm} (h : SmOk Tryz.prog n T) : SummOk Tryz.prog (fun f => bif Nat.beq f n then some T else none) := by
  intro f T' e
  have e' : (bif Nat.beq f n then some T else none) = some T' := e
  cases hb : Nat.beq f n with
  | true =>
    rw [hb] at e'
    obtain rfl := Nat.eq_of_beq_eq_true hb
    cases e'
    exact h
  | false => rw [hb] at e'; cases e'
theorem summ_cons {n : Nat} {T : Sm} {S : Summ} (h : SmOk Tryz.prog n T) (hS : SummOk Tryz.prog S) : SummOk Tryz.prog (fun f => swB f n T (S f)) := by
  intro f T' e
  have e' : (Bool.rec (motive := fun _ => Option Sm) (S f) (some T) (Nat.beq f n)) = some T' := e
  cases hb : Nat.beq f n with
  | true =>
    rw [hb] at e'
    obtain rfl := Nat.eq_of_beq_eq_true hb
    cases e'
    exact h
  | false => rw [hb] at e'; exact hS f T' e'
theorem ok437 : SmOk Tryz.prog 437 xAdd64 := xAdd64_ok Tryz.func437 (by kernel_rfl) (by kernel_rfl) (by kernel_rfl) (by kernel_rfl)
theorem summ_f : SummOk Tryz.prog Sf := summ_one ok437
theorem ok72 : SmOk Tryz.prog 72 xRoot := xRoot_ok (tryz_ec summ_none _) tryz_size root_all
theorem ok415 : SmOk Tryz.prog 415 xFrac := xFrac_ok (tryz_ec summ_f _) tryz_size frac_all
theorem summ_c : SummOk Tryz.prog Sc := by
  intro f T e
  have e' : (bif Nat.beq f 72 then some xRoot else bif Nat.beq f 415 then some xFrac else none) = some T := e
  cases hb : Nat.beq f 72 with
  | true => rw [hb] at e'; obtain rfl := Nat.eq_of_beq_eq_true hb; cases e'; exact ok72
  | false => rw [hb] at e'; exact summ_one ok415 f T e'
theorem ok30 : SmOk Tryz.prog 30 xSalt1 := xSalt1_ok (tryz_ec summ_c _) tryz_size salted_ref
theorem ok348 : SmOk Tryz.prog 348 xSalt2 := xSalt2_ok (tryz_ec summ_c _) tryz_size salted_own
theorem ok315 : SmOk Tryz.prog 315 xCnt1 := xCnt1_ok Tryz.func315 (by kernel_rfl) (by kernel_rfl) (by kernel_rfl) (by kernel_rfl)
theorem ok401 : SmOk Tryz.prog 401 xIdx1 := xIdx1_ok Tryz.func401 (by kernel_rfl) (by kernel_rfl) (by kernel_rfl) (by kernel_rfl)
theorem ok403 : SmOk Tryz.prog 403 xSame1 := xSame1_ok Tryz.func403 (by kernel_rfl) (by kernel_rfl) (by kernel_rfl) (by kernel_rfl)
theorem ok424 : SmOk Tryz.prog 424 xMake1 := xMake1_ok (ps := #[3]) (t := 29) Tryz.func424 (by kernel_rfl) (by kernel_rfl) (by kernel_rfl) (by kernel_rfl) (by kernel_rfl) (by kernel_rfl)
/-! ### Dec -/
theorem top_ec {S : Summ} (hS : SummOk Tryz.prog S) (n : Nat) : EcOk Tryz.prog (callA Tryz.prog (fun _ => none) (evC Tryz.prog S n)) := callA_ok summ_none (evC_ok (draw_ok _) hS n).1
theorem dec_small : ∀ x ∈ decs1, ∃ ec, EcOk Tryz.prog ec ∧ ec 32 [.int .i64 (.ofNat x.1)] He (tStr x.2) = true := fun x hx => ⟨_, top_ec summ_none 1000, lall_true dec_one x hx⟩
theorem small_bytes : ∀ x ∈ decs, ∀ y ∈ x.2, y < 256 := by decide
theorem okd1 : SmOk Tryz.prog 32 (xDecT decs1) := xDecT_ok tryz_size dec_small (fun x hx => small_bytes x (List.mem_cons_of_mem _ (List.mem_cons_of_mem _ hx)))
theorem dec_small2 : ∀ x ∈ decs2, ∃ ec, EcOk Tryz.prog ec ∧ ec 32 [.int .i64 (.ofNat x.1)] He (tStr x.2) = true := by
  intro x hx
  rcases List.mem_cons.1 hx with rfl | hx
  · exact ⟨_, top_ec (summ_one okd1) 1000, dec_100⟩
  · exact dec_small x hx
theorem okd2 : SmOk Tryz.prog 32 (xDecT decs2) := xDecT_ok tryz_size dec_small2 (fun x hx => small_bytes x (List.mem_cons_of_mem _ hx))
theorem dec_small3 : ∀ x ∈ decs, ∃ ec, EcOk Tryz.prog ec ∧ ec 32 [.int .i64 (.ofNat x.1)] He (tStr x.2) = true := by
  intro x hx
  rcases List.mem_cons.1 hx with rfl | hx
  · exact ⟨_, top_ec (summ_one okd2) 1000, dec_1000⟩
  · exact dec_small2 x hx
theorem ok32 : SmOk Tryz.prog 32 xDec1 := xDecT_ok tryz_size dec_small3 small_bytes
/-! ### all -/
theorem summ5 : SummOk Tryz.prog S5 :=
  summ_cons ok424 (summ_cons ok315 (summ_cons ok401 (summ_cons ok403 (summ_cons ok37 (summ_cons ok30 (summ_cons ok348 (summ_cons ok32 summ_none)))))))
theorem ok6 : SmOk Tryz.prog 6 x6 := x6_ok (tryz_ec summ5 _) tryz_size known_run
theorem summ6 : SummOk Tryz.prog S6 := summ_cons ok6 summ5
/-- a run that comes to true, said of the model's calls -/
theorem calls_of_run {S : Summ} (hS : SummOk Tryz.prog S) {f : FuncId} {fn : Func} {c : Code} (hf : Tryz.prog.funcs[f]? = some fn) (hb : fn.body = some c) (hn : (fn.name == "runtime.NumGoroutine") = false) {n : Nat} {args : List AV}
    {t : Nat} (e : evCall Tryz.prog S n f args (Hk t) tTrue = true) {s : Sig} {w : World} (hg : ∀ g, g < Tryz.prog.globals.size → (s g).blk = g ∧ (s g).off = 0) {wr : Bool} {m : Nat} (hl : Lies Tryz.prog s m w 1 (.cells (p10 20 1) t wr))
    (ha : ∀ a ∈ args, Flat a) (hL : LookOk (Olds w) w) : Calls Tryz.prog f (cvL s args).toArray w fun e w' => e = .returned (.bool true) ∧ Below w.heap.size w w' := by
  have Rk := Rel.pow10 (w := w) (s := s) tryz_size hg hl hL
  have hw : WfL s (Hk t).nx args := by rw [WfL_iff]; exact fun v hv => (ha v hv).wf s _
  have true_of : ∀ v h', tTrue v h' = true → v = .bool true := by
    intro v h' e
    unfold tTrue at e
    split at e
    · rw [e]
    · exact absurd e Bool.false_ne_true
  rcases tryz_ec hS n f args (Olds w) s (Hk t) w tTrue Rk hw e with ⟨v, s', h', w', _, hr, _⟩ | ⟨_, hc⟩
  · rw [callFunc_enter hf hb hn] at hr; cases hr
  · refine Calls.mono hc fun e w' he => ?_
    cases e with
    | returned u =>
      obtain ⟨v, s', h', rfl, hk, R', A', _⟩ := he
      rw [true_of v h' hk]
      exact ⟨rfl, A'.os, A'.tape, A'.output, A'.size, A'.keep⟩
    | panicked c => exact he.elim
    | outgrown => exact he.elim
end Go.Rk
