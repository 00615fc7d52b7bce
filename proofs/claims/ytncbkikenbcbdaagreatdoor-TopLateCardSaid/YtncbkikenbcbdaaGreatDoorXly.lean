/- TopLate: what is asked of its states. No condition. -/
import Derived.Test.YtncbkikenbcbdaaGreatDoorProg
import Derived.Test.YtncbkikenbcbdaaGreatDoorXev
set_option linter.unusedVariables false
set_option linter.unusedSimpArgs false
set_option linter.unusedSectionVars false
set_option linter.constructorNameAsVariable false
namespace Go.Rk
open Go Go.Proofs
/-! ## TopLate: its pieces, its tables, what is asked of a state -/
section
noncomputable abbrev LP : Program := Tryz.prog
noncomputable def lateBody : Code := match Tryz.f4.body with | some c => c | none => .skip
noncomputable def lateMid : Code := right 11 lateBody
noncomputable def latePre : List Code := lefts 11 lateBody ++ [sL (sL lateMid)]
noncomputable def lateLoop : Code := inLp (inB (sR (sL lateMid)))
noncomputable def lateTail : Code := sR lateMid
noncomputable def LN : Nat := 1000000
noncomputable def NOW : Nat := 10
/-- the slots at the head of the loop; d: where the names begin: d the time, d + 1 the tick, d + 2 the time behind it, d + 3 the place, d + 4 the next one, d + 5 the room that is left; 20: how many there are -/
noncomputable def lateEnv (d how most b : Nat) (k : Nat) : AV :=
  bif Nat.beq k 0 then .int .i64 (.ofNat how) else bif Nat.beq k 1 then .opq 0 else bif Nat.beq k 5 then .ptr b 0 else bif Nat.beq k 7 then .int .i64 (.ofNat most) else bif Nat.beq k 8 then .sym d else bif Nat.beq k 9 then .sym (d + 3) else .opq (k + 1000)
noncomputable def lateT (d how most b : Nat) : Env := mkT (lmap (lateEnv d how most b) (List.range 167)) 0 .e
/-- the head of the loop -/
noncomputable def headOk (t : Env) (how most b : Nat) (n8 n9 : AV → Bool) : Bool :=
  and (allU (clr 167 t)) (and (isLit (slt0 t 0) how) (and (isOpqN (slt0 t 1) 0) (and (isPtrN (slt0 t 5) b) (and (isLit (slt0 t 7) most) (and (n8 (slt0 t 8)) (n9 (slt0 t 9)))))))
noncomputable def mk (op : Nat) (x y r : SV) : BE := ⟨op, x, y, r⟩
noncomputable def MT : Int := 1099511627776
noncomputable def lnL : List (Nat × SV) := [(0, .sym 20)]
noncomputable def ixL (d : Nat) : List (Nat × SV × Nat) := [(0, .sym (d + 3), 1)]
noncomputable def ldL (d : Nat) : List (Nat × SV) := [(1, .sym (d + 1))]
noncomputable def inL (d : Nat) : BE := mk 2 (.sym (d + 3)) (.sym 20) (.bool true)
noncomputable abbrev tP (r : Bool) : Nt := ⟨[mk 4 (.sym 20) (.lit 60) (.bool r)], lnL, [], []⟩
noncomputable abbrev tBad1 : Nt := ⟨[inL 0, mk 2 (.sym 1) (.lit 1) (.bool true)], lnL, ixL 0, ldL 0⟩
noncomputable abbrev tBad2 : Nt := ⟨[inL 0, mk 2 (.sym 1) (.lit 1) (.bool false), mk 4 (.sym 1) (.lit 100) (.bool true)], lnL, ixL 0, ldL 0⟩
/-- a tick: whether the time is over -/
noncomputable abbrev tTick (d : Nat) (most : Nat) (over : Bool) : Nt := ⟨[inL d, mk 2 (.sym (d + 1)) (.lit 1) (.bool false), mk 4 (.sym (d + 1)) (.lit 100) (.bool false), mk 4 (.sym (d + 1)) (.lit 10000) (.bool false), mk 1 (.lit MT) (.sym d) (.sym (d + 5)), mk 4 (.sym (d + 1)) (.sym (d + 5)) (.bool false),
  mk 0 (.sym d) (.sym (d + 1)) (.sym (d + 2)), mk 1 (.sym (d + 2)) (.lit 0) (.sym (d + 2)), mk 5 (.sym (d + 2)) (.lit (.ofNat most)) (.bool over), mk 7 (.sym (d + 2)) (.sym (d + 2)) (.bool false), mk 5 (.sym (d + 2)) (.lit 0) (.bool true), mk 3 (.sym (d + 2)) (.lit MT) (.bool true), mk 0 (.sym (d + 3)) (.lit 1) (.sym (d + 4))], lnL, ixL d, ldL d⟩
noncomputable abbrev tOut (most : Nat) (r : Bool) : Nt := ⟨[mk 2 (.sym 3) (.sym 20) (.bool false), mk 2 (.sym 0) (.lit (.ofNat most)) (.bool r)], lnL, [], []⟩
/-- an input out of range -/
noncomputable abbrev tNeg : Nt := ⟨[mk 2 (.sym 21) (.lit 0) (.bool true)], lnL, [], []⟩
noncomputable abbrev tBig : Nt := ⟨[mk 2 (.sym 21) (.lit 0) (.bool false), mk 4 (.sym 21) (.lit 2) (.bool true)], lnL, [], []⟩
noncomputable abbrev tLong : Nt := ⟨[mk 2 (.sym 21) (.lit 0) (.bool false), mk 4 (.sym 21) (.lit 2) (.bool false), mk 4 (.sym 20) (.lit 60) (.bool true)], lnL, [], []⟩
noncomputable def noSym : Nat → Bool := fun _ => false
noncomputable def ten : Nat → Bool := fun j => and (Nat.ble 10 j) (Nat.ble j 15)
noncomputable def atB (b : Nat) (h : AH) (cs : List AV) (e : Nat) (j : Nat) : AH := h.put b (.cells (lset cs NOW (.sym j)) e true)
noncomputable def runB (T : Nt) (t : Env) (h : AH) (kn : KN) (kx : KX) : Bool := @evC LP T S6 LN (@pc LP T lateLoop) t h kn kx
noncomputable def runT (T : Nt) (t : Env) (h : AH) : Bool := @evC LP T S6 LN (@pc LP T lateTail) t h (@resT LP T Tryz.f4) (@retT LP T Tryz.f4)
/-- a tick out of range: known() -/
noncomputable def badOk (T : Nt) (t : Env) (h : AH) : Bool := runB T t h noN (@retT LP T Tryz.f4)
/-- one tick that changes the time alone -/
noncomputable def stepOk (over : Bool) (how most b : Nat) (h : AH) (cs : List AV) (e : Nat) : Bool :=
  runB (tTick 0 most over) (lateT 0 how most b) (atB b (lockAll h) cs e 0) (fun t' h' => and (headOk t' how most b (fun v => isSymN v 2) (fun v => isSymN v 4)) (eqRow (h'.get b) (lset cs NOW (.sym 2)) e)) noX
noncomputable def leaveOk (r : Bool) (how most b : Nat) (h : AH) (cs : List AV) (e : Nat) : Bool :=
  runB (tOut most r) (lateT 0 how most b) (atB b h cs e 0) noN (@outX LP (tOut most r) Tryz.f4 (runT (tOut most r)))
/-- what may come at any time: a tick out of range, a tick, the end of the ticks -/
noncomputable def stayOk (S : Nat → Bool) (over : Bool) (how most b : Nat) (h : AH) (cs : List AV) (e : Nat) : Bool :=
  and (okT S h.t) (and (badOk tBad1 (lateT 0 how most b) (atB b h cs e 0)) (and (badOk tBad2 (lateT 0 how most b) (atB b h cs e 0)) (and (stepOk over how most b h cs e) (leaveOk (not over) how most b h cs e))))
/-- the tick at which the time is over -/
noncomputable def turnOk (how most b : Nat) (h : AH) (cs : List AV) (e : Nat) : Bool :=
  runB (tTick 10 most true) (lateT 10 how most b) (atB b h cs e 10) (fun t' h' => and (headOk t' how most b (fun v => isSymN v 12) (fun v => isSymN v 14)) (rowOf (h'.get b) (fun cs e => and (isSymN ((cs[NOW]?).getD .undef) 12) (stayOk ten true how most b h' cs e)))) noX
/-- the whole, for one kind -/
noncomputable def lateOk (how most : Nat) (t : Nat) : Bool :=
  @evs LP (tP false) (@evC LP (tP false) S6 LN) noX (fun t h => match slt0 t 5 with
    | .ptr b _ => and (headOk t how most b (fun v => isLit v 0) (fun v => isLit v 0)) (rowOf (h.get b) (fun cs e => and (isLit ((cs[NOW]?).getD .undef) 0) (and (stayOk noSym false how most b h cs e) (turnOk how most b h cs e))))
    | _ => false) latePre (mkT [.int .i64 (.ofNat how), .opq 0] 0 .e) (Hk t)
end
end Go.Rk
