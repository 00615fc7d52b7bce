/- The evaluator is right, part 1: memory, values, operators. No condition. -/
import Derived.Calls
import Derived.Laws.Cells
import Derived.Laws.NewFold
import GoSem.Dispatch
import Derived.Laws.StructEq
import Derived.Test.YtncbkikenbcbdaaGreatDoorXev
set_option linter.unusedVariables false
set_option linter.unusedSimpArgs false
set_option linter.unusedSectionVars false
set_option linter.constructorNameAsVariable false
namespace Go.Rk
open Go

/-! ## lists -/
theorem lapp_eq {α : Type} (a b : List α) : lapp a b = a ++ b := by
  induction a with
  | nil => rfl
  | cons x l ih => show x :: lapp l b = _; rw [ih]; rfl
theorem lmap_eq {α β : Type} (f : α → β) (a : List α) : lmap f a = a.map f := by
  induction a with
  | nil => rfl
  | cons x l ih => show f x :: lmap f l = _; rw [ih]; rfl
theorem llen_eq {α : Type} (a : List α) : ∀ n, llen a n = a.length + n := by
  induction a with
  | nil => intro n; show n = _; simp
  | cons x l ih => intro n; show llen l (Nat.succ n) = _; rw [ih]; simp; omega
theorem len_eq {α : Type} (a : List α) : len a = a.length := llen_eq a 0
theorem lnth_eq {α : Type} (a : List α) : ∀ i, lnth a i = a[i]? := by
  induction a with
  | nil => intro i; rfl
  | cons x l ih =>
    intro i
    cases i with
    | zero => rfl
    | succ i => show lnth l i = _; rw [ih]; simp
theorem ldrop_eq {α : Type} (a : List α) : ∀ i, ldrop a i = a.drop i := by
  induction a with
  | nil => intro i; simp [ldrop]
  | cons x l ih =>
    intro i
    cases i with
    | zero => rfl
    | succ i => show ldrop l i = _; rw [ih]; simp
theorem ltakeK_true {α : Type} (i : Nat) : ∀ (l : List α) (k : List α → Bool), ltakeK i l k = true → i ≤ l.length ∧ k (l.take i) = true := by
  induction i with
  | zero => intro l k h; exact ⟨Nat.zero_le _, h⟩
  | succ i ih =>
    intro l k h
    cases l with
    | nil => exact absurd h (by simp [ltakeK])
    | cons a l =>
      have h' : ltakeK i l (fun r => k (a :: r)) = true := h
      obtain ⟨h1, h2⟩ := ih l _ h'
      exact ⟨by simpa using h1, by simpa using h2⟩
theorem leq_true {a b : List Nat} : leq a b = true ↔ a = b := by
  induction a generalizing b with
  | nil => cases b <;> simp [leq]
  | cons x l ih =>
    cases b with
    | nil => simp [leq]
    | cons y m =>
      show (Bool.rec false (leq l m) (Nat.beq x y) : Bool) = true ↔ _
      cases hb : Nat.beq x y with
      | false => simp; intro e; subst e; simp at hb
      | true => have := Nat.eq_of_beq_eq_true hb; subst this; simp [ih]
theorem repl_length (z : List AV) (n : Nat) : (repl z n).length = n * z.length := by
  induction n with
  | zero => show ([] : List AV).length = _; simp
  | succ n ih => show (lapp z (repl z n)).length = _; rw [lapp_eq, List.length_append, ih, Nat.succ_mul]; omega

/-! ## paths and tries -/
def dgv : Dg → Nat | .a => 0 | .b => 1 | .c => 2 | .d => 3
def unpath : Path → Nat
  | [] => 0
  | x :: p => 4 * unpath p + dgv x + 1
theorem dgv_dg (m : Nat) (h : m < 4) : dgv (dg m) = m := by
  match m, h with
  | 0, _ => rfl
  | 1, _ => rfl
  | 2, _ => rfl
  | 3, _ => rfl
theorem unpath_pathF (f : Nat) : ∀ k, k < f → unpath (pathF f k) = k := by
  induction f with
  | zero => intro k h; omega
  | succ f ih =>
    intro k h
    cases k with
    | zero => rfl
    | succ k =>
      show unpath (dg (Nat.mod k 4) :: pathF f (Nat.div k 4)) = _
      have h1 : Nat.div k 4 = k / 4 := rfl
      have h2 : Nat.mod k 4 = k % 4 := rfl
      rw [unpath, h1, h2, ih (k / 4) (by omega), dgv_dg _ (by omega)]
      omega
theorem unpath_path (k : Nat) : unpath (path k) = k := unpath_pathF _ k (Nat.lt_succ_self k)
theorem path_inj {i j : Nat} (h : path i = path j) : i = j := by rw [← unpath_path i, h, unpath_path]

theorem Tr.get_e {α : Type} (z : α) (p : Path) : Tr.get z p (.e : Tr α) = z := by cases p <;> rfl
theorem Tr.get_set {α : Type} (z y : α) (p : Path) : ∀ (q : Path) (t : Tr α), Tr.get z q (Tr.set z y p t) = if q = p then y else Tr.get z q t := by
  induction p with
  | nil =>
    intro q t
    cases q with
    | nil => cases t <;> rfl
    | cons x q => cases t <;> cases x <;> simp [Tr.set, Tr.get] <;> exact Tr.get_e z q
  | cons x p ih =>
    intro q t
    cases q with
    | nil => cases t <;> cases x <;> rfl
    | cons w q =>
      have key : ∀ (s : Tr α), Tr.get z q (Tr.set z y p s) = if q = p then y else Tr.get z q s := ih q
      cases t with
      | e =>
        cases x <;> cases w <;>
          first
          | (show Tr.get z q (Tr.set z y p .e) = _; rw [key, Tr.get_e, Tr.get_e]; simp only [List.cons.injEq, true_and]; done)
          | (show Tr.get z q .e = _; rw [Tr.get_e, Tr.get_e]; simp; done)
      | n v a b c d =>
        cases x <;> cases w <;>
          first
          | (show Tr.get z q (Tr.set z y p _) = _; rw [key]; simp only [List.cons.injEq, true_and]; rfl)
          | (simp; rfl)

theorem acc_eq (p : Path) : ∀ t, (acc p).f t = Tr.get .undef p t := by
  induction p with
  | nil => intro t; cases t <;> rfl
  | cons x p ih =>
    intro t
    have h : ∀ V0 : V, V0 = acc p → V0 = ⟨fun t => Tr.get .undef p t⟩ := by
      rintro ⟨g⟩ e
      congr 1
      funext t
      have := ih t
      rw [← e] at this
      exact this
    have hp := h _ rfl
    show (V.rec (motive := fun _ => V) (fun g => Dg.rec (motive := fun _ => V) ⟨fun t => g (ta t)⟩ ⟨fun t => g (tb t)⟩ ⟨fun t => g (tc t)⟩ ⟨fun t => g (td t)⟩ x) (acc p) : V).f t = _
    rw [hp]
    cases x <;> cases t <;> first | rfl | exact Tr.get_e _ p
theorem acc_mk (p : Path) : acc p = ⟨fun t => Tr.get .undef p t⟩ := by
  have h := acc_eq p
  cases hv : acc p with
  | mk g => congr 1; funext t; rw [← h t, hv]
theorem wset_mk (p : Path) : wset p = ⟨fun y t => Tr.set .undef y p t⟩ := by
  induction p with
  | nil => rfl
  | cons x p ih =>
    have : wset (x :: p) = (W.rec (motive := fun _ => W) (fun g => Dg.rec (motive := fun _ => W)
      ⟨fun y t => Tr.rec (motive := fun _ => Env) (.n .undef (g y .e) .e .e .e) (fun v a b c d _ _ _ _ => .n v (g y a) b c d) t⟩
      ⟨fun y t => Tr.rec (motive := fun _ => Env) (.n .undef .e (g y .e) .e .e) (fun v a b c d _ _ _ _ => .n v a (g y b) c d) t⟩
      ⟨fun y t => Tr.rec (motive := fun _ => Env) (.n .undef .e .e (g y .e) .e) (fun v a b c d _ _ _ _ => .n v a b (g y c) d) t⟩
      ⟨fun y t => Tr.rec (motive := fun _ => Env) (.n .undef .e .e .e (g y .e)) (fun v a b c d _ _ _ _ => .n v a b c (g y d)) t⟩ x) (wset p) : W) := rfl
    rw [this, ih]
    cases x <;> (refine congrArg W.mk ?_; funext y t; cases t <;> rfl)

/-! ## the heap's blocks -/
theorem AH.get_put (h : AH) (i j : Nat) (b : AB) : (h.put i b).get j = if j = i then b else h.get j := by
  unfold AH.get AH.put
  rw [Tr.get_set]
  by_cases e : j = i
  · subst e; simp
  · have : path j ≠ path i := fun h => e (path_inj h)
    simp [this, e]
theorem AH.nx_put (h : AH) (i : Nat) (b : AB) : (h.put i b).nx = h.nx := rfl
/-- the heap behind a new block -/
noncomputable def AH.add (h : AH) (b : AB) : AH := ⟨Tr.set .dead b (path h.nx) h.t, Nat.succ h.nx⟩
theorem AH.get_add (h : AH) (b : AB) (j : Nat) : (h.add b).get j = if j = h.nx then b else h.get j := AH.get_put h h.nx j b
theorem allocK_true {h : AH} {b : AB} {v : Nat → AV} {k : K} (e : allocK h b v k = true) : k (v h.nx) (h.add b) = true := by
  obtain ⟨t, nx⟩ := h
  cases nx with
  | zero => exact absurd e (by simp [allocK])
  | succ m => exact e
end Go.Rk

namespace Go.Rk
open Go
set_option linter.unusedSectionVars false
variable [Nt] [Nu]

/-- where a symbolic block lies: the block, the place in it, how many elements there is room for -/
structure Loc where
  blk : Nat
  off : Nat
  cap : Nat
abbrev Sig := Nat → Loc

def bys (s : List Nat) : ByteArray := ⟨(s.map UInt8.ofNat).toArray⟩

mutual
/-- what a symbolic value stands for -/
def cv (s : Sig) : AV → Value
  | .bool b => .bool b
  | .int k n => .int k n
  | .flt k n => .float k n
  | .cplx k a b => .complex k a b
  | .str l => .string (bys l)
  | .nilp => .pointer none
  | .ptr b o => .pointer (some ⟨(s b).blk, (s b).off + o, none⟩)
  | .nils => .slice none 0 0
  | .sl b o n skip alt => .slice (some ⟨(s b).blk, (s b).off + (if (s b).cap = skip then alt else o), none⟩) n ((s b).cap - skip)
  | .slk b o n c => .slice (some ⟨(s b).blk, (s b).off + o, none⟩) n c
  | .nilm => .map none
  | .map b => .map (some (s b).blk)
  | .nilf => .nilFunc
  | .fn f a b => .func f (cvL s a).toArray (cvL s b).toArray
  | .nili => .nilIface
  | .ifc t v => .iface t (cv s v)
  | .agg l => .agg (cvL s l).toArray
  | .tup l => .tuple (cvL s l).toArray
  | .sym i => .int .i64 (Nu.i i)
  | .opq i => Nu.o i
def cvL (s : Sig) : List AV → List Value
  | [] => []
  | v :: l => cv s v :: cvL s l
end
theorem cvL_eq (s : Sig) (l : List AV) : cvL s l = l.map (cv s) := by
  induction l with
  | nil => rfl
  | cons v l ih => show cv s v :: cvL s l = _; rw [ih]; rfl
@[simp] theorem cvL_length (s : Sig) (l : List AV) : (cvL s l).length = l.length := by rw [cvL_eq]; simp
theorem cvL_app (s : Sig) (a b : List AV) : cvL s (a ++ b) = cvL s a ++ cvL s b := by simp [cvL_eq]
theorem cvL_take (s : Sig) (l : List AV) (n : Nat) : cvL s (l.take n) = (cvL s l).take n := by simp [cvL_eq, List.map_take]
theorem cvL_drop (s : Sig) (l : List AV) (n : Nat) : cvL s (l.drop n) = (cvL s l).drop n := by simp [cvL_eq, List.map_drop]
theorem cvL_get (s : Sig) (l : List AV) (n : Nat) : (cvL s l)[n]? = l[n]?.map (cv s) := by simp [cvL_eq]
theorem cv_undef (s : Sig) : cv s .undef = undef := rfl
theorem cv_cells (s : Sig) (v : AV) (hv : ∀ i, v ≠ .opq i) : (cv s v).cells.toList = cvL s v.cells := by cases v <;> first | rfl | exact absurd rfl (hv _)
theorem lenIs_true {v : AV} {n : Nat} (h : lenIs v n = true) : Nat.beq (len v.cells) n = true ∧ ∀ i, v ≠ .opq i := by
  cases v <;> first | exact absurd h Bool.false_ne_true | exact ⟨h, fun i => by simp⟩
theorem of_not_opq : ∀ (n : Nat) (v : Value) (i : Nat), AV.of n v ≠ .opq i
  | 0, _, _ => by show AV.undef ≠ _; simp
  | n + 1, v, i => by
    cases v with
    | pointer a => cases a <;> (show AV.of (n + 1) _ ≠ _; simp [AV.of])
    | slice a l c => cases a <;> (show AV.of (n + 1) _ ≠ _; simp [AV.of])
    | map r => cases r <;> (show AV.of (n + 1) _ ≠ _; simp [AV.of])
    | _ => simp [AV.of]
theorem cst_not_opq (v : Value) (i : Nat) : cst v ≠ .opq i := of_not_opq _ v i

/-! ### values that are well made: bytes are bytes, blocks are below n, slices within their room -/
mutual
def Wf (s : Sig) (n : Nat) : AV → Prop
  | .str l => ∀ x ∈ l, x < 256
  | .ptr b _ => b < n
  | .sl b _ len skip _ => b < n ∧ skip + len ≤ (s b).cap
  | .slk b _ _ _ => b < n
  | .map b => b < n
  | .fn _ a b => WfL s n a ∧ WfL s n b
  | .ifc _ v => Wf s n v
  | .agg l => WfL s n l
  | .tup l => WfL s n l
  | _ => True
def WfL (s : Sig) (n : Nat) : List AV → Prop
  | [] => True
  | v :: l => Wf s n v ∧ WfL s n l
end
theorem WfL_iff {s : Sig} {n : Nat} {l : List AV} : WfL s n l ↔ ∀ v ∈ l, Wf s n v := by
  induction l with
  | nil => simp [WfL]
  | cons v l ih => simp [WfL, ih]
mutual
theorem Wf.ext' {s s' : Sig} {n m : Nat} (h : n ≤ m) (hs : ∀ i, i < n → s' i = s i) : ∀ v : AV, Wf s n v → Wf s' m v
  | .str _, e => e
  | .ptr _ _, e => Nat.lt_of_lt_of_le e h
  | .sl b _ _ _ _, e => ⟨Nat.lt_of_lt_of_le e.1 h, by rw [hs b e.1]; exact e.2⟩
  | .slk _ _ _ _, e => Nat.lt_of_lt_of_le e h
  | .map _, e => Nat.lt_of_lt_of_le e h
  | .fn _ a b, e => ⟨WfL.ext' h hs a e.1, WfL.ext' h hs b e.2⟩
  | .ifc _ v, e => Wf.ext' h hs v e
  | .agg l, e => WfL.ext' h hs l e
  | .tup l, e => WfL.ext' h hs l e
  | .bool _, _ => trivial | .int _ _, _ => trivial | .flt _ _, _ => trivial | .cplx _ _ _, _ => trivial
  | .nilp, _ => trivial | .nils, _ => trivial | .nilm, _ => trivial | .nilf, _ => trivial | .nili, _ => trivial | .sym _, _ => trivial | .opq _, _ => trivial
theorem WfL.ext' {s s' : Sig} {n m : Nat} (h : n ≤ m) (hs : ∀ i, i < n → s' i = s i) : ∀ l : List AV, WfL s n l → WfL s' m l
  | [], _ => trivial
  | v :: l, e => ⟨Wf.ext' h hs v e.1, WfL.ext' h hs l e.2⟩
end
theorem Wf.ext {s s' : Sig} {n m : Nat} (h : n ≤ m) (hs : ∀ i, i < n → s' i = s i) {v : AV} (e : Wf s n v) : Wf s' m v := Wf.ext' h hs v e
theorem WfL.ext {s s' : Sig} {n m : Nat} (h : n ≤ m) (hs : ∀ i, i < n → s' i = s i) {l : List AV} (e : WfL s n l) : WfL s' m l := WfL.ext' h hs l e
mutual
theorem cv_congr' {s s' : Sig} {n : Nat} (h : ∀ i, i < n → s' i = s i) : ∀ v : AV, Wf s n v → cv s' v = cv s v
  | .ptr b _, e => by have := h b e; simp [cv, this]
  | .sl b _ _ _ _, e => by have := h b e.1; simp [cv, this]
  | .slk b _ _ _, e => by have := h b e; simp [cv, this]
  | .map b, e => by have := h b e; simp [cv, this]
  | .fn _ a b, e => by simp [cv, cvL_congr' h a e.1, cvL_congr' h b e.2]
  | .ifc _ v, e => by simp [cv]; exact cv_congr' h v e
  | .agg l, e => by simp [cv, cvL_congr' h l e]
  | .tup l, e => by simp [cv, cvL_congr' h l e]
  | .bool _, _ => rfl | .int _ _, _ => rfl | .flt _ _, _ => rfl | .cplx _ _ _, _ => rfl | .str _, _ => rfl
  | .nilp, _ => rfl | .nils, _ => rfl | .nilm, _ => rfl | .nilf, _ => rfl | .nili, _ => rfl | .sym _, _ => rfl | .opq _, _ => rfl
theorem cvL_congr' {s s' : Sig} {n : Nat} (h : ∀ i, i < n → s' i = s i) : ∀ l : List AV, WfL s n l → cvL s' l = cvL s l
  | [], _ => rfl
  | v :: l, e => by simp [cvL, cv_congr' h v e.1, cvL_congr' h l e.2]
end
theorem cv_congr {s s' : Sig} {n : Nat} (h : ∀ i, i < n → s' i = s i) {v : AV} (e : Wf s n v) : cv s' v = cv s v := cv_congr' h v e
theorem cvL_congr {s s' : Sig} {n : Nat} (h : ∀ i, i < n → s' i = s i) {l : List AV} (e : WfL s n l) : cvL s' l = cvL s l := cvL_congr' h l e
theorem WfL.app {s : Sig} {n : Nat} {a b : List AV} (x : WfL s n a) (y : WfL s n b) : WfL s n (a ++ b) := by
  rw [WfL_iff] at *
  intro v h
  rcases List.mem_append.1 h with h | h
  · exact x v h
  · exact y v h
theorem WfL.take {s : Sig} {n i : Nat} {l : List AV} (x : WfL s n l) : WfL s n (l.take i) := WfL_iff.2 fun v h => WfL_iff.1 x v (List.mem_of_mem_take h)
theorem WfL.drop {s : Sig} {n i : Nat} {l : List AV} (x : WfL s n l) : WfL s n (l.drop i) := WfL_iff.2 fun v h => WfL_iff.1 x v (List.mem_of_mem_drop h)
theorem WfL.get {s : Sig} {n i : Nat} {l : List AV} {v : AV} (x : WfL s n l) (h : l[i]? = some v) : Wf s n v := WfL_iff.1 x v (List.mem_of_getElem? h)
theorem Wf.cells {s : Sig} {n : Nat} {v : AV} (h : Wf s n v) : WfL s n v.cells := by
  cases v <;> first | exact h | exact ⟨h, trivial⟩
theorem bytesOf_lt (x : ByteArray) : ∀ b ∈ bytesOf x, b < 256 := by
  unfold bytesOf
  rw [lmap_eq]
  intro b hb
  obtain ⟨c, _, rfl⟩ := List.mem_map.1 hb
  exact c.toNat_lt
theorem Wf_of (s : Sig) (n : Nat) : ∀ (k : Nat) (v : Value), okV k v = true → Wf s n (AV.of k v) := by
  intro k
  induction k with
  | zero => intro v h; exact absurd h (by simp [okV])
  | succ k ih =>
    have all : ∀ l : List Value, lall (okV k) l = true → WfL s n (lmap (AV.of k) l) := by
      intro l
      induction l with
      | nil => intro _; exact trivial
      | cons x l ihl =>
        intro h
        have h' : (Bool.rec false (lall (okV k) l) (okV k x) : Bool) = true := h
        cases hx : okV k x with
        | false => rw [hx] at h'; exact absurd h' (by simp)
        | true =>
          rw [hx] at h'
          exact ⟨ih x hx, ihl h'⟩
    intro v h
    cases v with
    | pointer a => cases a with
      | none => exact trivial
      | some a => exact absurd h (by simp [okV])
    | slice a l c => cases a with
      | none => exact trivial
      | some a => exact absurd h (by simp [okV])
    | map r => cases r with
      | none => exact trivial
      | some r => exact absurd h (by simp [okV])
    | chan r => exact absurd h (by simp [okV])
    | func f a b => exact absurd h (by simp [okV])
    | iface t v => exact ih v h
    | agg cs => exact all _ h
    | tuple vs => exact all _ h
    | string x => exact bytesOf_lt x
    | _ => exact trivial
theorem Wf_simple (s : Sig) (n : Nat) (v : Value) (h : simpleV v = true) : Wf s n (cst v) := by
  cases v <;> first | exact trivial | exact absurd h (by simp [simpleV])

/-! ### constants -/
theorem bys_bytesOf (x : ByteArray) : bys (bytesOf x) = x := by
  unfold bys bytesOf
  rw [lmap_eq]
  cases x with
  | mk d =>
    congr 1
    simp [List.map_map]
    have : (UInt8.ofNat ∘ fun x : UInt8 => x.toNat) = id := by funext x; simp
    rw [this]
    simp
theorem cv_of (s : Sig) : ∀ (n : Nat) (v : Value), okV n v = true → cv s (AV.of n v) = v := by
  intro n
  induction n with
  | zero => intro v h; exact absurd h (by simp [okV])
  | succ n ih =>
    have all : ∀ l : List Value, lall (okV n) l = true → cvL s (lmap (AV.of n) l) = l := by
      intro l
      induction l with
      | nil => intro _; rfl
      | cons x l ihl =>
        intro h
        have h' : (Bool.rec false (lall (okV n) l) (okV n x) : Bool) = true := h
        cases hx : okV n x with
        | false => rw [hx] at h'; exact absurd h' (by simp)
        | true =>
          rw [hx] at h'
          show cv s (AV.of n x) :: cvL s (lmap (AV.of n) l) = _
          rw [ih x hx, ihl h']
    intro v h
    cases v with
    | bool b => rfl
    | int k n => rfl
    | float k b => rfl
    | complex k a b => rfl
    | string x => show Value.string (bys (bytesOf x)) = _; rw [bys_bytesOf]
    | pointer a => cases a with
      | none => rfl
      | some a => exact absurd h (by simp [okV])
    | slice a l c => cases a with
      | none =>
        have h' : and (Nat.beq l 0) (Nat.beq c 0) = true := h
        have h1 : Nat.beq l 0 = true := by revert h'; cases Nat.beq l 0 <;> simp
        have h2 : Nat.beq c 0 = true := by revert h'; cases Nat.beq l 0 <;> simp
        obtain rfl := Nat.eq_of_beq_eq_true h1
        obtain rfl := Nat.eq_of_beq_eq_true h2
        rfl
      | some a => exact absurd h (by simp [okV])
    | map r => cases r with
      | none => rfl
      | some r => exact absurd h (by simp [okV])
    | chan r => exact absurd h (by simp [okV])
    | func f a b => exact absurd h (by simp [okV])
    | nilFunc => rfl
    | iface t v => show Value.iface t (cv s (AV.of n v)) = _; rw [ih v h]
    | nilIface => rfl
    | agg cs => show Value.agg (cvL s (lmap (AV.of n) cs.toList)).toArray = _; rw [all _ h]
    | tuple vs => show Value.tuple (cvL s (lmap (AV.of n) vs.toList)).toArray = _; rw [all _ h]
theorem cv_simple (s : Sig) (v : Value) (h : simpleV v = true) : cv s (cst v) = v := by
  cases v <;> first | rfl | exact absurd h (by simp [simpleV])

/-! ## a symbolic heap and a world -/
def AB.live : AB → Bool | .dead => false | _ => true
def AB.writable : AB → Bool | .cells _ _ w => w | .gmap _ _ w => w | .strIter _ _ => true | .dead => false
def entOf (s : Sig) (e : AV × AV × Nat) : MapEntry := ⟨cv s e.1, cv s e.2.1, e.2.2⟩
/-- a block of the heap lies in the world -/
def Lies (P : Program) (s : Sig) (n : Nat) (w : World) (i : Nat) : AB → Prop
  | .dead => True
  | .cells cs e wr => WfL s n cs ∧ ∃ C fr, w.heap[(s i).blk]? = some (.cells C e fr) ∧ (∀ k v, cs[k]? = some v → C[(s i).off + k]? = some (cv s v)) ∧
      ((wr = true → (s i).off + (s i).cap * tSize P e = C.size) ∧ tSize P e ∣ (s i).off) ∧ (s i).off + cs.length ≤ C.size ∧ (wr = true → fr.1 = fr.2 ∨ C.size ≤ fr.1)
  | .gmap es c _ => (∀ e ∈ es, Wf s n e.1 ∧ Wf s n e.2.1) ∧ w.heap[(s i).blk]? = some (.map (es.map (entOf s)).toArray c)
  | .strIter l p => (∀ x ∈ l, x < 256) ∧ (s i).off = 0 ∧ w.heap[(s i).blk]? = some (.stringIter (bys l) p)

/-- what the addresses that have a name hold, in blocks that stay as they are -/
def LookOk (X : Nat → Prop) (w : World) : Prop :=
  ∀ e ∈ Nt.ld, ∃ (a : Addr) (C : Array Value) (t : TypeId) (fr : Nat × Nat) (n : Int), Nu.o e.1 = .pointer (some a) ∧ a.spot = none ∧ X a.block ∧ w.heap[a.block]? = some (.cells C t fr) ∧ e.2.num Nu.i = some n ∧ C[a.off]? = some (.int .i64 n)
theorem LookOk.keep {X X' : Nat → Prop} {w w' : World} (L : LookOk X w) (hx : ∀ k, X k → X' k ∧ w'.heap[k]? = w.heap[k]?) : LookOk X' w' := by
  intro e he
  obtain ⟨a, C, t, fr, n, h1, h2, h3, h4, h5, h6⟩ := L e he
  exact ⟨a, C, t, fr, n, h1, h2, (hx _ h3).1, (hx _ h3).2.trans h4, h5, h6⟩
/-- their blocks -/
def LB (k : Nat) : Prop := ∃ e ∈ Nt.ld, ∃ a : Addr, Nu.o e.1 = .pointer (some a) ∧ a.block = k
abbrev LookB (w : World) : Prop := LookOk LB w
theorem LookOk.lb {X : Nat → Prop} {w : World} (L : LookOk X w) : LookB w := by
  intro e he
  obtain ⟨a, C, t, fr, n, h1, h2, h3, h4, h5, h6⟩ := L e he
  exact ⟨a, C, t, fr, n, h1, h2, ⟨e, he, a, h1, rfl⟩, h4, h5, h6⟩
theorem LookOk.lb_lt {X : Nat → Prop} {w : World} (L : LookOk X w) {k : Nat} (hk : LB k) : k < w.heap.size := by
  obtain ⟨e, he, a, ha, rfl⟩ := hk
  obtain ⟨a', C, t, fr, n, h1, h2, h3, h4, h5, h6⟩ := L e he
  rw [h1] at ha
  cases ha
  exact (Array.getElem?_eq_some_iff.1 h4).1
structure Rel (P : Program) (X : Nat → Prop) (s : Sig) (h : AH) (w : World) : Prop where
  lies : ∀ i, Lies P s h.nx w i (h.get i)
  inj : ∀ i j, (h.get i).live = true → (h.get j).live = true → (s i).blk = (s j).blk → i = j
  fresh : ∀ i, h.nx ≤ i → h.get i = .dead
  glob : ∀ g, g < P.globals.size → (s g).blk = g ∧ (s g).off = 0
  nxG : P.globals.size ≤ h.nx
  dom : ∀ k, X k → k < w.heap.size
  own : ∀ i, (h.get i).writable = true → ¬ X (s i).blk
  look : LookOk X w

/-- what stays as it is, from one state to a later one -/
structure Aft (X : Nat → Prop) (s : Sig) (h : AH) (w : World) (s' : Sig) (h' : AH) (w' : World) : Prop where
  sig : ∀ i, i < h.nx → s' i = s i
  nx : h.nx ≤ h'.nx
  keep : ∀ k, X k → w'.heap[k]? = w.heap[k]?
  size : w.heap.size ≤ w'.heap.size
  tape : w'.tape = w.tape
  os : w'.os = w.os
  output : w'.output = w.output
  ro : ∀ i, i < h.nx → (h.get i).writable = false → h'.get i = h.get i
  lv : ∀ i, (h'.get i).live = true → (h'.get i).writable = true ∨ ((h.get i).live = true ∧ (h.get i).writable = false)
theorem Aft.refl (X : Nat → Prop) (s : Sig) (h : AH) (w : World) : Aft X s h w s h w := ⟨fun _ _ => rfl, Nat.le_refl _, fun _ _ => rfl, Nat.le_refl _, rfl, rfl, rfl, fun _ _ _ => rfl, fun i hi => by cases hw : (h.get i).writable; exact .inr ⟨hi, rfl⟩; exact .inl rfl⟩
theorem Aft.trans {X : Nat → Prop} {s s1 s2 : Sig} {h h1 h2 : AH} {w w1 w2 : World} (a : Aft X s h w s1 h1 w1) (b : Aft X s1 h1 w1 s2 h2 w2) : Aft X s h w s2 h2 w2 where
  sig i hi := (b.sig i (Nat.lt_of_lt_of_le hi a.nx)).trans (a.sig i hi)
  nx := Nat.le_trans a.nx b.nx
  keep k hk := (b.keep k hk).trans (a.keep k hk)
  size := Nat.le_trans a.size b.size
  tape := b.tape.trans a.tape
  os := b.os.trans a.os
  output := b.output.trans a.output
  ro i hi hw := by
    have e := a.ro i hi hw
    rw [← e] at hw ⊢
    exact b.ro i (Nat.lt_of_lt_of_le hi a.nx) hw
  lv i hi := by
    rcases b.lv i hi with h1 | ⟨h1, h2⟩
    · exact .inl h1
    · rcases a.lv i h1 with h3 | h3
      · rw [h3] at h2; cases h2
      · exact .inr h3
end Go.Rk

namespace Go.Rk
open Go
set_option linter.unusedSectionVars false
variable [Nt] [Nu]

/-- the two worlds have all in common but for a block -/
structure But (g : Nat) (w w' : World) : Prop where
  heap : ∀ k, k ≠ g → w'.heap[k]? = w.heap[k]?
  size : w'.heap.size = w.heap.size
  tape : w'.tape = w.tape
  os : w'.os = w.os
  output : w'.output = w.output
theorem But.refl (g : Nat) (w : World) : But g w w := ⟨fun _ _ => rfl, rfl, rfl, rfl, rfl⟩
theorem But.trans {g : Nat} {w w1 w2 : World} (a : But g w w1) (b : But g w1 w2) : But g w w2 :=
  ⟨fun k h => (b.heap k h).trans (a.heap k h), b.size.trans a.size, b.tape.trans a.tape, b.os.trans a.os, b.output.trans a.output⟩

theorem lt_of_get {α : Type} {a : Array α} {i : Nat} {x : α} (h : a[i]? = some x) : i < a.size := by
  rcases Nat.lt_or_ge i a.size with h' | h'
  · exact h'
  · rw [Array.getElem?_eq_none h'] at h; cases h

theorem setCell_heap {w : World} {g o : Nat} {C : Array Value} {t : TypeId} {fr : Nat × Nat} (hg : w.heap[g]? = some (.cells C t fr)) (v : Value) :
    (w.setCell ⟨g, o, none⟩ v).heap[g]? = some (.cells (C.setIfInBounds o v) t fr) ∧ But g w (w.setCell ⟨g, o, none⟩ v) := by
  have hlt := lt_of_get hg
  refine ⟨?_, ⟨fun k hk => ?_, ?_, rfl, rfl, rfl⟩⟩
  · simp only [World.setCell, Array.getElem?_modify, if_true, hg, Option.map_some]
    rfl
  · simp only [World.setCell, Array.getElem?_modify, if_neg (Ne.symm hk)]
  · simp [World.setCell]

theorem add_at (g o i : Nat) : (⟨g, o, none⟩ : Addr).add i = ⟨g, o + i, none⟩ := by unfold Addr.add; split <;> simp_all

/-- storing cells into a row that is not frozen where they go -/
theorem run_storeCells_row (P : Program) (g o : Nat) (t : TypeId) (fr : Nat × Nat) : ∀ (vs : List Value) (i : Nat) (C : Array Value) (w : World),
    w.heap[g]? = some (.cells C t fr) → (fr.1 = fr.2 ∨ C.size ≤ fr.1) → o + i + vs.length ≤ C.size → (∀ v ∈ vs, v.oneCell' = true) →
    ∃ w' C', (storeCells ⟨g, o, none⟩ vs i).run P w = .ok () w' ∧ w'.heap[g]? = some (.cells C' t fr) ∧ C'.size = C.size ∧ But g w w' ∧
      ∀ j, C'[j]? = if o + i ≤ j ∧ j < o + i + vs.length then vs[j - (o + i)]? else C[j]?
  | [], i, C, w, hg, _, _, _ => ⟨w, C, rfl, hg, rfl, But.refl g w, fun j => by simp; omega⟩
  | v :: vs, i, C, w, hg, hfr, hl, h1 => by
    simp only [List.length_cons] at hl
    have hcell : w.cell? ⟨g, o + i, none⟩ = C[o + i]? := by simp [World.cell?, hg]
    have hlt : o + i < C.size := by omega
    have hfro : w.frozen? ⟨g, o + i, none⟩ = false := by
      simp only [World.frozen?, hg, Bool.and_eq_false_iff, decide_eq_false_iff_not]
      rcases hfr with h | h <;> omega
    obtain ⟨hg1, hb1⟩ := setCell_heap (o := o + i) hg v
    obtain ⟨w', C', hr, hg', hs', hb', hj⟩ := run_storeCells_row P g o t fr vs (i + 1) (C.setIfInBounds (o + i) v) _ hg1 (by simpa using hfr) (by simp; omega) (fun x hx => h1 x (List.mem_cons_of_mem _ hx))
    refine ⟨w', C', ?_, hg', by simpa using hs', hb1.trans hb', fun j => ?_⟩
    · simp only [storeCells, Sem.run_bind, add_at]
      rw [run_store P w _ v _ (h1 v (List.mem_cons_self ..)), hcell, Array.getElem?_eq_getElem hlt]
      simp [hfro, Result.andThen, hr]
    · rw [hj j]
      by_cases e : j = o + i
      · subst e
        rw [if_neg (by omega), if_pos (by simp only [List.length_cons]; omega)]
        simp [hlt]
      · by_cases e2 : o + (i + 1) ≤ j ∧ j < o + (i + 1) + vs.length
        · rw [if_pos e2, if_pos (by simp only [List.length_cons]; omega)]
          have : j - (o + i) = (j - (o + (i + 1))) + 1 := by omega
          rw [this]; simp
        · rw [if_neg e2, if_neg (by simp only [List.length_cons]; omega)]
          simp only [Array.getElem?_setIfInBounds]
          rw [if_neg (fun h => e h.symm)]

/-! ## what the relation hands on -/
variable {P : Program} {X : Nat → Prop} {s : Sig} {h : AH} {w : World}

theorem Rel.at {R : Rel P X s h w} {i : Nat} {b : AB} (e : h.get i = b) : Lies P s h.nx w i b := e ▸ R.lies i
/-- a symbolic block's cells, in the world -/
theorem Rel.cell (R : Rel P X s h w) {i : Nat} {cs : List AV} {e : Nat} {wr : Bool} (hb : h.get i = .cells cs e wr) {k : Nat} {v : AV} (hk : cs[k]? = some v) (o : Nat) (ho : o = (s i).off + k) :
    w.cell? ⟨(s i).blk, o, none⟩ = some (cv s v) := by
  obtain ⟨_, C, fr, hg, hc, _⟩ := Rel.at (R := R) hb
  subst ho
  simp [World.cell?, hg, hc k v hk]
theorem Rel.lt (R : Rel P X s h w) {i : Nat} (hb : (h.get i).live = true) : i < h.nx := by
  rcases Nat.lt_or_ge i h.nx with h' | h'
  · exact h'
  · rw [R.fresh i h'] at hb; cases hb
/-- many cells are read -/
theorem Rel.cells (R : Rel P X s h w) {i : Nat} {cs : List AV} {e : Nat} {wr : Bool} (hb : h.get i = .cells cs e wr) (o n : Nat) (hn : n ≤ (cs.drop o).length) :
    (loadCells ⟨(s i).blk, (s i).off + o, none⟩ n).run P w = .ok (cvL s ((cs.drop o).take n)).toArray w := by
  have := run_loadCells_list (P := P) w ⟨(s i).blk, (s i).off + o, none⟩ (cvL s ((cs.drop o).take n)) (fun j v hj => by
    rw [add_at, cvL_get] at *
    have hj' : j < n := by
      rcases Nat.lt_or_ge j n with h' | h'
      · exact h'
      · rw [List.getElem?_eq_none (by simp; omega)] at hj; cases hj
    rw [List.getElem?_take_of_lt hj', List.getElem?_drop] at hj
    cases hx : cs[o + j]? with
    | none => rw [hx] at hj; cases hj
    | some x =>
      rw [hx] at hj
      cases hj
      exact R.cell hb hx _ (by omega))
  have hn' : min n (cs.length - o) = n := Nat.min_eq_left (by simpa using hn)
  simpa [hn'] using this

/-! ## the heap, turned -/
/-- a block turned in place: the world has all in common but for that block -/
theorem Rel.turn (R : Rel P X s h w) {i : Nat} {b' : AB} {w' : World} (hw : (h.get i).writable = true) (hb : But (s i).blk w w') (hl : Lies P s h.nx w' i b') (hbw : b'.live = true → b'.writable = true := by intro _; first | rfl | assumption) :
    Rel P X s (h.put i b') w' ∧ Aft X s h w s (h.put i b') w' := by
  have hi : (h.get i).live = true := by revert hw; cases h.get i <;> simp [AB.writable, AB.live]
  have lies' : ∀ j, Lies P s (h.put i b').nx w' j ((h.put i b').get j) := by
    intro j
    rw [AH.get_put]
    by_cases e : j = i
    · subst e; rw [if_pos rfl]; exact hl
    · rw [if_neg e]
      have hj := R.lies j
      cases hg : h.get j with
      | dead => trivial
      | cells cs e' wr =>
        rw [hg] at hj
        obtain ⟨hsc, C, fr, hh, rest⟩ := hj
        have hne : (s j).blk ≠ (s i).blk := fun hq => e (R.inj j i (by rw [hg]; rfl) hi hq)
        exact ⟨hsc, C, fr, (hb.heap _ hne).trans hh, rest⟩
      | gmap es c wr =>
        rw [hg] at hj
        have hne : (s j).blk ≠ (s i).blk := fun hq => e (R.inj j i (by rw [hg]; rfl) hi hq)
        exact ⟨hj.1, (hb.heap _ hne).trans hj.2⟩
      | strIter l p =>
        rw [hg] at hj
        have hne : (s j).blk ≠ (s i).blk := fun hq => e (R.inj j i (by rw [hg]; rfl) hi hq)
        exact ⟨hj.1, hj.2.1, (hb.heap _ hne).trans hj.2.2⟩
  have live' : ∀ j, ((h.put i b').get j).live = true → (h.get j).live = true := by
    intro j; rw [AH.get_put]; by_cases e : j = i
    · subst e; intro _; exact hi
    · rw [if_neg e]; exact id
  have hX : ¬ X (s i).blk := R.own i hw
  refine ⟨⟨lies', fun a b ha hb' => R.inj a b (live' a ha) (live' b hb'), fun j hj => ?_, R.glob, R.nxG, fun k hk => by rw [hb.size]; exact R.dom k hk, fun j hj => ?_, R.look.keep fun k hk => ⟨hk, hb.heap k (fun e => hX (e ▸ hk))⟩⟩, ?_⟩
  · rw [AH.get_put, if_neg (by have := R.lt hi; rw [AH.nx_put] at hj; omega)]
    exact R.fresh j hj
  · rw [AH.get_put] at hj
    by_cases e : j = i
    · subst e; exact hX
    · rw [if_neg e] at hj; exact R.own j hj
  · refine ⟨fun _ _ => rfl, Nat.le_refl _, fun k hk => hb.heap k (fun e => hX (e ▸ hk)), by rw [hb.size]; exact Nat.le_refl _, hb.tape, hb.os, hb.output, fun j _ hj => ?_, fun j hj => ?_⟩
    · rw [AH.get_put, if_neg (fun e => by subst e; rw [hw] at hj; cases hj)]
    · rw [AH.get_put] at hj ⊢
      by_cases e : j = i
      · rw [if_pos e] at hj ⊢; exact .inl (hbw hj)
      · rw [if_neg e] at hj ⊢
        cases hwj : (h.get j).writable
        · exact .inr ⟨hj, rfl⟩
        · exact .inl rfl

/-- a block is let go of -/
theorem Rel.drop (R : Rel P X s h w) {i : Nat} (hw : (h.get i).writable = true) : Rel P X s (h.put i .dead) w ∧ Aft X s h w s (h.put i .dead) w := by
  refine ⟨⟨fun j => ?_, fun a b ha hb => ?_, fun j hj => ?_, R.glob, R.nxG, R.dom, fun j hj => ?_, R.look⟩, ⟨fun _ _ => rfl, Nat.le_refl _, fun _ _ => rfl, Nat.le_refl _, rfl, rfl, rfl, fun j _ hj => ?_, fun j hj => ?_⟩⟩
  · rw [AH.get_put]; by_cases e : j = i
    · rw [if_pos e]; trivial
    · rw [if_neg e]; exact R.lies j
  · rw [AH.get_put] at ha hb
    by_cases e : a = i
    · rw [if_pos e] at ha; cases ha
    · by_cases e' : b = i
      · rw [if_pos e'] at hb; cases hb
      · rw [if_neg e] at ha; rw [if_neg e'] at hb; exact R.inj a b ha hb
  · rw [AH.get_put]; by_cases e : j = i
    · rw [if_pos e]
    · rw [if_neg e]; exact R.fresh j hj
  · rw [AH.get_put] at hj; by_cases e : j = i
    · rw [if_pos e] at hj; cases hj
    · rw [if_neg e] at hj; exact R.own j hj
  · rw [AH.get_put, if_neg (fun e => by subst e; rw [hw] at hj; cases hj)]
  · rw [AH.get_put] at hj ⊢
    by_cases e : j = i
    · rw [if_pos e] at hj; cases hj
    · rw [if_neg e] at hj ⊢
      cases hwj : (h.get j).writable
      · exact .inr ⟨hj, rfl⟩
      · exact .inl rfl
end Go.Rk

namespace Go.Rk
open Go
set_option linter.unusedSectionVars false
variable [Nt] [Nu]
variable {P : Program} {X : Nat → Prop} {s : Sig} {h : AH} {w : World}

def upd (s : Sig) (i : Nat) (l : Loc) : Sig := fun j => if j = i then l else s j
theorem upd_self (s : Sig) (i : Nat) (l : Loc) : upd s i l i = l := by simp [upd]
theorem upd_ne (s : Sig) {i j : Nat} (l : Loc) (h : j ≠ i) : upd s i l j = s j := by simp [upd, h]

/-- what lies stays, where the world has it still and the symbols are told as before -/
theorem Lies.keep {s s' : Sig} {n n' : Nat} {w w' : World} {i : Nat} {b : AB} (hl : Lies P s n w i b) (hn : n ≤ n') (hs : ∀ j, j < n → s' j = s j) (hi : s' i = s i)
    (hw : ∀ x, w.heap[(s i).blk]? = some x → w'.heap[(s i).blk]? = some x) : Lies P s' n' w' i b := by
  cases b with
  | dead => trivial
  | cells cs e wr =>
    obtain ⟨hsc, C, fr, hg, hc, h1, h2, h3⟩ := hl
    refine ⟨hsc.ext hn hs, C, fr, by rw [hi]; exact hw _ hg, fun k v hk => ?_, by rw [hi]; exact h1, by rw [hi]; exact h2, h3⟩
    rw [hi, hc k v hk, cv_congr hs (hsc.get hk)]
  | gmap es c wr =>
    obtain ⟨hsc, hg⟩ := hl
    refine ⟨fun e he => ⟨(hsc e he).1.ext hn hs, (hsc e he).2.ext hn hs⟩, ?_⟩
    rw [hi, hw _ hg]
    congr 3
    apply List.map_congr_left
    intro e he
    simp only [entOf]
    rw [cv_congr hs (hsc e he).1, cv_congr hs (hsc e he).2]
  | strIter l p =>
    obtain ⟨hb, ho, hg⟩ := hl
    exact ⟨hb, by rw [hi]; exact ho, by rw [hi]; exact hw _ hg⟩

/-- a new symbolic block, wherever it lies -/
theorem Rel.grow (R : Rel P X s h w) {b : AB} {l : Loc} {w' : World} (hheap : ∀ k x, k ≠ l.blk → w.heap[k]? = some x → w'.heap[k]? = some x) (hsize : w.heap.size ≤ w'.heap.size)
    (ht : w'.tape = w.tape) (hos : w'.os = w.os) (hout : w'.output = w.output) (hfree : ∀ j, (h.get j).live = true → (s j).blk ≠ l.blk) (hX : ¬ X l.blk)
    (hl : Lies P (upd s h.nx l) (h.nx + 1) w' h.nx b) (hbw : b.live = true → b.writable = true := by intro _; first | rfl | assumption) : Rel P X (upd s h.nx l) (h.add b) w' ∧ Aft X s h w (upd s h.nx l) (h.add b) w' := by
  have hs : ∀ j, j < h.nx → upd s h.nx l j = s j := fun j hj => upd_ne s l (by omega)
  have lv : ∀ j, j ≠ h.nx → (h.get j).live = true → upd s h.nx l j = s j := fun j hj _ => upd_ne s l hj
  refine ⟨⟨fun j => ?_, fun a c ha hc hq => ?_, fun j hj => ?_, fun g hg => ?_, Nat.le_succ_of_le R.nxG, fun k hk => Nat.lt_of_lt_of_le (R.dom k hk) hsize, fun j hj => ?_, R.look.keep fun k hk => ⟨hk, by have hd := R.dom k hk; rw [Array.getElem?_eq_getElem hd]; exact hheap k _ (fun e => hX (e ▸ hk)) (Array.getElem?_eq_getElem hd)⟩⟩, ?_⟩
  · rw [AH.get_add]
    by_cases e : j = h.nx
    · subst e; rw [if_pos rfl]; exact hl
    · rw [if_neg e]
      cases hd : (h.get j).live with
      | false =>
        have : h.get j = .dead := by revert hd; cases h.get j <;> simp [AB.live]
        rw [this]; trivial
      | true => exact (R.lies j).keep (Nat.le_succ _) hs (upd_ne s l e) (fun x hx => hheap _ x (hfree j hd) hx)
  · rw [AH.get_add] at ha hc
    by_cases e : a = h.nx
    · by_cases e' : c = h.nx
      · exact e.trans e'.symm
      · rw [if_neg e'] at hc
        subst e
        rw [upd_self, upd_ne s l e'] at hq
        exact absurd hq.symm (hfree c hc)
    · rw [if_neg e] at ha
      by_cases e' : c = h.nx
      · subst e'
        rw [upd_self, upd_ne s l e] at hq
        exact absurd hq (hfree a ha)
      · rw [if_neg e'] at hc
        rw [upd_ne s l e, upd_ne s l e'] at hq
        exact R.inj a c ha hc hq
  · have hj' : h.nx + 1 ≤ j := hj
    rw [AH.get_add, if_neg (by omega)]
    exact R.fresh j (by omega)
  · rw [upd_ne s l (by have := R.nxG; omega)]
    exact R.glob g hg
  · rw [AH.get_add] at hj
    by_cases e : j = h.nx
    · subst e; rw [upd_self]; exact hX
    · rw [if_neg e] at hj; rw [upd_ne s l e]; exact R.own j hj
  · refine ⟨hs, Nat.le_succ _, fun k hk => ?_, hsize, ht, hos, hout, fun j hj _ => ?_, fun j hj => ?_⟩
    · have hd := R.dom k hk
      have hne : k ≠ l.blk := fun e => hX (e ▸ hk)
      rw [Array.getElem?_eq_getElem hd]
      exact hheap k _ hne (Array.getElem?_eq_getElem hd)
    · rw [AH.get_add, if_neg (by omega)]
    · rw [AH.get_add] at hj ⊢
      by_cases e : j = h.nx
      · rw [if_pos e] at hj ⊢; exact .inl (hbw hj)
      · rw [if_neg e] at hj ⊢
        cases hwj : (h.get j).writable
        · exact .inr ⟨hj, rfl⟩
        · exact .inl rfl

theorem Rel.blk_lt (R : Rel P X s h w) {j : Nat} (hj : (h.get j).live = true) : (s j).blk < w.heap.size := by
  have hl := R.lies j
  cases hd : h.get j with
  | dead => rw [hd] at hj; cases hj
  | cells cs e wr => rw [hd] at hl; obtain ⟨_, C, fr, hg, _⟩ := hl; exact lt_of_get hg
  | gmap es c wr => rw [hd] at hl; exact lt_of_get hl.2
  | strIter l p => rw [hd] at hl; exact lt_of_get hl.2.2

/-- a new block of the world -/
theorem Rel.alloc (R : Rel P X s h w) {b : AB} {o : Obj} (cap : Nat) (hl : Lies P (upd s h.nx ⟨w.heap.size, 0, cap⟩) (h.nx + 1) (w.alloc o) h.nx b) (hbw : b.live = true → b.writable = true := by intro _; first | rfl | assumption) :
    Rel P X (upd s h.nx ⟨w.heap.size, 0, cap⟩) (h.add b) (w.alloc o) ∧ Aft X s h w (upd s h.nx ⟨w.heap.size, 0, cap⟩) (h.add b) (w.alloc o) :=
  R.grow (fun k x _ hx => by
      have := lt_of_get hx
      show (w.heap.push o)[k]? = _
      rw [Array.getElem?_push, if_neg (by omega)]; exact hx)
    (by show _ ≤ (w.heap.push o).size; simp) rfl rfl rfl (fun j hj => by have := R.blk_lt hj; simp; omega) (fun hx => by have := R.dom _ hx; simp at this) hl hbw

theorem alloc_heap (w : World) (o : Obj) : (w.alloc o).heap[w.heap.size]? = some o := by
  show (w.heap.push o)[w.heap.size]? = _
  simp
/-- a new row of cells -/
theorem Rel.newRow (R : Rel P X s h w) {cs : List AV} {e : Nat} (C : List Value) (cap : Nat) (hsc : WfL s h.nx cs) (hpre : ∀ (k : Nat) v, cs[k]? = some v → C[k]? = some (cv s v)) (hcap : cap * tSize P e = C.length) (hlen : cs.length ≤ C.length) :
    Rel P X (upd s h.nx ⟨w.heap.size, 0, cap⟩) (h.add (.cells cs e true)) (w.alloc (.cells C.toArray e)) ∧ Aft X s h w (upd s h.nx ⟨w.heap.size, 0, cap⟩) (h.add (.cells cs e true)) (w.alloc (.cells C.toArray e)) := by
  refine R.alloc cap ⟨hsc.ext (Nat.le_succ _) (fun j hj => upd_ne s _ (by omega)), C.toArray, (0, 0), ?_, fun k v hk => ?_, ⟨?_, by rw [upd_self]; exact Nat.dvd_zero _⟩, ?_, fun _ => .inl rfl⟩
  · rw [upd_self]; exact alloc_heap w _
  · rw [upd_self]
    simp only [Nat.zero_add, List.getElem?_toArray]
    rw [hpre k v hk, cv_congr (fun j hj => upd_ne s _ (by omega)) (hsc.get hk)]
  · rw [upd_self]; simpa using hcap
  · rw [upd_self]; simpa using hlen
/-- a new row that is known whole -/
theorem Rel.newRow' (R : Rel P X s h w) {cs : List AV} {e : Nat} (cap : Nat) (hsc : WfL s h.nx cs) (hcap : cap * tSize P e = cs.length) :
    Rel P X (upd s h.nx ⟨w.heap.size, 0, cap⟩) (h.add (.cells cs e true)) (w.alloc (.cells (cvL s cs).toArray e)) ∧ Aft X s h w (upd s h.nx ⟨w.heap.size, 0, cap⟩) (h.add (.cells cs e true)) (w.alloc (.cells (cvL s cs).toArray e)) :=
  R.newRow (cvL s cs) cap hsc (fun k v hk => by rw [cvL_get, hk]; rfl) (by simpa using hcap) (by simp)
end Go.Rk

namespace Go.Rk
open Go
set_option linter.unusedSectionVars false
variable [Nt] [Nu]
variable {P : Program} {X : Nat → Prop} {s : Sig} {h : AH} {w : World}

/-! ## looking at a value -/
theorem isB_true {v : AV} {k : Bool → Bool} (e : isB v k = true) : ∃ b, v = .bool b ∧ k b = true := by
  cases v <;> first | exact ⟨_, rfl, e⟩ | exact absurd e (by simp [isB])
theorem isI_true {v : AV} {k : IntKind → Int → Bool} (e : isI v k = true) : ∃ q n, v = .int q n ∧ k q n = true := by
  cases v <;> first | exact ⟨_, _, rfl, e⟩ | exact absurd e (by simp [isI])
theorem isS_true {v : AV} {k : List Nat → Bool} (e : isS v k = true) : ∃ l, v = .str l ∧ k l = true := by
  cases v <;> first | exact ⟨_, rfl, e⟩ | exact absurd e (by simp [isS])
theorem isP_true {v : AV} {k : Nat → Nat → Bool} (e : isP v k = true) : ∃ b o, v = .ptr b o ∧ k b o = true := by
  cases v <;> first | exact ⟨_, _, rfl, e⟩ | exact absurd e (by simp [isP])
theorem isM_true {v : AV} {k : Nat → Bool} (e : isM v k = true) : ∃ b, v = .map b ∧ k b = true := by
  cases v <;> first | exact ⟨_, rfl, e⟩ | exact absurd e (by simp [isM])
theorem isT_true {v : AV} {k : List AV → Bool} (e : isT v k = true) : ∃ l, v = .tup l ∧ k l = true := by
  cases v <;> first | exact ⟨_, rfl, e⟩ | exact absurd e (by simp [isT])
theorem isA_true {v : AV} {k : List AV → Bool} (e : isA v k = true) : ∃ l, v = .agg l ∧ k l = true := by
  cases v <;> first | exact ⟨_, rfl, e⟩ | exact absurd e (by simp [isA])
theorem isF_true {v : AV} {k : FloatKind → Nat → Bool} (e : isF v k = true) : ∃ q n, v = .flt q n ∧ k q n = true := by
  cases v <;> first | exact ⟨_, _, rfl, e⟩ | exact absurd e (by simp [isF])
theorem isC_true {v : AV} {k : FloatKind → Nat → Nat → Bool} (e : isC v k = true) : ∃ q a b, v = .cplx q a b ∧ k q a b = true := by
  cases v <;> first | exact ⟨_, _, _, rfl, e⟩ | exact absurd e (by simp [isC])
theorem isN_true {v : AV} {k : Nat → Bool} (e : isN v k = true) : ∃ q n, v = .int q (.ofNat n) ∧ k n = true := by
  obtain ⟨q, n, rfl, e'⟩ := isI_true e
  cases n with
  | ofNat n => exact ⟨q, n, rfl, e'⟩
  | negSucc n => exact absurd (show (false : Bool) = true from e') (by simp)
theorem onO_true {α : Type} {o : Option α} {k : α → Bool} (e : onO o k = true) : ∃ a, o = some a ∧ k a = true := by
  cases o with
  | none => exact absurd e (by simp [onO])
  | some a => exact ⟨a, rfl, e⟩
theorem bif_true {c a : Bool} (e : (Bool.rec (motive := fun _ => Bool) false a c) = true) : c = true ∧ a = true := by
  cases c with
  | false => exact absurd e (by simp)
  | true => exact ⟨rfl, e⟩
theorem and_true' {a b : Bool} (e : and a b = true) : a = true ∧ b = true := by cases a <;> cases b <;> simp_all
theorem forceK_true {n : Nat} {k : Nat → Bool} (e : forceK n k = true) : k n = true := by cases n <;> exact e
theorem keq_true {a b : IntKind} (e : keq a b = true) : a = b := by cases a <;> cases b <;> first | rfl | exact absurd e (by decide)
theorem feq_true {a b : FloatKind} (e : feq a b = true) : a = b := by cases a <;> cases b <;> first | rfl | exact absurd e (by decide)
theorem nat_beq (a b : Nat) : Nat.beq a b = (a == b) := by apply Bool.eq_iff_iff.2; rw [Nat.beq_eq]; simp
theorem ieq_eq (a b : Int) : ieq a b = (a == b) := by
  apply Bool.eq_iff_iff.2
  cases a with
  | ofNat a =>
    cases b with
    | ofNat b => show Nat.beq a b = true ↔ _; rw [nat_beq]; simp; omega
    | negSucc b => show (false : Bool) = true ↔ _; simp
  | negSucc a =>
    cases b with
    | ofNat b => show (false : Bool) = true ↔ _; simp
    | negSucc b => show Nat.beq a b = true ↔ _; rw [nat_beq]; simp
theorem ilt_eq (a b : Int) : ilt a b = decide (a < b) := by
  apply Bool.eq_iff_iff.2
  cases a with
  | ofNat a =>
    cases b with
    | ofNat b => show Nat.ble (a + 1) b = true ↔ _; rw [Nat.ble_eq]; simp; omega
    | negSucc b => show (false : Bool) = true ↔ _; simp; omega
  | negSucc a =>
    cases b with
    | ofNat b => show (true : Bool) = true ↔ _; simp; omega
    | negSucc b => show Nat.ble (b + 1) a = true ↔ _; rw [Nat.ble_eq]; simp; omega
end Go.Rk

namespace Go.Rk
open Go
set_option linter.unusedSectionVars false
variable [Nt] [Nu]

/-- what a computation of the model's comes to, said in symbols -/
def Gives (P : Program) (X : Nat → Prop) (s : Sig) (h : AH) (w : World) (m : Sem Value) (v : AV) (h' : AH) : Prop :=
  ∃ s' w', m.run P w = .ok (cv s' v) w' ∧ Rel P X s' h' w' ∧ Aft X s h w s' h' w' ∧ Wf s' h'.nx v
/-- (nothing else is served) -/
def Asks (_P : Program) (_w : World) (_m : Sem Value) : Prop := False
abbrev GoodE (P : Program) (X : Nat → Prop) (s : Sig) (h : AH) (w : World) (k : K) (m : Sem Value) : Prop := (∃ v h', k v h' = true ∧ Gives P X s h w m v h') ∨ Asks P w m
/-- a computation that only yields a value -/
def Good (P : Program) (_X : Nat → Prop) (s : Sig) (h : AH) (w : World) (k : K) (m : Sem Value) : Prop := ∃ v, k v h = true ∧ m.run P w = .ok (cv s v) w ∧ Wf s h.nx v
/-- a handler of one value is right of a computation -/
def Ok1 (P : Program) (f : C1) (m : Value → Sem Value) : Prop :=
  ∀ (X : Nat → Prop) (s : Sig) (h : AH) (w : World) (x : AV) (k : K), Rel P X s h w → Wf s h.nx x → f x h k = true → Good P X s h w k (m (cv s x))
def Ok2 (P : Program) (f : C2) (m : Value → Value → Sem Value) : Prop :=
  ∀ (X : Nat → Prop) (s : Sig) (h : AH) (w : World) (x y : AV) (k : K), Rel P X s h w → Wf s h.nx x → Wf s h.nx y → f x y h k = true → Good P X s h w k (m (cv s x) (cv s y))
def Ok1E (P : Program) (f : C1) (m : Value → Sem Value) : Prop :=
  ∀ (X : Nat → Prop) (s : Sig) (h : AH) (w : World) (x : AV) (k : K), Rel P X s h w → Wf s h.nx x → f x h k = true → GoodE P X s h w k (m (cv s x))
def Ok2E (P : Program) (f : C2) (m : Value → Value → Sem Value) : Prop :=
  ∀ (X : Nat → Prop) (s : Sig) (h : AH) (w : World) (x y : AV) (k : K), Rel P X s h w → Wf s h.nx x → Wf s h.nx y → f x y h k = true → GoodE P X s h w k (m (cv s x) (cv s y))

variable {P : Program} {X : Nat → Prop} {s : Sig} {h : AH} {w : World}
theorem gives_pure (R : Rel P X s h w) {m : Sem Value} {v : AV} (hm : m.run P w = .ok (cv s v) w) (hv : Wf s h.nx v) : Gives P X s h w m v h := ⟨s, w, hm, R, Aft.refl X s h w, hv⟩
theorem okE_pure (R : Rel P X s h w) {m : Sem Value} {v : AV} {k : K} (hk : k v h = true) (hm : m.run P w = .ok (cv s v) w) (hv : Wf s h.nx v) : GoodE P X s h w k m := .inl ⟨v, h, hk, gives_pure R hm hv⟩
theorem ok_pure (_R : Rel P X s h w) {m : Sem Value} {v : AV} {k : K} (hk : k v h = true) (hm : m.run P w = .ok (cv s v) w) (hv : Wf s h.nx v) : Good P X s h w k m := ⟨v, hk, hm, hv⟩
theorem Good.e {k : K} {m : Sem Value} (R : Rel P X s h w) (g : Good P X s h w k m) : GoodE P X s h w k m := let ⟨_, a, b, c⟩ := g; okE_pure R a b c
theorem Ok1.e {f : C1} {m : Value → Sem Value} (g : Ok1 P f m) : Ok1E P f m := fun X s h w x k R hx e => (g X s h w x k R hx e).e R
theorem Ok2.e {f : C2} {m : Value → Value → Sem Value} (g : Ok2 P f m) : Ok2E P f m := fun X s h w x y k R hx hy e => (g X s h w x y k R hx hy e).e R

theorem semK_true {m : Sem Value} {k : K} (e : semK m h k = true) : ∃ v, m = .pure v ∧ simpleV v = true ∧ k (cst v) h = true := by
  unfold semK at e
  cases m with
  | pure v => obtain ⟨a, b⟩ := bif_true e; exact ⟨v, rfl, a, b⟩
  | _ => exact absurd e (by simp)
theorem ok_sem (R : Rel P X s h w) {m : Sem Value} {k : K} (e : semK m h k = true) : Good P X s h w k m := by
  obtain ⟨v, rfl, hv, hk⟩ := semK_true e
  exact ok_pure R hk (by rw [cv_simple s v hv]; rfl) (Wf_simple s _ v hv)

/-! ## integers -/
theorem wrap_gen (sg : Bool) (M H n : Nat) (hM : 0 < M) (k : IntKind) (hs : k.signed = sg) (hb : (2 : Int) ^ k.bits = (M : Int)) (hh : (2 : Int) ^ (k.bits - 1) = (H : Int)) :
    k.wrap (n : Int) = if (if sg then H else M) ≤ n % M then .negSucc (Nat.pred (M - n % M)) else .ofNat (n % M) := by
  have hlt := Nat.mod_lt n hM
  have hm : (n : Int) % (M : Int) = ((n % M : Nat) : Int) := rfl
  unfold IntKind.wrap
  rw [hs, hb, hh]
  show (if (sg && decide ((n : Int) % (M : Int) ≥ (H : Int))) = true then (n : Int) % (M : Int) - (M : Int) else (n : Int) % (M : Int)) = _
  rw [hm]
  cases sg with
  | false =>
    rw [if_neg (by simp), if_neg (by simp; omega)]
    rfl
  | true =>
    by_cases hle : H ≤ n % M
    · rw [if_pos (by simp; omega), if_pos (by simpa using hle), Int.negSucc_eq]
      have : Nat.pred (M - n % M) + 1 = M - n % M := Nat.succ_pred_eq_of_pos (by omega)
      omega
    · rw [if_neg (by simp; omega), if_neg (by simpa using hle)]
      rfl
theorem wrap_nat (q : IntKind) (n : Nat) : q.wrap (n : Int) = if khalf q ≤ n % kmod q then .negSucc (Nat.pred (kmod q - n % kmod q)) else .ofNat (n % kmod q) := by
  cases q
  · exact wrap_gen true 256 128 n (by decide) _ rfl rfl rfl
  · exact wrap_gen true 65536 32768 n (by decide) _ rfl rfl rfl
  · exact wrap_gen true 4294967296 2147483648 n (by decide) _ rfl rfl rfl
  · exact wrap_gen true 18446744073709551616 9223372036854775808 n (by decide) _ rfl rfl rfl
  · exact wrap_gen false 256 128 n (by decide) _ rfl rfl rfl
  · exact wrap_gen false 65536 32768 n (by decide) _ rfl rfl rfl
  · exact wrap_gen false 4294967296 2147483648 n (by decide) _ rfl rfl rfl
  · exact wrap_gen false 18446744073709551616 9223372036854775808 n (by decide) _ rfl rfl rfl
theorem ok_wrap (R : Rel P X s h w) {m : Sem Value} {q : IntKind} {n : Nat} {k : K} (e : wrapK q n h k = true) (hm : m = .pure (.int q (q.wrap (n : Int)))) :
    Good P X s h w k m := by
  subst hm
  have e' := forceK_true (n := Nat.mod n (kmod q)) e
  rw [wrap_nat]
  have hmod : Nat.mod n (kmod q) = n % kmod q := rfl
  rw [hmod] at e'
  cases hb : Nat.ble (khalf q) (n % kmod q) with
  | true =>
    rw [hb] at e'
    rw [if_pos (Nat.ble_eq.mp hb)]
    exact ok_pure R (v := .int q (.negSucc (Nat.pred (kmod q - n % kmod q)))) e' rfl trivial
  | false =>
    rw [hb] at e'
    rw [if_neg (fun hle => by rw [Nat.ble_eq.mpr hle] at hb; cases hb)]
    exact ok_pure R (v := .int q (.ofNat (n % kmod q))) e' rfl trivial
end Go.Rk

namespace Go.Rk
open Go
set_option linter.unusedSectionVars false
variable [Nt] [Nu]
variable {P : Program} {X : Nat → Prop} {s : Sig} {h : AH} {w : World}

theorem onI_true {f : I2} {q : IntKind} {a : Int} {y : AV} {k : K} (e : onI f q a y h k = true) : ∃ b, y = .int q b ∧ f q a b h k = true := by
  obtain ⟨r, b, rfl, e'⟩ := isI_true e
  obtain ⟨hq, hf⟩ := bif_true e'
  obtain rfl := keq_true hq
  exact ⟨b, rfl, hf⟩
/-- an integer operator is right of a computation -/
def OkI (P : Program) (f : I2) (m : IntKind → Int → Int → Sem Value) : Prop :=
  ∀ (X : Nat → Prop) (s : Sig) (h : AH) (w : World) (q : IntKind) (a b : Int) (k : K), Rel P X s h w → f q a b h k = true → Good P X s h w k (m q a b)

theorem nat_ok {f : Nat → Nat → Nat} {m : IntKind → Int → Int → Sem Value} (hm : ∀ q (a b : Nat), m q a b = .pure (.int q (q.wrap ((f a b : Nat) : Int)))) :
    OkI P (fun q a b h k => natK f (m q) q a b h k) m := by
  intro X s h w q a b k R e
  cases a with
  | ofNat a =>
    cases b with
    | ofNat b => exact ok_wrap R e (hm q a b)
    | negSucc b => exact ok_sem R e
  | negSucc a => exact ok_sem R e
theorem sem_ok {m : IntKind → Int → Int → Sem Value} : OkI P (fun q a b h k => semK (m q a b) h k) m := fun _ _ _ _ _ _ _ _ R e => ok_sem R e
theorem bool_ok {g : Int → Int → Bool} {m : IntKind → Int → Int → Sem Value} (hm : ∀ q a b, m q a b = .pure (.bool (g a b))) : OkI P (fun _ a b h k => k (.bool (g a b)) h) m :=
  fun _ _ _ _ q a b _ R e => ok_pure R e (by rw [hm]; rfl) trivial

theorem bits_pos (q : IntKind) : 0 < q.bits := by cases q <;> decide
theorem wrap_mod (q : IntKind) (n : Nat) : q.wrap ((n % 2 ^ q.bits : Nat) : Int) = q.wrap (n : Int) := by
  unfold IntKind.wrap
  have : ((n % 2 ^ q.bits : Nat) : Int) % (2 ^ q.bits : Int) = (n : Int) % (2 ^ q.bits : Int) := by
    rw [Int.natCast_emod]
    have e : (((2 ^ q.bits : Nat)) : Int) = (2 ^ q.bits : Int) := by simp
    rw [e, Int.emod_emod]
  rw [this]
theorem ofInt_nat (n a : Nat) : (BitVec.ofInt n (a : Int)).toNat = a % 2 ^ n := by simp
theorem addI_ok : OkI P addI (fun q a b => Op.intArith .add q a b) := nat_ok (fun q a b => by rw [show ((Nat.add a b : Nat) : Int) = (a : Int) + b from Int.natCast_add a b]; rfl)
theorem mulI_ok : OkI P mulI (fun q a b => Op.intArith .mul q a b) := nat_ok (fun q a b => by rw [show ((Nat.mul a b : Nat) : Int) = (a : Int) * b from Int.natCast_mul a b]; rfl)
theorem and_pow (n a b : Nat) : a % 2 ^ n &&& b % 2 ^ n = (a &&& b) % 2 ^ n := by
  apply Nat.eq_of_testBit_eq; intro i; simp only [Nat.testBit_and, Nat.testBit_mod_two_pow]; cases decide (i < n) <;> simp
theorem or_pow (n a b : Nat) : a % 2 ^ n ||| b % 2 ^ n = (a ||| b) % 2 ^ n := by
  apply Nat.eq_of_testBit_eq; intro i; simp only [Nat.testBit_or, Nat.testBit_mod_two_pow]; cases decide (i < n) <;> simp
theorem xor_pow (n a b : Nat) : a % 2 ^ n ^^^ b % 2 ^ n = (a ^^^ b) % 2 ^ n := by
  apply Nat.eq_of_testBit_eq; intro i; simp only [Nat.testBit_xor, Nat.testBit_mod_two_pow]; cases decide (i < n) <;> simp
theorem andI_ok : OkI P andI (fun q a b => Op.intBits .and q a b) := nat_ok (fun q a b => by
  show Sem.pure (Value.int q (q.wrap ((BitVec.ofInt q.bits (a : Int) &&& BitVec.ofInt q.bits (b : Int)).toNat : Int))) = _
  rw [BitVec.toNat_and, ofInt_nat, ofInt_nat, and_pow, wrap_mod]; rfl)
theorem orI_ok : OkI P orI (fun q a b => Op.intBits .or q a b) := nat_ok (fun q a b => by
  show Sem.pure (Value.int q (q.wrap ((BitVec.ofInt q.bits (a : Int) ||| BitVec.ofInt q.bits (b : Int)).toNat : Int))) = _
  rw [BitVec.toNat_or, ofInt_nat, ofInt_nat, or_pow, wrap_mod]; rfl)
theorem xorI_ok : OkI P xorI (fun q a b => Op.intBits .xor q a b) := nat_ok (fun q a b => by
  show Sem.pure (Value.int q (q.wrap ((BitVec.ofInt q.bits (a : Int) ^^^ BitVec.ofInt q.bits (b : Int)).toNat : Int))) = _
  rw [BitVec.toNat_xor, ofInt_nat, ofInt_nat, xor_pow, wrap_mod]; rfl)
theorem subK_ok : OkI P subK (fun q a b => Op.intArith .sub q a b) := by
  intro X s h w q a b k R e
  cases a with
  | negSucc a => exact ok_sem R e
  | ofNat a =>
    cases b with
    | negSucc b => exact ok_sem R e
    | ofNat b =>
      have e' : (Bool.rec (motive := fun _ => Bool) (semK (Op.intArith .sub q (.ofNat a) (.ofNat b)) h k) (wrapK q (Nat.sub a b) h k) (Nat.ble b a)) = true := e
      cases hb : Nat.ble b a with
      | false => rw [hb] at e'; exact ok_sem R e'
      | true =>
        rw [hb] at e'
        have hle := Nat.ble_eq.mp hb
        refine ok_wrap R e' ?_
        show Sem.pure (Value.int q (q.wrap ((a : Int) - (b : Int)))) = _
        rw [show ((Nat.sub a b : Nat) : Int) = (a : Int) - b from Int.ofNat_sub hle]
theorem kbit_eq (q : IntKind) : kbit q = q.bits := by cases q <;> rfl
theorem shr_min (q : IntKind) (a b : Nat) (hb : b ≤ q.bits) : Op.shift .shr q (a : Int) .i64 (b : Int) = .pure (.int q ((Nat.shiftRight a b : Nat) : Int)) := by
  unfold Op.shift
  rw [if_neg (by omega)]
  simp only [Int.toNat_natCast, Nat.min_eq_left hb]
  show Sem.pure (Value.int q (Int.fdiv (a : Int) (2 ^ b : Int))) = _
  congr 2
  have h1 : ((2 ^ b : Nat) : Int) = (2 ^ b : Int) := by simp
  rw [← h1, show (Int.fdiv (a : Int) ((2 ^ b : Nat) : Int)) = ((a / 2 ^ b : Nat) : Int) from by rw [Int.natCast_ediv, Int.fdiv_eq_ediv_of_nonneg _ (Int.natCast_nonneg _)]]
  congr 1
  exact (Nat.shiftRight_eq_div_pow a b).symm
theorem shrK_ok : OkI P shrK (fun q a b => Op.shift .shr q a .i64 b) := by
  intro X s h w q a b k R e
  cases a with
  | negSucc a => exact ok_sem R e
  | ofNat a =>
    cases b with
    | negSucc b => exact ok_sem R e
    | ofNat b =>
      have e' : (Bool.rec (motive := fun _ => Bool) (semK (Op.shift .shr q (.ofNat a) .i64 (.ofNat b)) h k) (forceK (Nat.shiftRight a b) (fun n => k (.int q (.ofNat n)) h)) (Nat.ble b (kbit q))) = true := e
      cases hb : Nat.ble b (kbit q) with
      | false => rw [hb] at e'; exact ok_sem R e'
      | true =>
        rw [hb] at e'
        have hle := Nat.ble_eq.mp hb
        rw [kbit_eq] at hle
        have e2 := forceK_true (k := fun n => k (.int q (.ofNat n)) h) e'
        refine ok_pure R e2 ?_ trivial
        show Sem.run _ (Op.shift .shr q (a : Int) .i64 (b : Int)) w = _
        rw [shr_min q a b hle]; rfl
/-- what comes of two integers -/
theorem intC_ok {f : I2} {m : IntKind → Int → Int → Sem Value} {M : Value → Value → Sem Value} (hf : OkI P f m) (hm : ∀ q a b, M (.int q a) (.int q b) = m q a b) : Ok2 P (intC f) M := by
  intro X s h w x y k R _ _ e
  obtain ⟨q, a, rfl, e1⟩ := isI_true e
  obtain ⟨b, rfl, e2⟩ := onI_true e1
  have := hf X s h w q a b k R e2
  rw [← hm q a b] at this
  exact this
theorem shC_ok {f : I2} {m : IntKind → Int → Int → Sem Value} {M : Value → Value → Sem Value} (hf : OkI P f m) (hm : ∀ q a r b, M (.int q a) (.int r b) = m q a b) : Ok2 P (shC f) M := by
  intro X s h w x y k R _ _ e
  obtain ⟨q, a, rfl, e1⟩ := isI_true e
  obtain ⟨r, b, rfl, e2⟩ := isI_true e1
  have := hf X s h w q a b k R e2
  rw [← hm q a r b] at this
  exact this
end Go.Rk

namespace Go.Rk
open Go
set_option linter.unusedSectionVars false
variable [Nt] [Nu]
variable {P : Program} {X : Nat → Prop} {s : Sig} {h : AH} {w : World}

/-! ## strings -/
theorem bys_toList (l : List Nat) : (bys l).toList = l.map UInt8.ofNat := by rw [ByteArray.toList_eq]; simp [bys]
theorem bys_data (l : List Nat) : (bys l).data.toList = l.map UInt8.ofNat := by simp [bys]
theorem bys_size (l : List Nat) : (bys l).size = l.length := by simp [bys, ByteArray.size]
theorem bys_app (a b : List Nat) : bys (a ++ b) = bys a ++ bys b := by
  apply ByteArray.ext
  rw [ByteArray.data_append]
  simp [bys]
theorem ofNat_inj {a b : Nat} (ha : a < 256) (hb : b < 256) : (UInt8.ofNat a = UInt8.ofNat b) = (a = b) := by
  apply propext
  constructor
  · intro e
    have := congrArg UInt8.toNat e
    simpa [UInt8.toNat_ofNat', Nat.mod_eq_of_lt ha, Nat.mod_eq_of_lt hb] using this
  · rintro rfl; rfl
theorem ofNat_lt {a b : Nat} (ha : a < 256) (hb : b < 256) : (UInt8.ofNat a < UInt8.ofNat b) = (a < b) := by
  apply propext
  rw [UInt8.lt_iff_toNat_lt, UInt8.toNat_ofNat', UInt8.toNat_ofNat', Nat.mod_eq_of_lt (by simpa using ha), Nat.mod_eq_of_lt (by simpa using hb)]
theorem leq_eq : ∀ (a b : List Nat), (∀ x ∈ a, x < 256) → (∀ x ∈ b, x < 256) → leq a b = (a.map UInt8.ofNat == b.map UInt8.ofNat)
  | [], [], _, _ => rfl
  | [], _ :: _, _, _ => rfl
  | _ :: _, [], _, _ => rfl
  | x :: a, y :: b, ha, hb => by
    have ih := leq_eq a b (fun z hz => ha z (List.mem_cons_of_mem _ hz)) (fun z hz => hb z (List.mem_cons_of_mem _ hz))
    have hx := ha x (List.mem_cons_self ..)
    have hy := hb y (List.mem_cons_self ..)
    show (Bool.rec (motive := fun _ => Bool) false (leq a b) (Nat.beq x y)) = _
    rw [nat_beq, ih, List.map_cons, List.map_cons, List.cons_beq_cons]
    have : (UInt8.ofNat x == UInt8.ofNat y) = (x == y) := by
      rw [Bool.eq_iff_iff]; simp only [beq_iff_eq]; exact Iff.of_eq (ofNat_inj hx hy)
    rw [this]
    cases (x == y) <;> rfl
theorem slt_eq : ∀ (a b : List Nat), (∀ x ∈ a, x < 256) → (∀ x ∈ b, x < 256) → slt a b = Op.bytesLess (a.map UInt8.ofNat) (b.map UInt8.ofNat)
  | [], [], _, _ => rfl
  | [], _ :: _, _, _ => rfl
  | _ :: _, [], _, _ => rfl
  | x :: a, y :: b, ha, hb => by
    have ih := slt_eq a b (fun z hz => ha z (List.mem_cons_of_mem _ hz)) (fun z hz => hb z (List.mem_cons_of_mem _ hz))
    have hx := ha x (List.mem_cons_self ..)
    have hy := hb y (List.mem_cons_self ..)
    show (Bool.rec (motive := fun _ => Bool) (Bool.rec (motive := fun _ => Bool) false (slt a b) (Nat.beq x y)) true (Nat.ble (Nat.succ x) y)) = _
    rw [nat_beq, ih, List.map_cons, List.map_cons]
    show _ = (decide (UInt8.ofNat x < UInt8.ofNat y) || (UInt8.ofNat x == UInt8.ofNat y && Op.bytesLess (a.map UInt8.ofNat) (b.map UInt8.ofNat)))
    have h1 : (UInt8.ofNat x == UInt8.ofNat y) = (x == y) := by
      rw [Bool.eq_iff_iff]; simp only [beq_iff_eq]; exact Iff.of_eq (ofNat_inj hx hy)
    have h2 : decide (UInt8.ofNat x < UInt8.ofNat y) = Nat.ble (Nat.succ x) y := by
      rw [Bool.eq_iff_iff, decide_eq_true_iff, Nat.ble_eq]; exact Iff.of_eq (ofNat_lt hx hy)
    rw [h1, h2]
    cases Nat.ble (Nat.succ x) y <;> cases (x == y) <;> rfl
/-- of two strings one is less, or they are one -/
theorem less_total : ∀ (a b : List UInt8), (!Op.bytesLess b a) = (Op.bytesLess a b || a == b)
  | [], [] => rfl
  | [], _ :: _ => rfl
  | _ :: _, [] => rfl
  | x :: a, y :: b => by
    have ih := less_total a b
    simp only [Op.bytesLess, List.cons_beq_cons]
    by_cases h1 : x < y
    · have h2 : ¬ y < x := fun h => absurd (UInt8.lt_trans h1 h) (UInt8.lt_irrefl x)
      have h3 : (y == x) = false := by simp; rintro rfl; exact UInt8.lt_irrefl _ h1
      simp [h1, h2, h3]
    · by_cases h2 : y < x
      · have h3 : (x == y) = false := by simp; rintro rfl; exact UInt8.lt_irrefl _ h2
        simp [h1, h2, h3]
      · have h3 : x = y := by
          rw [UInt8.lt_iff_toNat_lt] at h1 h2
          exact UInt8.toNat_inj.1 (by omega)
        subst h3
        simp [UInt8.lt_irrefl, ih]
end Go.Rk

namespace Go.Rk
open Go
set_option linter.unusedSectionVars false
variable [Nt] [Nu]
variable {P : Program} {X : Nat → Prop} {s : Sig} {h : AH} {w : World}

/-! ## operators on two values -/
theorem fltA_ok {op : BinOp} {q : FloatKind} {a : Nat} {y : AV} {k : K} {M : Value → Sem Value} (R : Rel P X s h w) (hm : ∀ b, M (.float q b) = Op.floatArith op q a b) (e : fltA op q a y h k = true) :
    Good P X s h w k (M (cv s y)) := by
  obtain ⟨r, b, rfl, e1⟩ := isF_true e
  obtain ⟨hq, e2⟩ := bif_true e1
  obtain rfl := feq_true hq
  show Good P X s h w k (M (.float q b))
  rw [hm]; exact ok_sem R e2
theorem fltC_ok {op : BinOp} {q : FloatKind} {a : Nat} {y : AV} {k : K} {M : Value → Sem Value} (R : Rel P X s h w) (hm : ∀ b, M (.float q b) = Op.floatCmp op q a b) (e : fltC op q a y h k = true) :
    Good P X s h w k (M (cv s y)) := by
  obtain ⟨r, b, rfl, e1⟩ := isF_true e
  obtain ⟨hq, e2⟩ := bif_true e1
  obtain rfl := feq_true hq
  show Good P X s h w k (M (.float q b))
  rw [hm]; exact ok_sem R e2
theorem cplxA_ok {op : BinOp} {q : FloatKind} {a b : Nat} {y : AV} {k : K} {M : Value → Sem Value} (R : Rel P X s h w) (hm : ∀ c d, M (.complex q c d) = Op.complexOp op q a b c d) (e : cplxA op q a b y h k = true) :
    Good P X s h w k (M (cv s y)) := by
  obtain ⟨r, c, d, rfl, e1⟩ := isC_true e
  obtain ⟨hq, e2⟩ := bif_true e1
  obtain rfl := feq_true hq
  show Good P X s h w k (M (.complex q c d))
  rw [hm]; exact ok_sem R e2
theorem binOp_int (t : TypeId) (op : BinOp) (m : IntKind → Int → Int → Sem Value)
    (h : ∀ q a b, (if q ≠ q then stuck "BinOp: operands of different kinds" else m q a b) = binOp op t (.int q a) (.int q b)) (q : IntKind) (a b : Int) : binOp op t (.int q a) (.int q b) = m q a b := by
  rw [← h]; simp
theorem binOp_flt (t : TypeId) (op : BinOp) (m : FloatKind → Nat → Nat → Sem Value)
    (h : ∀ q a b, (if q ≠ q then stuck "BinOp: operands of different kinds" else m q a b) = binOp op t (.float q a) (.float q b)) (q : FloatKind) (a b : Nat) : binOp op t (.float q a) (.float q b) = m q a b := by
  rw [← h]; simp
theorem onI_ok {f : I2} {m : IntKind → Int → Int → Sem Value} (hf : OkI P f m) {M : Value → Sem Value} {q : IntKind} {a : Int} {y : AV} {k : K} (R : Rel P X s h w) (hm : ∀ b, M (.int q b) = m q a b) (e : onI f q a y h k = true) :
    Good P X s h w k (M (cv s y)) := by
  obtain ⟨b, rfl, e1⟩ := onI_true e
  show Good P X s h w k (M (.int q b))
  rw [hm]; exact hf X s h w q a b k R e1
theorem most_max {n : Nat} (h : n ≤ most) : ¬ ((n : Nat) : Int) > IntKind.i64.max := by
  have : IntKind.i64.max = 9223372036854775807 := by decide
  rw [this]
  have : most = 1099511627776 := rfl
  omega
theorem strCat_ok {t : TypeId} {a : List Nat} {y : AV} {k : K} (R : Rel P X s h w) (ha : ∀ x ∈ a, x < 256) (hy : Wf s h.nx y) (e : strCat a y h k = true) :
    Good P X s h w k (binOp .add t (.string (bys a)) (cv s y)) := by
  obtain ⟨b, rfl, e1⟩ := isS_true e
  obtain ⟨hle, e2⟩ := bif_true e1
  rw [len_eq, lapp_eq] at hle
  rw [lapp_eq] at e2
  have hle' := Nat.ble_eq.mp hle
  refine ok_pure R e2 ?_ (fun x hx => (List.mem_append.1 hx).elim (ha x) (hy x))
  show Sem.run _ (Op.stringOp .add (bys a) (bys b)) w = .ok (.string (bys (a ++ b))) w
  unfold Op.stringOp
  simp only []
  rw [if_neg (most_max (by rw [bys_size, bys_size]; simpa using hle')), bys_app]
  rfl
theorem addC_ok (t : TypeId) : Ok2 P addC (binOp .add t) := by
  intro X s h w x y k R hx hy e
  cases x <;> try exact absurd (show (false : Bool) = true from e) (by simp)
  · exact onI_ok addI_ok (M := fun v => binOp .add t (.int _ _) v) R (binOp_int t .add (fun q a b => Op.intArith .add q a b) (fun _ _ _ => rfl) _ _) e
  · exact fltA_ok (M := fun v => binOp .add t (.float _ _) v) R (binOp_flt t .add (fun q a b => Op.floatArith .add q a b) (fun _ _ _ => rfl) _ _) e
  · exact cplxA_ok (M := fun v => binOp .add t (.complex _ _ _) v) R (fun c d => by show (if _ then _ else _) = _; exact if_neg (by simp)) e
  · exact strCat_ok R hx hy e
theorem subC_ok (t : TypeId) : Ok2 P subC (binOp .sub t) := by
  intro X s h w x y k R hx hy e
  cases x <;> try exact absurd (show (false : Bool) = true from e) (by simp)
  · exact onI_ok subK_ok (M := fun v => binOp .sub t (.int _ _) v) R (binOp_int t .sub (fun q a b => Op.intArith .sub q a b) (fun _ _ _ => rfl) _ _) e
  · exact fltA_ok (M := fun v => binOp .sub t (.float _ _) v) R (binOp_flt t .sub (fun q a b => Op.floatArith .sub q a b) (fun _ _ _ => rfl) _ _) e
  · exact cplxA_ok (M := fun v => binOp .sub t (.complex _ _ _) v) R (fun c d => by show (if _ then _ else _) = _; exact if_neg (by simp)) e
theorem mulC_ok (t : TypeId) : Ok2 P mulC (binOp .mul t) := by
  intro X s h w x y k R hx hy e
  cases x <;> try exact absurd (show (false : Bool) = true from e) (by simp)
  · exact onI_ok mulI_ok (M := fun v => binOp .mul t (.int _ _) v) R (binOp_int t .mul (fun q a b => Op.intArith .mul q a b) (fun _ _ _ => rfl) _ _) e
  · exact fltA_ok (M := fun v => binOp .mul t (.float _ _) v) R (binOp_flt t .mul (fun q a b => Op.floatArith .mul q a b) (fun _ _ _ => rfl) _ _) e
theorem cmpC_ok {op : BinOp} {f : I2} {g : List Nat → List Nat → Bool} {t : TypeId} (hf : OkI P f (fun _ a b => Op.intCmp op a b))
    (hI : ∀ q a b, binOp op t (.int q a) (.int q b) = Op.intCmp op a b) (hF : ∀ q a b, binOp op t (.float q a) (.float q b) = Op.floatCmp op q a b)
    (hS : ∀ a b, (∀ x ∈ a, x < 256) → (∀ x ∈ b, x < 256) → binOp op t (.string (bys a)) (.string (bys b)) = pure (.bool (g a b))) : Ok2 P (cmpC op f g) (binOp op t) := by
  intro X s h w x y k R hx hy e
  cases x <;> try exact absurd (show (false : Bool) = true from e) (by simp)
  · exact onI_ok hf (M := fun v => binOp op t (.int _ _) v) R (hI _ _) e
  · exact fltC_ok (M := fun v => binOp op t (.float _ _) v) R (hF _ _) e
  · obtain ⟨b, rfl, e1⟩ := isS_true e
    refine ok_pure R e1 ?_ trivial
    show Sem.run _ (binOp op t (.string (bys _)) (.string (bys _))) w = _
    rw [hS _ _ hx hy]; rfl
theorem le_of_not (a b : Int) : (!decide (b < a)) = decide (a ≤ b) := by rw [Bool.eq_iff_iff]; simp
theorem lss_ok (t : TypeId) : Ok2 P (cmpC .lss ltI slt) (binOp .lss t) :=
  cmpC_ok (bool_ok fun q a b => by rw [ilt_eq]; rfl) (binOp_int t .lss (fun q a b => Op.intCmp .lss a b) fun _ _ _ => rfl) (binOp_flt t .lss (fun q a b => Op.floatCmp .lss q a b) fun _ _ _ => rfl)
    (fun a b ha hb => by rw [slt_eq a b ha hb, ← bys_toList, ← bys_toList]; rfl)
theorem gtr_ok (t : TypeId) : Ok2 P (cmpC .gtr gtI (fun a b => slt b a)) (binOp .gtr t) :=
  cmpC_ok (bool_ok fun q a b => by rw [ilt_eq]; rfl) (binOp_int t .gtr (fun q a b => Op.intCmp .gtr a b) fun _ _ _ => rfl) (binOp_flt t .gtr (fun q a b => Op.floatCmp .gtr q a b) fun _ _ _ => rfl)
    (fun a b ha hb => by
      rw [slt_eq b a hb ha, ← bys_toList, ← bys_toList]
      show pure (Value.bool (!(Op.bytesLess (bys a).toList (bys b).toList || (bys a).toList == (bys b).toList))) = _
      rw [← less_total, Bool.not_not])
theorem leq_ok (t : TypeId) : Ok2 P (cmpC .leq leI (fun a b => not (slt b a))) (binOp .leq t) :=
  cmpC_ok (bool_ok fun q a b => by rw [ilt_eq]; show _ = Sem.pure (Value.bool (!decide (b < a))); rw [le_of_not]; rfl) (binOp_int t .leq (fun q a b => Op.intCmp .leq a b) fun _ _ _ => rfl) (binOp_flt t .leq (fun q a b => Op.floatCmp .leq q a b) fun _ _ _ => rfl)
    (fun a b ha hb => by
      show pure (Value.bool (Op.bytesLess (bys a).toList (bys b).toList || (bys a).toList == (bys b).toList)) = pure (Value.bool (!slt b a))
      rw [slt_eq b a hb ha, ← bys_toList, ← bys_toList, ← less_total])
theorem geq_ok (t : TypeId) : Ok2 P (cmpC .geq geI (fun a b => not (slt a b))) (binOp .geq t) :=
  cmpC_ok (bool_ok fun q a b => by rw [ilt_eq]; show _ = Sem.pure (Value.bool (!decide (a < b))); rw [le_of_not]; rfl) (binOp_int t .geq (fun q a b => Op.intCmp .geq a b) fun _ _ _ => rfl) (binOp_flt t .geq (fun q a b => Op.floatCmp .geq q a b) fun _ _ _ => rfl)
    (fun a b ha hb => by
      show pure (Value.bool (!Op.bytesLess (bys a).toList (bys b).toList)) = pure (Value.bool (!slt a b))
      rw [slt_eq a b ha hb, ← bys_toList, ← bys_toList])
theorem quo_ok (t : TypeId) : Ok2 P (intC quoI) (binOp .quo t) := intC_ok (m := fun q a b => Op.intDiv .quo q a b) sem_ok (binOp_int t .quo (fun q a b => Op.intDiv .quo q a b) fun _ _ _ => rfl)
theorem rem_ok (t : TypeId) : Ok2 P (intC remI) (binOp .rem t) := intC_ok (m := fun q a b => Op.intDiv .rem q a b) sem_ok (binOp_int t .rem (fun q a b => Op.intDiv .rem q a b) fun _ _ _ => rfl)
theorem and_ok (t : TypeId) : Ok2 P (intC andI) (binOp .and t) := intC_ok andI_ok (binOp_int t .and (fun q a b => Op.intBits .and q a b) fun _ _ _ => rfl)
theorem or_ok (t : TypeId) : Ok2 P (intC orI) (binOp .or t) := intC_ok orI_ok (binOp_int t .or (fun q a b => Op.intBits .or q a b) fun _ _ _ => rfl)
theorem xor_ok (t : TypeId) : Ok2 P (intC xorI) (binOp .xor t) := intC_ok xorI_ok (binOp_int t .xor (fun q a b => Op.intBits .xor q a b) fun _ _ _ => rfl)
theorem andNot_ok (t : TypeId) : Ok2 P (intC andNotI) (binOp .andNot t) := intC_ok (m := fun q a b => Op.intBits .andNot q a b) sem_ok (binOp_int t .andNot (fun q a b => Op.intBits .andNot q a b) fun _ _ _ => rfl)
theorem shl_ok (t : TypeId) : Ok2 P (shC shlI) (binOp .shl t) := shC_ok (m := fun q a b => Op.shift .shl q a .i64 b) sem_ok (fun _ _ _ _ => rfl)
theorem shr_ok (t : TypeId) : Ok2 P (shC shrK) (binOp .shr t) := shC_ok shrK_ok (fun _ _ _ _ => rfl)

/-! ## operators on one -/
theorem un_ok (op : UnOp) : Ok1 P (unH op).f (Op.unary op) := by
  intro X s h w x k R hx e
  cases op <;> try exact absurd (show (false : Bool) = true from e) (by simp)
  · obtain ⟨q, n, rfl, e1⟩ := isI_true (v := x) e
    exact ok_sem R e1
  · obtain ⟨q, n, rfl, e1⟩ := isI_true (v := x) e
    exact ok_sem R e1
  · obtain ⟨b, rfl, e1⟩ := isB_true (v := x) e
    exact ok_pure R e1 rfl trivial
end Go.Rk

namespace Go.Rk
open Go
set_option linter.unusedSectionVars false
variable [Nt] [Nu]
variable {P : Program} {X : Nat → Prop} {s : Sig} {h : AH} {w : World}

/-! ## types of the table -/
class Fit (P : Program) : Prop where
  ok : fitB P = true
theorem lall_true {α : Type} {f : α → Bool} : ∀ {l : List α}, lall f l = true → ∀ x ∈ l, f x = true
  | [], _, x, hx => absurd hx (by simp)
  | a :: l, e, x, hx => by
    obtain ⟨h1, h2⟩ := bif_true e
    rcases List.mem_cons.1 hx with rfl | hx
    · exact h1
    · exact lall_true h2 x hx
theorem ble_lt {a b : Nat} : Nat.ble (Nat.succ a) b = true ↔ a < b := by rw [Nat.ble_eq]; exact Iff.rfl
theorem tKn_lt {t : Nat} : tKn P t = true ↔ t < P.types.size := ble_lt
theorem info_of {t : Nat} (h : t < P.types.size) : P.info? t = P.types[t]? := by
  show (if t < P.types.size then P.types[t]? else _) = _
  rw [if_pos h]
theorem info_some {t : Nat} (h : t < P.types.size) : ∃ i, P.info? t = some i := ⟨P.types[t], by rw [info_of h, Array.getElem?_eq_getElem h]⟩
theorem fit_desc [F : Fit P] {t : Nat} {i : TypeInfo} (h : t < P.types.size) (hi : P.info? t = some i) : inT P.types.size i.desc = true := by
  rw [info_of h] at hi
  have hm : i ∈ P.types.toList := by simpa using Array.mem_of_getElem? hi
  exact lall_true (f := fun (i : TypeInfo) => inT P.types.size i.desc) F.ok i hm
theorem und_desc [F : Fit P] {t : Nat} (h : t < P.types.size) : ∃ d, P.underlying t = some d ∧ (inT P.types.size d = true) := by
  obtain ⟨i, hi⟩ := info_some (P := P) h
  have hd := fit_desc h hi
  unfold Program.underlying
  rw [hi]
  cases i with
  | mk desc _ _ _ _ _ =>
    cases desc with
    | named n u =>
      have hu : u < P.types.size := ble_lt.1 hd
      obtain ⟨j, hj⟩ := info_some (P := P) hu
      exact ⟨j.desc, by simp [hj], fit_desc hu hj⟩
    | _ => exact ⟨_, rfl, hd⟩
theorem tU_und {t : Nat} {d : TypeDesc} (h : tU P t = d) (hd : d ≠ .invalid) : P.underlying t = some d ∧ t < P.types.size := by
  unfold tU at h
  cases hk : tKn P t with
  | false => rw [hk] at h; exact absurd h.symm hd
  | true =>
    rw [hk] at h
    cases hu : P.underlying t with
    | none => rw [hu] at h; exact absurd h.symm hd
    | some x => rw [hu] at h; exact ⟨by rw [← h], tKn_lt.1 hk⟩
theorem tU_of {t : Nat} {d : TypeDesc} (h : P.underlying t = some d) (ht : t < P.types.size) : tU P t = d := by
  unfold tU; rw [tKn_lt.2 ht, h]
theorem fit_slice [Fit P] {t e : Nat} (h : tU P t = .slice e) : e < P.types.size := by
  obtain ⟨hu, ht⟩ := tU_und h (by simp)
  obtain ⟨d, hd, hi⟩ := und_desc (P := P) ht
  rw [hu] at hd; cases hd; exact ble_lt.1 hi
theorem fit_array [Fit P] {t n e : Nat} (h : tU P t = .array n e) : e < P.types.size := by
  obtain ⟨hu, ht⟩ := tU_und h (by simp)
  obtain ⟨d, hd, hi⟩ := und_desc (P := P) ht
  rw [hu] at hd; cases hd; exact ble_lt.1 hi
theorem fit_pointer [Fit P] {t e : Nat} (h : tU P t = .pointer e) : e < P.types.size := by
  obtain ⟨hu, ht⟩ := tU_und h (by simp)
  obtain ⟨d, hd, hi⟩ := und_desc (P := P) ht
  rw [hu] at hd; cases hd; exact ble_lt.1 hi
theorem fit_map [Fit P] {t k e : Nat} (h : tU P t = .map k e) : k < P.types.size ∧ e < P.types.size := by
  obtain ⟨hu, ht⟩ := tU_und h (by simp)
  obtain ⟨d, hd, hi⟩ := und_desc (P := P) ht
  rw [hu] at hd; cases hd; exact ⟨ble_lt.1 (and_true' hi).1, ble_lt.1 (and_true' hi).2⟩
theorem fit_struct [Fit P] {t : Nat} {fs : Array Field} (h : tU P t = .struct fs) : ∀ f ∈ fs.toList, f.type < P.types.size := by
  obtain ⟨hu, ht⟩ := tU_und h (by simp)
  obtain ⟨d, hd, hi⟩ := und_desc (P := P) ht
  rw [hu] at hd; cases hd
  exact fun f hf => ble_lt.1 (lall_true (f := fun (f : Field) => Nat.ble (Nat.succ f.type) P.types.size) hi f hf)
theorem run_typeInfo' {t : Nat} {i : TypeInfo} (h : P.info? t = some i) : (typeInfo t).run P w = .ok i w := by simp [typeInfo, h]
theorem run_sizeOf' {t : Nat} (h : t < P.types.size) : (sizeOf t).run P w = .ok (tSize P t) w := by
  obtain ⟨i, hi⟩ := info_some (P := P) h
  simp [sizeOf, run_typeInfo' hi, tSize, hi]
theorem run_isAgg' [Fit P] {t : Nat} (h : t < P.types.size) : (isAgg t).run P w = .ok (tAgg P t) w := by
  obtain ⟨d, hd, _⟩ := und_desc (P := P) h
  have hu := tU_of hd h
  unfold isAgg tAgg
  simp only [Sem.run_bind, run_underlying hd, Result.andThen_ok, hu]
  cases d <;> rfl
theorem zeroOk_true {t : Nat} (h : zeroOk P t = true) : ∃ i v, P.info? t = some i ∧ i.zero = some v ∧ okV 8 v = true ∧ v.cells.size = i.size := by
  unfold zeroOk at h
  cases hi : P.info? t with
  | none => rw [hi] at h; exact absurd h (by simp)
  | some i =>
    rw [hi] at h
    cases hz : i.zero with
    | none => simp only [hz] at h; exact absurd h (by simp)
    | some v =>
      simp only [hz] at h
      obtain ⟨h1, h2⟩ := and_true' h
      exact ⟨i, v, rfl, hz, h1, Nat.eq_of_beq_eq_true h2⟩
theorem run_zeroValue' (s : Sig) {t : Nat} (h : zeroOk P t = true) : (zeroValue t).run P w = .ok (cv s (tZero P t)) w := by
  obtain ⟨i, v, hi, hz, hv, _⟩ := zeroOk_true h
  have : cv s (tZero P t) = v := by unfold tZero; simp only [hi, hz]; exact cv_of s 8 v hv
  rw [this]
  simp [zeroValue, run_typeInfo' hi, hz]
theorem zero_wf (s : Sig) (n : Nat) {t : Nat} (h : zeroOk P t = true) : Wf s n (tZero P t) := by
  obtain ⟨i, v, hi, hz, hv, _⟩ := zeroOk_true h
  unfold tZero; simp only [hi, hz]; exact Wf_of s n 8 v hv
theorem tZero_not_opq (P : Program) (t : TypeId) (i : Nat) : tZero P t ≠ .opq i := by
  unfold tZero
  split
  · split
    · exact cst_not_opq _ i
    · simp
  · simp
theorem zero_len {t : Nat} (h : zeroOk P t = true) : (tZero P t).cells.length = tSize P t := by
  obtain ⟨i, v, hi, hz, hv, hs⟩ := zeroOk_true h
  have : cv (fun _ => ⟨0, 0, 0⟩) (tZero P t) = v := by unfold tZero; simp only [hi, hz]; exact cv_of _ 8 v hv
  have e := cv_cells (fun _ => ⟨0, 0, 0⟩) (tZero P t) (tZero_not_opq P t)
  rw [this] at e
  have e2 := congrArg List.length e
  rw [cvL_length] at e2
  rw [← e2]
  unfold tSize; simp only [hi]
  simpa using hs
/-- a part of a value -/
theorem subV_true [Fit P] {t : Nat} {l : List AV} {off : Nat} {k : AV → Bool} (ht : t < P.types.size) (hl : WfL s h.nx l) (e : subV P t l off k = true) :
    ∃ v, k v = true ∧ Wf s h.nx v ∧ ∀ w, (part t (cvL s l).toArray off).run P w = .ok (cv s v) w := by
  unfold subV at e
  cases ha : tAgg P t with
  | true =>
    rw [ha] at e
    obtain ⟨hle, e1⟩ := ltakeK_true _ _ _ e
    rw [ldrop_eq] at hle e1
    refine ⟨_, e1, hl.drop.take, fun w => ?_⟩
    unfold part
    simp only [Sem.run_bind, run_isAgg' ht, Result.andThen_ok, ha, if_true, run_sizeOf' ht, Sem.run_pure]
    congr 2
    show _ = (cvL s ((l.drop off).take (tSize P t))).toArray
    rw [cvL_take, cvL_drop, List.extract_toArray, List.extract_eq_take_drop]
    simp
  | false =>
    rw [ha] at e
    obtain ⟨v, hv, e1⟩ := onO_true e
    rw [lnth_eq] at hv
    refine ⟨v, e1, hl.get hv, fun w => ?_⟩
    unfold part
    simp only [Sem.run_bind, run_isAgg' ht, Result.andThen_ok, ha]
    have : (cvL s l).toArray[off]? = some (cv s v) := by rw [List.getElem?_toArray, cvL_get, hv]; rfl
    simp [this]
end Go.Rk

namespace Go.Rk
open Go
set_option linter.unusedSectionVars false
variable [Nt] [Nu]
variable {P : Program} {X : Nat → Prop} {s : Sig} {h : AH} {w : World}

/-! ## equality -/
/-- a test of two values is right at a type -/
def EqIs (P : Program) (d : Nat) (t : TypeId) (f : AV → AV → (Bool → Bool) → Bool) : Prop :=
  ∀ (s : Sig) (n : Nat) (x y : AV) (k : Bool → Bool), Wf s n x → Wf s n y → f x y k = true → ∃ b, k b = true ∧ ∀ w, (Op.equalIn d t (cv s x) (cv s y)).run P w = .ok b w
def OkEq (P : Program) (d : Nat) (ev : Eqk) : Prop := ∀ t, EqIs P d t (ev t)

theorem eqPt_true {x y : AV} {k : Bool → Bool} (e : eqPt x y k = true) :
    (x = .nilp ∧ y = .nilp ∧ k true = true) ∨ (∃ b o, x = .nilp ∧ y = .ptr b o ∧ k false = true) ∨ (∃ b o, x = .ptr b o ∧ y = .nilp ∧ k false = true) ∨ (∃ b o u, x = .ptr b o ∧ y = .ptr b u ∧ k (Nat.beq o u) = true) := by
  cases x <;> try exact absurd e Bool.false_ne_true
  · cases y <;> try exact absurd e Bool.false_ne_true
    · exact .inl ⟨rfl, rfl, e⟩
    · exact .inr (.inl ⟨_, _, rfl, rfl, e⟩)
  · cases y <;> try exact absurd e Bool.false_ne_true
    · exact .inr (.inr (.inl ⟨_, _, rfl, rfl, e⟩))
    · obtain ⟨h1, h2⟩ := bif_true e
      obtain rfl := Nat.eq_of_beq_eq_true h1
      exact .inr (.inr (.inr ⟨_, _, _, rfl, rfl, h2⟩))
theorem eqPn_true {x y : AV} {k : Bool → Bool} (e : eqPn x y k = true) :
    (x = .nilp ∧ y = .nilp ∧ k true = true) ∨ (∃ b o, x = .nilp ∧ y = .ptr b o ∧ k false = true) ∨ (∃ b o, x = .ptr b o ∧ y = .nilp ∧ k false = true) := by
  cases x <;> try exact absurd e Bool.false_ne_true
  · cases y <;> try exact absurd e Bool.false_ne_true
    · exact .inl ⟨rfl, rfl, e⟩
    · exact .inr (.inl ⟨_, _, rfl, rfl, e⟩)
  · cases y <;> try exact absurd e Bool.false_ne_true
    · exact .inr (.inr ⟨_, _, rfl, rfl, e⟩)
theorem eqIf_true {n : Bool} {x y : AV} {k : Bool → Bool} (e : eqIf n x y k = true) :
    (x = .nili ∧ y = .nili ∧ n = true ∧ k true = true) ∨ (∃ b o, x = .nili ∧ y = .ifc b o ∧ k false = true) ∨ (∃ b o, x = .ifc b o ∧ y = .nili ∧ k false = true) := by
  cases x <;> try exact absurd e Bool.false_ne_true
  · cases y <;> try exact absurd e Bool.false_ne_true
    · exact .inl ⟨rfl, rfl, bif_true e⟩
    · exact .inr (.inl ⟨_, _, rfl, rfl, e⟩)
  · cases y <;> try exact absurd e Bool.false_ne_true
    · exact .inr (.inr ⟨_, _, rfl, rfl, e⟩)

section
variable {d : Nat} {t : TypeId}
theorem eqBo_ok (hu : P.underlying t = some .bool) : EqIs P (d + 1) t eqBo := by
  intro s n x y k _ _ e
  obtain ⟨a, rfl, e1⟩ := isB_true e
  obtain ⟨b, rfl, e2⟩ := isB_true e1
  refine ⟨_, e2, fun w => ?_⟩
  show (Op.equalIn (d + 1) t (.bool a) (.bool b)).run P w = _
  rw [run_equalIn_bool w d t a b hu]
  cases a <;> cases b <;> rfl
theorem eqIn_ok {q : IntKind} (hu : P.underlying t = some (.int q)) : EqIs P (d + 1) t eqIn := by
  intro s n x y k _ _ e
  obtain ⟨q, a, rfl, e1⟩ := isI_true e
  obtain ⟨r, b, rfl, e2⟩ := isI_true e1
  obtain ⟨hq, e3⟩ := bif_true e2
  obtain rfl := keq_true hq
  refine ⟨_, e3, fun w => ?_⟩
  show (Op.equalIn (d + 1) t (.int q a) (.int q b)).run P w = _
  simp [Op.equalIn, run_underlying hu, ieq_eq]
theorem fEq_eq (q : FloatKind) (a b : Nat) : fEq q a b = Op.floatEq q a b := by
  unfold fEq Op.floatEq
  cases q.format.order a b with
  | none => rfl
  | some o => cases o <;> rfl
theorem eqFl_ok {q : FloatKind} (hu : P.underlying t = some (.float q)) : EqIs P (d + 1) t eqFl := by
  intro s n x y k _ _ e
  obtain ⟨q, a, rfl, e1⟩ := isF_true e
  obtain ⟨r, b, rfl, e2⟩ := isF_true e1
  obtain ⟨hq, e3⟩ := bif_true e2
  obtain rfl := feq_true hq
  refine ⟨_, e3, fun w => ?_⟩
  show (Op.equalIn (d + 1) t (.float q a) (.float q b)).run P w = _
  simp [Op.equalIn, run_underlying hu, fEq_eq]
theorem eqCx_ok {q : FloatKind} (hu : P.underlying t = some (.complex q)) : EqIs P (d + 1) t eqCx := by
  intro s n x y k _ _ e
  obtain ⟨q, a, b, rfl, e1⟩ := isC_true e
  obtain ⟨r, c, d', rfl, e2⟩ := isC_true e1
  obtain ⟨hq, e3⟩ := bif_true e2
  obtain rfl := feq_true hq
  refine ⟨_, e3, fun w => ?_⟩
  show (Op.equalIn (d + 1) t (.complex q a b) (.complex q c d')).run P w = _
  simp [Op.equalIn, run_underlying hu, fEq_eq]
theorem eqSt_ok (hu : P.underlying t = some .string) : EqIs P (d + 1) t eqSt := by
  intro s n x y k hx hy e
  obtain ⟨a, rfl, e1⟩ := isS_true e
  obtain ⟨b, rfl, e2⟩ := isS_true e1
  refine ⟨_, e2, fun w => ?_⟩
  show (Op.equalIn (d + 1) t (.string (bys a)) (.string (bys b))).run P w = _
  rw [run_equalIn_string w d t _ _ hu, bys_toList, bys_toList, leq_eq a b hx hy]
theorem eqPt_ok {el : TypeId} (hu : P.underlying t = some (.pointer el)) (he : el < P.types.size) (hz : tSize P el ≠ 0) : EqIs P (d + 1) t eqPt := by
  intro s n x y k hx hy e
  rcases eqPt_true e with ⟨rfl, rfl, e1⟩ | ⟨b, o, rfl, rfl, e1⟩ | ⟨b, o, rfl, rfl, e1⟩ | ⟨b, o, u, rfl, rfl, e1⟩
  · exact ⟨_, e1, fun w => by simp [cv, Op.equalIn, run_underlying hu]⟩
  · exact ⟨_, e1, fun w => by simp [cv, Op.equalIn, run_underlying hu]⟩
  · exact ⟨_, e1, fun w => by simp [cv, Op.equalIn, run_underlying hu]⟩
  · refine ⟨_, e1, fun w => ?_⟩
    have hk : ((⟨(s b).blk, (s b).off + o, none⟩ : Addr) == ⟨(s b).blk, (s b).off + u, none⟩) = Nat.beq o u := by
      rw [Bool.eq_iff_iff, Nat.beq_eq, beq_iff_eq, Addr.mk.injEq]; simp only [true_and, and_true]; omega
    simp [cv, Op.equalIn, run_underlying hu, run_sizeOf' he, hz, sameAddr, hk]
theorem eqPn_ok {el : TypeId} (hu : P.underlying t = some (.pointer el)) : EqIs P (d + 1) t eqPn := by
  intro s n x y k hx hy e
  rcases eqPn_true e with ⟨rfl, rfl, e1⟩ | ⟨b, o, rfl, rfl, e1⟩ | ⟨b, o, rfl, rfl, e1⟩ <;> exact ⟨_, e1, fun w => by simp [cv, Op.equalIn, run_underlying hu]⟩
theorem eqPu_ok (hu : P.underlying t = some .unsafePointer) : EqIs P (d + 1) t eqPn := by
  intro s n x y k hx hy e
  rcases eqPn_true e with ⟨rfl, rfl, e1⟩ | ⟨b, o, rfl, rfl, e1⟩ | ⟨b, o, rfl, rfl, e1⟩ <;> exact ⟨_, e1, fun w => by simp [cv, Op.equalIn, run_underlying hu, samePointer]⟩
theorem eqIf_ok {ms : Array (String × TypeId)} {n : Bool} (hu : P.underlying t = some (.interface ms)) : EqIs P (d + 1) t (eqIf n) := by
  intro s n x y k hx hy e
  rcases eqIf_true e with ⟨rfl, rfl, _, e1⟩ | ⟨b, o, rfl, rfl, e1⟩ | ⟨b, o, rfl, rfl, e1⟩ <;> exact ⟨_, e1, fun w => by simp [cv, Op.equalIn, run_underlying hu]⟩
theorem eqSl_ok {el : TypeId} (hu : P.underlying t = some (.slice el)) : EqIs P (d + 1) t eqSl := by
  intro s n x y k hx hy e
  cases x <;> try exact absurd e Bool.false_ne_true
  all_goals cases y <;> try exact absurd e Bool.false_ne_true
  all_goals exact ⟨_, e, fun w => by simp [cv, Op.equalIn, run_underlying hu]⟩
theorem eqMp_ok {a b : TypeId} (hu : P.underlying t = some (.map a b)) : EqIs P (d + 1) t eqMp := by
  intro s n x y k hx hy e
  cases x <;> try exact absurd e Bool.false_ne_true
  all_goals cases y <;> try exact absurd e Bool.false_ne_true
  all_goals exact ⟨_, e, fun w => by simp [cv, Op.equalIn, run_underlying hu]⟩
theorem eqFu_ok {a b : Array TypeId} {v : Bool} (hu : P.underlying t = some (.func a b v)) : EqIs P (d + 1) t eqFu := by
  intro s n x y k hx hy e
  cases x <;> try exact absurd e Bool.false_ne_true
  all_goals cases y <;> try exact absurd e Bool.false_ne_true
  all_goals exact ⟨_, e, fun w => by simp [cv, Op.equalIn, run_underlying hu]⟩
theorem eqNo_ok : EqIs P d t eqNo := fun _ _ _ _ _ _ _ e => absurd e Bool.false_ne_true
theorem eqFs_ok [Fit P] {ev : Eqk} (hev : OkEq P d ev) {s : Sig} {h : AH} {xs ys : List AV} (hx : WfL s h.nx xs) (hy : WfL s h.nx ys) {k : Bool → Bool} :
    ∀ (fs : List Field), (∀ f ∈ fs, f.type < P.types.size ∧ f.name ≠ "_") → eqFs P ev fs xs ys k = true →
      ∃ b, k b = true ∧ ∀ w, (Op.eqFields d (cvL s xs).toArray (cvL s ys).toArray fs).run P w = .ok b w
  | [], _, e => ⟨true, e, fun w => rfl⟩
  | f :: fs, hf, e => by
    obtain ⟨hft, hfn⟩ := hf f (List.mem_cons_self ..)
    obtain ⟨a, e1, ha, hra⟩ := subV_true (k := fun a => subV P f.type ys f.offset (fun b => ev f.type a b (fun e => Bool.rec (motive := fun _ => Bool) (k false) (eqFs P ev fs xs ys k) e))) hft hx e
    obtain ⟨b, e2, hb, hrb⟩ := subV_true (k := fun b => ev f.type a b (fun e => Bool.rec (motive := fun _ => Bool) (k false) (eqFs P ev fs xs ys k) e)) hft hy e1
    obtain ⟨r, e3, hr⟩ := hev f.type s h.nx a b _ ha hb e2
    cases r with
    | false =>
      refine ⟨false, e3, fun w => ?_⟩
      rw [Op.eqFields, if_pos hfn]
      simp only [Sem.run_bind, hra, hrb, hr, Result.andThen_ok, Bool.not_false, if_true, Sem.run_pure]
    | true =>
      obtain ⟨b', hk, hr'⟩ := eqFs_ok hev hx hy fs (fun g hg => hf g (List.mem_cons_of_mem _ hg)) e3
      refine ⟨b', hk, fun w => ?_⟩
      rw [Op.eqFields, if_pos hfn]
      simp only [Sem.run_bind, hra, hrb, hr, Result.andThen_ok, Bool.not_true, Bool.false_eq_true, if_false, hr']
theorem eqAg_ok [Fit P] {ev : Eqk} (hev : OkEq P d ev) {fs : Array Field} (hu : tU P t = .struct fs) (hs : P.stoodInHeld t = false) (hb : fs.toList.any (fun f => f.name == "_") = false) :
    EqIs P (d + 1) t (eqAg P ev fs.toList) := by
  intro s n x y k hx hy e
  obtain ⟨xs, rfl, e1⟩ := isA_true e
  obtain ⟨ys, rfl, e2⟩ := isA_true e1
  obtain ⟨hu', _⟩ := tU_und hu (by simp)
  have hfs : P.fieldsOf t = fs := by unfold Program.fieldsOf; rw [hu']
  obtain ⟨b, hk, hr⟩ := eqFs_ok hev (h := ⟨.e, n⟩) hx hy fs.toList (fun f hf => ⟨fit_struct hu f hf, fun hn => by
    have := List.any_eq_false.1 hb f hf
    simp [hn] at this⟩) e2
  refine ⟨b, hk, fun w => ?_⟩
  show (Op.equalIn (d + 1) t (.agg _) (.agg _)).run P w = _
  rw [run_equalIn_struct w d t _ _ (by rw [hfs]; exact hu') hs, hfs]
  exact hr w
theorem eqT_ok [Fit P] {ev : Eqk} (hev : OkEq P d ev) (n : Bool) : EqIs P (d + 1) t (eqT P ev t n).f := by
  unfold eqT
  cases hd : tU P t with
  | bool => exact eqBo_ok (tU_und hd (by simp)).1
  | int q => exact eqIn_ok (tU_und hd (by simp)).1
  | float q => exact eqFl_ok (tU_und hd (by simp)).1
  | complex q => exact eqCx_ok (tU_und hd (by simp)).1
  | string => exact eqSt_ok (tU_und hd (by simp)).1
  | unsafePointer => exact eqPu_ok (tU_und hd (by simp)).1
  | pointer el =>
    show EqIs P (d + 1) t (Nat.rec (motive := fun _ => EqW) ⟨eqPn⟩ (fun _ _ => ⟨eqPt⟩) (tSize P el) : EqW).f
    cases hz : tSize P el with
    | zero => exact eqPn_ok (tU_und hd (by simp)).1
    | succ m => exact eqPt_ok (tU_und hd (by simp)).1 (fit_pointer hd) (by rw [hz]; simp)
  | slice el => exact eqSl_ok (tU_und hd (by simp)).1
  | map a b => exact eqMp_ok (tU_und hd (by simp)).1
  | func a b v => exact eqFu_ok (tU_und hd (by simp)).1
  | interface ms => exact eqIf_ok (tU_und hd (by simp)).1
  | struct fs =>
    show EqIs P (d + 1) t (Bool.rec (motive := fun _ => EqW) ⟨eqAg P ev fs.toList⟩ ⟨eqNo⟩ (or (P.stoodInHeld t) (fs.toList.any (fun f => f.name == "_"))) : EqW).f
    cases hb : or (P.stoodInHeld t) (fs.toList.any (fun f => f.name == "_")) with
    | true => exact eqNo_ok
    | false =>
      have h1 : P.stoodInHeld t = false := by revert hb; cases P.stoodInHeld t <;> simp
      have h2 : fs.toList.any (fun f => f.name == "_") = false := by revert hb; rw [h1]; exact id
      exact eqAg_ok hev hd h1 h2
  | _ => exact eqNo_ok
end
theorem eqN_ok [Fit P] : ∀ n d, n ≤ d → OkEq P d (eqN P n)
  | 0, _, _ => fun _ _ _ _ _ _ _ _ e => absurd e Bool.false_ne_true
  | n + 1, d + 1, hd => fun t => eqT_ok (eqN_ok n d (Nat.le_of_succ_le_succ hd)) true
end Go.Rk

namespace Go.Rk
open Go
set_option linter.unusedSectionVars false
variable [Nt] [Nu]
variable {P : Program} {X : Nat → Prop} {s : Sig} {h : AH} {w : World}

/-! ## equality as an operator -/
/-- nothing bars the comparison -/
def Free (P : Program) (t : TypeId) (c : Bool) (a b : Value) : Prop :=
  ∀ (op : BinOp) (ox oy : Operand) (w : World), or (constO ox) (constO oy) = c → (eqGuard op t ox oy a b).run P w = .ok () w
def TopIs (P : Program) (t : TypeId) (c : Bool) (f : AV → AV → (Bool → Bool) → Bool) : Prop :=
  ∀ (s : Sig) (n : Nat) (x y : AV) (k : Bool → Bool), Wf s n x → Wf s n y → f x y k = true → ∃ b, k b = true ∧ Free P t c (cv s x) (cv s y) ∧
    ∀ w, (binOp .eql t (cv s x) (cv s y)).run P w = .ok (.bool b) w ∧ (binOp .neq t (cv s x) (cv s y)).run P w = .ok (.bool (!b)) w
section
variable {t : TypeId} {c : Bool}
theorem free_of {a b : Value} (h : ∀ op ox oy, eqGuard op t ox oy a b = (if !(op matches .eql | .neq) then pure () else pure ())) : Free P t c a b := by
  intro op ox oy w _
  rw [h]; split <;> rfl
/-- two values that are compared by their type alone -/
structure Plain (P : Program) (t : TypeId) (c : Bool) (a b : Value) : Prop where
  eql : binOp .eql t a b = (do pure (.bool (← Op.equal t a b)))
  neq : binOp .neq t a b = (do pure (.bool (!(← Op.equal t a b))))
  free : Free P t c a b
theorem top_of {f : AV → AV → (Bool → Bool) → Bool} (hf : EqIs P 10000 t f) (hp : ∀ (s : Sig) (x y : AV) k, f x y k = true → Plain P t c (cv s x) (cv s y)) : TopIs P t c f := by
  intro s n x y k hx hy e
  obtain ⟨b, hk, hr⟩ := hf s n x y k hx hy e
  have p := hp s x y k e
  refine ⟨b, hk, p.free, fun w => ⟨?_, ?_⟩⟩
  · rw [p.eql]; simp [Op.equal, Op.maxDepth, hr]
  · rw [p.neq]; simp [Op.equal, Op.maxDepth, hr]
theorem guard_easy {a b : Value} (h1 : ∀ ox oy, eqGuard .eql t ox oy a b = pure ()) (h2 : ∀ ox oy, eqGuard .neq t ox oy a b = pure ()) : Free P t c a b := by
  intro op ox oy w _
  cases op <;> first | rfl | (rw [h1]; rfl) | (rw [h2]; rfl)
theorem topBo (hu : P.underlying t = some .bool) : TopIs P t c eqBo := top_of (eqBo_ok hu) (fun s x y k e => by
  obtain ⟨a, rfl, e1⟩ := isB_true e
  obtain ⟨b, rfl, e2⟩ := isB_true e1
  exact ⟨rfl, rfl, guard_easy (fun _ _ => rfl) (fun _ _ => rfl)⟩)
theorem topPt {el : TypeId} (hu : P.underlying t = some (.pointer el)) (he : el < P.types.size) (hz : tSize P el ≠ 0) : TopIs P t c eqPt := top_of (eqPt_ok hu he hz) (fun s x y k e => by
  rcases eqPt_true e with ⟨rfl, rfl, e1⟩ | ⟨b, o, rfl, rfl, e1⟩ | ⟨b, o, rfl, rfl, e1⟩ | ⟨b, o, u, rfl, rfl, e1⟩ <;> exact ⟨rfl, rfl, guard_easy (fun _ _ => rfl) (fun _ _ => rfl)⟩)
theorem topPn (h : EqIs P 10000 t eqPn) : TopIs P t c eqPn := top_of h (fun s x y k e => by
  rcases eqPn_true e with ⟨rfl, rfl, e1⟩ | ⟨b, o, rfl, rfl, e1⟩ | ⟨b, o, rfl, rfl, e1⟩ <;> exact ⟨rfl, rfl, guard_easy (fun _ _ => rfl) (fun _ _ => rfl)⟩)
theorem topSl {el : TypeId} (hu : P.underlying t = some (.slice el)) : TopIs P t c eqSl := top_of (eqSl_ok hu) (fun s x y k e => by
  cases x <;> try exact absurd e Bool.false_ne_true
  all_goals cases y <;> try exact absurd e Bool.false_ne_true
  all_goals exact ⟨rfl, rfl, guard_easy (fun _ _ => rfl) (fun _ _ => rfl)⟩)
theorem topMp {a b : TypeId} (hu : P.underlying t = some (.map a b)) : TopIs P t c eqMp := top_of (eqMp_ok hu) (fun s x y k e => by
  cases x <;> try exact absurd e Bool.false_ne_true
  all_goals cases y <;> try exact absurd e Bool.false_ne_true
  all_goals exact ⟨rfl, rfl, guard_easy (fun _ _ => rfl) (fun _ _ => rfl)⟩)
theorem topFu {a b : Array TypeId} {v : Bool} (hu : P.underlying t = some (.func a b v)) : TopIs P t c eqFu := top_of (eqFu_ok hu) (fun s x y k e => by
  cases x <;> try exact absurd e Bool.false_ne_true
  all_goals cases y <;> try exact absurd e Bool.false_ne_true
  all_goals exact ⟨rfl, rfl, guard_easy (fun _ _ => rfl) (fun _ _ => rfl)⟩)
theorem guard_nil2 (op : BinOp) (ho : (op matches .eql | .neq) = true) (ox oy : Operand) : eqGuard op t ox oy .nilIface .nilIface =
    if (or (constO ox) (constO oy)) = true then pure () else (do if ← Op.eqGuardIn Op.maxDepth t .nilIface .nilIface then unsupported (.noEntry "binop/eql: two nil values of an interface type with methods, neither of them the literal nil")) := by
  cases op <;> first | exact absurd ho Bool.false_ne_true | (cases ox <;> cases oy <;> rfl)
theorem guard_nil (hn : nilOk P t c = true) {ms : Array (String × TypeId)} (hu : tU P t = .interface ms) : Free P t c .nilIface .nilIface := by
  intro op ox oy w hc
  cases ho : (op matches .eql | .neq) with
  | false => cases op <;> first | rfl | exact absurd ho.symm Bool.false_ne_true
  | true =>
    rw [guard_nil2 op ho ox oy, hc]
    cases c with
    | true => rfl
    | false =>
      have hms : ms.isEmpty = true := by
        unfold nilOk at hn; rw [hu] at hn; exact hn
      have hu' := (tU_und hu (by simp)).1
      have hq : ∀ d w, (Op.eqGuardIn (d + 1) t .nilIface .nilIface).run P w = .ok false w := fun d w => by
        simp [Op.eqGuardIn, run_underlying hu', hms]
      have hq' : ∀ w, (Op.eqGuardIn Op.maxDepth t .nilIface .nilIface).run P w = .ok false w := hq 9999
      rw [if_neg Bool.false_ne_true]
      simp only [Sem.run_bind, hq', Result.andThen_ok, Bool.false_eq_true, if_false]
      rfl
theorem topIf {ms : Array (String × TypeId)} (hu : tU P t = .interface ms) : TopIs P t c (eqIf (nilOk P t c)) := top_of (eqIf_ok (tU_und hu (by simp)).1) (fun s x y k e => by
  rcases eqIf_true e with ⟨rfl, rfl, hn, e1⟩ | ⟨b, o, rfl, rfl, e1⟩ | ⟨b, o, rfl, rfl, e1⟩
  · exact ⟨rfl, rfl, guard_nil hn hu⟩
  · exact ⟨rfl, rfl, guard_easy (fun _ _ => rfl) (fun _ _ => rfl)⟩
  · exact ⟨rfl, rfl, guard_easy (fun _ _ => rfl) (fun _ _ => rfl)⟩)
theorem topAg {ev : Eqk} {fs : List Field} (h : EqIs P 10000 t (eqAg P ev fs)) (hg : P.eqGuardType P.depth t = false) : TopIs P t c (eqAg P ev fs) := top_of h (fun s x y k e => by
  obtain ⟨xs, rfl, e1⟩ := isA_true e
  obtain ⟨ys, rfl, e2⟩ := isA_true e1
  exact ⟨rfl, rfl, fun op ox oy w _ => run_eqGuard_agg w op t ox oy _ _ hg⟩)
theorem topIn {q : IntKind} (hu : P.underlying t = some (.int q)) : TopIs P t c eqIn := by
  intro s n x y k _ _ e
  obtain ⟨q, a, rfl, e1⟩ := isI_true e
  obtain ⟨r, b, rfl, e2⟩ := isI_true e1
  obtain ⟨hq, e3⟩ := bif_true e2
  obtain rfl := keq_true hq
  refine ⟨_, e3, guard_easy (fun _ _ => rfl) (fun _ _ => rfl), fun w => ⟨?_, ?_⟩⟩
  · show (binOp .eql t (.int q a) (.int q b)).run P w = _
    rw [binOp_int t .eql (fun _ a b => Op.intCmp .eql a b) (fun _ _ _ => rfl), ieq_eq]; rfl
  · show (binOp .neq t (.int q a) (.int q b)).run P w = _
    rw [binOp_int t .neq (fun _ a b => Op.intCmp .neq a b) (fun _ _ _ => rfl), ieq_eq]; rfl
theorem topFl {q : FloatKind} (hu : P.underlying t = some (.float q)) : TopIs P t c eqFl := by
  intro s n x y k _ _ e
  obtain ⟨q, a, rfl, e1⟩ := isF_true e
  obtain ⟨r, b, rfl, e2⟩ := isF_true e1
  obtain ⟨hq, e3⟩ := bif_true e2
  obtain rfl := feq_true hq
  refine ⟨_, e3, guard_easy (fun _ _ => rfl) (fun _ _ => rfl), fun w => ⟨?_, ?_⟩⟩
  · show (binOp .eql t (.float q a) (.float q b)).run P w = _
    rw [binOp_flt t .eql (fun q a b => Op.floatCmp .eql q a b) (fun _ _ _ => rfl), fEq_eq]; rfl
  · show (binOp .neq t (.float q a) (.float q b)).run P w = _
    rw [binOp_flt t .neq (fun q a b => Op.floatCmp .neq q a b) (fun _ _ _ => rfl), fEq_eq]; rfl
theorem topCx {q : FloatKind} (hu : P.underlying t = some (.complex q)) : TopIs P t c eqCx := by
  intro s n x y k _ _ e
  obtain ⟨q, a, b, rfl, e1⟩ := isC_true e
  obtain ⟨r, c', d', rfl, e2⟩ := isC_true e1
  obtain ⟨hq, e3⟩ := bif_true e2
  obtain rfl := feq_true hq
  have hc : ∀ (u v : Nat) (w : World), (Op.Complex.cmp .eql q u v).run P w = .ok (Op.floatEq q u v) w := fun u v w => by
    simp [Op.Complex.cmp, Op.floatCmp, Op.floatEq, asBool]
  refine ⟨_, e3, guard_easy (fun _ _ => rfl) (fun _ _ => rfl), fun w => ⟨?_, ?_⟩⟩
  · show (if q ≠ q then stuck "BinOp: operands of different kinds" else Op.complexOp .eql q a b c' d').run P w = _
    rw [if_neg (by simp), fEq_eq, fEq_eq]
    simp [Op.complexOp, hc]
  · show (if q ≠ q then stuck "BinOp: operands of different kinds" else Op.complexOp .neq q a b c' d').run P w = _
    rw [if_neg (by simp), fEq_eq, fEq_eq]
    simp [Op.complexOp, hc]
theorem topSt (hu : P.underlying t = some .string) : TopIs P t c eqSt := by
  intro s n x y k hx hy e
  obtain ⟨a, rfl, e1⟩ := isS_true e
  obtain ⟨b, rfl, e2⟩ := isS_true e1
  refine ⟨_, e2, guard_easy (fun _ _ => rfl) (fun _ _ => rfl), fun w => ⟨?_, ?_⟩⟩
  · show (Op.stringOp .eql (bys a) (bys b)).run P w = _
    rw [leq_eq a b hx hy, ← bys_toList, ← bys_toList]; rfl
  · show (Op.stringOp .neq (bys a) (bys b)).run P w = _
    rw [leq_eq a b hx hy, ← bys_toList, ← bys_toList]; rfl
theorem topNo : TopIs P t c eqNo := fun _ _ _ _ _ _ _ e => absurd e Bool.false_ne_true
theorem eqTop_ok [Fit P] : TopIs P t c (eqTop P t c).f := by
  unfold eqTop
  cases ha : aggOk P t with
  | false => exact topNo
  | true =>
    show TopIs P t c (eqT P (eqN P 6) t (nilOk P t c)).f
    have hev : OkEq P 9999 (eqN P 6) := eqN_ok 6 9999 (by omega)
    unfold eqT
    cases hd : tU P t with
    | bool => exact topBo (tU_und hd (by simp)).1
    | int q => exact topIn (tU_und hd (by simp)).1
    | float q => exact topFl (tU_und hd (by simp)).1
    | complex q => exact topCx (tU_und hd (by simp)).1
    | string => exact topSt (tU_und hd (by simp)).1
    | unsafePointer => exact topPn (eqPu_ok (tU_und hd (by simp)).1)
    | pointer el =>
      show TopIs P t c (Nat.rec (motive := fun _ => EqW) ⟨eqPn⟩ (fun _ _ => ⟨eqPt⟩) (tSize P el) : EqW).f
      cases hz : tSize P el with
      | zero => exact topPn (eqPn_ok (tU_und hd (by simp)).1)
      | succ m => exact topPt (tU_und hd (by simp)).1 (fit_pointer hd) (by rw [hz]; simp)
    | slice el => exact topSl (tU_und hd (by simp)).1
    | map a b => exact topMp (tU_und hd (by simp)).1
    | func a b v => exact topFu (tU_und hd (by simp)).1
    | interface ms => exact topIf hd
    | struct fs =>
      show TopIs P t c (Bool.rec (motive := fun _ => EqW) ⟨eqAg P (eqN P 6) fs.toList⟩ ⟨eqNo⟩ (or (P.stoodInHeld t) (fs.toList.any (fun f => f.name == "_"))) : EqW).f
      cases hb : or (P.stoodInHeld t) (fs.toList.any (fun f => f.name == "_")) with
      | true => exact topNo
      | false =>
        have h1 : P.stoodInHeld t = false := by revert hb; cases P.stoodInHeld t <;> simp
        have h2 : fs.toList.any (fun f => f.name == "_") = false := by revert hb; rw [h1]; exact id
        have hg : P.eqGuardType P.depth t = false := by
          unfold aggOk at ha; rw [hd] at ha; revert ha; cases P.eqGuardType P.depth t <;> simp
        exact topAg (eqAg_ok hev hd h1 h2) hg
    | _ => exact topNo
/-! ### numbers that have a name alone -/
theorem isSym_true {v : AV} (h : isSym v = true) : ∃ i, v = .sym i := by
  cases v <;> first | exact absurd h Bool.false_ne_true | exact ⟨_, rfl⟩
theorem svIs_true {x : SV} {v : AV} (h : svIs x v = true) : v = x.av := by
  cases x with
  | lit n =>
    obtain ⟨q, m, rfl, e⟩ := isI_true (show isI v _ = true from h)
    obtain ⟨hq, e2⟩ := bif_true e
    obtain rfl := keq_true hq
    rw [ieq_eq] at e2
    show AV.int .i64 m = .int .i64 n
    rw [of_decide_eq_true e2]
  | sym i =>
    cases v <;> first | exact absurd h Bool.false_ne_true | (have := Nat.eq_of_beq_eq_true h; subst this; rfl)
  | bool b => exact absurd h Bool.false_ne_true
theorem findB_true {n : Nat} {x y : AV} {k : AV → Bool} : ∀ {l : List BE}, findB n x y k l = true → ∃ e ∈ l, e.op = n ∧ x = e.x.av ∧ y = e.y.av ∧ k e.r.av = true
  | [], h => absurd h Bool.false_ne_true
  | ⟨o, a, b, r⟩ :: l, h => by
    have h' : (Bool.rec (findB n x y k l) (k r.av) (and (Nat.beq o n) (and (svIs a x) (svIs b y))) : Bool) = true := h
    cases hc : and (Nat.beq o n) (and (svIs a x) (svIs b y)) with
    | true =>
      rw [hc] at h'
      obtain ⟨h1, h2⟩ := and_true' hc
      obtain ⟨h3, h4⟩ := and_true' h2
      exact ⟨_, List.mem_cons_self .., Nat.eq_of_beq_eq_true h1, svIs_true h3, svIs_true h4, h'⟩
    | false =>
      rw [hc] at h'
      obtain ⟨e, he, r⟩ := findB_true (l := l) h'
      exact ⟨e, List.mem_cons_of_mem _ he, r⟩
theorem findL_true {i : Nat} {k : AV → Bool} : ∀ {l : List (Nat × SV)}, findL i k l = true → ∃ e ∈ l, e.1 = i ∧ k e.2.av = true
  | [], h => absurd h Bool.false_ne_true
  | e :: l, h => by
    have h' : (Bool.rec (findL i k l) (k e.2.av) (Nat.beq e.1 i) : Bool) = true := h
    cases hc : Nat.beq e.1 i with
    | true => rw [hc] at h'; exact ⟨e, List.mem_cons_self .., Nat.eq_of_beq_eq_true hc, h'⟩
    | false =>
      rw [hc] at h'
      obtain ⟨e, he, r⟩ := findL_true (l := l) h'
      exact ⟨e, List.mem_cons_of_mem _ he, r⟩
theorem findX_true {i : Nat} {x : AV} {k : AV → Bool} : ∀ {l : List (Nat × SV × Nat)}, findX i x k l = true → ∃ e ∈ l, e.1 = i ∧ x = e.2.1.av ∧ k (.opq e.2.2) = true
  | [], h => absurd h Bool.false_ne_true
  | e :: l, h => by
    have h' : (Bool.rec (findX i x k l) (k (.opq e.2.2)) (and (Nat.beq e.1 i) (svIs e.2.1 x)) : Bool) = true := h
    cases hc : and (Nat.beq e.1 i) (svIs e.2.1 x) with
    | true =>
      rw [hc] at h'
      obtain ⟨h1, h2⟩ := and_true' hc
      exact ⟨e, List.mem_cons_self .., Nat.eq_of_beq_eq_true h1, svIs_true h2, h'⟩
    | false =>
      rw [hc] at h'
      obtain ⟨e, he, r⟩ := findX_true (l := l) h'
      exact ⟨e, List.mem_cons_of_mem _ he, r⟩
theorem cv_num {s : Sig} {x : SV} {a : Int} (h : x.num Nu.i = some a) : cv s x.av = .int .i64 a := by
  cases x with
  | lit n => cases h; rfl
  | sym i => cases h; rfl
  | bool b => cases h
theorem sv_wf (s : Sig) (n : Nat) (x : SV) : Wf s n x.av := by cases x <;> trivial
theorem sym_ok (op : BinOp) (t : TypeId) (ox oy : Operand) {f : C2} (hf : Ok2 P f (fun x y => do eqGuard op t ox oy x y; binOp op t x y)) : Ok2 P (symC (opN op) f) (fun x y => do eqGuard op t ox oy x y; binOp op t x y) := by
  intro X s h w x y k R hx hy e
  have e' : (Bool.rec (f x y h k) (findB (opN op) x y (fun r => k r h) Nt.tb) (or (isSym x) (isSym y)) : Bool) = true := e
  cases hc : or (isSym x) (isSym y) with
  | false => rw [hc] at e'; exact hf X s h w x y k R hx hy e'
  | true =>
    rw [hc] at e'
    obtain ⟨b, hb, hop, rfl, rfl, hk⟩ := findB_true e'
    obtain ⟨u, v, hu, hv, hr⟩ := Nu.okb b hb
    rw [hop] at hr
    refine ok_pure R hk ?_ (sv_wf s _ _)
    show (do eqGuard op t ox oy (cv s b.x.av) (cv s b.y.av); binOp op t (cv s b.x.av) (cv s b.y.av)).run P w = _
    rw [cv_num hu, cv_num hv]
    cases op <;> first
      | exact absurd hr id
      | (have hr' : b.r.num Nu.i = some _ := hr; rw [cv_num hr']; rfl)
      | (have hr' : b.r = .bool _ := hr; rw [hr']
         first
           | rfl
           | (show (binOp _ t (.int .i64 u) (.int .i64 v)).run P w = _; rw [binOp_int t _ (fun _ a b => Op.intCmp _ a b) (fun _ _ _ => rfl)]; rfl))
/-- a binary operation, with the guard of == -/
theorem bin_ok' [Fit P] (op : BinOp) (t : TypeId) (ox oy : Operand) : Ok2 P (binH' P op t (or (constO ox) (constO oy))).f (fun x y => do eqGuard op t ox oy x y; binOp op t x y) := by
  have other : ∀ {f : C2}, (∀ x y, eqGuard op t ox oy x y = pure ()) → Ok2 P f (binOp op t) → Ok2 P f (fun x y => do eqGuard op t ox oy x y; binOp op t x y) := by
    intro f hg hf X s h w x y k R hx hy e
    have := hf X s h w x y k R hx hy e
    show Good P X s h w k (do eqGuard op t ox oy (cv s x) (cv s y); binOp op t (cv s x) (cv s y))
    rw [hg]; exact this
  cases op with
  | add => exact other (fun _ _ => rfl) (addC_ok t)
  | sub => exact other (fun _ _ => rfl) (subC_ok t)
  | mul => exact other (fun _ _ => rfl) (mulC_ok t)
  | quo => exact other (fun _ _ => rfl) (quo_ok t)
  | rem => exact other (fun _ _ => rfl) (rem_ok t)
  | and => exact other (fun _ _ => rfl) (and_ok t)
  | or => exact other (fun _ _ => rfl) (or_ok t)
  | xor => exact other (fun _ _ => rfl) (xor_ok t)
  | andNot => exact other (fun _ _ => rfl) (andNot_ok t)
  | shl => exact other (fun _ _ => rfl) (shl_ok t)
  | shr => exact other (fun _ _ => rfl) (shr_ok t)
  | lss => exact other (fun _ _ => rfl) (lss_ok t)
  | leq => exact other (fun _ _ => rfl) (leq_ok t)
  | gtr => exact other (fun _ _ => rfl) (gtr_ok t)
  | geq => exact other (fun _ _ => rfl) (geq_ok t)
  | eql =>
    intro X s h w x y k R hx hy e
    obtain ⟨b, hk, hfree, hr⟩ := eqTop_ok s h.nx x y (fun b => k (.bool b) h) hx hy e
    refine ok_pure R (v := .bool b) hk ?_ trivial
    simp only [Sem.run_bind, hfree .eql ox oy w rfl, Result.andThen_ok]
    exact (hr w).1
  | neq =>
    intro X s h w x y k R hx hy e
    obtain ⟨b, hk, hfree, hr⟩ := eqTop_ok s h.nx x y (fun b => k (.bool (not b)) h) hx hy e
    refine ok_pure R (v := .bool (not b)) hk ?_ trivial
    simp only [Sem.run_bind, hfree .neq ox oy w rfl, Result.andThen_ok]
    exact (hr w).2
theorem bin_ok [Fit P] (op : BinOp) (t : TypeId) (ox oy : Operand) : Ok2 P (binH P op t (or (constO ox) (constO oy))).f (fun x y => do eqGuard op t ox oy x y; binOp op t x y) := by
  have := sym_ok op t ox oy (bin_ok' (P := P) op t ox oy)
  unfold binH
  cases hh : binH' P op t (or (constO ox) (constO oy)) with
  | mk f => rw [hh] at this; exact this
end
end Go.Rk
