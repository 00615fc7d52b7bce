/- The evaluator is right, part 4: operations whose order is open. No condition. -/
import Derived.OrdersHeld
import Derived.Test.YtncbkikenbcbdaaGreatDoorXbc
set_option linter.unusedVariables false
set_option linter.unusedSimpArgs false
set_option linter.unusedSectionVars false
set_option linter.constructorNameAsVariable false
namespace Go.Rk
open Go
set_option linter.unusedSectionVars false
variable [Nt] [Nu]
variable {P : Program} {ec : Ec}
/-! ## operations that only yield a value -/
def PureF (P : Program) (ec : Ec) (o : Oper) (f : F) : Prop := ∀ (t : Env) (h : AH), Det h (f.f ec t h) ∧
  ∀ (X : Nat → Prop) (s : Sig) (w : World) (nt : Nat) (a : Act) (k : K), Rel P X s h w → EnvOk s h.nx nt t a → f.f ec t h k = true → ∃ v, k v h = true ∧ Wf s h.nx v ∧ (execOp a.eval o).run P w = .ok (.value (cv s v)) w
theorem pure_no {o : Oper} : PureF P ec o oNo := fun _ _ => ⟨det_no, fun _ _ _ _ _ _ _ _ e => absurd e Bool.false_ne_true⟩
section
variable {o : Oper} {x y z : Operand}
theorem o1_run (v : V) (g : H1) (ec : Ec) (t : Env) (h : AH) : (o1 v g).f ec t h = g.f (v.f t) h := by cases v; cases g; rfl
theorem o2_run (v u : V) (g : H2) (ec : Ec) (t : Env) (h : AH) : (o2 v u g).f ec t h = g.f (v.f t) (u.f t) h := by cases v; cases u; cases g; rfl
theorem o3_run (v u r : V) (g : AV → AV → AV → AH → K → Bool) (ec : Ec) (t : Env) (h : AH) : (o3 v u r g).f ec t h = g (v.f t) (u.f t) (r.f t) h := by cases v; cases u; cases r; rfl
theorem oL_run (l : List V) (g : HL) (ec : Ec) (t : Env) (h : AH) : (oL l g).f ec t h = g.f (evL l t) h := by cases g; rfl
theorem oMv_run (v : V) (ec : Ec) (t : Env) (h : AH) : (oMv v).f ec t h = fun k => k (v.f t) h := by cases v; rfl
theorem run_val {m : Sem Value} {s : Sig} {w : World} {v : AV} {e : Sem Next} (hex : e = (do pure (.value (← m)))) (hr : m.run P w = .ok (cv s v) w) : e.run P w = .ok (.value (cv s v)) w := by
  rw [hex, Sem.run_bind, hr]; rfl
theorem pure_mv (hx : oprOk P x = true) (hex : ∀ ρ : Operand → Value, execOp ρ o = pure (.value (ρ x))) : PureF P ec o (oMv (pd x)) := by
  intro t h
  rw [oMv_run]
  refine ⟨det_go _, fun X s w nt a k R E e => ?_⟩
  obtain ⟨g, hg, h1, h2⟩ := pd_ok R E hx
  rw [hg] at e
  exact ⟨_, e, h2, by rw [hex, ← h1]; rfl⟩
theorem pure_1 {g : H1} {m : Value → Sem Value} (hx : oprOk P x = true) (hd : Det1 g.f) (hg : Ok1 P g.f m) (hex : ∀ ρ : Operand → Value, execOp ρ o = (do pure (.value (← m (ρ x))))) : PureF P ec o (o1 (pd x) g) := by
  intro t h
  rw [o1_run]
  refine ⟨hd _ _, fun X s w nt a k R E e => ?_⟩
  obtain ⟨gx, hgx, h1, h2⟩ := pd_ok R E hx
  rw [hgx] at e
  obtain ⟨v, hk, hr, hv⟩ := hg X s h w (gx t) k R h2 e
  rw [h1] at hr
  exact ⟨v, hk, hv, run_val (hex _) hr⟩
theorem pure_2 {g : H2} {m : Value → Value → Sem Value} (hx : oprOk P x = true) (hy : oprOk P y = true) (hd : Det2 g.f) (hg : Ok2 P g.f m) (hex : ∀ ρ : Operand → Value, execOp ρ o = (do pure (.value (← m (ρ x) (ρ y))))) : PureF P ec o (o2 (pd x) (pd y) g) := by
  intro t h
  rw [o2_run]
  refine ⟨hd _ _ _, fun X s w nt a k R E e => ?_⟩
  obtain ⟨gx, hgx, h1, h2⟩ := pd_ok R E hx
  obtain ⟨gy, hgy, h3, h4⟩ := pd_ok R E hy
  rw [hgx, hgy] at e
  obtain ⟨v, hk, hr, hv⟩ := hg X s h w (gx t) (gy t) k R h2 h4 e
  rw [h1, h3] at hr
  exact ⟨v, hk, hv, run_val (hex _) hr⟩
end
variable [Fit P]
theorem pure_build {o : Oper} {t : TypeId} {ps : Array (Nat × Operand)} (ho : o.op = .build t ps) (hp : ∀ x ∈ ps.toList.map (·.2), oprOk P x = true) (hz : zeroOk P t = true) : PureF P ec o (oL (ps2 ps) (buildH P t (ps1 ps))) := by
  intro te h
  rw [oL_run]
  refine ⟨det_build _ _ _ _, fun X s w nt a k R E e => ?_⟩
  rw [ps2_eq] at e
  obtain ⟨h1, h2⟩ := pdL_ok R E _ hp
  obtain ⟨v, hk, hr, hv⟩ := build_ok hz R h2 e (ps.map fun (i, x) => (i, a.eval x)) (by rw [h1, Array.toList_map]; exact ps_zip' ps.toList a)
  exact ⟨v, hk, hv, run_val (by simp only [execOp, ho]) hr⟩
theorem pure_makeFunc {o : Oper} {f : Fn} {l r : Array Operand} (ho : o.op = .makeFunc f l r) (hl : ∀ x ∈ l.toList, oprOk P x = true) (hr : ∀ x ∈ r.toList, oprOk P x = true) : PureF P ec o (oL (lapp (pds l) (pds r)) ⟨mkFn f l.size⟩) := by
  intro te h
  rw [oL_run]
  refine ⟨det_mkFn _ _ _ _, fun X s w nt a k R E e => ?_⟩
  obtain ⟨h1, h2⟩ := pds_ok R E l hl
  obtain ⟨h3, h4⟩ := pds_ok R E r hr
  have e' : mkFn f l.size (evL (lapp (pds l) (pds r)) te) h k = true := e
  rw [evL_lapp] at e'
  have hlen : (evL (pds l) te).length = l.size := by rw [evL_length]; unfold pds; rw [lmap_eq, List.length_map]; simp
  rw [← hlen] at e'
  obtain ⟨v, hk, hr', hv⟩ := mkFn_ok R h2 h4 e'
  rw [h1, h3] at hr'
  exact ⟨v, hk, hv, run_val (by simp only [execOp, ho]) hr'⟩
theorem oSlice_run (v : V) (lo hi : Option V) (g : SlK) (ec : Ec) (t : Env) (h : AH) : (oSlice v lo hi g).f ec t h = g.f (v.f t) (lo.map (fun u => u.f t)) (hi.map (fun u => u.f t)) h := by
  cases v; cases g
  cases lo with
  | none => cases hi with
    | none => rfl
    | some u => cases u; rfl
  | some u => cases u; cases hi with
    | none => rfl
    | some u => cases u; rfl
theorem pure_slice {o : Oper} {t : TypeId} {x : Operand} {lo hi : Option Operand} (ho : o.op = .slice t x lo hi none) (hx : oprOk P x = true) (hlo : ∀ y, lo = some y → oprOk P y = true) (hhi : ∀ y, hi = some y → oprOk P y = true) :
    PureF P ec o (oSlice (pd x) (pdO lo) (pdO hi) (sliceH P t)) := by
  intro te h
  rw [oSlice_run]
  refine ⟨det_slice t _ _ _ _, fun X s w nt a k R E e => ?_⟩
  obtain ⟨gx, hgx, h1, h2⟩ := pd_ok R E hx
  rw [hgx] at e
  have ob : ∀ (l : Option Operand), (∀ y, l = some y → oprOk P y = true) → ((pdO l).map (fun u => u.f te)).map (cv s) = l.map a.eval := by
    intro l hl
    cases l with
    | none => rfl
    | some y =>
      obtain ⟨gy, hgy, h3, _⟩ := pd_ok R E (hl y rfl)
      show some (cv s ((pd y).f te)) = some (a.eval y)
      rw [hgy, h3]
  obtain ⟨v, hk, hr, hv⟩ := slice_ok (P := P) t X s h w (gx te) _ _ k R h2 e
  rw [h1, ob lo hlo, ob hi hhi] at hr
  exact ⟨v, hk, hv, run_val (by simp only [execOp, ho, Option.map_none]) hr⟩
theorem pure_pick {o : Oper} {c x y : Operand} (ho : o.op = .pick c x y) (hc : oprOk P c = true) (hx : oprOk P x = true) (hy : oprOk P y = true) : PureF P ec o (o3 (pd c) (pd x) (pd y) pickC) := by
  intro te h
  rw [o3_run]
  refine ⟨det_pick _ _ _ _, fun X s w nt a k R E e => ?_⟩
  obtain ⟨gm, hgm, h1, h2⟩ := pd_ok R E hc
  obtain ⟨gx, hgx, h3, h4⟩ := pd_ok R E hx
  obtain ⟨gv, hgv, h5, h6⟩ := pd_ok R E hy
  rw [hgm, hgx, hgv] at e
  obtain ⟨v, hk, hr, hv⟩ := pick_ok R (c := gm te) (a := gx te) (b := gv te) h4 h6 e
  rw [h1, h3, h5] at hr
  exact ⟨v, hk, hv, run_val (m := do pure (if ← asBool (a.eval c) then a.eval x else a.eval y)) (by
    simp only [execOp, ho]
    cases a.eval c <;> rfl) hr⟩
theorem pure_nilCheck {o : Oper} {x : Operand} (ho : o.op = .nilCheck x) (hx : oprOk P x = true) : PureF P ec o (o1 (pd x) ⟨nilChk⟩) := by
  intro te h
  rw [o1_run]
  refine ⟨det_nilChk _ _, fun X s w nt a k R E e => ?_⟩
  obtain ⟨gx, hgx, h3, h4⟩ := pd_ok R E hx
  rw [hgx] at e
  obtain ⟨hk, hv⟩ := nilChk_ok R (x := gx te) h4 e
  have hex : execOp a.eval o = pure (.value (a.eval x)) := by
    simp only [execOp, ho]
    rw [← h3]
    rcases hv with ⟨b, u, hv⟩ | ⟨g, l, r, hv⟩
    · rw [hv]; rfl
    · rw [hv]; rfl
  exact ⟨_, hk, h4, by rw [hex, ← h3]; rfl⟩
theorem pure_onKey {o : Oper} {t : TypeId} {f : Kq → F} (hf : ∀ q kt el kd, Keyed P t q kt el kd → DetQ q → PureF P ec o (f q)) : PureF P ec o (onKey P t f) := by
  unfold onKey
  cases hd : tU P t with
  | map kt el =>
    obtain ⟨hu, _⟩ := tU_und hd (by simp)
    show PureF P ec o (TypeDesc.rec (motive := fun _ => F) _ _ _ _ _ _ _ _ _ _ _ _ _ _ _ _ _ (tU P kt) : F)
    cases hk : tU P kt with
    | int j => exact hf eqIn kt el (.int j) ⟨hu, (tU_und hk (by simp)).1, .inr ⟨j, rfl⟩, keyIn_ok j⟩ detQ_In
    | string => exact hf eqSt kt el .string ⟨hu, (tU_und hk (by simp)).1, .inl rfl, keySt_ok⟩ detQ_St
    | _ => exact pure_no
  | _ => exact pure_no
theorem pure_lookup {o : Oper} {t : TypeId} {x k : Operand} {ok : Bool} (ho : o.op = .lookup t x k ok) (hx : oprOk P x = true) (hk : oprOk P k = true) : PureF P ec o (prepOp P (.lookup t x k ok)) := by
  show PureF P ec o (match tU P t with | .map _ e => (Bool.rec (motive := fun _ => F) oNo (onKey P t (fun q => o2 (pd x) (pd k) ⟨lookC q ok (tZero P e)⟩)) (zeroOk P e)) | _ => oNo)
  cases hd : tU P t with
  | map kt e =>
    show PureF P ec o (Bool.rec (motive := fun _ => F) oNo (onKey P t (fun q => o2 (pd x) (pd k) ⟨lookC q ok (tZero P e)⟩)) (zeroOk P e))
    cases hz : zeroOk P e with
    | false => exact pure_no
    | true =>
      refine pure_onKey fun q kt' el kd K hq => ?_
      have hty := K.ty
      rw [(tU_und hd (by simp)).1] at hty
      cases hty
      exact pure_2 (g := ⟨lookC q ok (tZero P e)⟩) hx hk (det_look hq _ _) (look_ok K hz ok) (fun ρ => by simp only [execOp, ho])
  | _ => exact pure_no
section
variable {o : Oper} {c : Call} {b : Builtin}
theorem pure_b1 (ho : o.op = .call c) (hc : c.callee = .builtin b) (ha : ∀ x ∈ c.args.toList, oprOk P x = true) {v : V} {g : H1} {m : Value → Sem Value} (hv : pds c.args = [v]) (hd : Det1 g.f) (hg : Ok1 P g.f m)
    (hm : ∀ u : Value, ∀ cs, builtin b c.argTypes o.type cs #[u] = (do pure (.value (← m u)))) : PureF P ec o (o1 v g) := by
  obtain ⟨x, hx, rfl⟩ := lmap_pd1 hv
  have hargs := arr1 hx
  exact pure_1 (ha x (by rw [hx]; simp)) hd hg (fun ρ => exec_builtin ho hc ρ (m (ρ x)) (by rw [hargs, show (#[x] : Array Operand).map ρ = #[ρ x] by simp]; exact hm (ρ x) _))
theorem pure_b2 (ho : o.op = .call c) (hc : c.callee = .builtin b) (ha : ∀ x ∈ c.args.toList, oprOk P x = true) {v u : V} {g : H2} {m : Value → Value → Sem Value} (hv : pds c.args = [v, u]) (hd : Det2 g.f) (hg : Ok2 P g.f m)
    (hm : ∀ p q : Value, ∀ cs, builtin b c.argTypes o.type cs #[p, q] = (do pure (.value (← m p q)))) : PureF P ec o (o2 v u g) := by
  obtain ⟨x, y, hx, rfl, rfl⟩ := lmap_pd2 hv
  have hargs := arr2 hx
  exact pure_2 (ha x (by rw [hx]; simp)) (ha y (by rw [hx]; simp)) hd hg (fun ρ => exec_builtin ho hc ρ (m (ρ x) (ρ y)) (by rw [hargs, show (#[x, y] : Array Operand).map ρ = #[ρ x, ρ y] by simp]; exact hm (ρ x) (ρ y) _))
theorem pure_bL (ho : o.op = .call c) (hc : c.callee = .builtin b) (ha : ∀ x ∈ c.args.toList, oprOk P x = true) {f : List AV → AH → K → Bool} {m : Array Value → Sem Value} (hd : ∀ l h, Det h (f l h))
    (hf : ∀ (X : Nat → Prop) (s : Sig) (h : AH) (w : World) (l : List AV) (k : K), Rel P X s h w → WfL s h.nx l → f l h k = true → Good P X s h w k (m (cvL s l).toArray))
    (hm : ∀ (us : Array Value) cs, builtin b c.argTypes o.type cs us = (do pure (.value (← m us)))) : PureF P ec o (oL (pds c.args) ⟨f⟩) := by
  intro te h
  rw [oL_run]
  refine ⟨hd _ _, fun X s w nt a k R E e => ?_⟩
  obtain ⟨h1, h2⟩ := pds_ok R E c.args ha
  obtain ⟨v, hk, hr, hv⟩ := hf X s h w _ k R h2 e
  rw [h1] at hr
  exact ⟨v, hk, hv, run_val (exec_builtin ho hc a.eval _ (hm _ _)) hr⟩
def pureB : Builtin → Bool | .len | .cap | .complex | .real | .imag | .max | .min | .unsafeSliceData => true | _ => false
theorem pure_builtin (ho : o.op = .call c) (hc : c.callee = .builtin b) (hb : pureB b = true) (ha : ∀ x ∈ c.args.toList, oprOk P x = true) : PureF P ec o (builtinF P b c.argTypes.toList (pds c.args)) := by
  cases b <;> try exact absurd hb Bool.false_ne_true
  case len =>
    show PureF P ec o (match c.argTypes.toList with | [t] => (match pds c.args with | [x] => o1 x (lenH P t) | _ => oNo) | _ => oNo)
    split
    · rename_i t ht
      split
      · rename_i x hv
        exact pure_b1 ho hc ha hv (det_len t) (len_ok t (ts := #[t]) rfl o.type) (fun p cs => by rw [arrT1 ht]; rfl)
      · exact pure_no
    · exact pure_no
  case cap =>
    show PureF P ec o (match c.argTypes.toList with | [t] => (match pds c.args with | [x] => o1 x (capH P t) | _ => oNo) | _ => oNo)
    split
    · rename_i t ht
      split
      · rename_i x hv
        exact pure_b1 ho hc ha hv (det_cap t) (cap_ok t (ts := #[t]) rfl o.type) (fun p cs => by rw [arrT1 ht]; rfl)
      · exact pure_no
    · exact pure_no
  case complex =>
    show PureF P ec o (match pds c.args with | [x, y] => o2 x y ⟨cplxC⟩ | _ => oNo)
    split
    · rename_i x y hv
      exact pure_b2 ho hc ha hv (g := ⟨cplxC⟩) det_cplx (cplx_ok c.argTypes o.type) (fun p q cs => rfl)
    · exact pure_no
  case real =>
    show PureF P ec o (match pds c.args with | [x] => o1 x ⟨realC⟩ | _ => oNo)
    split
    · rename_i x hv
      exact pure_b1 ho hc ha hv (g := ⟨realC⟩) det_real (real_ok c.argTypes o.type) (fun p cs => rfl)
    · exact pure_no
  case imag =>
    show PureF P ec o (match pds c.args with | [x] => o1 x ⟨imagC⟩ | _ => oNo)
    split
    · rename_i x hv
      exact pure_b1 ho hc ha hv (g := ⟨imagC⟩) det_imag (imag_ok c.argTypes o.type) (fun p cs => rfl)
    · exact pure_no
  case max => exact pure_bL ho hc ha (m := fun us => Builtin.max_ c.argTypes o.type us) (fun l h => det_fold detK_max2 l h) (fun X s h w l k R hl e => max_ok c.argTypes o.type R hl e) (fun us cs => rfl)
  case min => exact pure_bL ho hc ha (m := fun us => Builtin.min_ c.argTypes o.type us) (fun l h => det_fold detK_min2 l h) (fun X s h w l k R hl e => min_ok c.argTypes o.type R hl e) (fun us cs => rfl)
  case unsafeSliceData =>
    show PureF P ec o (match pds c.args with | [x] => o1 x ⟨sdC⟩ | _ => oNo)
    split
    · rename_i x hv
      exact pure_b1 ho hc ha hv (g := ⟨sdC⟩) det_sd (sd_ok (ts := c.argTypes) o.type) (fun p cs => rfl)
    · exact pure_no
end
theorem prep_pure (o : Oper) (hk : kindOf P o.op ≤ 1) (hop : ∀ x ∈ o.op.operands.toList, oprOk P x = true) : PureF P ec o (prepOp P o.op) := by
  obtain ⟨dst, op, type, pos, after, guard⟩ := o
  cases op with
  | move x => exact pure_mv (hop x (by simp [Op.operands])) (fun ρ => rfl)
  | assign x => exact pure_mv (hop x (by simp [Op.operands])) (fun ρ => rfl)
  | pick c x y => exact pure_pick rfl (hop c (by simp [Op.operands])) (hop x (by simp [Op.operands])) (hop y (by simp [Op.operands]))
  | build t ps =>
    show PureF P ec _ (Bool.rec (motive := fun _ => F) oNo (oL (ps2 ps) (buildH P t (ps1 ps))) (zeroOk P t))
    cases hz : zeroOk P t with
    | false => exact pure_no
    | true => exact pure_build rfl (fun x hx => hop x (by simpa [Op.operands] using hx)) hz
  | load t x => exact pure_1 (hop x (by simp [Op.operands])) (det_load t) (load_ok t) (fun ρ => rfl)
  | nilCheck x => exact pure_nilCheck rfl (hop x (by simp [Op.operands]))
  | binOp op t x y u => exact pure_2 (hop x (by simp [Op.operands])) (hop y (by simp [Op.operands])) (det_binH op t _) (bin_ok op t x y) (fun ρ => rfl)
  | unOp op t x => exact pure_1 (hop x (by simp [Op.operands])) (det_unH op) (un_ok op) (fun ρ => rfl)
  | convert a b x =>
    have hns : ∀ e, tU P b ≠ .slice e := by
      intro e he
      have : kindOf P (.convert a b x) = 3 := by unfold kindOf; simp only [he]
      rw [this] at hk; omega
    exact pure_1 (hop x (by simp [Op.operands])) (det_conv a b hns) (conv_ok a b hns) (fun ρ => rfl)
  | makeInterface t x =>
    show PureF P ec _ (TypeDesc.rec (motive := fun _ => F) _ _ _ _ _ _ _ _ _ _ _ _ _ _ _ _ _ (tU P t))
    have key : ∀ d, tU P t = d → (∀ ms, d ≠ .interface ms) → d ≠ .invalid → PureF P ec ⟨dst, .makeInterface t x, type, pos, after, guard⟩ (o1 (pd x) ⟨mkI t⟩) := by
      intro d hd hi hv
      obtain ⟨_, ht⟩ := tU_und hd hv
      exact pure_1 (g := ⟨mkI t⟩) (hop x (by simp [Op.operands])) (det_mkI t) (mkI_ok ht (fun ms hq => hi ms (hd.symm.trans hq))) (fun ρ => rfl)
    cases hd : tU P t <;> first | exact pure_no | exact key _ hd (by simp) (by simp)
  | makeFunc f l r => exact pure_makeFunc rfl (fun x hx => hop x (by simp [Op.operands]; exact .inl (by simpa using hx))) (fun x hx => hop x (by simp [Op.operands]; exact .inr (by simpa using hx)))
  | slice t x lo hi mx =>
    cases mx with
    | some m => exact pure_no
    | none => exact pure_slice rfl (hop x (by simp [Op.operands])) (fun y hy => hop y (by subst hy; simp [Op.operands])) (fun y hy => hop y (by subst hy; simp [Op.operands]))
  | fieldAddr t x f =>
    show PureF P ec _ (oOpt (fieldOf P t f) (fun fl => Nat.rec (motive := fun _ => F) oNo (fun _ _ => o1 (pd x) ⟨fAddr fl.offset⟩) (tSize P fl.type)))
    cases hf : fieldOf P t f with
    | none => exact pure_no
    | some fl =>
      show PureF P ec _ (Nat.rec (motive := fun _ => F) oNo (fun _ _ => o1 (pd x) ⟨fAddr fl.offset⟩) (tSize P fl.type))
      cases hz : tSize P fl.type with
      | zero => exact pure_no
      | succ m => exact pure_1 (g := ⟨fAddr fl.offset⟩) (hop x (by simp [Op.operands])) (det_fAddr _) (fAddr_ok hf hz) (fun ρ => rfl)
  | field t x f =>
    show PureF P ec _ (oOpt (fieldOf P t f) (fun fl => o1 (pd x) ⟨fieldC P fl.type fl.offset⟩))
    cases hf : fieldOf P t f with
    | none => exact pure_no
    | some fl => exact pure_1 (g := ⟨fieldC P fl.type fl.offset⟩) (hop x (by simp [Op.operands])) (det_fieldC _ _) (fieldC_ok hf) (fun ρ => rfl)
  | indexAddr t x i => exact pure_2 (hop x (by simp [Op.operands])) (hop i (by simp [Op.operands])) (det_idxAddr t) (idxAddr_ok t) (fun ρ => rfl)
  | index t x i => exact pure_2 (hop x (by simp [Op.operands])) (hop i (by simp [Op.operands])) (det_index t) (index_ok t) (fun ρ => rfl)
  | lookup t x k ok => exact pure_lookup rfl (hop x (by simp [Op.operands])) (hop k (by simp [Op.operands]))
  | extract x i => exact pure_1 (g := ⟨extC i⟩) (hop x (by simp [Op.operands])) (det_ext i) (ext_ok i) (fun ρ => rfl)
  | call c =>
    have hargs := call_args (P := P) (c := c) (fun x hx => hop x hx)
    show PureF P ec _ (callF P c)
    unfold callF
    cases hc : c.callee with
    | builtin b =>
      have hb : pureB b = true := by
        have key : kindOf P (.call c) ≤ 1 := hk
        unfold kindOf at key
        simp only [hc] at key
        cases b <;> first | rfl | exact absurd key (by decide)
      exact pure_builtin rfl hc hb hargs
    | invoke r m => exact pure_no
    | value f =>
      have key : kindOf P (.call c) ≤ 1 := hk
      unfold kindOf at key
      simp only [hc] at key
      exact absurd key (by decide)
  | makeMap t r => cases r <;> first | exact absurd (show 3 ≤ 1 from hk) (by decide) | exact absurd (show 2 ≤ 1 from hk) (by decide)
  | _ => first | exact absurd (show 3 ≤ 1 from hk) (by decide) | exact absurd (show 2 ≤ 1 from hk) (by decide)
end Go.Rk

namespace Go.Rk
open Go
set_option linter.unusedSectionVars false
variable [Nt] [Nu]
/-! ## whatever order is drawn -/
section
variable {P : Program} {ops : Array Oper} {Q : Exit → Act → World → Prop}
/-- an operation waits for another -/
def Dir (ops : Array Oper) (y x : Nat) : Prop := ∃ o e, ops[y]? = some o ∧ e ∈ o.after ∧ Region.binds .any e = true ∧ e.on = x
inductive Dep (ops : Array Oper) : Nat → Nat → Prop
  | one {y x : Nat} : Dir ops y x → Dep ops y x
  | step {y z x : Nat} : Dir ops y z → Dep ops z x → Dep ops y x
def Closed (ops : Array Oper) (l : Array Bool) : Prop := ∀ z x, l.getD z false = true → Dep ops z x → l.getD x false = true
theorem ready_dir {l : Array Bool} {j x : Nat} (hj : j ∈ Region.ready .any ops l) (hd : Dir ops j x) : l.getD x false = true := by
  obtain ⟨o, e, ho, he, hb, rfl⟩ := hd
  obtain ⟨_, oj, hoj, hall⟩ := mem_ready.1 hj
  rw [ho] at hoj; cases hoj
  exact hall e he hb
theorem ready_dep {l : Array Bool} (hc : Closed ops l) {j x : Nat} (hj : j ∈ Region.ready .any ops l) (hd : Dep ops j x) : l.getD x false = true := by
  cases hd with
  | one h => exact ready_dir hj h
  | step h h' => exact hc _ _ (ready_dir hj h) h'
theorem getD_tf (l : Array Bool) (i : Nat) : (l.getD i true = false) → l.getD i false = false := by
  rw [Array.getD_eq_getD_getElem?, Array.getD_eq_getD_getElem?]
  cases l[i]? <;> simp
theorem lt_of_un {l : Array Bool} {i : Nat} (h : l.getD i true = false) : i < l.size := by
  rcases Nat.lt_or_ge i l.size with h' | h'
  · exact h'
  · rw [Array.getD_eq_getD_getElem?, Array.getElem?_eq_none h'] at h; cases h
theorem getD_set (l : Array Bool) (i z : Nat) (d : Bool) (hi : i < l.size) : (l.setIfInBounds i true).getD z d = if z = i then true else l.getD z d := by
  rw [Array.getD_eq_getD_getElem?, Array.getD_eq_getD_getElem?, Array.getElem?_setIfInBounds]
  by_cases e : z = i
  · subst e; rw [if_pos rfl, if_pos hi, if_pos rfl]; rfl
  · rw [if_neg (Ne.symm e), if_neg e]
theorem Closed.set {l : Array Bool} (hc : Closed ops l) {j : Nat} (hj : j ∈ Region.ready .any ops l) : Closed ops (l.setIfInBounds j true) := by
  have hlt := lt_of_un (mem_ready.1 hj).1
  intro z x hz hd
  rw [getD_set _ _ _ _ hlt] at hz ⊢
  by_cases e : x = j
  · rw [if_pos e]
  · rw [if_neg e]
    by_cases e' : z = j
    · subst e'; exact ready_dep hc hj hd
    · rw [if_neg e'] at hz; exact hc z x hz hd

/-- whatever order is picked from here on, with a condition on the world behind every operation -/
def wpAnyF (P : Program) (ops : Array Oper) (Q : Exit → Act → World → Prop) (F : Array Bool → World → Prop) : Nat → Array Bool → Act → World → Prop
  | 0, l, a, w => Region.ready .any ops l = [] ∧ Q .normal a w
  | fuel + 1, l, a, w => (Region.ready .any ops l = [] → Q .normal a w) ∧
    ∀ i ∈ Region.ready .any ops l, wpOp P ops Q i (fun a' w' => F (l.setIfInBounds i true) w' ∧ wpAnyF P ops Q F fuel (l.setIfInBounds i true) a' w') a w
theorem wpAny_ofF {F : Array Bool → World → Prop} : ∀ (fuel : Nat) (l : Array Bool) (a : Act) (w : World), wpAnyF P ops Q F fuel l a w → wpAny P .any ops Q fuel l a w
  | 0, _, _, _, h => h
  | fuel + 1, _, _, _, h => ⟨h.1, fun i hi => wpOp_mono (fun a' w' h' => wpAny_ofF fuel _ a' w' h'.2) (h.2 i hi)⟩
theorem wpAnyF_mono {F G : Array Bool → World → Prop} (hFG : ∀ l w, F l w → G l w) : ∀ (fuel : Nat) (l : Array Bool) (a : Act) (w : World), wpAnyF P ops Q F fuel l a w → wpAnyF P ops Q G fuel l a w
  | 0, _, _, _, h => h
  | fuel + 1, _, _, _, h => ⟨h.1, fun i hi => wpOp_mono (fun a' w' h' => ⟨hFG _ _ h'.1, wpAnyF_mono hFG fuel _ a' w' h'.2⟩) (h.2 i hi)⟩
/-- an operation that yields one and the same value as long as `S` holds may be taken first -/
theorem take_first {i : Nat} {oi : Oper} {v : Value} (hi : ops[i]? = some oi) (hsel : ∀ (j : Nat) (o : Oper) cs b, ops[j]? = some o → o.op ≠ .select cs b) (hQ : ∀ c a w, ¬ Q (.panic c) a w)
    {S : World → Prop} {F : Array Bool → World → Prop} {I J : Array Bool → Prop} (hF : ∀ l w, I l → F (l.setIfInBounds i true) w → F l w) (hF' : ∀ l w, I l → F l w → F (l.setIfInBounds i true) w)
    (hI : ∀ l j, I l → j ∈ Region.ready .any ops l → j ≠ i → I (l.setIfInBounds j true)) (hJ : ∀ l, I l → J (l.setIfInBounds i true)) :
    ∀ (fuel : Nat) (l : Array Bool) (a : Act) (w : World),
      (∀ j oj, ops[j]? = some oj → j ≠ i → l.getD j true = false → (∀ e ∈ oj.after, Region.binds .any e = true → e.on ≠ i) → oi.apart ops oj = true) →
      i ∈ Region.ready .any ops l → I l → YieldsIf P ops S oi v a → S w → F l w →
      wpAnyF P ops Q (fun l w => F l w ∧ (J l → S w)) fuel (l.setIfInBounds i true) (a.put oi.dst v) w → wpAnyF P ops Q F (fuel + 1) l a w
  | fuel, l, a, w, hfree, hr, hIl, hy, hS, hFl, H => by
    refine ⟨fun h => (by rw [h] at hr; cases hr), fun j hj => ?_⟩
    by_cases hji : j = i
    · subst hji
      exact hy.wpOp hi hS ⟨hF' l w hIl hFl, wpAnyF_mono (fun _ _ h => h.1) _ _ _ _ H⟩
    · cases fuel with
      | zero =>
        have := ready_mono hj hji
        rw [H.1] at this
        cases this
      | succ fuel =>
        have h1 := H.2 j (ready_mono hj hji)
        obtain ⟨hjun, oj, hoj, hall⟩ := mem_ready.1 hj
        have hnot : ∀ e ∈ oj.after, Region.binds .any e = true → e.on ≠ i := fun e he hb heq => by
          have h2 := hall e he hb
          have h0 := getD_tf _ _ (mem_ready.1 hr).1
          rw [heq, h0] at h2
          cases h2
        have h2 := wpOp_putIf hoj (hfree j oj hoj hji hjun hnot) (fun cs b => hsel i oi cs b hi) (fun cs b => hsel j oj cs b hoj) (fun c a w h => absurd h (hQ _ _ _)) hy h1
        have hfree' : ∀ k ok, ops[k]? = some ok → k ≠ i → (l.setIfInBounds j true).getD k true = false → (∀ e ∈ ok.after, Region.binds .any e = true → e.on ≠ i) → oi.apart ops ok = true := fun k ok hk hki hun hno => by
          refine hfree k ok hk hki ?_ hno
          rw [getD_set _ _ _ _ (lt_of_un hjun)] at hun
          by_cases e : k = j
          · rw [if_pos e] at hun; cases hun
          · rw [if_neg e] at hun; exact hun
        have hIj := hI l j hIl hj hji
        refine wpOp_mono (fun a' w' h3 => ?_) h2
        obtain ⟨hya, ⟨hFw, hSw⟩, hrest⟩ := h3
        rw [Array.setIfInBounds_comm _ _ (Ne.symm hji)] at hFw hSw hrest
        have hFj := hF _ _ hIj hFw
        exact ⟨hFj, take_first hi hsel hQ hF hF' hI hJ fuel (l.setIfInBounds j true) a' w' hfree' (ready_mono hr (Ne.symm hji)) hIj hya (hSw (hJ _ hIj)) hFj hrest⟩

/-! ### frames -/
/-- what an operation has looked at: a block, as it was -/
structure Fr where
  y : Nat
  b : Option Nat
  ob : Option Obj
def Fr.S (f : Fr) (w : World) : Prop := (∀ b, f.b = some b → w.heap[b]? = f.ob) ∧ LookB w
/-- nothing that may act and has come up waits for it -/
def Free' (ops : Array Oper) (isW : Nat → Bool) (l : Array Bool) (y : Nat) : Prop := ∀ z, l.getD z false = true → isW z = true → ¬ Dep ops z y
def FA (ops : Array Oper) (isW : Nat → Bool) (A : List Fr) (l : Array Bool) (w : World) : Prop := ∀ f ∈ A, Free' ops isW l f.y → f.S w
theorem free_set {isW : Nat → Bool} {l : Array Bool} {i y : Nat} (hi : i < l.size) (hw : isW i = false) : Free' ops isW (l.setIfInBounds i true) y ↔ Free' ops isW l y := by
  constructor
  · intro h z hz hwz
    refine h z ?_ hwz
    rw [getD_set _ _ _ _ hi]
    by_cases e : z = i
    · rw [if_pos e]
    · rw [if_neg e]; exact hz
  · intro h z hz hwz
    rw [getD_set _ _ _ _ hi] at hz
    by_cases e : z = i
    · subst e; rw [hw] at hwz; cases hwz
    · rw [if_neg e] at hz; exact h z hz hwz
/-- the law, with frames -/
theorem take_L {isW : Nat → Bool} {A : List Fr} {f : Fr} {oi : Oper} {v : Value} {fuel : Nat} {l : Array Bool} {a : Act} {w : World} (hi : ops[f.y]? = some oi) (hw : isW f.y = false)
    (hsel : ∀ (j : Nat) (o : Oper) cs b, ops[j]? = some o → o.op ≠ .select cs b) (hQ : ∀ c a w, ¬ Q (.panic c) a w)
    (hfree : ∀ j oj, ops[j]? = some oj → j ≠ f.y → l.getD j true = false → (∀ e ∈ oj.after, Region.binds .any e = true → e.on ≠ f.y) → oi.apart ops oj = true)
    (hr : f.y ∈ Region.ready .any ops l) (hc : Closed ops l) (hy : YieldsIf P ops f.S oi v a) (hS : f.S w) (hF : FA ops isW A l w)
    (H : wpAnyF P ops Q (FA ops isW (f :: A)) fuel (l.setIfInBounds f.y true) (a.put oi.dst v) w) : wpAnyF P ops Q (FA ops isW A) (fuel + 1) l a w := by
  refine take_first (S := f.S) (I := fun l => l.getD f.y true = false ∧ Closed ops l) (J := fun l => Free' ops isW l f.y) hi hsel hQ ?_ ?_ ?_ ?_ fuel l a w hfree hr ⟨(mem_ready.1 hr).1, hc⟩ hy hS hF (wpAnyF_mono (fun l w h => ?_) _ _ _ _ H)
  · exact fun l w hI h g hg hfr => h g hg ((free_set (lt_of_un hI.1) hw).2 hfr)
  · exact fun l w hI h g hg hfr => h g hg ((free_set (lt_of_un hI.1) hw).1 hfr)
  · intro l j hI hj hji
    refine ⟨?_, hI.2.set hj⟩
    rw [getD_set _ _ _ _ (lt_of_un (mem_ready.1 hj).1), if_neg (Ne.symm hji)]
    exact hI.1
  · intro l hI
    rw [free_set (lt_of_un hI.1) hw]
    intro z hz _ hd
    have := hI.2 z _ hz hd
    rw [getD_tf _ _ hI.1] at this
    cases this
  · exact ⟨fun g hg => h g (List.mem_cons_of_mem _ hg), fun hfr => h f (List.mem_cons_self ..) hfr⟩
end
end Go.Rk

namespace Go.Rk
open Go
set_option linter.unusedSectionVars false
variable [Nt] [Nu]
/-! ## sets of numbers as bits -/
theorem testBit_pow (i j : Nat) : (Nat.pow 2 i).testBit j = decide (i = j) := by
  show (2 ^ i).testBit j = _
  rw [Nat.testBit_two_pow]
theorem testBit_lor (a b j : Nat) : (Nat.lor a b).testBit j = (a.testBit j || b.testBit j) := Nat.testBit_or a b j
theorem testBit_land (a b j : Nat) : (Nat.land a b).testBit j = (a.testBit j && b.testBit j) := Nat.testBit_and a b j
theorem bitsN_iff (l : List Nat) (z : Nat) : (bitsN l).testBit z = true ↔ z ∈ l := by
  induction l with
  | nil => show (0 : Nat).testBit z = true ↔ _; simp
  | cons x l ih =>
    show (Nat.lor (Nat.pow 2 x) (bitsN l)).testBit z = true ↔ _
    rw [testBit_lor, testBit_pow, Bool.or_eq_true, ih]
    simp only [decide_eq_true_eq, List.mem_cons]
    exact ⟨fun h => h.imp Eq.symm id, fun h => h.imp Eq.symm id⟩
theorem land_zero {a b : Nat} (h : Nat.beq (Nat.land a b) 0 = true) (z : Nat) (ha : a.testBit z = true) : b.testBit z = false := by
  have := Nat.eq_of_beq_eq_true h
  have ht : (Nat.land a b).testBit z = false := by rw [this]; simp
  rw [testBit_land, ha] at ht
  simpa using ht
theorem land_sub {a b : Nat} (h : Nat.beq (Nat.land a b) a = true) (z : Nat) (ha : a.testBit z = true) : b.testBit z = true := by
  have := Nat.eq_of_beq_eq_true h
  have ht : (Nat.land a b).testBit z = true := by rw [this]; exact ha
  rw [testBit_land, ha] at ht
  simpa using ht
theorem or_true' {a b : Bool} (e : or a b = true) : a = true ∨ b = true := by cases a <;> cases b <;> simp_all
theorem not_true' {a : Bool} (e : not a = true) : a = false := by cases a <;> simp_all
theorem lfilter_eq {α : Type} (f : α → Bool) (l : List α) : lfilter f l = l.filter f := by
  induction l with
  | nil => rfl
  | cons x l ih =>
    show (Bool.rec (motive := fun _ => List α) (lfilter f l) (x :: lfilter f l) (f x)) = _
    cases h : f x <;> simp [h, ih]
theorem binds_eq (e : Edge) : bindsA e = Region.binds .any e := by
  unfold bindsA Region.binds
  cases e.ground <;> rfl
section
variable {P : Program} {ops : Array Oper}
theorem predL_iff {o : Oper} {x : Nat} (z : Nat) (ho : ops[x]? = some o) : z ∈ predL o ↔ Dir ops x z := by
  unfold predL
  rw [lmap_eq, lfilter_eq, List.mem_map]
  constructor
  · rintro ⟨e, he, rfl⟩
    rw [List.mem_filter] at he
    exact ⟨o, e, ho, by simpa using he.1, by rw [← binds_eq]; exact he.2, rfl⟩
  · rintro ⟨o', e, ho', he, hb, rfl⟩
    rw [ho] at ho'; cases ho'
    exact ⟨e, by rw [List.mem_filter]; exact ⟨by simpa using he, by rw [binds_eq]; exact hb⟩, rfl⟩
/-- an operation that is what it says -/
def WfI (P : Program) (ops : Array Oper) (x : OpI) : Prop := x = opI P ops x.i x.o ∧ ops[x.i]? = some x.o
theorem WfI.pm {x : OpI} (h : WfI P ops x) (z : Nat) : x.pm.testBit z = true ↔ Dir ops x.i z := by
  have : x.pm = bitsN (predL x.o) := by rw [h.1]; rfl
  rw [this, bitsN_iff, predL_iff z h.2]
theorem WfI.lm {x : OpI} (h : WfI P ops x) (z : Nat) : x.lm.testBit z = true ↔ z ∈ x.o.looksAt ops := by
  have : x.lm = bitsN (x.o.looksAt ops) := by rw [h.1]; rfl
  rw [this, bitsN_iff]
theorem WfI.dm {x : OpI} (h : WfI P ops x) (z : Nat) : x.dm.testBit z = true ↔ x.o.dst = some z := by
  have : x.dm = (match x.o.dst with | some d => Nat.pow 2 d | none => 0) := by rw [h.1]; rfl
  rw [this]
  cases x.o.dst with
  | none => simp
  | some d => simp only []; rw [testBit_pow]; simp
theorem WfI.kind {x : OpI} (h : WfI P ops x) : x.kind = kindG P x.o := by rw [h.1]; rfl
theorem apartI_ok {x y : OpI} (hx : WfI P ops x) (hy : WfI P ops y) (h : apartI x y = true) :
    (∀ d, x.o.dst = some d → d ∉ y.o.looksAt ops) ∧ (∀ d, x.o.dst = some d → y.o.dst ≠ some d) ∧ (∀ d, y.o.dst = some d → d ∉ x.o.looksAt ops) := by
  obtain ⟨h1, h2⟩ := and_true' h
  refine ⟨fun d hd hm => ?_, fun d hd hd' => ?_, fun d hd hm => ?_⟩
  · have := land_zero h1 d ((hx.dm d).2 hd)
    rw [testBit_lor, (hy.lm d).2 hm] at this
    simp at this
  · have := land_zero h1 d ((hx.dm d).2 hd)
    rw [testBit_lor, (hy.dm d).2 hd'] at this
    simp at this
  · have := land_zero h2 d ((hy.dm d).2 hd)
    rw [(hx.lm d).2 hm] at this
    cases this
theorem apart_of {x y : Oper} (h : (∀ d, x.dst = some d → d ∉ y.looksAt ops) ∧ (∀ d, x.dst = some d → y.dst ≠ some d) ∧ (∀ d, y.dst = some d → d ∉ x.looksAt ops)) : x.apart ops y = true := by
  obtain ⟨h1, h2, h3⟩ := h
  unfold Oper.apart
  rw [Bool.and_eq_true]
  constructor
  · cases hd : x.dst with
    | none => rfl
    | some d =>
      have ha := h1 d hd
      have hb := h2 d hd
      simp [ha, hb]
  · cases hd : y.dst with
    | none => rfl
    | some d =>
      have ha := h3 d hd
      simp [ha]
/-! ## what the check of a plan says -/
structure AccOk (P : Program) (ops : Array Oper) (acc : Acc) (pl : Nat) : Prop where
  wf : ∀ y ∈ acc, WfI P ops y.1
  dep : ∀ y ∈ acc, ∀ z, y.2.testBit z = true → Dep ops y.1.i z
  pre : ∀ y ∈ acc, ∀ z, Dir ops y.1.i z → ∃ y' ∈ acc, y'.1.i = z
  pl : ∀ i, pl.testBit i = true ↔ ∃ y ∈ acc, y.1.i = i
theorem maskI_dep {acc : Acc} {pl : Nat} (A : AccOk P ops acc pl) {x : OpI} (hx : WfI P ops x) (z : Nat) (h : (maskI acc x.pm).testBit z = true) : Dep ops x.i z := by
  have key : ∀ l : Acc, (∀ y ∈ l, y ∈ acc) → (maskI l x.pm).testBit z = true → Dep ops x.i z := by
    intro l
    induction l with
    | nil => intro _ h; exact .one ((hx.pm z).1 h)
    | cons y l ih =>
      intro hl h
      have h' : (Bool.rec (motive := fun _ => Nat) (maskI l x.pm) (Nat.lor y.2 (maskI l x.pm)) (Nat.testBit x.pm y.1.i)).testBit z = true := h
      cases hb : Nat.testBit x.pm y.1.i with
      | false => rw [hb] at h'; exact ih (fun y hy => hl y (List.mem_cons_of_mem _ hy)) h'
      | true =>
        rw [hb] at h'
        have h2 : (Nat.lor y.2 (maskI l x.pm)).testBit z = true := h'
        rw [testBit_lor, Bool.or_eq_true] at h2
        rcases h2 with h2 | h2
        · exact .step ((hx.pm _).1 hb) (A.dep y (hl y (List.mem_cons_self ..)) z h2)
        · exact ih (fun y hy => hl y (List.mem_cons_of_mem _ hy)) h2
  exact key acc (fun _ h => h) h
/-- how a later operation stands to an earlier one -/
structure Later (ops : Array Oper) (j y : OpI) : Prop where
  ne : j.i ≠ y.i
  dep : j.kind = 2 ∨ y.kind ≤ 1 ∨ Dep ops j.i y.i
  apart : y.kind ≤ 1 → Dir ops j.i y.i ∨ y.o.apart ops j.o = true
  early : j.kind = 2 → (Dir ops j.i y.i → y.kind ≠ 2) ∧ (¬ Dir ops j.i y.i → j.o.apart ops y.o = true)
  look : y.kind = 1 → ∀ d, lookO y.o.op = some (.tmp d) → j.o.dst ≠ some d
theorem isL_iff {x : OpI} : isL x = true ↔ x.kind ≤ 1 := by show Nat.ble x.kind 1 = true ↔ _; rw [Nat.ble_eq]
theorem lookM_bit {o : Op} {d : Nat} (h : lookO o = some (.tmp d)) : (lookM o).testBit d = true := by
  unfold lookM; rw [h]; simp only []; rw [testBit_pow]; simp
theorem chk1_ok {acc : Acc} {pl : Nat} (A : AccOk P ops acc pl) {x : OpI} (hx : WfI P ops x) (h : chk1 x (maskI acc x.pm) acc pl = true) :
    AccOk P ops ((x, maskI acc x.pm) :: acc) (Nat.lor pl (Nat.pow 2 x.i)) ∧ (∀ z, Dir ops x.i z → ∃ y ∈ acc, y.1.i = z) ∧ (∀ y ∈ acc, Later ops x y.1) ∧ (x.kind = 1 → ∀ d, lookO x.o.op = some (.tmp d) → x.o.dst ≠ some d) := by
  obtain ⟨h124, h3⟩ := and_true' h
  obtain ⟨h12, h5⟩ := and_true' h124
  obtain ⟨h1, h2⟩ := and_true' h12
  have h1' := not_true' h1
  have hpre : ∀ z, Dir ops x.i z → ∃ y ∈ acc, y.1.i = z := fun z hz => (A.pl z).1 (land_sub h2 z ((hx.pm z).2 hz))
  refine ⟨⟨fun y hy => ?_, fun y hy z hz => ?_, fun y hy z hz => ?_, fun i => ?_⟩, hpre, fun y hy => ?_, fun hk d hd hdst => ?_⟩
  · rcases List.mem_cons.1 hy with rfl | hy
    · exact hx
    · exact A.wf y hy
  · rcases List.mem_cons.1 hy with rfl | hy
    · exact maskI_dep A hx z hz
    · exact A.dep y hy z hz
  · rcases List.mem_cons.1 hy with rfl | hy
    · obtain ⟨y', hy', he⟩ := hpre z hz
      exact ⟨y', List.mem_cons_of_mem _ hy', he⟩
    · obtain ⟨y', hy', he⟩ := A.pre y hy z hz
      exact ⟨y', List.mem_cons_of_mem _ hy', he⟩
  · rw [testBit_lor, testBit_pow, Bool.or_eq_true, A.pl]
    simp only [decide_eq_true_eq]
    constructor
    · rintro (⟨y, hy, he⟩ | he)
      · exact ⟨y, List.mem_cons_of_mem _ hy, he⟩
      · exact ⟨_, List.mem_cons_self .., he⟩
    · rintro ⟨y, hy, he⟩
      rcases List.mem_cons.1 hy with rfl | hy
      · exact .inr he
      · exact .inl ⟨y, hy, he⟩
  · have hc := lall_true h3 y hy
    obtain ⟨hc12, hc34⟩ := and_true' hc
    obtain ⟨hc1, hc2⟩ := and_true' hc12
    obtain ⟨hc3, hc4⟩ := and_true' hc34
    refine ⟨fun he => ?_, ?_, fun hl => ?_, fun hk => ?_, fun hk d hd hdst => ?_⟩
    · have := (A.pl x.i).2 ⟨y, hy, he.symm⟩
      have h1'' : pl.testBit x.i = false := h1'
      rw [this] at h1''; cases h1''
    · rcases or_true' hc1 with hc1 | hc1
      · exact .inl (Nat.eq_of_beq_eq_true hc1)
      · rcases or_true' hc1 with hc1 | hc1
        · exact .inr (.inl (isL_iff.1 hc1))
        · exact .inr (.inr (maskI_dep A hx _ hc1))
    · rcases or_true' hc2 with hc2 | hc2
      · have := not_true' hc2
        rw [isL_iff.2 hl] at this; cases this
      · rcases or_true' hc2 with hc2 | hc2
        · exact .inl ((hx.pm _).1 hc2)
        · exact .inr (apart_of (apartI_ok (A.wf y hy) hx hc2))
    · rcases or_true' hc3 with hc3 | hc3
      · have := not_true' hc3
        rw [hk] at this; cases this
      · have hc3' : (Bool.rec (motive := fun _ => Bool) (apartI x y.1) (not (Nat.beq y.1.kind 2)) (Nat.testBit x.pm y.1.i)) = true := hc3
        cases hb : Nat.testBit x.pm y.1.i with
        | true =>
          rw [hb] at hc3'
          refine ⟨fun _ hk2 => ?_, fun hn => absurd ((hx.pm _).1 hb) hn⟩
          have := not_true' hc3'
          rw [hk2] at this; cases this
        | false =>
          rw [hb] at hc3'
          refine ⟨fun hd => ?_, fun _ => apart_of (apartI_ok hx (A.wf y hy) hc3')⟩
          have := (hx.pm _).2 hd
          rw [this] at hb; cases hb
    · rcases or_true' hc4 with hc4 | hc4
      · have := not_true' hc4
        rw [hk] at this; cases this
      · have := land_zero hc4 d ((hx.dm d).2 hdst)
        rw [lookM_bit hd] at this; cases this
  · rcases or_true' h5 with h5 | h5
    · have := not_true' h5
      rw [hk] at this; cases this
    · have := land_zero h5 d ((hx.dm d).2 hdst)
      rw [lookM_bit hd] at this; cases this
theorem chkI_cons {n : Nat} {x : OpI} {r : List OpI} {acc : Acc} {pl : Nat} (h : chkI n (x :: r) acc pl = true) : chk1 x (maskI acc x.pm) acc pl = true ∧ chkI n r ((x, maskI acc x.pm) :: acc) (Nat.lor pl (Nat.pow 2 x.i)) = true :=
  and_true' (show and (chk1 x (maskI acc x.pm) acc pl) (chkI n r ((x, maskI acc x.pm) :: acc) (Nat.lor pl (Nat.pow 2 x.i))) = true from h)
/-- every later operation stands well to every earlier one; all numbers come up -/
theorem chkI_later {n : Nat} : ∀ (r : List OpI) (acc : Acc) (pl : Nat), AccOk P ops acc pl → (∀ x ∈ r, WfI P ops x) → chkI n r acc pl = true →
    (∀ j ∈ r, ∀ y ∈ acc, Later ops j y.1) ∧ ∀ i, i < n → (∃ y ∈ acc, y.1.i = i) ∨ ∃ x ∈ r, x.i = i
  | [], acc, pl, A, _, h => by
    refine ⟨fun j hj => absurd hj (by simp), fun i hi => .inl ((A.pl i).1 ?_)⟩
    have h' : Nat.beq pl (Nat.pred (Nat.pow 2 n)) = true := h
    rw [Nat.eq_of_beq_eq_true h']
    show (2 ^ n - 1).testBit i = true
    rw [Nat.testBit_two_pow_sub_one]
    simpa using hi
  | x :: r, acc, pl, A, hw, h => by
    obtain ⟨h1, h2⟩ := chkI_cons h
    obtain ⟨A', hpre, hl, _⟩ := chk1_ok A (hw x (List.mem_cons_self ..)) h1
    obtain ⟨g1, g2⟩ := chkI_later r _ _ A' (fun y hy => hw y (List.mem_cons_of_mem _ hy)) h2
    refine ⟨fun j hj y hy => ?_, fun i hi => ?_⟩
    · rcases List.mem_cons.1 hj with rfl | hj
      · exact hl y hy
      · exact g1 j hj y (List.mem_cons_of_mem _ hy)
    · rcases g2 i hi with ⟨y, hy, he⟩ | ⟨y, hy, he⟩
      · rcases List.mem_cons.1 hy with rfl | hy
        · exact .inr ⟨_, List.mem_cons_self .., he⟩
        · exact .inl ⟨y, hy, he⟩
      · exact .inr ⟨y, List.mem_cons_of_mem _ hy, he⟩
/-! ## the plan's operations are the region's -/
theorem opIs_wf : ∀ (l : List Oper) (i : Nat), (∀ k o, l[k]? = some o → ops[i + k]? = some o) → ∀ x ∈ opIs P ops l i, WfI P ops x
  | [], _, _, x, hx => absurd hx (by show ¬ x ∈ ([] : List OpI); simp)
  | o :: l, i, h, x, hx => by
    have hx' : x ∈ opI P ops i o :: opIs P ops l (i + 1) := hx
    rcases List.mem_cons.1 hx' with rfl | hx'
    · exact ⟨rfl, h 0 o rfl⟩
    · exact opIs_wf l (i + 1) (fun k o hk => by rw [Nat.add_assoc, Nat.add_comm 1 k]; exact h (k + 1) o (by simpa using hk)) x hx'
theorem firstI_mem {f : OpI → Bool} {l : List OpI} {x : OpI} (h : firstI f l = some x) : x ∈ l := by
  induction l with
  | nil => cases h
  | cons y l ih =>
    have h' : (Bool.rec (motive := fun _ => Option OpI) (firstI f l) (some y) (f y)) = some x := h
    cases hf : f y with
    | true => rw [hf] at h'; cases h'; exact List.mem_cons_self ..
    | false => rw [hf] at h'; exact List.mem_cons_of_mem _ (ih h')
theorem pickI_mem {pl : Nat} {l : List OpI} {x : OpI} (h : pickI pl l = some x) : x ∈ l := by
  unfold pickI at h
  cases h1 : firstI (fun x => and (rdy pl x) (Nat.ble x.kind (nat_lit 1))) l with
  | some y => rw [h1] at h; cases h; exact firstI_mem h1
  | none =>
    rw [h1] at h
    have h' : (Option.rec (motive := fun _ => Option OpI) (firstI (rdy pl) l) (fun x => some x) (firstI (fun x => and (rdy pl x) (Nat.beq x.kind (nat_lit 3))) l)) = some x := h
    cases h2 : firstI (fun x => and (rdy pl x) (Nat.beq x.kind (nat_lit 3))) l with
    | some y => rw [h2] at h'; cases h'; exact firstI_mem h2
    | none => rw [h2] at h'; exact firstI_mem h'
theorem planI_mem {l : List OpI} : ∀ (n pl : Nat), ∀ x ∈ planI l n pl, x ∈ l
  | 0, _, x, hx => absurd hx (by show ¬ x ∈ ([] : List OpI); simp)
  | n + 1, pl, x, hx => by
    have hx' : x ∈ (Option.rec (motive := fun _ => List OpI) [] (fun y => y :: planI l n (Nat.lor pl (Nat.pow 2 y.i))) (pickI pl l)) := hx
    cases hp : pickI pl l with
    | none => rw [hp] at hx'; exact absurd hx' (by show ¬ x ∈ ([] : List OpI); simp)
    | some y =>
      rw [hp] at hx'
      rcases List.mem_cons.1 hx' with rfl | hx'
      · exact pickI_mem hp
      · exact planI_mem n _ x hx'
end
end Go.Rk

namespace Go.Rk
open Go
set_option linter.unusedSectionVars false
variable [Nt] [Nu]
variable {P : Program} {X : Nat → Prop} {s : Sig} {h : AH} {w : World} {ec : Ec}
/-! ## a pure operation, on its own block alone -/
theorem get_e (nx i : Nat) : (⟨.e, nx⟩ : AH).get i = .dead := by unfold AH.get; exact Tr.get_e _ _
def AB.row : AB → Bool | .cells _ _ _ => true | .gmap _ _ _ => true | _ => false
/-- what it looks at, as it was -/
noncomputable def frOf (h : AH) (s : Sig) (w : World) (i : Nat) (b : Option Nat) : Fr := match b with
  | none => ⟨i, none, none⟩
  | some b => if (h.get b).row then ⟨i, some (s b).blk, w.heap[(s b).blk]?⟩ else ⟨i, none, none⟩
theorem frOf_y (h : AH) (s : Sig) (w : World) (i : Nat) (b : Option Nat) : (frOf h s w i b).y = i := by
  unfold frOf
  cases b with
  | none => rfl
  | some b => simp only []; split <;> rfl
theorem frOf_S (h : AH) (s : Sig) (w : World) (i : Nat) (b : Option Nat) (hL : LookB w) : (frOf h s w i b).S w := by
  refine ⟨?_, hL⟩
  unfold frOf
  cases b with
  | none => intro b hb; cases hb
  | some b =>
    simp only []
    split
    · intro b' hb; cases hb; rfl
    · intro b hb; cases hb
theorem frOf_row {i b : Nat} (hb : (h.get b).row = true) : frOf h s w i (some b) = ⟨i, some (s b).blk, w.heap[(s b).blk]?⟩ := by unfold frOf; simp only [hb, if_true]
theorem Rel.empty (R : Rel P X s h w) (w' : World) (hL : LookB w') : Rel P LB s ⟨.e, h.nx⟩ w' := by
  refine ⟨fun i => ?_, fun i j hi => ?_, fun i _ => get_e _ _, R.glob, R.nxG, fun k hk => hL.lb_lt hk, fun i hi => ?_, hL⟩
  · rw [get_e]; trivial
  · rw [get_e] at hi; cases hi
  · rw [get_e] at hi; cases hi
theorem Rel.solo (R : Rel P X s h w) {i : Nat} {b : Option Nat} {w' : World} (hf : (frOf h s w i b).S w') : Rel P LB s (soloH h b) w' := by
  obtain ⟨hf, hL⟩ := hf
  cases b with
  | none => exact R.empty w' hL
  | some b =>
    have hget : ∀ j, (soloH h (some b)).get j = if j = b then lockB (h.get b) else .dead := by
      intro j
      show ((⟨.e, h.nx⟩ : AH).put b (lockB (h.get b))).get j = _
      rw [AH.get_put]
      split
      · rfl
      · exact get_e _ _
    have hnw : ∀ c : AB, (lockB c).writable = false := fun c => by cases c <;> rfl
    refine ⟨fun j => ?_, fun i j hi hj _ => ?_, fun j hj => ?_, R.glob, R.nxG, fun k hk => hL.lb_lt hk, fun j hj => ?_, hL⟩
    · rw [hget]
      by_cases e : j = b
      · subst e
        rw [if_pos rfl]
        have hl := R.lies j
        cases hb : h.get j with
        | dead => trivial
        | strIter l p => trivial
        | cells cs e wr =>
          rw [hb] at hl
          obtain ⟨h1, C, fr, hg, hc, h2, h3, h4⟩ := hl
          have : w'.heap[(s j).blk]? = w.heap[(s j).blk]? := by
            rw [frOf_row (by rw [hb]; rfl)] at hf; exact hf _ rfl
          exact ⟨h1, C, fr, this.trans hg, hc, ⟨(fun hq => by cases hq), h2.2⟩, h3, fun hq => by cases hq⟩
        | gmap es c wr =>
          rw [hb] at hl
          have : w'.heap[(s j).blk]? = w.heap[(s j).blk]? := by
            rw [frOf_row (by rw [hb]; rfl)] at hf; exact hf _ rfl
          exact ⟨hl.1, this.trans hl.2⟩
      · rw [if_neg e]; trivial
    · rw [hget] at hi hj
      by_cases e : i = b
      · by_cases e' : j = b
        · rw [e, e']
        · rw [if_neg e'] at hj; cases hj
      · rw [if_neg e] at hi; cases hi
    · rw [hget]
      by_cases e : j = b
      · rw [if_pos e]
        have : h.get b = .dead := R.fresh b (by rw [← e]; exact hj)
        rw [this]; rfl
      · rw [if_neg e]
    · rw [hget] at hj
      by_cases e : j = b
      · rw [if_pos e, hnw] at hj; cases hj
      · rw [if_neg e] at hj; cases hj
/-- the block that an operation looks at -/
noncomputable def lookI (kind : Nat) (o : Op) (t : Env) : Option Nat := match kind with
  | 0 => none
  | _ + 1 => (lookO o).bind fun x => idO ((pd x).f t)
theorem soloF_run (kind : Nat) (o : Op) (f : F) (ec : Ec) (t : Env) (h : AH) (k : K) : (soloF kind (lookO o) f).f ec t h k = f.f ec t (soloH h (lookI kind o t)) (fun v _ => k v h) := by
  obtain ⟨f⟩ := f
  cases kind with
  | zero => rfl
  | succ m =>
    unfold soloF lookI
    cases lookO o with
    | none => rfl
    | some x =>
      show (V.rec (motive := fun _ => F) (fun g => ⟨fun ec t h k => f ec t (soloH h (idO (g t))) (fun v _ => k v h)⟩) (pd x) : F).f ec t h k = _
      cases hx : pd x with
      | mk g => simp only [Option.bind_some, hx]
theorem solo_nx (h : AH) (b : Option Nat) : (soloH h b).nx = h.nx := by cases b <;> rfl
theorem kindG_le {o : Oper} (hk : kindG P o ≤ 1) : kindOf P o.op = kindG P o := by
  unfold kindG at hk ⊢
  split
  · rename_i h2
    rw [h2] at hk
    simp only [] at hk
    revert hk
    split
    · split <;> intro hk <;> omega
    · intro hk; omega
  · rfl
open Classical in
/-- what an operation yields that is taken first -/
theorem solo_ok [Fit P] {ops : Array Oper} {nt : Nat} {t : Env} {a : Act} {o : Oper} {i : Nat} {k : KN} (hk : kindG P o ≤ 1) (hok : operOk P nt o = true) (R : Rel P X s h w) (E : EnvOk s h.nx nt t a)
    (e : (prepO' ops o (soloF (kindG P o) (lookO o.op) (prepOp P o.op))).f ec k t h = true) :
    ∃ v t', Wf s h.nx v ∧ EnvOk s h.nx nt t' (a.put o.dst (cv s v)) ∧ (∀ d, o.dst ≠ some d → Tr.get .undef (path d) t' = Tr.get .undef (path d) t) ∧ k t' h = true ∧ YieldsIf P ops (frOf h s w i (lookI (kindG P o) o.op t)).S o (cv s v) a := by
  have hkey : ∀ (v : AV), Wf s h.nx v → (match o.dst with | none => k t h | some d => k (Tr.set .undef v (path d) t) h) = true →
      ∃ t', EnvOk s h.nx nt t' (a.put o.dst (cv s v)) ∧ (∀ d, o.dst ≠ some d → Tr.get .undef (path d) t' = Tr.get .undef (path d) t) ∧ k t' h = true := by
    intro v hv hk'
    cases hd : o.dst with
    | none => rw [hd] at hk'; exact ⟨t, E, fun _ _ => rfl, hk'⟩
    | some d =>
      rw [hd] at hk'
      refine ⟨_, E.put (dst_lt hok hd) hv, fun d' hd' => ?_, hk'⟩
      rw [Tr.get_set, if_neg (fun h => hd' (by rw [path_inj h]))]
  rcases guard_cases E e with ⟨hw, e1⟩ | ⟨hw, e1⟩
  · rw [prepD_run, soloF_run] at e1
    obtain ⟨hdet, hrun⟩ := prep_pure (ec := ec) o (by rw [kindG_le hk]; exact hk) (ops_ok hok) t (soloH h (lookI (kindG P o) o.op t))
    rcases hdet with hd | ⟨v, hd⟩
    · rw [hd] at e1; exact absurd e1 Bool.false_ne_true
    · rw [hd] at e1
      have fin : ∀ w', (frOf h s w i (lookI (kindG P o) o.op t)).S w' → Wf s h.nx v ∧ (execOp a.eval o).run P w' = .ok (.value (cv s v)) w' := by
        intro w' hS
        have R' := R.solo hS
        obtain ⟨v', hk', hv', hr⟩ := hrun LB s w' nt a (fun v' _ => decide (v' = v)) R' (by rw [solo_nx]; exact E) (by rw [hd]; exact decide_eq_true rfl)
        have := of_decide_eq_true hk'
        subst this
        rw [solo_nx] at hv'
        exact ⟨hv', hr⟩
      obtain ⟨hv, _⟩ := fin w (frOf_S h s w i _ R.look.lb)
      obtain ⟨t', h1, h2, h3⟩ := hkey v hv e1
      exact ⟨v, t', hv, h1, h2, h3, .inl ⟨hw, fun w' hS => (fin w' hS).2⟩⟩
  · rw [skipD_run] at e1
    obtain ⟨t', h1, h2, h3⟩ := hkey .undef trivial e1
    exact ⟨.undef, t', trivial, h1, h2, h3, .inr ⟨hw, rfl⟩⟩

/-! ## an operation that acts, without sight of what others look at -/
theorem Rel.lock (R : Rel P X s h w) {b : Nat} (hb : (h.get b).row = true) : Rel P (fun k => X k ∨ k = (s b).blk) s (h.put b (lockB (h.get b))) w := by
  have hlive : (h.get b).live = true := by revert hb; cases h.get b <;> simp [AB.row, AB.live]
  have hll : (lockB (h.get b)).live = true := by revert hb; cases h.get b <;> simp [AB.row, AB.live, lockB]
  refine ⟨fun j => ?_, fun i j hi hj => ?_, fun j hj => ?_, R.glob, R.nxG, fun k hk => ?_, fun j hj => ?_, R.look.keep fun k hk => ⟨.inl hk, rfl⟩⟩
  · rw [AH.get_put]
    by_cases e : j = b
    · subst e
      rw [if_pos rfl]
      have hl := R.lies j
      cases hc : h.get j with
      | cells cs e wr =>
        rw [hc] at hl
        obtain ⟨h1, C, fr, hg, hcs, h2, h3, h4⟩ := hl
        exact ⟨h1, C, fr, hg, hcs, ⟨(fun hq => by cases hq), h2.2⟩, h3, fun hq => by cases hq⟩
      | gmap es c wr => rw [hc] at hl; exact hl
      | dead => trivial
      | strIter l p => trivial
    · rw [if_neg e]; exact R.lies j
  · have lv : ∀ j, ((h.put b (lockB (h.get b))).get j).live = true → (h.get j).live = true := by
      intro j hj
      rw [AH.get_put] at hj
      by_cases e : j = b
      · rw [e]; exact hlive
      · rw [if_neg e] at hj; exact hj
    exact R.inj i j (lv i hi) (lv j hj)
  · rw [AH.get_put, if_neg (fun e => by have := R.lt hlive; rw [AH.nx_put] at hj; omega)]
    exact R.fresh j hj
  · rcases hk with hk | rfl
    · exact R.dom k hk
    · exact R.blk_lt hlive
  · rw [AH.get_put] at hj
    by_cases e : j = b
    · rw [if_pos e] at hj
      have : (lockB (h.get b)).writable = false := by cases h.get b <;> rfl
      rw [this] at hj; cases hj
    · rw [if_neg e] at hj
      rintro (hx | hx)
      · exact R.own j hj hx
      · have hjl : (h.get j).live = true := by revert hj; cases h.get j <;> simp [AB.writable, AB.live]
        exact e (R.inj j b hjl hlive hx)
theorem Rel.unlock (R : Rel P X s h w) {b : Nat} (hb : (h.get b).row = true) {s' : Sig} {h' : AH} {w' : World} (R' : Rel P (fun k => X k ∨ k = (s b).blk) s' h' w')
    (A' : Aft (fun k => X k ∨ k = (s b).blk) s (h.put b (lockB (h.get b))) w s' h' w') :
    Rel P X s' (h'.put b (h.get b)) w' ∧ Aft X s h w s' (h'.put b (h.get b)) w' ∧ w'.heap[(s b).blk]? = w.heap[(s b).blk]? := by
  have hlive : (h.get b).live = true := by revert hb; cases h.get b <;> simp [AB.row, AB.live]
  have hlt := R.lt hlive
  have hnw : (lockB (h.get b)).writable = false := by cases h.get b <;> rfl
  have hgb : h'.get b = lockB (h.get b) := by
    have := A'.ro b hlt (by rw [AH.get_put, if_pos rfl]; exact hnw)
    rw [this, AH.get_put, if_pos rfl]
  have hll : (lockB (h.get b)).live = true := by revert hb; cases h.get b <;> simp [AB.row, AB.live, lockB]
  have hheap := A'.keep (s b).blk (.inr rfl)
  have hsb := A'.sig b hlt
  have lv : ∀ j, ((h'.put b (h.get b)).get j).live = true → (h'.get j).live = true := by
    intro j hj
    rw [AH.get_put] at hj
    by_cases e : j = b
    · rw [e, hgb]; exact hll
    · rw [if_neg e] at hj; exact hj
  refine ⟨⟨fun j => ?_, fun i j hi hj => R'.inj i j (lv i hi) (lv j hj), fun j hj => ?_, R'.glob, R'.nxG, fun k hk => R'.dom k (.inl hk), fun j hj => ?_, R.look.keep fun k hk => ⟨hk, A'.keep k (.inl hk)⟩⟩, ⟨A'.sig, A'.nx, fun k hk => A'.keep k (.inl hk), A'.size, A'.tape, A'.os, A'.output, fun i hi hw => ?_, fun i hi => ?_⟩, hheap⟩
  · rw [AH.get_put]
    by_cases e : j = b
    · subst e
      rw [if_pos rfl]
      exact (R.lies j).keep A'.nx A'.sig hsb (fun x hx => by rw [hheap]; exact hx)
    · rw [if_neg e]; exact R'.lies j
  · have hle : h.nx ≤ h'.nx := A'.nx
    have hj' : h'.nx ≤ j := hj
    rw [AH.get_put, if_neg (by omega)]
    exact R'.fresh j hj
  · rw [AH.get_put] at hj
    by_cases e : j = b
    · subst e
      rw [if_pos rfl] at hj
      rw [hsb]; exact R.own j hj
    · rw [if_neg e] at hj
      exact fun hx => R'.own j hj (.inl hx)
  · rw [AH.get_put]
    by_cases e : i = b
    · rw [if_pos e, e]
    · rw [if_neg e, A'.ro i hi (by rw [AH.get_put, if_neg e]; exact hw), AH.get_put, if_neg e]
  · rw [AH.get_put] at hi ⊢
    by_cases e : i = b
    · subst e
      rw [if_pos rfl] at hi ⊢
      cases hw : (h.get i).writable
      · exact .inr ⟨hi, rfl⟩
      · exact .inl rfl
    · rw [if_neg e] at hi ⊢
      rcases A'.lv i hi with h1 | ⟨h1, h2⟩
      · exact .inl h1
      · rw [AH.get_put, if_neg e] at h1 h2
        exact .inr ⟨h1, h2⟩
theorem lockK_true {c : AB} {no : Bool} {go : AB → Bool} (e : lockK c no go = true) : (c = .dead ∧ no = true) ∨ (c.row = true ∧ go (lockB c) = true) := by
  cases c with
  | dead => exact .inl ⟨rfl, e⟩
  | cells cs el wr => exact .inr ⟨rfl, e⟩
  | gmap es cl wr => exact .inr ⟨rfl, e⟩
  | strIter l p => exact absurd e Bool.false_ne_true
theorem hide_ok {nt : Nat} {t : Env} {a : Act} {o : Oper} {f : F} {N : Act → World → Prop} {Q : Exit → Act → World → Prop} (hf : FOk P ec o f) : ∀ (l : List V) (X : Nat → Prop) (s : Sig) (h : AH) (w : World) (k : K), Rel P X s h w → EnvOk s h.nx nt t a → hideK l t (fun h k => f.f ec t h k) h k = true →
    (∀ v s' h' w', k v h' = true → Rel P X s' h' w' → Aft X s h w s' h' w' → Wf s' h'.nx v → (∀ b, (∃ u ∈ l, idO (u.f t) = some b) → (h.get b).row = true → w'.heap[(s b).blk]? = w.heap[(s b).blk]? ∧ h'.get b = h.get b) → N (a.put o.dst (cv s' v)) w') →
    o.wp P a w N Q
  | [], X, s, h, w, k, R, E, e, hN => hf X s h w nt t a k N Q R E e (fun v s' h' w' hk R' A' hv => hN v s' h' w' hk R' A' hv (fun b hb => by obtain ⟨u, hu, _⟩ := hb; cases hu))
  | u :: l, X, s, h, w, k, R, E, e, hN => by
    obtain ⟨g⟩ := u
    have e1 : (Option.rec (motive := fun _ => Bool) (hideK l t (fun h k => f.f ec t h k) h k) (fun b => lockK (h.get b) (hideK l t (fun h k => f.f ec t h k) h k) (fun c => hideK l t (fun h k => f.f ec t h k) (h.put b c) (fun x h' => k x (h'.put b (h.get b))))) (idO (g t))) = true := e
    cases hi : idO (g t) with
    | none =>
      rw [hi] at e1
      refine hide_ok hf l X s h w k R E e1 (fun v s' h' w' hk R' A' hv hb => hN v s' h' w' hk R' A' hv (fun b hbl hr => ?_))
      obtain ⟨u, hu, hub⟩ := hbl
      rcases List.mem_cons.1 hu with rfl | hu
      · have : idO (g t) = some b := hub
        rw [hi] at this; cases this
      · exact hb b ⟨u, hu, hub⟩ hr
    | some b =>
      rw [hi] at e1
      rcases lockK_true (show lockK (h.get b) _ _ = true from e1) with ⟨hd, e2⟩ | ⟨hrow, e2⟩
      · refine hide_ok hf l X s h w k R E e2 (fun v s' h' w' hk R' A' hv hb => hN v s' h' w' hk R' A' hv (fun b' hbl hr => ?_))
        obtain ⟨u, hu, hub⟩ := hbl
        rcases List.mem_cons.1 hu with rfl | hu
        · have : idO (g t) = some b' := hub
          rw [hi] at this; cases this
          rw [hd] at hr; cases hr
        · exact hb b' ⟨u, hu, hub⟩ hr
      · refine hide_ok hf l _ s (h.put b (lockB (h.get b))) w _ (R.lock hrow) E e2 (fun v s' h' w' hk R' A' hv hb => ?_)
        obtain ⟨R2, A2, hheap⟩ := R.unlock hrow R' A'
        refine hN v s' _ w' hk R2 A2 hv (fun b' hbl hr => ?_)
        by_cases e' : b' = b
        · subst e'
          exact ⟨hheap, by rw [AH.get_put, if_pos rfl]⟩
        · obtain ⟨u, hu, hub⟩ := hbl
          rcases List.mem_cons.1 hu with rfl | hu
          · have : idO (g t) = some b' := hub
            rw [hi] at this; cases this
            exact absurd rfl e'
          · have hg1 : (h.put b (lockB (h.get b))).get b' = h.get b' := by rw [AH.get_put, if_neg e']
            obtain ⟨h1, h2⟩ := hb b' ⟨u, hu, hub⟩ (by rw [hg1]; exact hr)
            exact ⟨h1, by rw [AH.get_put, if_neg e', h2, hg1]⟩
theorem hideF_run (l : List V) (f : F) (ec : Ec) (t : Env) (h : AH) (k : K) : (hideF l f).f ec t h k = hideK l t (fun h k => f.f ec t h k) h k := by
  cases l with
  | nil => rfl
  | cons v l => cases f; rfl

/-! ## an operation that makes a block, ahead of its turn -/
/-- what it makes -/
structure NB where
  b : AB
  v : Nat → AV
  cap : Nat
  ob : Obj
  val : Nat → Value
/-- a description of what it makes is right: whatever name the block gets later -/
def NB.Lie (P : Program) (nb : NB) (s : Sig) (nx : Nat) : Prop :=
  ∀ (s' : Sig) (n k : Nat) (w : World), (∀ i, i < nx → s' i = s i) → nx ≤ n → s' n = ⟨k, 0, nb.cap⟩ → w.heap[k]? = some nb.ob → Lies P s' (n + 1) w n nb.b ∧ cv s' (nb.v n) = nb.val k ∧ Wf s' (n + 1) (nb.v n)
theorem NB.Lie.ext {nb : NB} {s s' : Sig} {nx nx' : Nat} (H : nb.Lie P s nx) (hs : ∀ i, i < nx → s' i = s i) (hn : nx ≤ nx') : nb.Lie P s' nx' :=
  fun s2 n k w h1 h2 h3 h4 => H s2 n k w (fun i hi => (h1 i (Nat.lt_of_lt_of_le hi hn)).trans (hs i hi)) (Nat.le_trans hn h2) h3 h4
theorem row_lie {cs : List AV} {e : TypeId} {cap : Nat} {nx : Nat} {v : Nat → AV} {val : Nat → Value} (hcs : WfL s nx cs) (hcap : cap * tSize P e = cs.length)
    (hv : ∀ (s' : Sig) n k, s' n = ⟨k, 0, cap⟩ → cv s' (v n) = val k ∧ Wf s' (n + 1) (v n)) : (NB.mk (.cells cs e true) v cap (.cells (cvL s cs).toArray e) val).Lie P s nx := by
  intro s' n k w h1 h2 h3 h4
  obtain ⟨g1, g2⟩ := hv s' n k h3
  refine ⟨⟨hcs.ext (Nat.le_succ_of_le h2) h1, (cvL s cs).toArray, (0, 0), by rw [h3]; exact h4, fun i u hi => ?_, ⟨?_, by rw [h3]; exact Nat.dvd_zero _⟩, ?_, fun _ => .inl rfl⟩, g1, g2⟩
  · rw [h3]
    simp only [Nat.zero_add, List.getElem?_toArray]
    rw [cvL_get, hi, cv_congr h1 (hcs.get hi)]; rfl
  · rw [h3]; simpa using hcap
  · rw [h3]; simp
theorem n_good [Fit P] {nt : Nat} {t : Env} {a : Act} {o : Oper} (hk : kindG P o = 2) (hop : ∀ x ∈ o.op.operands.toList, oprOk P x = true) (R : Rel P X s h w) (E : EnvOk s h.nx nt t a)
    (e : (prepOp P o.op).f ec t ⟨.e, 1⟩ (fun _ _ => true) = true) :
    ∃ nb : NB, (∀ ec h k, (prepOp P o.op).f ec t h k = allocK h nb.b nb.v k) ∧ (∀ w, (execOp a.eval o).run P w = .ok (.value (nb.val w.heap.size)) (w.alloc nb.ob)) ∧ nb.Lie P s h.nx ∧ nb.b.writable = true := by
  obtain ⟨dst, op, type, pos, after, guard⟩ := o
  have hk2 : kindOf P op = 2 := by
    unfold kindG at hk
    split at hk
    · rename_i h2; exact h2
    · exact hk
  cases op with
  | alloc ty =>
    cases hz : zeroOk P ty with
    | false =>
      have : prepOp P (.alloc ty) = oNo := by show (Bool.rec (motive := fun _ => F) oNo _ (zeroOk P ty)) = _; rw [hz]
      rw [show (prepOp P (Oper.mk dst (.alloc ty) type pos after guard).op) = oNo from this] at e
      exact absurd e Bool.false_ne_true
    | true =>
      have hp : prepOp P (.alloc ty) = o0 (fun h k => allocK h (.cells (tZero P ty).cells ty true) (fun i => .ptr i (nat_lit 0)) k) := by show (Bool.rec (motive := fun _ => F) oNo _ (zeroOk P ty)) = _; rw [hz]
      refine ⟨⟨.cells (tZero P ty).cells ty true, fun i => .ptr i 0, 1, .cells (cvL s (tZero P ty).cells).toArray ty, fun k => .pointer (some ⟨k, 0, none⟩)⟩, fun ec h k => by rw [show prepOp P (Oper.mk dst (.alloc ty) type pos after guard).op = _ from hp]; rfl, fun w => ?_, ?_⟩
      · show (do pure (.value (← Instr.alloc ty true (.tuple #[]))) : Sem Next).run P w = _
        simp only [Instr.alloc, Sem.run_bind, run_zeroValue' s hz, Result.andThen_ok, newVar, newRow, run_newObj_alloc, Sem.run_pure]
        rw [← cv_cells s (tZero P ty) (tZero_not_opq P ty)]
      · exact ⟨row_lie (zero_wf s h.nx hz).cells (by rw [zero_len hz, Nat.one_mul]) (fun s' n k hs => ⟨by simp [cv, hs], Nat.lt_succ_self _⟩), rfl⟩
  | makeMap ty r =>
    cases r with
    | some r => exact absurd (show (3 : Nat) = 2 from hk2) (by decide)
    | none =>
      refine ⟨⟨.gmap [] 0 true, fun i => .map i, 0, .map #[] 0, fun k => .map (some k)⟩, fun ec h k => rfl, fun w => ?_, ?_⟩
      · show (do pure (.value (← Instr.makeMap ty none)) : Sem Next).run P w = _
        simp only [Instr.makeMap, Sem.run_bind, Sem.run_pure, Result.andThen_ok, run_newObj_alloc]
      · refine ⟨?_, rfl⟩
        intro s' n k w h1 h2 h3 h4
        exact ⟨⟨fun e he => absurd he (by simp), by rw [h3]; exact h4⟩, by simp [cv, h3], Nat.lt_succ_self _⟩
  | buildSlice ty n ps =>
    have hps : ∀ x ∈ ps.toList.map (·.2), oprOk P x = true := fun x hx => hop x (by simpa [Op.operands] using hx)
    cases he : tElem P ty with
    | none =>
      have : prepOp P (.buildSlice ty n ps) = oNo := by show oOpt (tElem P ty) _ = _; rw [he]; rfl
      rw [show (prepOp P (Oper.mk dst (.buildSlice ty n ps) type pos after guard).op) = oNo from this] at e
      exact absurd e Bool.false_ne_true
    | some el =>
      have hp : prepOp P (.buildSlice ty n ps) = (Bool.rec (motive := fun _ => F) oNo (oL (ps2 ps) ⟨bslC P el n (ps1 ps)⟩) (and (zeroOk P el) (Nat.ble (Nat.mul n (tSize P el)) (nat_lit 16777216)))) := by show oOpt (tElem P ty) _ = _; rw [he]; rfl
      cases hc : and (zeroOk P el) (Nat.ble (Nat.mul n (tSize P el)) (nat_lit 16777216)) with
      | false =>
        rw [hc] at hp
        rw [show (prepOp P (Oper.mk dst (.buildSlice ty n ps) type pos after guard).op) = oNo from hp] at e
        exact absurd e Bool.false_ne_true
      | true =>
        rw [hc] at hp
        have hp' : prepOp P (Oper.mk dst (.buildSlice ty n ps) type pos after guard).op = oL (ps2 ps) ⟨bslC P el n (ps1 ps)⟩ := hp
        obtain ⟨hz, hsz⟩ := and_true' hc
        rw [hp', ps2_eq] at e
        obtain ⟨h1, h2⟩ := pdL_ok R E _ hps
        have e1 : fillK (fun i => some (Nat.mul i (tSize P el), tSize P el)) (ps1 ps) (repl (tZero P el).cells n) (evL (lmap pd (ps.toList.map (·.2))) t) (fun cs => allocK ⟨.e, 1⟩ (.cells cs el true) (fun i => .slk i (nat_lit 0) n n) (fun _ _ => true)) = true := e
        rcases detK_fill (place := fun i => some (Nat.mul i (tSize P el), tSize P el)) (ps1 ps) (repl (tZero P el).cells n) (evL (lmap pd (ps.toList.map (·.2))) t) with hd | ⟨cs, hd⟩
        · rw [hd] at e1; exact absurd e1 Bool.false_ne_true
        · have e2 : fillK (fun i => some (Nat.mul i (tSize P el), tSize P el)) (ps1 ps) (repl (tZero P el).cells n) (evL (lmap pd (ps.toList.map (·.2))) t) (fun c => @decide (c = cs) (Classical.propDecidable _)) = true := by rw [hd]; simp
          obtain ⟨cs2, hk2', hwf, hl, hf⟩ := fillK_true (ps1 ps) _ _ _ (repl_wf (zero_wf s h.nx hz).cells n) h2 e2
          have := @of_decide_eq_true _ (Classical.propDecidable _) hk2'
          subst this
          rw [repl_length, zero_len hz] at hl
          refine ⟨⟨.cells cs2 el true, fun i => .slk i 0 n n, n, .cells (cvL s cs2).toArray el, fun k => .slice (some ⟨k, 0, none⟩) n n⟩, fun ec h' k => ?_, fun w => ?_, ?_⟩
          · rw [hp', ps2_eq]
            exact hd (fun cs => allocK h' (.cells cs el true) (fun i => .slk i (nat_lit 0) n n) k)
          · show (do pure (.value (← Instr.buildSlice ty n (ps.map fun (i, x) => (i, a.eval x)))) : Sem Next).run P w = _
            rw [Sem.run_bind, run_bslice he hz hsz (ps := ps1 ps) (vs := evL (lmap pd (ps.toList.map (·.2))) t) (ps.map fun (i, x) => (i, a.eval x)) (by rw [h1, Array.toList_map]; exact ps_zip' ps.toList a) hf w]
            rfl
          · exact ⟨row_lie hwf hl.symm (fun s' m k hs => ⟨by simp [cv, hs], Nat.lt_succ_self _⟩), rfl⟩
  | convert c d x =>
    exfalso
    simp only [kindOf] at hk2
    split at hk2 <;> first | omega | (split at hk2 <;> omega)
  | call c =>
    exfalso
    simp only [kindOf] at hk2
    split at hk2
    · split at hk2 <;> omega
    · omega
  | slice t x lo hi mx => exfalso; cases mx <;> exact absurd hk2 (by simp [kindOf])
  | _ => first | exact absurd (show (3 : Nat) = 2 from hk2) (by decide) | exact absurd (show (0 : Nat) = 2 from hk2) (by decide) | exact absurd (show (1 : Nat) = 2 from hk2) (by decide)
end Go.Rk

namespace Go.Rk
open Go
set_option linter.unusedSectionVars false
variable [Nt] [Nu]
section
variable {P : Program} {ops : Array Oper} {Q : Exit → Act → World → Prop}
theorem chk_pairs {n : Nat} : ∀ (r : List OpI) (acc : Acc) (pl : Nat), AccOk P ops acc pl → (∀ x ∈ r, WfI P ops x) → chkI n r acc pl = true → r.Pairwise (fun y j => Later ops j y ∧ ¬ Dir ops y.i j.i)
  | [], _, _, _, _, _ => .nil
  | x :: r, acc, pl, A, hw, h => by
    obtain ⟨h1, h2⟩ := chkI_cons h
    obtain ⟨A', hpre, hl, _⟩ := chk1_ok A (hw x (List.mem_cons_self ..)) h1
    have hw' : ∀ y ∈ r, WfI P ops y := fun y hy => hw y (List.mem_cons_of_mem _ hy)
    obtain ⟨g1, _⟩ := chkI_later r _ _ A' hw' h2
    refine .cons (fun j hj => ⟨g1 j hj (x, maskI acc x.pm) (List.mem_cons_self ..), fun hd => ?_⟩) (chk_pairs r _ _ A' hw' h2)
    obtain ⟨y, hy, he⟩ := hpre _ hd
    exact (g1 j hj y (List.mem_cons_of_mem _ hy)).ne he.symm
/-! ## values put ahead of their turn -/
theorem wpOp_put1 {j : Nat} {o : Oper} {dst : Option Tmp} {u : Value} (hj : ops[j]? = some o) (hsel : ∀ cs b, o.op ≠ .select cs b) (h1 : ∀ d, dst = some d → d ∉ o.looksAt ops) (h2 : ∀ d, dst = some d → o.dst ≠ some d)
    (hQ : ∀ c a w, ¬ Q (.panic c) a w) {K : Act → World → Prop} {a : Act} {w : World} (h : wpOp P ops Q j (fun a' w' => K (a'.put dst u) w') a w) : wpOp P ops Q j K (a.put dst u) w := by
  unfold wpOp at *
  simp only [hj] at *
  rw [wanted_put o a dst u h1]
  split
  · rename_i hw
    simp only [hw, if_true] at h
    rcases h with h | ⟨hasks, hlets⟩
    case inr => exact .inr ⟨by unfold Oper.asks at *; rw [execOp_put o hsel a dst u h1]; exact hasks, hlets⟩
    refine .inl ?_
    unfold Oper.wp at *
    rw [execOp_put o hsel a dst u h1]
    generalize (execOp a.eval o).run P w = r at *
    cases r with
    | ok n w' =>
      cases n <;> simp only [Oper.upon] at h ⊢
      case value v => rw [Act.put_comm a u v h2]; exact h
      case skip => rw [Act.put_comm a u undef h2]; exact h
      case defer d =>
        rw [Act.put_defers, Act.put_comm _ u undef h2]
        exact h
      case enter f args =>
        refine Calls.mono h fun e w'' he => ?_
        cases e with
        | returned v => show K ((a.put dst u).put o.dst v) w''; rw [Act.put_comm a u v h2]; exact he
        | panicked c => exact absurd he (hQ _ _ _)
        | outgrown => exact he
      case row row args => exact Rows.mono h fun v w'' he => by rw [Act.put_comm a u v h2]; exact he
    | halt x w' =>
      cases x <;> simp only [Oper.upon] at h ⊢
      case panic v => exact absurd h (hQ _ _ _)
  · rename_i hw
    simp only [hw] at h
    rw [Act.put_comm a u undef h2]; exact h
/-- one that has come ahead of its turn: what it yields, where its block is -/
structure ER where
  x : OpI
  val : Nat → Value
  ob : Obj
  blk : Nat
def putE (E : List ER) (a : Act) : Act := E.foldl (fun a e => a.put e.x.o.dst (e.val e.blk)) a
theorem putE_snoc (E : List ER) (e : ER) (a : Act) : putE (E ++ [e]) a = (putE E a).put e.x.o.dst (e.val e.blk) := by unfold putE; rw [List.foldl_append]; rfl
/-- apart, both ways -/
structure Ap (ops : Array Oper) (x y : Oper) : Prop where
  a1 : ∀ d, x.dst = some d → d ∉ y.looksAt ops
  a2 : ∀ d, x.dst = some d → y.dst ≠ some d
  a3 : ∀ d, y.dst = some d → d ∉ x.looksAt ops
theorem Ap.of {x y : Oper} (h : x.apart ops y = true) : Ap ops x y := let ⟨a, b, c⟩ := Oper.apart_spec h; ⟨a, b, c⟩
theorem Ap.symm {x y : Oper} (h : Ap ops x y) : Ap ops y x := ⟨h.a3, fun d hd hx => h.a2 d hx hd, h.a1⟩
theorem putE_put {E : List ER} {dst : Option Tmp} {v : Value} (h : ∀ e ∈ E, ∀ d, e.x.o.dst = some d → dst ≠ some d) : ∀ a : Act, putE E (a.put dst v) = (putE E a).put dst v := by
  induction E with
  | nil => intro a; rfl
  | cons e E ih =>
    intro a
    show putE E ((a.put dst v).put e.x.o.dst (e.val e.blk)) = (putE E (a.put e.x.o.dst (e.val e.blk))).put dst v
    rw [← ih (fun f hf => h f (List.mem_cons_of_mem _ hf))]
    congr 1
    exact Act.put_comm a v (e.val e.blk) (fun d hd hd' => h e (List.mem_cons_self ..) d hd' hd)
theorem exec_putE {o : Oper} (hsel : ∀ cs b, o.op ≠ .select cs b) : ∀ (E : List ER) (a : Act), (∀ e ∈ E, Ap ops e.x.o o) → execOp (putE E a).eval o = execOp a.eval o ∧ Region.wanted o (yielded ops (putE E a).tmps) = Region.wanted o (yielded ops a.tmps)
  | [], _, _ => ⟨rfl, rfl⟩
  | e :: E, a, h => by
    obtain ⟨h1, h2⟩ := exec_putE hsel E (a.put e.x.o.dst (e.val e.blk)) (fun f hf => h f (List.mem_cons_of_mem _ hf))
    have he := h e (List.mem_cons_self ..)
    exact ⟨h1.trans (execOp_put o hsel a _ _ he.a1), h2.trans (wanted_put o a _ _ he.a1)⟩
theorem wpOp_putE {j : Nat} {o : Oper} (hj : ops[j]? = some o) (hsel : ∀ cs b, o.op ≠ .select cs b) (hQ : ∀ c a w, ¬ Q (.panic c) a w) {K : Act → World → Prop} {w : World} :
    ∀ (E : List ER) (a : Act), (∀ e ∈ E, Ap ops e.x.o o) → wpOp P ops Q j (fun a' w' => K (putE E a') w') a w → wpOp P ops Q j K (putE E a) w
  | [], _, _, h => h
  | e :: E, a, hE, h => by
    have he := hE e (List.mem_cons_self ..)
    refine wpOp_putE hj hsel hQ E _ (fun f hf => hE f (List.mem_cons_of_mem _ hf)) ?_
    exact wpOp_put1 hj hsel he.a1 he.a2 hQ h
/-! ## worlds with a block more -/
variable {X : Nat → Prop} {s : Sig} {h : AH} {w : World}
theorem Rel.mono {X' : Nat → Prop} (R : Rel P X s h w) (hx : ∀ k, X' k → X k) (hL : LookOk X' w) : Rel P X' s h w := ⟨R.lies, R.inj, R.fresh, R.glob, R.nxG, fun k hk => R.dom k (hx k hk), fun i hi hk => R.own i hi (hx _ hk), hL⟩
theorem Aft.mono {X' : Nat → Prop} {s' : Sig} {h' : AH} {w' : World} (A : Aft X s h w s' h' w') (hx : ∀ k, X' k → X k) : Aft X' s h w s' h' w' :=
  ⟨A.sig, A.nx, fun k hk => A.keep k (hx k hk), A.size, A.tape, A.os, A.output, A.ro, A.lv⟩
theorem alloc_get (w : World) (o : Obj) {k : Nat} (hk : k < w.heap.size) : (w.alloc o).heap[k]? = w.heap[k]? := by
  show (w.heap.push o)[k]? = _
  rw [Array.getElem?_push, if_neg (by omega)]
theorem Rel.more (R : Rel P X s h w) (o : Obj) : Rel P (fun k => X k ∨ k = w.heap.size) s h (w.alloc o) := by
  refine ⟨fun i => ?_, R.inj, R.fresh, R.glob, R.nxG, fun k hk => ?_, fun i hi => ?_, R.look.keep fun k hk => ⟨.inl hk, alloc_get w o (R.dom k hk)⟩⟩
  · cases hl : (h.get i).live with
    | false =>
      have : h.get i = .dead := by revert hl; cases h.get i <;> simp [AB.live]
      rw [this]; trivial
    | true => exact (R.lies i).keep (Nat.le_refl _) (fun _ _ => rfl) rfl (fun x hx => by rw [alloc_get w o (R.blk_lt hl)]; exact hx)
  · show k < (w.heap.push o).size
    rw [Array.size_push]
    rcases hk with hk | rfl
    · exact Nat.lt_succ_of_lt (R.dom k hk)
    · exact Nat.lt_succ_self _
  · have hl : (h.get i).live = true := by revert hi; cases h.get i <;> simp [AB.writable, AB.live]
    rintro (hx | hx)
    · exact R.own i hi hx
    · exact absurd hx (Nat.ne_of_lt (R.blk_lt hl))
theorem Aft.more (R : Rel P X s h w) (o : Obj) : Aft X s h w s h (w.alloc o) :=
  ⟨fun _ _ => rfl, Nat.le_refl _, fun k hk => alloc_get w o (R.dom k hk), by show _ ≤ (w.heap.push o).size; simp, rfl, rfl, rfl, fun _ _ _ => rfl, (Aft.refl X s h w).lv⟩
theorem lookI_congr {kind : Nat} {o : Op} {t t' : Env} (h : ∀ d, lookO o = some (.tmp d) → Tr.get .undef (path d) t' = Tr.get .undef (path d) t) : lookI kind o t' = lookI kind o t := by
  cases kind with
  | zero => rfl
  | succ m =>
    unfold lookI
    cases hl : lookO o with
    | none => rfl
    | some x =>
      simp only [Option.bind_some]
      congr 1
      cases x with
      | tmp d =>
        show (acc (path d)).f t' = (acc (path d)).f t
        rw [acc_eq, acc_eq]; exact h d hl
      | const v => rfl
      | global g => rfl
      | func f => rfl
theorem filter_lt {α : Type} {p q : α → Bool} : ∀ (l : List α) (a : α), a ∈ l → (∀ x, q x = true → p x = true) → p a = true → q a = false → (l.filter q).length < (l.filter p).length
  | x :: l, a, ha, hqp, hpa, hqa => by
    have hle : ∀ l : List α, (l.filter q).length ≤ (l.filter p).length := by
      intro l
      induction l with
      | nil => exact Nat.le_refl _
      | cons y l ih =>
        rw [List.filter_cons, List.filter_cons]
        cases hq : q y with
        | true => rw [hqp y hq]; simpa using ih
        | false =>
          cases hp : p y with
          | true => simp; omega
          | false => simpa using ih
    rw [List.filter_cons, List.filter_cons]
    rcases List.mem_cons.1 ha with rfl | ha
    · rw [hpa, hqa]; simp; have := hle l; omega
    · have ih := filter_lt l a ha hqp hpa hqa
      cases hq : q x with
      | true => rw [hqp x hq]; simpa using ih
      | false =>
        cases hp : p x with
        | true => simp; omega
        | false => simpa using ih
end
end Go.Rk

namespace Go.Rk
open Go
set_option linter.unusedSectionVars false
variable [Nt] [Nu]
theorem pw_mem {α : Type} {R : α → α → Prop} : ∀ {l : List α}, l.Pairwise R → ∀ {x y : α}, x ∈ l → y ∈ l → x ≠ y → R x y ∨ R y x
  | z :: l, h, x, y, hx, hy, hne => by
    cases h with
    | cons h1 h2 =>
      rcases List.mem_cons.1 hx with hxz | hx
      · rcases List.mem_cons.1 hy with hyz | hy
        · exact absurd (hxz.trans hyz.symm) hne
        · rw [hxz]; exact .inl (h1 y hy)
      · rcases List.mem_cons.1 hy with hyz | hy
        · rw [hyz]; exact .inr (h1 x hx)
        · exact pw_mem h2 hx hy hne
/-- does it act? -/
def isWk (P : Program) (ops : Array Oper) (z : Nat) : Bool := match ops[z]? with | some o => Nat.beq (kindG P o) 3 | none => false
def unl (E : List ER) (rest : List OpI) : Nat := (rest.filter (fun x => !(E.any (fun e => Nat.beq e.x.i x.i)))).length
/-- where a run through a region stands -/
structure St (P : Program) (ops : Array Oper) (nt : Nat) (X : Nat → Prop) (s0 : Sig) (h0 : AH) (w0 : World) (acc : Acc) (pl : Nat) (rest : List OpI) (E : List ER) (A : List Fr) (l : Array Bool) (s : Sig) (h : AH) (w : World) (t : Env) (a : Act) : Prop where
  aok : AccOk P ops acc pl
  wf : ∀ x ∈ rest, WfI P ops x
  chk : chkI ops.size rest acc pl = true
  eIn : ∀ e ∈ E, e.x ∈ rest
  eK : ∀ e ∈ E, e.x.kind = 2
  ePre : ∀ e ∈ E, ∀ z, Dir ops e.x.i z → ∃ y ∈ acc, y.1.i = z
  eRun : ∀ e ∈ E, ∀ w, (execOp a.eval e.x.o).run P w = .ok (.value (e.val w.heap.size)) (w.alloc e.ob)
  eHeap : ∀ e ∈ E, w.heap[e.blk]? = some e.ob
  eX : ∀ e ∈ E, ¬ X e.blk
  eLive : ∀ e ∈ E, ∀ j, (h.get j).live = true → (s j).blk ≠ e.blk
  eNd : E.Pairwise (fun e f => e.blk ≠ f.blk ∧ e.x.i ≠ f.x.i)
  lSize : l.size = ops.size
  lIff : ∀ i, i < ops.size → (l.getD i false = true ↔ (∃ y ∈ acc, y.1.i = i) ∨ ∃ e ∈ E, e.x.i = i)
  rel : Rel P (fun k => X k ∨ ∃ e ∈ E, e.blk = k) s h w
  env : EnvOk s h.nx nt t a
  aft : Aft X s0 h0 w0 s h w
  fa : FA ops (isWk P ops) A l w
  aInv : ∀ f ∈ A, ∃ y ∈ acc, y.1.i = f.y ∧ y.1.kind ≤ 1 ∧ ∀ kb, f.b = some kb → Free' ops (isWk P ops) l f.y → ∃ id, lookI y.1.kind y.1.o.op t = some id ∧ (h.get id).row = true ∧ (s id).blk = kb
  lk : LookOk X w0
theorem St.look {P : Program} {ops : Array Oper} {nt : Nat} {X : Nat → Prop} {s0 : Sig} {h0 : AH} {w0 : World} {acc : Acc} {pl : Nat} {rest : List OpI} {E : List ER} {A : List Fr} {l : Array Bool} {s : Sig} {h : AH} {w : World} {t : Env} {a : Act} (S : St P ops nt X s0 h0 w0 acc pl rest E A l s h w t a) : LookOk X w := S.lk.keep fun k hk => ⟨hk, S.aft.keep k hk⟩
theorem WfI.lt {P : Program} {ops : Array Oper} {x : OpI} (h : WfI P ops x) : x.i < ops.size := by
  rcases Nat.lt_or_ge x.i ops.size with h' | h'
  · exact h'
  · have := h.2; rw [Array.getElem?_eq_none h'] at this; cases this
theorem lt_true {l : Array Bool} {i : Nat} (h : l.getD i false = true) : i < l.size := by
  rcases Nat.lt_or_ge i l.size with h' | h'
  · exact h'
  · rw [Array.getD_eq_getD_getElem?, Array.getElem?_eq_none h'] at h; cases h
theorem getD_ff {l : Array Bool} {i : Nat} (hi : i < l.size) (h : ¬ l.getD i false = true) : l.getD i true = false := by
  rw [Array.getD_eq_getD_getElem?, Array.getElem?_eq_getElem hi] at *
  simpa using h
section
variable {P : Program} {ops : Array Oper} {nt : Nat} {X : Nat → Prop} {s0 : Sig} {h0 : AH} {w0 : World} {acc : Acc} {pl : Nat} {rest : List OpI} {E : List ER} {A : List Fr} {l : Array Bool} {s : Sig} {h : AH} {w : World} {t : Env} {a : Act}
theorem St.closed (S : St P ops nt X s0 h0 w0 acc pl rest E A l s h w t a) : Closed ops l := by
  intro z x hz hd
  induction hd with
  | @one z x hd =>
    have hlt := lt_true hz
    rw [S.lSize] at hlt
    have hacc : ∃ y ∈ acc, y.1.i = x := by
      rcases (S.lIff z hlt).1 hz with ⟨y, hy, he⟩ | ⟨e, he, hi⟩
      · exact S.aok.pre y hy x (he ▸ hd)
      · exact S.ePre e he x (hi ▸ hd)
    obtain ⟨y, hy, he⟩ := hacc
    have hx : x < ops.size := he ▸ (S.aok.wf y hy).lt
    exact (S.lIff x hx).2 (.inl ⟨y, hy, he⟩)
  | @step z z' x hd _ ih =>
    refine ih ?_
    have hlt := lt_true hz
    rw [S.lSize] at hlt
    have hacc : ∃ y ∈ acc, y.1.i = z' := by
      rcases (S.lIff z hlt).1 hz with ⟨y, hy, he⟩ | ⟨e, he, hi⟩
      · exact S.aok.pre y hy z' (he ▸ hd)
      · exact S.ePre e he z' (hi ▸ hd)
    obtain ⟨y, hy, he⟩ := hacc
    exact (S.lIff z' (he ▸ (S.aok.wf y hy).lt)).2 (.inl ⟨y, hy, he⟩)
theorem St.later (S : St P ops nt X s0 h0 w0 acc pl rest E A l s h w t a) {z : OpI} (hz : z ∈ rest) {y : OpI × Nat} (hy : y ∈ acc) : Later ops z y.1 := (chkI_later rest acc pl S.aok S.wf S.chk).1 z hz y hy
/-- what may come up now -/
theorem St.ready_in (S : St P ops nt X s0 h0 w0 acc pl rest E A l s h w t a) {j : Nat} (hj : j ∈ Region.ready .any ops l) : ∃ z ∈ rest, z.i = j ∧ ∀ e ∈ E, e.x.i ≠ j := by
  obtain ⟨hun, oj, hoj, _⟩ := mem_ready.1 hj
  have hlt : j < ops.size := by
    rcases Nat.lt_or_ge j ops.size with h' | h'
    · exact h'
    · rw [Array.getElem?_eq_none h'] at hoj; cases hoj
  have hun' := getD_tf _ _ hun
  have hno : ¬ ((∃ y ∈ acc, y.1.i = j) ∨ ∃ e ∈ E, e.x.i = j) := fun hq => by rw [(S.lIff j hlt).2 hq] at hun'; cases hun'
  rcases (chkI_later rest acc pl S.aok S.wf S.chk).2 j hlt with hq | ⟨z, hz, he⟩
  · exact absurd (.inl hq) hno
  · exact ⟨z, hz, he, fun e he' hi => hno (.inr ⟨e, he', hi⟩)⟩
theorem St.unlisted (S : St P ops nt X s0 h0 w0 acc pl rest E A l s h w t a) {x : OpI} (hx : x ∈ rest) (hE : ∀ e ∈ E, e.x.i ≠ x.i) : l.getD x.i true = false := by
  have hlt := (S.wf x hx).lt
  refine getD_ff (by rw [S.lSize]; exact hlt) (fun hq => ?_)
  rcases (S.lIff x.i hlt).1 hq with ⟨y, hy, he⟩ | ⟨e, he, hi⟩
  · exact (S.later hx hy).ne he.symm
  · exact hE e he hi
theorem St.ready (S : St P ops nt X s0 h0 w0 acc pl rest E A l s h w t a) {x : OpI} (hx : x ∈ rest) (hE : ∀ e ∈ E, e.x.i ≠ x.i) (hpre : ∀ z, Dir ops x.i z → ∃ y ∈ acc, y.1.i = z) : x.i ∈ Region.ready .any ops l := by
  have hw := S.wf x hx
  refine mem_ready.2 ⟨S.unlisted hx hE, x.o, hw.2, fun e he hb => ?_⟩
  obtain ⟨y, hy, hye⟩ := hpre e.on ⟨x.o, e, hw.2, he, hb, rfl⟩
  exact (S.lIff e.on (hye ▸ (S.aok.wf y hy).lt)).2 (.inl ⟨y, hy, hye⟩)
theorem St.pairs (S : St P ops nt X s0 h0 w0 acc pl rest E A l s h w t a) : rest.Pairwise (fun y j => Later ops j y ∧ ¬ Dir ops y.i j.i) := chk_pairs rest acc pl S.aok S.wf S.chk
/-- two that make blocks stand apart -/
theorem St.ap2 (S : St P ops nt X s0 h0 w0 acc pl rest E A l s h w t a) {x z : OpI} (hx : x ∈ rest) (hz : z ∈ rest) (hk : x.kind = 2) (hkz : z.kind = 2) (hne : x.i ≠ z.i) : Ap ops x.o z.o ∧ ¬ Dir ops z.i x.i := by
  rcases pw_mem S.pairs hx hz (fun h => hne (by rw [h])) with ⟨h1, h2⟩ | ⟨h1, h2⟩
  · -- z later than x
    have hn : ¬ Dir ops z.i x.i := fun hd => (h1.early hkz).1 hd hk
    exact ⟨(Ap.of ((h1.early hkz).2 hn)).symm, hn⟩
  · have hn : ¬ Dir ops x.i z.i := fun hd => (h1.early hk).1 hd hkz
    exact ⟨Ap.of ((h1.early hk).2 hn), h2⟩
theorem kind2 {o : Oper} (hk : kindG P o = 2) : o.guard = none ∧ ∃ d, o.dst = some d := by
  unfold kindG at hk
  split at hk
  · split at hk
    · rename_i hg
      split at hk
      · rename_i d hd; exact ⟨hg, d, hd⟩
      · cases hk
    · cases hk
  · rename_i h2 ; exact absurd hk h2
theorem isWk_of {x : OpI} (hx : WfI P ops x) (hk : x.kind ≠ 3) : isWk P ops x.i = false := by
  unfold isWk
  rw [hx.2]
  simp only []
  rw [← hx.kind]
  cases hb : Nat.beq x.kind 3 with
  | true => exact absurd (Nat.eq_of_beq_eq_true hb) hk
  | false => rfl
/-- one that makes a block comes ahead of its turn -/
theorem St.early [Fit P] {ec : Ec} {Q : Exit → Act → World → Prop} {fuel : Nat} (hok : ∀ o ∈ ops.toList, operOk P nt o = true) (hsel : ∀ (j : Nat) (o : Oper) cs b, ops[j]? = some o → o.op ≠ .select cs b)
    (S : St P ops nt X s0 h0 w0 acc pl rest E A l s h w t a) {z : OpI} (hz : z ∈ rest) (hk : z.kind = 2) (hr : z.i ∈ Region.ready .any ops l) (hc : (prepOp P z.o.op).f ec t ⟨.e, 1⟩ (fun _ _ => true) = true) (hfuel : unl E rest ≤ fuel + 1)
    (ih : ∀ E' l' w', unl E' rest ≤ fuel → St P ops nt X s0 h0 w0 acc pl rest E' A l' s h w' t a → wpAnyF P ops Q (FA ops (isWk P ops) A) fuel l' (putE E' a) w') :
    wpOp P ops Q z.i (fun a' w' => FA ops (isWk P ops) A (l.setIfInBounds z.i true) w' ∧ wpAnyF P ops Q (FA ops (isWk P ops) A) fuel (l.setIfInBounds z.i true) a' w') (putE E a) w := by
  have hwf := S.wf z hz
  have hkG : kindG P z.o = 2 := by rw [← hwf.kind]; exact hk
  have hun := (mem_ready.1 hr).1
  have hlt := lt_of_un hun
  have hzs : z.i < ops.size := hwf.lt
  have hEz : ∀ e ∈ E, e.x.i ≠ z.i := fun e he hi => by
    have := (S.lIff z.i hzs).2 (.inr ⟨e, he, hi⟩)
    rw [getD_tf _ _ hun] at this; cases this
  have hap : ∀ e ∈ E, Ap ops e.x.o z.o := fun e he => (S.ap2 (S.eIn e he) hz (S.eK e he) hk (hEz e he)).1
  have hpre : ∀ p, Dir ops z.i p → ∃ y ∈ acc, y.1.i = p := by
    intro p hp
    have hl := ready_dir hr hp
    have hps : p < ops.size := by rw [← S.lSize]; exact lt_true hl
    rcases (S.lIff p hps).1 hl with hq | ⟨e, he, hi⟩
    · exact hq
    · exact absurd (hi ▸ hp) (S.ap2 (S.eIn e he) hz (S.eK e he) hk (hEz e he)).2
  have hzmem : z.o ∈ ops.toList := by simpa using Array.mem_of_getElem? hwf.2
  obtain ⟨nb, _, hrun, _⟩ := n_good hkG (ops_ok (hok z.o hzmem)) S.rel S.env hc
  obtain ⟨hg, d, hd⟩ := kind2 hkG
  have hselz : ∀ cs b, z.o.op ≠ .select cs b := fun cs b => hsel z.i z.o cs b hwf.2
  obtain ⟨hex, _⟩ := exec_putE hselz E a hap
  have hW : isWk P ops z.i = false := isWk_of hwf (by rw [hk]; decide)
  have hfree : ∀ y, Free' ops (isWk P ops) (l.setIfInBounds z.i true) y ↔ Free' ops (isWk P ops) l y := fun y => free_set hlt hW
  have hfb : ∀ f ∈ A, Free' ops (isWk P ops) l f.y → ∀ kb, f.b = some kb → kb < w.heap.size := by
    intro f hf hfr kb hkb
    obtain ⟨y, _, _, _, h4⟩ := S.aInv f hf
    obtain ⟨id, _, hrow, hblk⟩ := h4 kb hkb hfr
    rw [← hblk]
    exact S.rel.blk_lt (by revert hrow; cases h.get id <;> simp [AB.row, AB.live])
  have hfa : FA ops (isWk P ops) A (l.setIfInBounds z.i true) (w.alloc nb.ob) := by
    intro f hf hfr
    have hfr' := (hfree f.y).1 hfr
    refine ⟨fun kb hkb => ?_, (S.fa f hf hfr').2.keep fun k hk => ⟨hk, alloc_get w nb.ob ((S.fa f hf hfr').2.lb_lt hk)⟩⟩
    rw [alloc_get w nb.ob (hfb f hf hfr' kb hkb)]
    exact (S.fa f hf hfr').1 kb hkb
  unfold wpOp
  rw [hwf.2]
  show (if Region.wanted z.o (yielded ops (putE E a).tmps) = true then _ else _)
  have hwant : Region.wanted z.o (yielded ops (putE E a).tmps) = true := by unfold Region.wanted; rw [hg]
  rw [if_pos hwant]
  refine .inl ?_
  unfold Oper.wp
  rw [hex, hrun]
  show FA ops (isWk P ops) A (l.setIfInBounds z.i true) (w.alloc nb.ob) ∧ wpAnyF P ops Q (FA ops (isWk P ops) A) fuel (l.setIfInBounds z.i true) ((putE E a).put z.o.dst (nb.val w.heap.size)) (w.alloc nb.ob)
  refine ⟨hfa, ?_⟩
  have hsn := putE_snoc E ⟨z, nb.val, nb.ob, w.heap.size⟩ a
  rw [← hsn]
  refine ih _ _ _ ?_ ?_
  · have hltf : unl (E ++ [⟨z, nb.val, nb.ob, w.heap.size⟩]) rest < unl E rest := by
      refine filter_lt rest z hz (fun x hx => ?_) ?_ ?_
      · simp only [List.any_append, List.any_cons, List.any_nil, Bool.or_false, Bool.not_or, Bool.and_eq_true] at hx
        exact hx.1
      · have : E.any (fun e => Nat.beq e.x.i z.i) = false := by
          rw [List.any_eq_false]
          intro e he
          intro hb
          exact hEz e he (Nat.eq_of_beq_eq_true hb)
        rw [this]; rfl
      · simp
    omega
  · have hmem : ∀ e, e ∈ E ++ [(⟨z, nb.val, nb.ob, w.heap.size⟩ : ER)] → e ∈ E ∨ e = ⟨z, nb.val, nb.ob, w.heap.size⟩ := fun e he => by
      rcases List.mem_append.1 he with he | he
      · exact .inl he
      · exact .inr (List.mem_singleton.1 he)
    refine ⟨S.aok, S.wf, S.chk, fun e he => ?_, fun e he => ?_, fun e he => ?_, fun e he => ?_, fun e he => ?_, fun e he => ?_, fun e he => ?_, ?_, by simpa using S.lSize, fun i hi => ?_, ?_, S.env, S.aft.trans (Aft.more (S.rel.mono (fun k hk => .inl hk) S.look) nb.ob), hfa, fun f hf => ?_, S.lk⟩
    · rcases hmem e he with he | rfl
      · exact S.eIn e he
      · exact hz
    · rcases hmem e he with he | rfl
      · exact S.eK e he
      · exact hk
    · rcases hmem e he with he | rfl
      · exact S.ePre e he
      · exact hpre
    · rcases hmem e he with he | rfl
      · exact S.eRun e he
      · exact hrun
    · rcases hmem e he with he | rfl
      · rw [alloc_get w nb.ob (lt_of_get (S.eHeap e he))]; exact S.eHeap e he
      · exact alloc_heap w nb.ob
    · rcases hmem e he with he | rfl
      · exact S.eX e he
      · exact fun hx => Nat.lt_irrefl _ (S.rel.dom _ (.inl hx))
    · rcases hmem e he with he | rfl
      · exact S.eLive e he
      · exact fun j hj => Nat.ne_of_lt (S.rel.blk_lt hj)
    · rw [List.pairwise_append]
      refine ⟨S.eNd, List.pairwise_singleton _ _, fun e he f hf => ?_⟩
      rw [List.mem_singleton.1 hf]
      exact ⟨Nat.ne_of_lt (lt_of_get (S.eHeap e he)), hEz e he⟩
    · rw [getD_set _ _ _ _ hlt]
      by_cases hiz : i = z.i
      · rw [if_pos hiz]
        exact ⟨fun _ => .inr ⟨⟨z, nb.val, nb.ob, w.heap.size⟩, List.mem_append_right _ (List.mem_singleton_self _), hiz.symm⟩, fun _ => rfl⟩
      · rw [if_neg hiz, S.lIff i hi]
        constructor
        · rintro (hq | ⟨e, he, hq⟩)
          · exact .inl hq
          · exact .inr ⟨e, List.mem_append_left _ he, hq⟩
        · rintro (hq | ⟨e, he, hq⟩)
          · exact .inl hq
          · rcases hmem e he with he | rfl
            · exact .inr ⟨e, he, hq⟩
            · exact absurd hq.symm hiz
    · refine (S.rel.more nb.ob).mono (fun k hk => ?_) (S.look.keep fun k hk => ⟨.inl hk, alloc_get w nb.ob (S.rel.dom k (.inl hk))⟩)
      rcases hk with hk | ⟨e, he, hk⟩
      · exact .inl (.inl hk)
      · rcases hmem e he with he | rfl
        · exact .inl (.inr ⟨e, he, hk⟩)
        · exact .inr hk.symm
    · obtain ⟨y, hy, h1, h2, h3⟩ := S.aInv f hf
      exact ⟨y, hy, h1, h2, fun kb hkb hfr => h3 kb hkb ((hfree f.y).1 hfr)⟩
end
end Go.Rk

namespace Go.Rk
open Go
set_option linter.unusedSectionVars false
variable [Nt] [Nu]
theorem WfI.eq {P : Program} {ops : Array Oper} {x y : OpI} (hx : WfI P ops x) (hy : WfI P ops y) (h : x.i = y.i) : x = y := by
  have h1 := hx.2
  rw [h, hy.2] at h1
  have ho : x.o = y.o := (Option.some.inj h1).symm
  calc x = opI P ops x.i x.o := hx.1
    _ = opI P ops y.i y.o := by rw [h, ho]
    _ = y := hy.1.symm
section
variable {P : Program} {ops : Array Oper} {nt : Nat} {X : Nat → Prop} {s0 : Sig} {h0 : AH} {w0 : World} {acc : Acc} {pl : Nat} {x : OpI} {r : List OpI} {E : List ER} {A : List Fr} {l : Array Bool} {s : Sig} {h : AH} {w : World} {t : Env} {a : Act}
theorem St.apHead (S : St P ops nt X s0 h0 w0 acc pl (x :: r) E A l s h w t a) {e : ER} (he : e ∈ E) (hne : e.x.i ≠ x.i) : Ap ops e.x.o x.o := by
  have hr : e.x ∈ r := by
    rcases List.mem_cons.1 (S.eIn e he) with hq | hq
    · rw [hq] at hne; exact absurd rfl hne
    · exact hq
  have hl := (List.pairwise_cons.1 S.pairs).1 e.x hr
  have hn : ¬ Dir ops e.x.i x.i := fun hd => by
    obtain ⟨y, hy, hye⟩ := S.ePre e he _ hd
    exact (S.later (List.mem_cons_self ..) hy).ne hye.symm
  exact Ap.of ((hl.1.early (S.eK e he)).2 hn)
theorem St.headE (S : St P ops nt X s0 h0 w0 acc pl (x :: r) E A l s h w t a) (hk : x.kind ≠ 2) : ∀ e ∈ E, e.x.i ≠ x.i := fun e he hi => by
  have := (S.wf e.x (S.eIn e he)).eq (S.wf x (List.mem_cons_self ..)) hi
  exact hk (this ▸ S.eK e he)
theorem St.head (S : St P ops nt X s0 h0 w0 acc pl (x :: r) E A l s h w t a) : AccOk P ops ((x, maskI acc x.pm) :: acc) (Nat.lor pl (Nat.pow 2 x.i)) ∧ (∀ z, Dir ops x.i z → ∃ y ∈ acc, y.1.i = z) ∧
    chkI ops.size r ((x, maskI acc x.pm) :: acc) (Nat.lor pl (Nat.pow 2 x.i)) = true ∧ (x.kind = 1 → ∀ d, lookO x.o.op = some (.tmp d) → x.o.dst ≠ some d) := by
  obtain ⟨h1, h2⟩ := chkI_cons S.chk
  obtain ⟨A', hpre, _, hlk⟩ := chk1_ok S.aok (S.wf x (List.mem_cons_self ..)) h1
  exact ⟨A', hpre, h2, hlk⟩
/-- what is looked at stays where it was said -/
theorem St.looks (S : St P ops nt X s0 h0 w0 acc pl (x :: r) E A l s h w t a) {t' : Env} (ht : ∀ d, x.o.dst ≠ some d → Tr.get .undef (path d) t' = Tr.get .undef (path d) t) {y : OpI × Nat} (hy : y ∈ acc) (hk : y.1.kind ≤ 1) : lookI y.1.kind y.1.o.op t' = lookI y.1.kind y.1.o.op t := by
  rcases Nat.lt_or_ge 0 y.1.kind with h1 | h1
  · exact lookI_congr (fun d hd => ht d ((S.later (List.mem_cons_self ..) hy).look (by omega) d hd))
  · have : y.1.kind = 0 := by omega
    rw [this]; rfl
theorem listed_head (S : St P ops nt X s0 h0 w0 acc pl (x :: r) E A l s h w t a) {m : Nat} (i : Nat) (hi : i < ops.size) :
    ((l.setIfInBounds x.i true).getD i false = true ↔ (∃ y ∈ (x, m) :: acc, y.1.i = i) ∨ ∃ e ∈ E, e.x.i = i) := by
  have hxs : x.i < l.size := by rw [S.lSize]; exact (S.wf x (List.mem_cons_self ..)).lt
  rw [getD_set _ _ _ _ hxs]
  by_cases hx : i = x.i
  · rw [if_pos hx]
    exact ⟨fun _ => .inl ⟨_, List.mem_cons_self .., hx.symm⟩, fun _ => rfl⟩
  · rw [if_neg hx, S.lIff i hi]
    constructor
    · rintro (⟨y, hy, hq⟩ | hq)
      · exact .inl ⟨y, List.mem_cons_of_mem _ hy, hq⟩
      · exact .inr hq
    · rintro (⟨y, hy, hq⟩ | hq)
      · rcases List.mem_cons.1 hy with rfl | hy
        · exact absurd hq.symm hx
        · exact .inl ⟨y, hy, hq⟩
      · exact .inr hq
theorem unl_head (hE : ∀ e ∈ E, e.x.i ≠ x.i) : unl E (x :: r) = unl E r + 1 := by
  unfold unl
  rw [List.filter_cons]
  have : E.any (fun e => Nat.beq e.x.i x.i) = false := by
    rw [List.any_eq_false]
    intro e he hb
    exact hE e he (Nat.eq_of_beq_eq_true hb)
  rw [this]; rfl
/-- a step that is carried out: everything goes over -/
theorem St.step (S : St P ops nt X s0 h0 w0 acc pl (x :: r) E A l s h w t a) (hk2 : x.kind ≠ 2) {A' : List Fr} {s' : Sig} {h' : AH} {w' : World} {t' : Env} {u : Value} (hokx : ∀ cs b, x.o.op ≠ .select cs b)
    (hsel : ∀ (j : Nat) (o : Oper) cs b, ops[j]? = some o → o.op ≠ .select cs b)
    (R' : Rel P (fun k => X k ∨ ∃ e ∈ E, e.blk = k) s' h' w') (Af : Aft (fun k => X k ∨ ∃ e ∈ E, e.blk = k) s h w s' h' w') (E' : EnvOk s' h'.nx nt t' (a.put x.o.dst u))
    (hfa : FA ops (isWk P ops) A' (l.setIfInBounds x.i true) w')
    (hinv : ∀ f ∈ A', ∃ y ∈ (x, maskI acc x.pm) :: acc, y.1.i = f.y ∧ y.1.kind ≤ 1 ∧ ∀ kb, f.b = some kb → Free' ops (isWk P ops) (l.setIfInBounds x.i true) f.y → ∃ id, lookI y.1.kind y.1.o.op t' = some id ∧ (h'.get id).row = true ∧ (s' id).blk = kb) :
    St P ops nt X s0 h0 w0 ((x, maskI acc x.pm) :: acc) (Nat.lor pl (Nat.pow 2 x.i)) r E A' (l.setIfInBounds x.i true) s' h' w' t' (a.put x.o.dst u) := by
  obtain ⟨hA, hpre, hchk, hself⟩ := S.head
  have hE := S.headE hk2
  refine ⟨hA, fun y hy => S.wf y (List.mem_cons_of_mem _ hy), hchk, fun e he => ?_, S.eK, fun e he z hz => ?_, fun e he w1 => ?_, fun e he => ?_, S.eX, fun e he j hj => ?_, S.eNd, by simpa using S.lSize, fun i hi => listed_head S i hi, R', E', S.aft.trans (Af.mono (fun k hk => .inl hk)), hfa, hinv, S.lk⟩
  · rcases List.mem_cons.1 (S.eIn e he) with hq | hq
    · exact absurd (by rw [hq]) (hE e he)
    · exact hq
  · obtain ⟨y, hy, hq⟩ := S.ePre e he z hz
    exact ⟨y, List.mem_cons_of_mem _ hy, hq⟩
  · have hap := (S.apHead he (hE e he)).symm
    rw [execOp_put e.x.o (fun cs b => hsel e.x.i e.x.o cs b (S.wf e.x (S.eIn e he)).2) a x.o.dst u hap.a1]
    exact S.eRun e he w1
  · rw [Af.keep e.blk (.inr ⟨e, he, rfl⟩)]; exact S.eHeap e he
  · rcases Af.lv j hj with h1 | ⟨h1, _⟩
    · exact fun hq => R'.own j h1 (.inr ⟨e, he, hq.symm⟩)
    · rw [Af.sig j (S.rel.lt h1)]
      exact S.eLive e he j h1
/-- one that only yields a value is taken first -/
theorem St.stepL [Fit P] {ec : Ec} {Q : Exit → Act → World → Prop} {fuel : Nat} {k : KN} (hok : ∀ o ∈ ops.toList, operOk P nt o = true) (hsel : ∀ (j : Nat) (o : Oper) cs b, ops[j]? = some o → o.op ≠ .select cs b) (hQ : ∀ c a w, ¬ Q (.panic c) a w)
    (S : St P ops nt X s0 h0 w0 acc pl (x :: r) E A l s h w t a) (hk : x.kind ≤ 1) (e : (prepO' ops x.o (soloF x.kind (lookO x.o.op) (prepOp P x.o.op))).f ec k t h = true)
    (ih : ∀ f t' a', k t' h = true → St P ops nt X s0 h0 w0 ((x, maskI acc x.pm) :: acc) (Nat.lor pl (Nat.pow 2 x.i)) r E (f :: A) (l.setIfInBounds x.i true) s h w t' a' → wpAnyF P ops Q (FA ops (isWk P ops) (f :: A)) fuel (l.setIfInBounds x.i true) (putE E a') w) :
    wpAnyF P ops Q (FA ops (isWk P ops) A) (fuel + 1) l (putE E a) w := by
  have hx := S.wf x (List.mem_cons_self ..)
  have hE := S.headE (by omega)
  obtain ⟨hA, hpre, hchk, hself⟩ := S.head
  have hr := S.ready (List.mem_cons_self ..) hE hpre
  have hmem : x.o ∈ ops.toList := by simpa using Array.mem_of_getElem? hx.2
  have hap : ∀ e ∈ E, Ap ops e.x.o x.o := fun e he => S.apHead he (hE e he)
  have hselx : ∀ cs b, x.o.op ≠ .select cs b := fun cs b => hsel x.i x.o cs b hx.2
  rw [hx.kind] at e
  have hkG : kindG P x.o ≤ 1 := by rw [← hx.kind]; exact hk
  obtain ⟨v, t', hv, hE', ht', hk', hy⟩ := solo_ok (i := x.i) hkG (hok x.o hmem) S.rel S.env e
  obtain ⟨hex, hwa⟩ := exec_putE hselx E a hap
  have hy' := hy.of_same hex hwa
  have hW : isWk P ops x.i = false := isWk_of hx (by omega)
  have hlt : x.i < l.size := by rw [S.lSize]; exact hx.lt
  have hfy := frOf_y h s w x.i (lookI (kindG P x.o) x.o.op t)
  have hfree : ∀ y, Free' ops (isWk P ops) (l.setIfInBounds x.i true) y ↔ Free' ops (isWk P ops) l y := fun y => free_set hlt hW
  refine take_L (f := frOf h s w x.i (lookI (kindG P x.o) x.o.op t)) (by rw [hfy]; exact hx.2) (by rw [hfy]; exact hW) hsel hQ ?_ (by rw [hfy]; exact hr) S.closed hy' (frOf_S h s w x.i _ S.rel.look.lb) S.fa ?_
  · intro j oj hj hji hun hno
    rw [hfy] at hji hno
    have hjs : j < ops.size := lt_of_get hj
    rcases (chkI_later (x :: r) acc pl S.aok S.wf S.chk).2 j hjs with ⟨y, hy, hye⟩ | ⟨z, hz, hze⟩
    · have := (S.lIff j hjs).2 (.inl ⟨y, hy, hye⟩)
      rw [getD_tf _ _ hun] at this; cases this
    · rcases List.mem_cons.1 hz with rfl | hz
      · exact absurd hze.symm hji
      · have hzo : z.o = oj := by
          have := (S.wf z (List.mem_cons_of_mem _ hz)).2
          rw [hze, hj] at this; exact (Option.some.inj this).symm
        have hl := (List.pairwise_cons.1 S.pairs).1 z hz
        rcases hl.1.apart hk with hd | hap
        · obtain ⟨o, e', ho, he', hb, heq⟩ := hd
          rw [hze, hj] at ho
          cases ho
          exact absurd heq (hno e' he' hb)
        · rw [← hzo]; exact hap
  · rw [hfy, ← putE_put (fun e he d hd => (hap e he).a2 d hd)]
    refine ih _ t' _ hk' (S.step (by omega) hselx hsel S.rel (Aft.refl _ s h w) hE' ?_ ?_)
    · intro f hf hfr
      rcases List.mem_cons.1 hf with rfl | hf
      · exact frOf_S h s w x.i _ S.rel.look.lb
      · exact S.fa f hf ((hfree f.y).1 hfr)
    · intro f hf
      rcases List.mem_cons.1 hf with rfl | hf
      · refine ⟨(x, maskI acc x.pm), List.mem_cons_self .., hfy.symm, hk, fun kb hkb _ => ?_⟩
        -- what the frame says
        cases hb : lookI (kindG P x.o) x.o.op t with
        | none => rw [hb] at hkb; cases hkb
        | some b =>
          rw [hb] at hkb
          by_cases hrow : (h.get b).row = true
          · rw [frOf_row hrow] at hkb
            cases hkb
            refine ⟨b, ?_, hrow, rfl⟩
            show lookI x.kind x.o.op t' = some b
            rw [← hb, ← hx.kind]
            rcases Nat.lt_or_ge 0 x.kind with h1 | h1
            · exact lookI_congr (fun d hd => ht' d (hself (by omega) d hd))
            · have : x.kind = 0 := by omega
              rw [this]; rfl
          · exfalso
            unfold frOf at hkb
            simp only [hrow] at hkb
            cases hkb
      · obtain ⟨y, hy, h1, h2, h3⟩ := S.aInv f hf
        refine ⟨y, List.mem_cons_of_mem _ hy, h1, h2, fun kb hkb hfr => ?_⟩
        obtain ⟨id, g1, g2, g3⟩ := h3 kb hkb ((hfree f.y).1 hfr)
        exact ⟨id, by rw [S.looks ht' hy h2]; exact g1, g2, g3⟩
end
end Go.Rk

namespace Go.Rk
open Go
set_option linter.unusedSectionVars false
variable [Nt] [Nu]
section
variable {P : Program} {ops : Array Oper} {nt : Nat} {X : Nat → Prop} {s0 : Sig} {h0 : AH} {w0 : World} {acc : Acc} {pl : Nat} {x : OpI} {r : List OpI} {E : List ER} {A : List Fr} {l : Array Bool} {s : Sig} {h : AH} {w : World} {t : Env} {a : Act}
theorem hidden_mem {m : Nat} {y : OpI × Nat} {o : Operand} (hk : y.1.kind = 1) (hm : Nat.testBit m y.1.i = false) (hl : lookO y.1.o.op = some o) : ∀ acc : Acc, y ∈ acc → pd o ∈ hiddenI m acc
  | z :: acc, hy => by
    show pd o ∈ (Bool.rec (motive := fun _ => List V) (hiddenI m acc) (lapp (lookV z.1.o.op) (hiddenI m acc)) (and (Nat.beq z.1.kind (nat_lit 1)) (not (Nat.testBit m z.1.i))))
    rcases List.mem_cons.1 hy with rfl | hy
    · have : and (Nat.beq y.1.kind (nat_lit 1)) (not (Nat.testBit m y.1.i)) = true := by rw [hk, hm]; rfl
      rw [this]
      show pd o ∈ lapp (lookV y.1.o.op) (hiddenI m acc)
      rw [lapp_eq]
      unfold lookV
      rw [hl]
      exact List.mem_append_left _ (List.mem_singleton_self _)
    · have ih := hidden_mem hk hm hl acc hy
      cases and (Nat.beq z.1.kind (nat_lit 1)) (not (Nat.testBit m z.1.i)) with
      | true => show pd o ∈ lapp (lookV z.1.o.op) (hiddenI m acc); rw [lapp_eq]; exact List.mem_append_right _ ih
      | false => exact ih
/-- one that acts -/
theorem St.stepW [Fit P] {ec : Ec} (hec : EcOk P ec) {Q : Exit → Act → World → Prop} {fuel : Nat} {k : KN} (hok : ∀ o ∈ ops.toList, operOk P nt o = true) (hsel : ∀ (j : Nat) (o : Oper) cs b, ops[j]? = some o → o.op ≠ .select cs b) (hQ : ∀ c a w, ¬ Q (.panic c) a w)
    (S : St P ops nt X s0 h0 w0 acc pl (x :: r) E A l s h w t a) (hk : x.kind = 3) (e : (prepO' ops x.o (hideF (hiddenI (maskI acc x.pm) acc) (prepOp P x.o.op))).f ec k t h = true)
    (ih : ∀ s' h' w' t' a', k t' h' = true → St P ops nt X s0 h0 w0 ((x, maskI acc x.pm) :: acc) (Nat.lor pl (Nat.pow 2 x.i)) r E A (l.setIfInBounds x.i true) s' h' w' t' a' → wpAnyF P ops Q (FA ops (isWk P ops) A) fuel (l.setIfInBounds x.i true) (putE E a') w') :
    wpOp P ops Q x.i (fun a' w' => FA ops (isWk P ops) A (l.setIfInBounds x.i true) w' ∧ wpAnyF P ops Q (FA ops (isWk P ops) A) fuel (l.setIfInBounds x.i true) a' w') (putE E a) w := by
  have hx := S.wf x (List.mem_cons_self ..)
  have hE := S.headE (by omega)
  have hmem : x.o ∈ ops.toList := by simpa using Array.mem_of_getElem? hx.2
  have hap : ∀ e ∈ E, Ap ops e.x.o x.o := fun e he => S.apHead he (hE e he)
  have hselx : ∀ cs b, x.o.op ≠ .select cs b := fun cs b => hsel x.i x.o cs b hx.2
  have hlt : x.i < l.size := by rw [S.lSize]; exact hx.lt
  have hWx : isWk P ops x.i = true := by
    unfold isWk
    rw [hx.2]
    simp only []
    rw [← hx.kind, hk]; rfl
  -- what has been looked at, behind it
  have key : ∀ (s' : Sig) (h' : AH) (w' : World) (t' : Env), Aft (fun k => X k ∨ ∃ e ∈ E, e.blk = k) s h w s' h' w' → (∀ d, x.o.dst ≠ some d → Tr.get .undef (path d) t' = Tr.get .undef (path d) t) →
      (∀ b, (∃ u ∈ hiddenI (maskI acc x.pm) acc, idO (u.f t) = some b) → (h.get b).row = true → w'.heap[(s b).blk]? = w.heap[(s b).blk]? ∧ h'.get b = h.get b) →
      FA ops (isWk P ops) A (l.setIfInBounds x.i true) w' ∧ ∀ f ∈ A, ∃ y ∈ (x, maskI acc x.pm) :: acc, y.1.i = f.y ∧ y.1.kind ≤ 1 ∧ ∀ kb, f.b = some kb → Free' ops (isWk P ops) (l.setIfInBounds x.i true) f.y → ∃ id, lookI y.1.kind y.1.o.op t' = some id ∧ (h'.get id).row = true ∧ (s' id).blk = kb := by
    intro s' h' w' t' Af ht' hid
    have fr : ∀ y, Free' ops (isWk P ops) (l.setIfInBounds x.i true) y → Free' ops (isWk P ops) l y ∧ ¬ Dep ops x.i y := by
      intro y hfr
      refine ⟨fun z hz hwz => hfr z ?_ hwz, hfr x.i ?_ hWx⟩
      · rw [getD_set _ _ _ _ hlt]
        split
        · rfl
        · exact hz
      · rw [getD_set _ _ _ _ hlt, if_pos rfl]
    have got : ∀ f ∈ A, ∀ kb, f.b = some kb → Free' ops (isWk P ops) (l.setIfInBounds x.i true) f.y → ∃ y ∈ acc, y.1.i = f.y ∧ y.1.kind ≤ 1 ∧ ∃ id, lookI y.1.kind y.1.o.op t = some id ∧ (h.get id).row = true ∧ (s id).blk = kb ∧ w'.heap[kb]? = w.heap[kb]? ∧ h'.get id = h.get id := by
      intro f hf kb hkb hfr
      obtain ⟨hfr', hnd⟩ := fr f.y hfr
      obtain ⟨y, hy, h1, h2, h3⟩ := S.aInv f hf
      obtain ⟨id, g1, g2, g3⟩ := h3 kb hkb hfr'
      have hk1 : y.1.kind = 1 := by
        rcases Nat.lt_or_ge 0 y.1.kind with hq | hq
        · omega
        · have : y.1.kind = 0 := by omega
          rw [this] at g1; cases g1
      have hm : Nat.testBit (maskI acc x.pm) y.1.i = false := by
        cases hb : Nat.testBit (maskI acc x.pm) y.1.i with
        | false => rfl
        | true => exact absurd (h1 ▸ maskI_dep S.aok hx _ hb) hnd
      rw [hk1] at g1
      have g1' : (lookO y.1.o.op).bind (fun z => idO ((pd z).f t)) = some id := g1
      cases hl : lookO y.1.o.op with
      | none => rw [hl] at g1'; cases g1'
      | some o =>
        rw [hl] at g1'
        obtain ⟨q1, q2⟩ := hid id ⟨pd o, hidden_mem hk1 hm hl acc hy, g1'⟩ g2
        rw [g3] at q1
        exact ⟨y, hy, h1, h2, id, by rw [hk1]; exact g1, g2, g3, q1, q2⟩
    refine ⟨fun f hf hfr => ⟨fun kb hkb => ?_, (S.rel.look.keep fun k hk => ⟨hk, Af.keep k hk⟩).lb⟩, fun f hf => ?_⟩
    · obtain ⟨y, hy, _, _, id, _, _, _, q1, _⟩ := got f hf kb hkb hfr
      rw [q1]
      exact (S.fa f hf (fr f.y hfr).1).1 kb hkb
    · obtain ⟨y, hy, h1, h2, _⟩ := S.aInv f hf
      refine ⟨y, List.mem_cons_of_mem _ hy, h1, h2, fun kb hkb hfr => ?_⟩
      obtain ⟨y', hy', h1', h2', id, g1, g2, g3, _, q2⟩ := got f hf kb hkb hfr
      have : y.1 = y'.1 := (S.aok.wf y hy).eq (S.aok.wf y' hy') (h1.trans h1'.symm)
      refine ⟨id, ?_, by rw [q2]; exact g2, ?_⟩
      · rw [S.looks ht' hy h2, this]; exact g1
      · rw [Af.sig id (S.rel.lt (by revert g2; cases h.get id <;> simp [AB.row, AB.live]))]
        exact g3
  refine wpOp_putE hx.2 hselx hQ E a hap ?_
  unfold wpOp
  rw [hx.2]
  show (if Region.wanted x.o (yielded ops a.tmps) = true then _ else _)
  have fin : ∀ (s' : Sig) (h' : AH) (w' : World) (t' : Env) (u : Value), k t' h' = true → Rel P (fun k => X k ∨ ∃ e ∈ E, e.blk = k) s' h' w' → Aft (fun k => X k ∨ ∃ e ∈ E, e.blk = k) s h w s' h' w' → EnvOk s' h'.nx nt t' (a.put x.o.dst u) →
      (∀ d, x.o.dst ≠ some d → Tr.get .undef (path d) t' = Tr.get .undef (path d) t) →
      (∀ b, (∃ u ∈ hiddenI (maskI acc x.pm) acc, idO (u.f t) = some b) → (h.get b).row = true → w'.heap[(s b).blk]? = w.heap[(s b).blk]? ∧ h'.get b = h.get b) →
      FA ops (isWk P ops) A (l.setIfInBounds x.i true) w' ∧ wpAnyF P ops Q (FA ops (isWk P ops) A) fuel (l.setIfInBounds x.i true) (putE E (a.put x.o.dst u)) w' := by
    intro s' h' w' t' u hk' R' Af E' ht' hid
    obtain ⟨q1, q2⟩ := key s' h' w' t' Af ht' hid
    exact ⟨q1, ih s' h' w' t' _ hk' (S.step (by omega) hselx hsel R' Af E' q1 q2)⟩
  rcases guard_cases S.env e with ⟨hw, e1⟩ | ⟨hw, e1⟩
  · rw [if_pos hw]
    refine .inl ?_
    rw [prepD_run, hideF_run] at e1
    refine hide_ok (prep_ok hec x.o (ops_ok (hok x.o hmem))) _ _ s h w _ S.rel S.env e1 (fun v s' h' w' hkv R' Af hv hid => ?_)
    have E1 := S.env.aft Af
    cases hd : x.o.dst with
    | none =>
      rw [hd] at hkv
      have := fin s' h' w' t (cv s' v) hkv R' Af (by rw [hd]; exact E1) (fun _ _ => rfl) hid
      rw [hd] at this; exact this
    | some d =>
      rw [hd] at hkv
      have := fin s' h' w' _ (cv s' v) hkv R' Af (by rw [hd]; exact E1.put (dst_lt (hok x.o hmem) hd) hv) (fun d' hd' => by rw [Tr.get_set, if_neg (fun hq => hd' (by rw [hd, path_inj hq]))]) hid
      rw [hd] at this; exact this
  · rw [hw, if_neg (by decide)]
    rw [skipD_run] at e1
    cases hd : x.o.dst with
    | none =>
      rw [hd] at e1
      have := fin s h w t undef e1 S.rel (Aft.refl _ s h w) (by rw [hd]; exact S.env) (fun _ _ => rfl) (fun _ _ _ => ⟨rfl, rfl⟩)
      rw [hd] at this; exact this
    | some d =>
      rw [hd] at e1
      have := fin s h w _ undef e1 S.rel (Aft.refl _ s h w) (by rw [hd]; exact S.env.put (v := .undef) (dst_lt (hok x.o hmem) hd) trivial) (fun d' hd' => by rw [Tr.get_set, if_neg (fun hq => hd' (by rw [hd, path_inj hq]))]) (fun _ _ _ => ⟨rfl, rfl⟩)
      rw [hd] at this; exact this
theorem tryF_run {f : F} {p : PO} {ec : Ec} {k : KN} (e : (tryF f p).f ec k t h = true) : f.f ec t ⟨.e, 1⟩ (fun _ _ => true) = true ∧ p.f ec k t h = true := by
  obtain ⟨f⟩ := f
  obtain ⟨p⟩ := p
  exact bif_true e
theorem tryAll_run {p : PO} {ec : Ec} {k : KN} : ∀ (zs : List OpI), (tryAll P zs p).f ec k t h = true → (∀ z ∈ zs, (prepOp P z.o.op).f ec t ⟨.e, 1⟩ (fun _ _ => true) = true) ∧ p.f ec k t h = true
  | [], e => ⟨fun z hz => absurd hz (by simp), e⟩
  | z :: zs, e => by
    obtain ⟨h1, h2⟩ := tryF_run (show (tryF (prepOp P z.o.op) (tryAll P zs p)).f ec k t h = true from e)
    obtain ⟨h3, h4⟩ := tryAll_run zs h2
    refine ⟨fun y hy => ?_, h4⟩
    rcases List.mem_cons.1 hy with rfl | hy
    · exact h1
    · exact h3 y hy
theorem unl_join {E1 E2 : List ER} {e : ER} (hi : e.x.i = x.i) (hr : ∀ z ∈ r, z.i ≠ x.i) : unl (E1 ++ E2) r = unl (E1 ++ e :: E2) (x :: r) := by
  unfold unl
  rw [List.filter_cons]
  have h1 : (E1 ++ e :: E2).any (fun e => Nat.beq e.x.i x.i) = true := by
    rw [List.any_eq_true]
    exact ⟨e, by simp, by rw [hi]; exact Nat.beq_refl _⟩
  rw [h1]
  simp only [Bool.not_true, Bool.false_eq_true, if_false]
  congr 1
  apply List.filter_congr
  intro z hz
  congr 1
  rw [List.any_append, List.any_append, List.any_cons]
  have : Nat.beq e.x.i z.i = false := by
    cases hb : Nat.beq e.x.i z.i with
    | false => rfl
    | true => exact absurd ((Nat.eq_of_beq_eq_true hb).symm.trans hi) (hr z hz)
  rw [this]; simp
/-- one that has come ahead of its turn gets its name -/
theorem St.join [Fit P] {ec : Ec} {Q : Exit → Act → World → Prop} {fuel : Nat} {k : KN} (hok : ∀ o ∈ ops.toList, operOk P nt o = true) (hsel : ∀ (j : Nat) (o : Oper) cs b, ops[j]? = some o → o.op ≠ .select cs b)
    (S : St P ops nt X s0 h0 w0 acc pl (x :: r) E A l s h w t a) (hk : x.kind = 2) {e : ER} (he : e ∈ E) (hi : e.x.i = x.i) (ev : (tryF (prepOp P x.o.op) (prepO' ops x.o (prepOp P x.o.op))).f ec k t h = true) (hfuel : unl E (x :: r) ≤ fuel)
    (ih : ∀ E' s' h' t' a', k t' h' = true → unl E' r ≤ fuel → St P ops nt X s0 h0 w0 ((x, maskI acc x.pm) :: acc) (Nat.lor pl (Nat.pow 2 x.i)) r E' A l s' h' w t' a' → wpAnyF P ops Q (FA ops (isWk P ops) A) fuel l (putE E' a') w) :
    wpAnyF P ops Q (FA ops (isWk P ops) A) fuel l (putE E a) w := by
  have hx := S.wf x (List.mem_cons_self ..)
  have hex : e.x = x := (S.wf e.x (S.eIn e he)).eq hx hi
  obtain ⟨hA, hpre, hchk, _⟩ := S.head
  have hmem : x.o ∈ ops.toList := by simpa using Array.mem_of_getElem? hx.2
  have hkG : kindG P x.o = 2 := by rw [← hx.kind]; exact hk
  obtain ⟨hg, d, hd⟩ := kind2 hkG
  obtain ⟨E1, E2, rfl⟩ := List.append_of_mem he
  obtain ⟨hc, ev1⟩ := tryF_run ev
  obtain ⟨nb, hform, hrun, hlie, hwr⟩ := n_good hkG (ops_ok (hok x.o hmem)) S.rel S.env hc
  -- it is the block that was made
  have hblk := lt_of_get (S.eHeap e he)
  have hsame : e.val e.blk = nb.val e.blk ∧ e.ob = nb.ob := by
    let w1 : World := { w with heap := w.heap.extract 0 e.blk }
    have hs1 : w1.heap.size = e.blk := by show (w.heap.extract 0 e.blk).size = _; simp; omega
    have r1 := S.eRun e he w1
    have r2 := hrun w1
    rw [hex, r2, hs1] at r1
    have r1' := r1
    injection r1' with g1 g2
    injection g1 with g1
    refine ⟨g1.symm, ?_⟩
    have h1 := alloc_heap w1 nb.ob
    rw [g2, alloc_heap w1 e.ob] at h1
    exact Option.some.inj h1
  have hpairs := List.pairwise_cons.1 S.pairs
  have hrne : ∀ z ∈ r, z.i ≠ x.i := fun z hz => (hpairs.1 z hz).1.ne
  have hnd := S.eNd
  rw [List.pairwise_append, List.pairwise_cons] at hnd
  obtain ⟨nd1, ⟨nd2, nd3⟩, nd4⟩ := hnd
  have hmemE : ∀ f, f ∈ E1 ++ E2 → f ∈ E1 ++ e :: E2 := fun f hf => by
    rcases List.mem_append.1 hf with hf | hf
    · exact List.mem_append_left _ hf
    · exact List.mem_append_right _ (List.mem_cons_of_mem _ hf)
  have hdis : ∀ f ∈ E1 ++ E2, f.blk ≠ e.blk ∧ f.x.i ≠ x.i := fun f hf => by
    rcases List.mem_append.1 hf with hf | hf
    · have := nd4 f hf e (List.mem_cons_self ..)
      rw [hi] at this; exact this
    · have := nd2 f hf
      rw [hi] at this
      exact ⟨this.1.symm, this.2.symm⟩
  have hap : ∀ f ∈ E1 ++ E2, Ap ops f.x.o x.o := fun f hf => S.apHead (hmemE f hf) (hdis f hf).2
  have hput : putE (E1 ++ e :: E2) a = putE (E1 ++ E2) (a.put x.o.dst (e.val e.blk)) := by
    have h1 : putE (E1 ++ e :: E2) a = putE E2 ((putE E1 a).put e.x.o.dst (e.val e.blk)) := by unfold putE; rw [List.foldl_append, List.foldl_cons]
    have h2 : putE (E1 ++ E2) (a.put x.o.dst (e.val e.blk)) = putE E2 (putE E1 (a.put x.o.dst (e.val e.blk))) := by unfold putE; rw [List.foldl_append]
    rw [h1, h2, putE_put (fun f hf d hd => (hap f (List.mem_append_left _ hf)).a2 d hd), hex]
  rw [hput]
  -- the evaluator's step
  have ev2 : (prepD x.o.dst (prepOp P x.o.op)).f ec k t h = true := by
    have : prepO' ops x.o (prepOp P x.o.op) = prepD x.o.dst (prepOp P x.o.op) := by unfold prepO'; rw [hg]
    rw [this] at ev1; exact ev1
  rw [prepD_run, hd, hform] at ev2
  have ev3 := allocK_true ev2
  have R1 : Rel P (fun k => X k ∨ ∃ f ∈ E1 ++ E2, f.blk = k) s h w := S.rel.mono (fun k hk => hk.imp id (fun ⟨f, hf, hq⟩ => ⟨f, hmemE f hf, hq⟩)) (S.look.keep fun k hk => ⟨.inl hk, rfl⟩)
  have hl3 := hlie (upd s h.nx ⟨e.blk, 0, nb.cap⟩) h.nx e.blk w (fun i hi => upd_ne s _ (Nat.ne_of_lt hi)) (Nat.le_refl _) (upd_self ..) (by rw [← hsame.2]; exact S.eHeap e he)
  obtain ⟨hlies, hcv, hwf⟩ := hl3
  obtain ⟨R2, A2⟩ := R1.grow (l := ⟨e.blk, 0, nb.cap⟩) (w' := w) (fun k y _ hy => hy) (Nat.le_refl _) rfl rfl rfl (fun j hj => S.eLive e he j hj)
    (fun hq => by
      rcases hq with hq | ⟨f, hf, hq⟩
      · exact S.eX e he hq
      · exact (hdis f hf).1 hq) hlies (fun _ => hwr)
  have hsig : ∀ i, i < h.nx → upd s h.nx ⟨e.blk, 0, nb.cap⟩ i = s i := fun i hi => upd_ne s _ (Nat.ne_of_lt hi)
  have E2' : EnvOk (upd s h.nx ⟨e.blk, 0, nb.cap⟩) (h.add nb.b).nx nt (Tr.set .undef (nb.v h.nx) (path d) t) (a.put x.o.dst (e.val e.blk)) := by
    have := (S.env.ext (Nat.le_succ h.nx) hsig).put (dst_lt (hok x.o hmem) hd) hwf
    rw [hcv, ← hsame.1] at this
    rw [hd]; exact this
  have ht' : ∀ d', x.o.dst ≠ some d' → Tr.get .undef (path d') (Tr.set .undef (nb.v h.nx) (path d) t) = Tr.get .undef (path d') t := fun d' hd' => by
    rw [Tr.get_set, if_neg (fun hq => hd' (by rw [hd, path_inj hq]))]
  have hids : ∀ id, (h.get id).row = true → id ≠ h.nx := fun id hr hq => by
    have := S.rel.lt (i := id) (by revert hr; cases h.get id <;> simp [AB.row, AB.live])
    omega
  refine ih (E1 ++ E2) _ _ _ _ ev3 (by rw [unl_join hi hrne]; exact hfuel) ⟨hA, fun y hy => S.wf y (List.mem_cons_of_mem _ hy), hchk, fun f hf => ?_, fun f hf => S.eK f (hmemE f hf), fun f hf z hz => ?_, fun f hf w1 => ?_, fun f hf => S.eHeap f (hmemE f hf), fun f hf => S.eX f (hmemE f hf), fun f hf j hj => ?_, ?_, S.lSize, fun i his => ?_, R2, E2', S.aft.trans (A2.mono (fun k hk => .inl hk)), S.fa, fun f hf => ?_, S.lk⟩
  · rcases List.mem_cons.1 (S.eIn f (hmemE f hf)) with hq | hq
    · exact absurd (by rw [hq]) (hdis f hf).2
    · exact hq
  · obtain ⟨y, hy, hq⟩ := S.ePre f (hmemE f hf) z hz
    exact ⟨y, List.mem_cons_of_mem _ hy, hq⟩
  · have hp := (hap f hf).symm
    rw [execOp_put f.x.o (fun cs b => hsel f.x.i f.x.o cs b (S.wf f.x (S.eIn f (hmemE f hf))).2) a x.o.dst _ hp.a1]
    exact S.eRun f (hmemE f hf) w1
  · rw [AH.get_add] at hj
    by_cases hq : j = h.nx
    · subst hq
      rw [upd_self]
      exact fun hq => (hdis f hf).1 hq.symm
    · rw [if_neg hq] at hj
      rw [upd_ne s _ hq]
      exact S.eLive f (hmemE f hf) j hj
  · rw [List.pairwise_append]
    exact ⟨nd1, nd3, fun f hf g hg => nd4 f hf g (List.mem_cons_of_mem _ hg)⟩
  · rw [S.lIff i his]
    constructor
    · rintro (⟨y, hy, hq⟩ | ⟨f, hf, hq⟩)
      · exact .inl ⟨y, List.mem_cons_of_mem _ hy, hq⟩
      · rcases List.mem_append.1 hf with hf | hf
        · exact .inr ⟨f, List.mem_append_left _ hf, hq⟩
        · rcases List.mem_cons.1 hf with rfl | hf
          · exact .inl ⟨_, List.mem_cons_self .., hi.symm.trans hq⟩
          · exact .inr ⟨f, List.mem_append_right _ hf, hq⟩
    · rintro (⟨y, hy, hq⟩ | ⟨f, hf, hq⟩)
      · rcases List.mem_cons.1 hy with rfl | hy
        · exact .inr ⟨e, he, hi.trans hq⟩
        · exact .inl ⟨y, hy, hq⟩
      · exact .inr ⟨f, hmemE f hf, hq⟩
  · obtain ⟨y, hy, h1, h2, h3⟩ := S.aInv f hf
    refine ⟨y, List.mem_cons_of_mem _ hy, h1, h2, fun kb hkb hfr => ?_⟩
    obtain ⟨id, g1, g2, g3⟩ := h3 kb hkb hfr
    refine ⟨id, by rw [S.looks ht' hy h2]; exact g1, ?_, ?_⟩
    · rw [AH.get_add, if_neg (hids id g2)]; exact g2
    · rw [upd_ne s _ (hids id g2)]; exact g3
end
end Go.Rk

namespace Go.Rk
open Go
set_option linter.unusedSectionVars false
variable [Nt] [Nu]
section
variable {P : Program} {ops : Array Oper} {nt : Nat} {X : Nat → Prop} {s0 : Sig} {h0 : AH} {w0 : World} {acc : Acc} {pl : Nat} {rest : List OpI} {E : List ER} {A : List Fr} {l : Array Bool} {s : Sig} {h : AH} {w : World} {t : Env} {a : Act}
theorem kindOf_le (o : Op) : kindOf P o ≤ 3 := by
  unfold kindOf
  split <;> first | omega | (split <;> first | omega | (split <;> omega))
theorem kindG_le3 (o : Oper) : kindG P o ≤ 3 := by
  have := kindOf_le (P := P) o.op
  unfold kindG
  split
  · split
    · split <;> omega
    · omega
  · exact this
theorem St.preN (S : St P ops nt X s0 h0 w0 acc pl rest E A l s h w t a) {z : OpI} (hz : z ∈ rest) (hk : z.kind = 2) (hr : z.i ∈ Region.ready .any ops l) : ∀ p, Dir ops z.i p → ∃ y ∈ acc, y.1.i = p := by
  have hwf := S.wf z hz
  have hun := (mem_ready.1 hr).1
  have hEz : ∀ e ∈ E, e.x.i ≠ z.i := fun e he hi => by
    have := (S.lIff z.i hwf.lt).2 (.inr ⟨e, he, hi⟩)
    rw [getD_tf _ _ hun] at this; cases this
  intro p hp
  have hl := ready_dir hr hp
  have hps : p < ops.size := by rw [← S.lSize]; exact lt_true hl
  rcases (S.lIff p hps).1 hl with hq | ⟨e, he, hi⟩
  · exact hq
  · exact absurd (hi ▸ hp) (S.ap2 (S.eIn e he) hz (S.eK e he) hk (hEz e he)).2
theorem pend_mem (A : AccOk P ops acc pl) {z : OpI} {r : List OpI} (hz : z ∈ r) (hw : WfI P ops z) (hk : z.kind = 2) (hpre : ∀ p, Dir ops z.i p → ∃ y ∈ acc, y.1.i = p) : z ∈ pendI r pl := by
  unfold pendI
  rw [lfilter_eq, List.mem_filter]
  refine ⟨hz, ?_⟩
  have : Nat.land z.pm pl = z.pm := by
    apply Nat.eq_of_testBit_eq
    intro i
    rw [testBit_land]
    cases hb : z.pm.testBit i with
    | false => rfl
    | true => rw [(A.pl i).2 (hpre i ((hw.pm i).1 hb))]; rfl
  rw [this, hk, Nat.beq_refl, Nat.beq_refl]; rfl
theorem posI_cons (x : OpI) (r : List OpI) : posI P ops (x :: r) acc pl = poI P ops x (maskI acc x.pm) acc r pl :: posI P ops r ((x, maskI acc x.pm) :: acc) (Nat.lor pl (Nat.pow 2 x.i)) := rfl
/-- whatever order is drawn, from wherever the run stands -/
theorem claim [FitC P] {ec : Ec} (hec : EcOk P ec) {Q : Exit → Act → World → Prop} (hQ : ∀ c a w, ¬ Q (.panic c) a w) (hok : ∀ o ∈ ops.toList, operOk P nt o = true) (hsel : ∀ (j : Nat) (o : Oper) cs b, ops[j]? = some o → o.op ≠ .select cs b)
    {k : KN} (hN : Then P X nt s0 h0 w0 k (Q .normal)) : ∀ (m fuel : Nat) (acc : Acc) (pl : Nat) (rest : List OpI) (E : List ER) (A : List Fr) (l : Array Bool) (s : Sig) (h : AH) (w : World) (t : Env) (a : Act),
      fuel + rest.length < m → unl E rest ≤ fuel → St P ops nt X s0 h0 w0 acc pl rest E A l s h w t a → evOps ec (posI P ops rest acc pl) k t h = true → wpAnyF P ops Q (FA ops (isWk P ops) A) fuel l (putE E a) w := by
  intro m
  induction m with
  | zero => intro fuel acc pl rest E A l s h w t a hm; omega
  | succ m ih =>
    intro fuel acc pl rest E A l s h w t a hm hf S ev
    cases rest with
    | nil =>
      have hE : E = [] := by
        cases E with
        | nil => rfl
        | cons e E => exact absurd (S.eIn e (List.mem_cons_self ..)) (by simp)
      subst hE
      have hr : Region.ready .any ops l = [] := by
        apply List.eq_nil_iff_forall_not_mem.2
        intro j hj
        obtain ⟨z, hz, _⟩ := S.ready_in hj
        exact absurd hz (by simp)
      have hq : Q .normal (putE [] a) w := hN s h w t a ev (S.rel.mono (fun k hk => .inl hk) S.look) S.aft S.env
      cases fuel with
      | zero => exact ⟨hr, hq⟩
      | succ fuel => exact ⟨fun _ => hq, by rw [hr]; simp⟩
    | cons x r =>
      rw [posI_cons, evOps_cons] at ev
      have hx := S.wf x (List.mem_cons_self ..)
      have hlen : (x :: r).length = r.length + 1 := rfl
      -- whoever comes up that is not the head makes a block
      have hN2 : x.kind ≠ 0 → x.kind ≠ 1 → ∀ j ∈ Region.ready .any ops l, (∀ e ∈ E, e.x.i ≠ x.i) → ∃ z ∈ x :: r, z.i = j ∧ (z = x ∨ (z ∈ r ∧ z.kind = 2)) := by
        intro h0 h1 j hj hEx
        obtain ⟨z, hz, hzi, _⟩ := S.ready_in hj
        refine ⟨z, hz, hzi, ?_⟩
        rcases List.mem_cons.1 hz with hq | hzr
        · exact .inl hq
        · refine .inr ⟨hzr, ?_⟩
          rcases ((List.pairwise_cons.1 S.pairs).1 z hzr).1.dep with hd | hd | hd
          · exact hd
          · omega
          · have h1 := ready_dep S.closed (hzi ▸ hj) hd
            have h2 := getD_tf _ _ (S.unlisted (List.mem_cons_self ..) hEx)
            rw [h2] at h1; cases h1
      have ev0 := ev
      unfold poI at ev
      cases hL : isL x with
      | true =>
        rw [hL] at ev
        have hk := isL_iff.1 hL
        have hE := S.headE (by omega)
        rw [unl_head hE] at hf
        obtain ⟨fuel, rfl⟩ : ∃ f, fuel = f + 1 := ⟨fuel - 1, by omega⟩
        exact S.stepL hok hsel hQ hk ev (fun f t' a' hk' S' => ih fuel _ _ r E _ _ s h w t' a' (by rw [hlen] at hm; omega) (by omega) S' hk')
      | false =>
        rw [hL] at ev
        have hnk : ¬ x.kind ≤ 1 := fun hq => by rw [isL_iff.2 hq] at hL; cases hL
        have ev' : (tryAll P (pendI r pl) (Bool.rec (motive := fun _ => PO) (prepO' ops x.o (hideF (hiddenI (maskI acc x.pm) acc) (prepOp P x.o.op))) (tryF (prepOp P x.o.op) (prepO' ops x.o (prepOp P x.o.op))) (Nat.beq x.kind (nat_lit 2)))).f ec
            (evOps ec (posI P ops r ((x, maskI acc x.pm) :: acc) (Nat.lor pl (Nat.pow 2 x.i))) k) t h = true := ev
        obtain ⟨hpend, ev2⟩ := tryAll_run _ ev'
        obtain ⟨_, hpre, _, _⟩ := S.head
        cases hb : Nat.beq x.kind (nat_lit 2) with
        | true =>
          have hk : x.kind = 2 := Nat.eq_of_beq_eq_true hb
          rw [hb] at ev2
          by_cases hE : ∃ e ∈ E, e.x.i = x.i
          · obtain ⟨e, he, hi⟩ := hE
            exact S.join hok hsel hk he hi ev2 hf (fun E' s' h' t' a' hk' hf' S' => ih fuel _ _ r E' A l s' h' w t' a' (by rw [hlen] at hm; omega) hf' S' hk')
          · have hEx : ∀ e ∈ E, e.x.i ≠ x.i := fun e he hi => hE ⟨e, he, hi⟩
            have hf1 := hf
            rw [unl_head hEx] at hf1
            obtain ⟨fuel, rfl⟩ : ∃ f, fuel = f + 1 := ⟨fuel - 1, by omega⟩
            have hrx := S.ready (List.mem_cons_self ..) hEx hpre
            refine ⟨fun hq => (by rw [hq] at hrx; cases hrx), fun j hj => ?_⟩
            obtain ⟨z, hz, hzi, hcase⟩ := hN2 (by omega) (by omega) j hj hEx
            subst hzi
            have hcz : z.kind = 2 ∧ (prepOp P z.o.op).f ec t ⟨.e, 1⟩ (fun _ _ => true) = true := by
              rcases hcase with rfl | ⟨hzr, hkz⟩
              · exact ⟨hk, (tryF_run ev2).1⟩
              · exact ⟨hkz, hpend z (pend_mem S.aok hzr (S.wf z hz) hkz (S.preN hz hkz hj))⟩
            exact S.early hok hsel hz hcz.1 hj hcz.2 hf (fun E' l' w' hf' S' => ih fuel acc pl (x :: r) E' A l' s h w' t a (by omega) hf' S' (by rw [posI_cons, evOps_cons]; exact ev0))
        | false =>
          rw [hb] at ev2
          have hk : x.kind = 3 := by
            have h3 : x.kind ≤ 3 := by rw [hx.kind]; exact kindG_le3 x.o
            have h2 : x.kind ≠ 2 := fun hq => by rw [hq] at hb; cases hb
            omega
          have hEx := S.headE (by omega)
          have hf1 := hf
          rw [unl_head hEx] at hf1
          obtain ⟨fuel, rfl⟩ : ∃ f, fuel = f + 1 := ⟨fuel - 1, by omega⟩
          have hrx := S.ready (List.mem_cons_self ..) hEx hpre
          refine ⟨fun hq => (by rw [hq] at hrx; cases hrx), fun j hj => ?_⟩
          obtain ⟨z, hz, hzi, hcase⟩ := hN2 (by omega) (by omega) j hj hEx
          subst hzi
          rcases hcase with rfl | ⟨hzr, hkz⟩
          · exact S.stepW hec hok hsel hQ hk ev2 (fun s' h' w' t' a' hk' S' => ih fuel _ _ r E A _ s' h' w' t' a' (by rw [hlen] at hm; omega) (by omega) S' hk')
          · exact S.early hok hsel hz hkz hj (hpend z (pend_mem S.aok hzr (S.wf z hz) hkz (S.preN hz hkz hj))) hf (fun E' l' w' hf' S' => ih fuel acc pl (x :: r) E' A l' s h w' t a (by omega) hf' S' (by rw [posI_cons, evOps_cons]; exact ev0))
end
/-- regions that draw their order are right -/
theorem any_ok {P : Program} [FitC P] {ec : Ec} (hec : EcOk P ec) {ops : Array Oper} {nt : Nat} (hok : ∀ o ∈ ops.toList, operOk P nt o = true) {X : Nat → Prop} {Q : Exit → Act → World → Prop} {k : KN} :
    ∀ (n : Nat) (l : Array Bool) (s : Sig) (h : AH) (w : World) (t : Env) (a : Act), Rel P X s h w → EnvOk s h.nx nt t a → anyF P ops ec k n l t h = true → Then P X nt s h w k (Q .normal) →
      wpAny P .any ops Q n l a w
  | 0, l, s, h, w, t, a, R, E, e, hN => by
    have e1 : (match Region.ready .any ops l with | [] => k t h | _ :: _ => false) = true := e
    cases hr : Region.ready .any ops l with
    | nil => rw [hr] at e1; exact ⟨hr, hN s h w t a e1 R (Aft.refl X s h w) E⟩
    | cons i r => rw [hr] at e1; exact absurd e1 Bool.false_ne_true
  | n + 1, l, s, h, w, t, a, R, E, e, hN => by
    have e0 : and (match Region.ready .any ops l with | [] => k t h | _ :: _ => true) (lall (fun i => match ops[i]? with | none => false | some o => (prepO P ops o).f ec (anyF P ops ec k n (l.setIfInBounds i true)) t h) (Region.ready .any ops l)) = true := e
    obtain ⟨e1, e2⟩ := and_true' e0
    refine ⟨fun hr => ?_, fun i hi => ?_⟩
    · rw [hr] at e1
      exact hN s h w t a e1 R (Aft.refl X s h w) E
    · have e3 := lall_true e2 i hi
      cases ho : ops[i]? with
      | none => rw [ho] at e3; exact absurd e3 Bool.false_ne_true
      | some o =>
        rw [ho] at e3
        have hoi := hok o (by simpa using Array.mem_of_getElem? ho)
        exact prepO'_ok ho (prep_ok hec _ (ops_ok hoi)) hoi R E e3 (fun s' h' w' t' a' hk R' A' E' => any_ok hec hok n _ s' h' w' t' a' R' E' hk (hN.aft A'))
theorem draw_ok (P : Program) [FitC P] : DrawOk P := by
  intro ec hec id ops nt hok X s h w t a k Q R E e hN
  have e1 : evOps ec (prepP P ops (planI (opIs P ops ops.toList 0) ops.size 0)) k t h = true := e
  unfold prepP at e1
  cases hreg : regOk ops (planI (opIs P ops ops.toList 0) ops.size 0) with
  | false =>
    rw [hreg] at e1
    have e2 : anyF P ops ec k ops.size (Array.replicate ops.size false) t h = true := e1
    exact wp_region_any (FitC.mixed (P := P)) (any_ok hec hok ops.size _ s h w.drew t a (R.heap rfl) (E.aft (Aft.drew X s h w)) e2 (hN.aft (Aft.drew X s h w)))
  | true =>
    rw [hreg] at e1
    generalize hplan : planI (opIs P ops ops.toList 0) ops.size 0 = plan at *
    obtain ⟨hlen, h23⟩ := and_true' hreg
    obtain ⟨hsel0, hchk⟩ := and_true' h23
    have hlen' : plan.length ≤ ops.size := by rw [← len_eq]; exact Nat.ble_eq.mp hlen
    have hsel : ∀ (j : Nat) (o : Oper) cs b, ops[j]? = some o → o.op ≠ .select cs b := by
      intro j o cs b hj hop
      have := lall_true hsel0 o (by simpa using Array.mem_of_getElem? hj)
      have h2 := not_true' this
      unfold selO at h2
      rw [hop] at h2; cases h2
    have hwf : ∀ x ∈ plan, WfI P ops x := fun x hx => by
      rw [← hplan] at hx
      refine opIs_wf ops.toList 0 (fun k o hk => ?_) x (planI_mem _ _ x hx)
      rw [Nat.zero_add, ← Array.getElem?_toList]; exact hk
    let Q0 : Exit → Act → World → Prop := fun e a w => match e with | .normal => Q .normal a w | _ => False
    have hA0 : AccOk P ops [] 0 := ⟨fun y hy => absurd hy (by simp), fun y hy => absurd hy (by simp), fun y hy => absurd hy (by simp), fun i => by simp⟩
    have main : (Code.region id ops true).wp P Q0 a w := by
      refine wp_region_any (FitC.mixed (P := P)) (wpAny_ofF _ _ _ _ ?_ (F := FA ops (isWk P ops) []))
      refine claim (X := X) (s0 := s) (h0 := h) (w0 := w) hec (Q := Q0) (fun c a w hq => hq) hok hsel (k := k) (fun s' h' w' t' a' hk R' A' E' => hN s' h' w' t' a' hk R' A' E') (ops.size + plan.length + 1) ops.size [] 0 plan [] [] _ s h w.drew t a (by omega) ?_ ?_ e1
      · exact Nat.le_trans (List.length_filter_le _ _) hlen'
      · refine ⟨hA0, hwf, hchk, fun e he => absurd he (by simp), fun e he => absurd he (by simp), fun e he => absurd he (by simp), fun e he => absurd he (by simp), fun e he => absurd he (by simp), fun e he => absurd he (by simp), fun e he => absurd he (by simp), .nil, by simp, fun i hi => ?_, ?_, E, Aft.drew X s h w, fun f hf => absurd hf (by simp), fun f hf => absurd hf (by simp), R.look.keep fun k hk => ⟨hk, rfl⟩⟩
        · rw [Array.getD_eq_getD_getElem?, Array.getElem?_replicate, if_pos hi]
          simp
        · refine (R.heap (w' := w.drew) rfl).mono (fun k hk => ?_) (R.look.keep fun k hk => ⟨.inl hk, rfl⟩)
          rcases hk with hk | ⟨e, he, _⟩
          · exact hk
          · exact absurd he (by simp)
    refine wp_mono main (fun e a w hq => ?_)
    cases e with
    | normal => exact hq
    | _ => exact hq.elim
end Go.Rk
