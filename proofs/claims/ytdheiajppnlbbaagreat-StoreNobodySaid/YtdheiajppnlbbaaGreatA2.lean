/-
  THE LAYER, PART 2: operations: what one yields, lays, or does; a list of them in one order; and one order for all where a region draws its order. Own work.
-/
import Derived.Test.YtdheiajppnlbbaaGreatA1
namespace Go.Proofs.YtdheiajppnlbbaaGreat
open Go Go.RowKit

/-- It yields v, whatever the heap. -/
def Pu (P : Program) (o : Oper) (e : Env) (v : Value) : Prop := ∀ w, (execOp e.eval o).run P w = .ok (.value v) w
/-- It yields v where H is known. -/
def Rd (P : Program) (o : Oper) (e : Env) (H : Hp) (v : Value) : Prop := ∀ w, Has H w → (execOp e.eval o).run P w = .ok (.value v) w
/-- It lays a new block. -/
def Al (P : Program) (o : Oper) (e : Env) (obj : Obj) (mk : Nat → Value) : Prop := ∀ w, (execOp e.eval o).run P w = .ok (.value (mk w.heap.size)) (w.alloc obj)
/-- It does something: then N. -/
def Ef (P : Program) (o : Oper) (e : Env) (H : Hp) (N : Value → Hp → Prop) : Prop :=
  ∀ w, Has H w → ∀ (a : Act) (next : Act → World → Prop) (Q : Exit → Act → World → Prop),
    (∀ v w' H', Has H' w' → Fr H w H' w' → N v H' → next (a.put o.dst v) w') → o.upon P a next Q ((execOp e.eval o).run P w)

variable {P : Program} {ops : Array Oper} {o : Oper} {e : Env} {H : Hp}

theorem Pu.rd {v : Value} (h : Pu P o e v) : Rd P o e H v := fun w _ => h w
theorem Rd.ef {v : Value} {N : Value → Hp → Prop} (h : Rd P o e H v) (hn : N v H) : Ef P o e H N := fun w hw a next Q k => by
  rw [h w hw]; exact k v w H hw (Fr.refl _ _) hn
theorem Pu.ef {v : Value} {N : Value → Hp → Prop} (h : Pu P o e v) (hn : N v H) : Ef P o e H N := (h.rd (H := H)).ef hn
theorem Al.ef {obj : Obj} {mk : Nat → Value} {N : Value → Hp → Prop} (h : Al P o e obj mk) (hn : ∀ b, H b = none → N (mk b) (H.ins b obj)) : Ef P o e H N :=
  fun w hw a next Q k => by
    rw [h w]; exact k _ _ _ (hw.alloc obj) (Fr.alloc obj) (hn _ hw.fresh)
theorem Ef.mono {N N' : Value → Hp → Prop} (h : Ef P o e H N) (hn : ∀ v H', N v H' → N' v H') : Ef P o e H N' :=
  fun w hw a next Q k => h w hw a next Q fun v w' H' h1 h2 h3 => k v w' H' h1 h2 (hn _ _ h3)
theorem Rd.mono {H' : Hp} {v : Value} (h : Rd P o e H v) (s : Sub H H') : Rd P o e H' v := fun w hw => h w (hw.sub s)
theorem Pu.unique {v u : Value} (h : Pu P o e v) (k : Pu P o e u) : v = u := by
  have := (h default).symm.trans (k default); simpa using this
theorem alloc_inj {w : World} {o1 o2 : Obj} (h : w.alloc o1 = w.alloc o2) : o1 = o2 := by
  have h1 := World.heap_alloc_top w o1
  rw [h, World.heap_alloc_top] at h1
  simpa using h1.symm
theorem Al.unique {x y : Obj} {m n : Nat → Value} (h : Al P o e x m) (k : Al P o e y n) : x = y ∧ m = n := by
  refine ⟨?_, funext fun s => ?_⟩
  · have := (h default).symm.trans (k default)
    simp only [Result.ok.injEq] at this
    exact alloc_inj this.2
  · have := (h { (default : World) with heap := Array.replicate s default }).symm.trans (k _)
    simp at this
    exact this.1

/-- What is not known stays: a block more. -/
theorem Ef.frame {N : Value → Hp → Prop} {b : Nat} {obj : Obj} (h : Ef P o e H N) (hb : H b = none) :
    Ef P o e (H.ins b obj) (fun v H'' => ∃ H', H'' = H'.ins b obj ∧ H' b = none ∧ N v H') := fun w hw a next Q k => by
  have hs : Sub H (H.ins b obj) := (Sub.refl H).ins hb
  refine h w (hw.sub hs) a next Q fun v w' H' h1 h2 h3 => ?_
  have hat : w.heap[b]? = some obj := hw b obj (Hp.ins_same _ _ _)
  have hlt : b < w.heap.size := (Array.getElem?_eq_some_iff.1 hat).1
  have hnone : H' b = none := by
    cases hc : H' b with
    | none => rfl
    | some p =>
      rcases h2.dom b (by rw [hc]; simp) with h4 | h4
      · exact absurd hb h4
      · omega
  refine k v w' (H'.ins b obj) (fun x p hx => ?_) ⟨h2.os, h2.tape, h2.output, h2.size, fun x hx hn => h2.same x hx (Hp.ins_none hn).2, fun x hx => ?_⟩ ⟨H', rfl, hnone, h3⟩
  · unfold Hp.ins at hx
    split at hx
    · rename_i e; subst e; rw [h2.same _ hlt hb, hat]; exact hx
    · exact h1 x p hx
  · unfold Hp.ins at hx ⊢
    split at hx
    · rename_i e; left; simp [e]
    · rename_i e
      rcases h2.dom x hx with h4 | h4
      · left; rw [if_neg e]; exact h4
      · exact .inr h4

/-! ### One order -/

def SQ (P : Program) (ops : Array Oper) (l : List Nat) (e : Env) (H : Hp) (N : Env → Hp → Prop) : Prop :=
  ∀ w a, e.Rel a → Has H w → ∀ Q : Exit → Act → World → Prop, (∀ e' a' w' H', e'.Rel a' → Has H' w' → Fr H w H' w' → N e' H' → Q .normal a' w') → wpOps P ops Q l a w

theorem SQ.nil {N : Env → Hp → Prop} (h : N e H) : SQ P ops [] e H N := fun w a hr hw Q k => k e a w H hr hw (Fr.refl _ _) h

theorem SQ.step {N : Env → Hp → Prop} {i : Nat} {rest : List Nat} (ho : ops[i]? = some o) (hg : Region.wanted o (Env.yielded ops e) = true)
    (h : Ef P o e H fun v H' => SQ P ops rest (e.put o.dst v) H' N) : SQ P ops (i :: rest) e H N := fun w a hr hw Q k => by
  simp only [wpOps, ho, hr.yielded, hg, if_true]
  refine .inl ?_
  unfold Oper.wp
  rw [hr.eval]
  exact h w hw a _ Q fun v w' H' h1 h2 h3 => h3 w' (a.put o.dst v) (hr.put _ _) h1 Q fun e' a' w'' H'' q1 q2 q3 q4 => k e' a' w'' H'' q1 q2 (h2.trans q3) q4

theorem SQ.skip {N : Env → Hp → Prop} {i : Nat} {rest : List Nat} (ho : ops[i]? = some o) (hg : Region.wanted o (Env.yielded ops e) = false)
    (h : SQ P ops rest (e.put o.dst undef) H N) : SQ P ops (i :: rest) e H N := fun w a hr hw Q k => by
  simp only [wpOps, ho, hr.yielded, hg, if_false, Bool.false_eq_true]
  exact h w _ (hr.put _ _) hw Q k

/-! ### One order for all -/

structure Env.Eqv (e e' : Env) : Prop where
  n : e.n = e'.n
  get : ∀ t, e.get t = e'.get t
  ds : e.ds = e'.ds
theorem Env.Eqv.refl (e : Env) : e.Eqv e := ⟨rfl, fun _ => rfl, rfl⟩
theorem Env.Eqv.symm {e e' : Env} (h : e.Eqv e') : e'.Eqv e := ⟨h.n.symm, fun t => (h.get t).symm, h.ds.symm⟩
theorem Env.Eqv.trans {a b c : Env} (h : a.Eqv b) (k : b.Eqv c) : a.Eqv c := ⟨h.n.trans k.n, fun t => (h.get t).trans (k.get t), h.ds.trans k.ds⟩
theorem Env.Eqv.eval {e e' : Env} (h : e.Eqv e') : e.eval = e'.eval := by
  funext x; cases x with
  | tmp t => exact h.get t
  | _ => rfl
theorem Env.Eqv.rel {e e' : Env} {a : Act} (h : e.Eqv e') (r : e'.Rel a) : e.Rel a := ⟨r.size.trans h.n.symm, fun t => (r.val t).trans (h.get t).symm, r.ds.trans h.ds.symm⟩
theorem Env.Eqv.yielded {e e' : Env} (h : e.Eqv e') (ops : Array Oper) : Env.yielded ops e = Env.yielded ops e' := by
  funext j; unfold Env.yielded; cases (ops[j]?).bind (·.dst) with
  | none => rfl
  | some t => simp only [h.get t]
theorem Env.get_put_ne (e : Env) (d t : Nat) (v : Value) (h : ¬ d = t) : (e.put (some d) v).get t = e.get t := by
  simp only [Env.put, Env.get, getL, beq_no h, cond_false]
theorem Env.get_put_same (e : Env) (d : Nat) (v : Value) : (e.put (some d) v).get d = bif Nat.blt d e.n then v else undef := by
  have : Nat.beq d d = true := by simp
  simp only [Env.put, Env.get, getL, this, cond_true]
theorem Env.Eqv.put {e e' : Env} (h : e.Eqv e') (d : Option Tmp) (v : Value) : (e.put d v).Eqv (e'.put d v) := by
  cases d with
  | none => exact h
  | some d =>
    refine ⟨h.n, fun t => ?_, h.ds⟩
    by_cases hd : d = t
    · subst hd; rw [Env.get_put_same, Env.get_put_same, h.n]
    · rw [Env.get_put_ne _ _ _ _ hd, Env.get_put_ne _ _ _ _ hd, h.get]
theorem Env.put_comm (e : Env) {x y : Option Tmp} (v u : Value) (h : ∀ d, x = some d → y ≠ some d) : ((e.put x v).put y u).Eqv ((e.put y u).put x v) := by
  cases x with
  | none => exact .refl _
  | some d =>
    cases y with
    | none => exact .refl _
    | some c =>
      have hne : ¬ d = c := fun he => h d rfl (he ▸ rfl)
      refine ⟨rfl, fun t => ?_, rfl⟩
      by_cases h1 : c = t
      · subst h1
        rw [Env.get_put_same, Env.get_put_ne _ _ _ _ hne, Env.get_put_same]; rfl
      · rw [Env.get_put_ne _ _ _ _ h1]
        by_cases h2 : d = t
        · subst h2; rw [Env.get_put_same, Env.get_put_same]; rfl
        · rw [Env.get_put_ne _ _ _ _ h2, Env.get_put_ne _ _ _ _ h2, Env.get_put_ne _ _ _ _ h1]

theorem eval_put {e : Env} {dst : Option Tmp} {v : Value} {x : Operand} (h : ∀ d, dst = some d → x ≠ .tmp d) : (e.put dst v).eval x = e.eval x := by
  cases dst with
  | none => rfl
  | some d =>
    cases x with
    | tmp t => exact Env.get_put_ne _ _ _ _ fun he => h d rfl (he ▸ rfl)
    | _ => rfl
theorem exec_put (o : Oper) (hs : ∀ cs b, o.op ≠ .select cs b) (e : Env) (dst : Option Tmp) (v : Value) (h : ∀ d, dst = some d → d ∉ o.looksAt ops) :
    execOp (e.put dst v).eval o = execOp e.eval o :=
  execOp_congr o hs fun x hx => eval_put fun d hd hxd => h d hd (by
    subst hxd
    exact List.mem_append_left _ (List.mem_filterMap.2 ⟨.tmp d, by simpa using hx, rfl⟩))
theorem want_put (o : Oper) (e : Env) (dst : Option Tmp) (v : Value) (h : ∀ d, dst = some d → d ∉ o.looksAt ops) :
    Region.wanted o (Env.yielded ops (e.put dst v)) = Region.wanted o (Env.yielded ops e) := by
  cases dst with
  | none => rfl
  | some d =>
    unfold Region.wanted
    cases hg : o.guard with
    | none => rfl
    | some gw =>
      obtain ⟨g, want⟩ := gw
      have hy : Env.yielded ops (e.put (some d) v) g = Env.yielded ops e g := by
        unfold Env.yielded
        cases ht : (ops[g]?).bind (·.dst) with
        | none => rfl
        | some t =>
          have hne : ¬ d = t := fun he => h d rfl (by subst he; simp [Oper.looksAt, hg, ht])
          simp only [Env.get_put_ne _ _ _ _ hne]
      simp only [hy]

inductive Kd where
  | pure | read | alloc | effect
  deriving DecidableEq

/-- Is number x known to come ahead of number y? -/
def Anc (A : List (List Nat)) (x y : Nat) : Bool := (A.getD y []).contains x

/-- One order, told so that every other one follows. 'done': what was read, and would it read the same? -/
def DL (P : Program) (ops : Array Oper) (A : List (List Nat)) (N : Env → Hp → Prop) : List (Nat × (Hp → Prop)) → List (Nat × Kd) → Env → Hp → Prop
  | _, [], e, H => ∃ e0, e0.Eqv e ∧ N e0 H
  | done, (i, k) :: rest, e, H => ∃ o, ops[i]? = some o ∧
      ((Region.wanted o (Env.yielded ops e) = false ∧ DL P ops A N done rest (e.put o.dst undef) H) ∨
       (Region.wanted o (Env.yielded ops e) = true ∧ match k with
        | .pure => ∃ v, Pu P o e v ∧ DL P ops A N done rest (e.put o.dst v) H
        | .read => ∃ v, Rd P o e H v ∧ DL P ops A N ((i, fun H' => Rd P o e H' v) :: done) rest (e.put o.dst v) H
        | .alloc => ∃ obj mk, Al P o e obj mk ∧ ∀ b, H b = none → DL P ops A N done rest (e.put o.dst (mk b)) (H.ins b obj)
        | .effect => Ef P o e H fun v H' => (∀ p ∈ done, Anc A p.1 i = false → p.2 H') ∧ DL P ops A N done rest (e.put o.dst v) H'))

def DoneLe (d1 d2 : List (Nat × (Hp → Prop))) : Prop := ∀ p ∈ d2, ∃ q ∈ d1, q.1 = p.1 ∧ ∀ H, q.2 H → p.2 H
theorem DoneLe.refl (d : List (Nat × (Hp → Prop))) : DoneLe d d := fun p hp => ⟨p, hp, rfl, fun _ h => h⟩
theorem DoneLe.cons {d1 d2 : List (Nat × (Hp → Prop))} (h : DoneLe d1 d2) (i : Nat) {R R' : Hp → Prop} (hr : ∀ H, R H → R' H) : DoneLe ((i, R) :: d1) ((i, R') :: d2) := fun p hp => by
  rcases List.mem_cons.1 hp with rfl | hp
  · exact ⟨_, List.mem_cons_self .., rfl, hr⟩
  · obtain ⟨q, hq, h1, h2⟩ := h p hp; exact ⟨q, List.mem_cons_of_mem _ hq, h1, h2⟩
theorem DoneLe.more {d1 d2 : List (Nat × (Hp → Prop))} (h : DoneLe d1 d2) (p0 : Nat × (Hp → Prop)) : DoneLe (p0 :: d1) d2 := fun p hp => by
  obtain ⟨q, hq, h1, h2⟩ := h p hp; exact ⟨q, List.mem_cons_of_mem _ hq, h1, h2⟩

variable {A : List (List Nat)} {N : Env → Hp → Prop}

theorem DL.congr : ∀ (l : List (Nat × Kd)) {d1 d2 : List (Nat × (Hp → Prop))} {e e' : Env} {H : Hp}, DoneLe d1 d2 → e.Eqv e' → DL P ops A N d1 l e H → DL P ops A N d2 l e' H := by
  intro l
  induction l with
  | nil => intro d1 d2 e e' H _ he ⟨e0, h0, hn⟩; exact ⟨e0, h0.trans he, hn⟩
  | cons p l ih =>
    obtain ⟨i, k⟩ := p
    intro d1 d2 e e' H hd he ⟨o, ho, h⟩
    refine ⟨o, ho, ?_⟩
    rw [← he.yielded ops]
    rcases h with ⟨hg, h⟩ | ⟨hg, h⟩
    · exact .inl ⟨hg, ih hd (he.put _ _) h⟩
    · refine .inr ⟨hg, ?_⟩
      cases k with
      | pure => obtain ⟨v, hv, h⟩ := h; exact ⟨v, by unfold Pu; rw [← he.eval]; exact hv, ih hd (he.put _ _) h⟩
      | read =>
        obtain ⟨v, hv, h⟩ := h
        refine ⟨v, by unfold Rd; rw [← he.eval]; exact hv, ih (hd.cons i fun H' hr => ?_) (he.put _ _) h⟩
        unfold Rd at *; rw [← he.eval]; exact hr
      | alloc => obtain ⟨ob, mk, ha, h⟩ := h; exact ⟨ob, mk, by unfold Al; rw [← he.eval]; exact ha, fun b hb => ih hd (he.put _ _) (h b hb)⟩
      | effect =>
        have h' : Ef P o e' H fun v H' => (∀ p ∈ d1, Anc A p.1 i = false → p.2 H') ∧ DL P ops A N d1 l (e.put o.dst v) H' := by
          unfold Ef at *; rw [← he.eval]; exact h
        refine h'.mono fun v H' ⟨h1, h2⟩ => ⟨fun p hp hn => ?_, ih hd (he.put _ _) h2⟩
        obtain ⟨q, hq, h3, h4⟩ := hd p hp
        exact h4 _ (h1 q hq (by rw [h3]; exact hn))

def Kd.swap : Kd → Kd → Bool
  | .pure, _ => true
  | .read, _ => true
  | .alloc, .alloc => true
  | .alloc, .pure => true
  | .effect, .alloc => true
  | _, _ => false
end Go.Proofs.YtdheiajppnlbbaaGreat
