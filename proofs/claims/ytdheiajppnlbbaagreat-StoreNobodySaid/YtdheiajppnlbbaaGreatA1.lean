/-
  THE LAYER, PART 1: what a call does, told by what is known of the heap: blocks by their numbers; what is not known stays as it is. Own work.
-/
import Derived.Orders
import Derived.WalkKit
import Derived.Below
namespace Go.Proofs.YtdheiajppnlbbaaGreat
open Go Go.RowKit

/-- What is known of the heap: some blocks, and what they hold. -/
abbrev Hp := Nat → Option Obj
def Hp.ins (H : Hp) (b : Nat) (o : Obj) : Hp := fun x => if x = b then some o else H x
def Has (H : Hp) (w : World) : Prop := ∀ b o, H b = some o → w.heap[b]? = some o
def Sub (H H' : Hp) : Prop := ∀ b o, H b = some o → H' b = some o

theorem Has.sub {H H' : Hp} {w : World} (h : Has H' w) (s : Sub H H') : Has H w := fun b o hb => h b o (s b o hb)
theorem Sub.refl (H : Hp) : Sub H H := fun _ _ h => h
theorem Sub.trans {A B C : Hp} (h : Sub A B) (k : Sub B C) : Sub A C := fun b o hb => k b o (h b o hb)
theorem Sub.ins {A B : Hp} {b : Nat} {o : Obj} (h : Sub A B) (hb : B b = none) : Sub A (B.ins b o) := fun x p hx => by
  have := h x p hx
  unfold Hp.ins
  split
  · rename_i e; subst e; rw [hb] at this; cases this
  · exact this
theorem Sub.ins2 {A B : Hp} {b : Nat} {o : Obj} (h : Sub A B) : Sub (A.ins b o) (B.ins b o) := fun x p hx => by
  unfold Hp.ins at *
  split
  · rename_i e; subst e; simpa using hx
  · rename_i e; rw [if_neg e] at hx; exact h x p hx
theorem Hp.ins_same (H : Hp) (b : Nat) (o : Obj) : (H.ins b o) b = some o := by simp [Hp.ins]
theorem Hp.ins_ne {H : Hp} {b x : Nat} {o : Obj} {r : Option Obj} (h : x ≠ b) (k : H x = r) : (H.ins b o) x = r := by simp [Hp.ins, h, k]
theorem Hp.ins_none {H : Hp} {b x : Nat} {o : Obj} (h : (H.ins b o) x = none) : x ≠ b ∧ H x = none := by
  unfold Hp.ins at h
  split at h
  · cases h
  · exact ⟨‹_›, h⟩
theorem Hp.ne_of {H : Hp} {b x : Nat} {o : Obj} (h : H b = some o) (k : H x = none) : x ≠ b := fun e => by subst e; rw [h] at k; cases k
theorem Hp.ins_ins (H : Hp) (b : Nat) (o o' : Obj) : (H.ins b o).ins b o' = H.ins b o' := by funext x; unfold Hp.ins; split <;> rfl
theorem Hp.ins_comm (H : Hp) {b c : Nat} (o o' : Obj) (h : b ≠ c) : (H.ins b o).ins c o' = (H.ins c o').ins b o := by
  funext x; unfold Hp.ins; split
  · rename_i e; subst e; rw [if_neg (Ne.symm h)]
  · rfl

/-- From one heap to a later one: what was not known, and was there, is as it was; what is known more is new. -/
structure Fr (H : Hp) (w : World) (H' : Hp) (w' : World) : Prop where
  os : w'.os = w.os
  tape : w'.tape = w.tape
  output : w'.output = w.output
  size : w.heap.size ≤ w'.heap.size
  same : ∀ b, b < w.heap.size → H b = none → w'.heap[b]? = w.heap[b]?
  dom : ∀ b, H' b ≠ none → H b ≠ none ∨ w.heap.size ≤ b

theorem Fr.refl (H : Hp) (w : World) : Fr H w H w := ⟨rfl, rfl, rfl, Nat.le_refl _, fun _ _ _ => rfl, fun _ h => .inl h⟩
theorem Fr.trans {H H' H'' : Hp} {w w' w'' : World} (h : Fr H w H' w') (k : Fr H' w' H'' w'') : Fr H w H'' w'' :=
  ⟨k.os.trans h.os, k.tape.trans h.tape, k.output.trans h.output, Nat.le_trans h.size k.size,
   fun b hb hn => by
    have hn' : H' b = none := by
      cases hc : H' b with
      | none => rfl
      | some o =>
        rcases h.dom b (by rw [hc]; simp) with h1 | h1
        · exact absurd hn h1
        · omega
    rw [k.same b (Nat.lt_of_lt_of_le hb h.size) hn', h.same b hb hn],
   fun b hb => by
    rcases k.dom b hb with h1 | h1
    · exact h.dom b h1
    · exact .inr (Nat.le_trans h.size h1)⟩
theorem Fr.sub {H H' H'' : Hp} {w w' : World} (h : Fr H w H' w') (s : Sub H'' H') : Fr H w H'' w' :=
  ⟨h.os, h.tape, h.output, h.size, h.same, fun b hb => h.dom b (by
    cases hc : H'' b with
    | none => exact absurd hc hb
    | some o => rw [s b o hc]; simp)⟩
theorem Fr.drew (H : Hp) (w : World) : Fr H w H w.drew := ⟨rfl, rfl, rfl, Nat.le_refl _, fun _ _ _ => rfl, fun _ h => .inl h⟩
theorem Fr.alloc {H : Hp} {w : World} (o : Obj) : Fr H w (H.ins w.heap.size o) (w.alloc o) :=
  ⟨rfl, rfl, rfl, by simp, fun b hb _ => Below.heap_alloc _ _ _ hb, fun b hb => by
    unfold Hp.ins at hb
    split at hb
    · rename_i e; exact .inr (by omega)
    · exact .inl hb⟩
theorem Fr.alloc0 {H : Hp} {w : World} (o : Obj) : Fr H w H (w.alloc o) :=
  ⟨rfl, rfl, rfl, by simp, fun b hb _ => Below.heap_alloc _ _ _ hb, fun b hb => .inl hb⟩
theorem Has.alloc0 {H : Hp} {w : World} (h : Has H w) (o : Obj) : Has H (w.alloc o) := fun b p hb => by
  have h0 := h b p hb
  have hlt : b < w.heap.size := (Array.getElem?_eq_some_iff.1 h0).1
  rw [Below.heap_alloc _ _ _ hlt]; exact h0
theorem World.heap_alloc_top (w : World) (o : Obj) : (w.alloc o).heap[w.heap.size]? = some o := by
  show (w.heap.push o)[w.heap.size]? = _
  simp
theorem Has.alloc {H : Hp} {w : World} (h : Has H w) (o : Obj) : Has (H.ins w.heap.size o) (w.alloc o) := fun b p hb => by
  unfold Hp.ins at hb
  split at hb
  · rename_i e; subst e; rw [World.heap_alloc_top]; exact hb
  · exact h.alloc0 o b p hb
theorem Has.fresh {H : Hp} {w : World} (h : Has H w) : H w.heap.size = none := by
  cases hc : H w.heap.size with
  | none => rfl
  | some o => have := h _ _ hc; simp at this
theorem Has.drew {H : Hp} {w : World} (h : Has H w) : Has H w.drew := h
theorem Has.lt {H : Hp} {w : World} (h : Has H w) {b : Nat} {o : Obj} (hb : H b = some o) : b < w.heap.size := (Array.getElem?_eq_some_iff.1 (h b o hb)).1

/-- WHAT A CALL DOES: it returns a value, and of the heap there is known what K says; all that was not known is as it was. -/
def Call (P : Program) (f : FuncId) (args : Array Value) (H : Hp) (K : Value → Hp → Prop) : Prop :=
  ∀ w, Has H w → Calls P f args w fun e w' => ∃ v H', e = .returned v ∧ Has H' w' ∧ Fr H w H' w' ∧ K v H'

theorem Call.mono {P : Program} {f : FuncId} {args : Array Value} {H : Hp} {K K' : Value → Hp → Prop} (h : Call P f args H K) (hk : ∀ v H', K v H' → K' v H') :
    Call P f args H K' := fun w hw => Calls.mono (h w hw) fun _ _ ⟨v, H', he, h1, h2, h3⟩ => ⟨v, H', he, h1, h2, hk _ _ h3⟩

/-! ### A frame's temporaries -/

theorem beq_no {d t : Nat} (h : ¬ d = t) : Nat.beq d t = false := by
  cases hc : Nat.beq d t with
  | false => rfl
  | true => exact absurd (Nat.eq_of_beq_eq_true hc) h
theorem blt_no {t n : Nat} (h : ¬ t < n) : Nat.blt t n = false := by
  cases hc : Nat.blt t n with
  | false => rfl
  | true => exact absurd (by simpa using hc) h
theorem blt_yes {t n : Nat} (h : t < n) : Nat.blt t n = true := by simpa using h

def getL : List (Nat × Value) → Nat → Value
  | [], _ => undef
  | (k, v) :: r, t => bif Nat.beq k t then v else getL r t

structure Env where
  n : Nat
  l : List (Nat × Value)
  ds : List Deferred := []

def Env.get (e : Env) (t : Nat) : Value := bif Nat.blt t e.n then getL e.l t else undef
def Env.eval (e : Env) : Operand → Value
  | .tmp t => e.get t
  | .const v => v
  | .global g => .pointer (some ⟨g, 0, none⟩)
  | .func f => .func (.func f) #[] #[]
def Env.put (e : Env) (d : Option Tmp) (v : Value) : Env :=
  match d with
  | some d => { e with l := (d, v) :: e.l }
  | none => e

structure Env.Rel (e : Env) (a : Act) : Prop where
  size : a.tmps.size = e.n
  val : ∀ t, a.tmps.getD t undef = e.get t
  ds : a.defers = e.ds

theorem Env.Rel.eval {e : Env} {a : Act} (h : e.Rel a) : a.eval = e.eval := by
  funext x
  cases x with
  | tmp t => exact h.val t
  | _ => rfl

theorem Env.Rel.put {e : Env} {a : Act} (h : e.Rel a) (d : Option Tmp) (v : Value) : (e.put d v).Rel (a.put d v) := by
  cases d with
  | none => exact h
  | some d =>
    refine ⟨by simp [Act.put, Env.put, h.size], fun t => ?_, h.ds⟩
    simp only [Act.put, Env.put, Env.get, getL]
    have hv := h.val t
    unfold Env.get at hv
    have hs := h.size
    by_cases ht : t < e.n
    · have h1 : Nat.blt t e.n = true := by simpa using ht
      rw [h1] at hv ⊢
      simp only [cond_true] at hv ⊢
      by_cases hd : d = t
      · subst hd
        have : Nat.beq d d = true := by simp
        rw [this]
        simp [hs, ht]
      · have : Nat.beq d t = false := beq_no hd
        rw [this]
        simp only [cond_false]
        rw [← hv]
        simp [Array.getElem?_setIfInBounds_ne hd]
    · have h1 : Nat.blt t e.n = false := blt_no ht
      rw [h1]
      simp only [cond_false]
      have : (a.tmps.setIfInBounds d v)[t]? = none := by
        apply Array.getElem?_eq_none
        simp [hs]; omega
      simp [this]

/-- What an operation's guard sees. -/
def Env.yielded (ops : Array Oper) (e : Env) (j : Nat) : Option Bool :=
  match (ops[j]?).bind (·.dst) with
  | some t => match e.get t with
    | .bool b => some b
    | _ => none
  | none => none

theorem Env.Rel.yielded {e : Env} {a : Act} (h : e.Rel a) (ops : Array Oper) : Go.yielded ops a.tmps = Env.yielded ops e := by
  funext j
  unfold Go.yielded Env.yielded
  cases hd : (ops[j]?).bind (·.dst) with
  | none => rfl
  | some t =>
    simp only [Option.bind_some]
    rw [← h.val t]
    cases ht : a.tmps[t]? with
    | none => simp [ht, undef]
    | some v => simp [ht]; cases v <;> rfl

/-- A frame as a call begins. -/
def Env.begin (n : Nat) (args : Array Value) : Env := { n, l := (args.toList.zipIdx).map fun (v, i) => (i, v) }

theorem getL_zip (l : List Value) (k t : Nat) : getL ((l.zipIdx k).map fun (v, i) => (i, v)) t = if k ≤ t then l.getD (t - k) undef else undef := by
  induction l generalizing k with
  | nil => simp [getL]
  | cons v l ih =>
    simp only [List.zipIdx_cons, List.map_cons, getL]
    by_cases h : k = t
    · subst h; simp
    · have : Nat.beq k t = false := beq_no h
      rw [this, cond_false, ih]
      by_cases h1 : k ≤ t
      · have h2 : k + 1 ≤ t := by omega
        have h3 : t - k = (t - (k + 1)) + 1 := by omega
        simp only [h1, h2, if_true]
        rw [h3]
        simp
      · rw [if_neg (by omega), if_neg h1]

theorem Env.begin_rel (n : Nat) (args : Array Value) (h : args.size ≤ n) :
    (Env.begin n args).Rel { tmps := args ++ Array.replicate (n - args.size) undef, defers := [] } := by
  refine ⟨by simp [Env.begin]; omega, fun t => ?_, rfl⟩
  have hg : (Env.begin n args).get t = bif Nat.blt t n then args.toList.getD t undef else undef := by
    show (bif Nat.blt t n then getL ((args.toList.zipIdx 0).map fun (v, i) => (i, v)) t else undef) = _
    rw [getL_zip]; simp
  rw [hg]
  by_cases ht : t < n
  · have h1 : Nat.blt t n = true := by simpa using ht
    rw [h1, cond_true]
    by_cases ha : t < args.size
    · simp [Array.getElem?_append_left ha, ha]
    · have : (args ++ Array.replicate (n - args.size) undef)[t]? = some undef := by
        rw [Array.getElem?_append_right (by omega), Array.getElem?_replicate, if_pos (by omega)]
      have ha2 : args.toList[t]? = none := by simp; omega
      simp [this, ha2]
  · have h1 : Nat.blt t n = false := blt_no ht
    rw [h1, cond_false]
    have : (args ++ Array.replicate (n - args.size) undef)[t]? = none := by
      apply Array.getElem?_eq_none; simp; omega
    simp [this]
end Go.Proofs.YtdheiajppnlbbaaGreat
