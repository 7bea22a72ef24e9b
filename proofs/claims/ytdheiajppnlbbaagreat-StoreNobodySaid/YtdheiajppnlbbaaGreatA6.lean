/-
  THE LAYER, PART 6: the rules of single operations. Own work.
-/
import Derived.Test.YtdheiajppnlbbaaGreatA5
import Derived.WalkLawsBesides
import Derived.WalkSpells
import Derived.LaidEql
namespace Go.Proofs.YtdheiajppnlbbaaGreat
open Go Go.RowKit

variable {P : Program} {ops : Array Oper} {o : Oper} {e : Env} {H : Hp} {A : List (List Nat)} {N : Env → Hp → Prop} {done : Done} {i : Nat} {rest : List Nat} {rk : List (Nat × Kd)}

/-! ### One more operation -/
theorem SQ.pu {v : Value} (ho : ops[i]? = some o) (hg : Region.wanted o (Env.yielded ops e) = true) (hv : Pu P o e v) (h : SQ P ops rest (e.put o.dst v) H N) : SQ P ops (i :: rest) e H N := SQ.step ho hg (hv.ef h)
theorem SQ.rd {v : Value} (ho : ops[i]? = some o) (hg : Region.wanted o (Env.yielded ops e) = true) (hv : Rd P o e H v) (h : SQ P ops rest (e.put o.dst v) H N) : SQ P ops (i :: rest) e H N := SQ.step ho hg (hv.ef h)
theorem SQ.al {obj : Obj} {mk : Nat → Value} (ho : ops[i]? = some o) (hg : Region.wanted o (Env.yielded ops e) = true) (hv : Al P o e obj mk)
    (h : ∀ b, H b = none → SQ P ops rest (e.put o.dst (mk b)) (H.ins b obj) N) : SQ P ops (i :: rest) e H N := SQ.step ho hg (hv.ef h)
theorem SQ.ef {M : Value → Hp → Prop} (ho : ops[i]? = some o) (hg : Region.wanted o (Env.yielded ops e) = true) (hv : Ef P o e H M) (h : ∀ v H', M v H' → SQ P ops rest (e.put o.dst v) H' N) : SQ P ops (i :: rest) e H N :=
  SQ.step ho hg (hv.mono h)
theorem SQ.caseB {l : List Nat} {d : Option Tmp} {c : Bool} (h1 : c = true → SQ P ops l (e.put d (.bool true)) H N) (h2 : c = false → SQ P ops l (e.put d (.bool false)) H N) : SQ P ops l (e.put d (.bool c)) H N := by
  cases c
  · exact h2 rfl
  · exact h1 rfl

theorem DL.nil (h : N e H) : DL P ops A N done [] e H := ⟨e, .refl _, h⟩
theorem DL.skip {k : Kd} (ho : ops[i]? = some o) (hg : Region.wanted o (Env.yielded ops e) = false) (h : DL P ops A N done rk (e.put o.dst undef) H) : DL P ops A N done ((i, k) :: rk) e H := ⟨o, ho, .inl ⟨hg, h⟩⟩
theorem DL.pu {v : Value} (ho : ops[i]? = some o) (hg : Region.wanted o (Env.yielded ops e) = true) (hv : Pu P o e v) (h : DL P ops A N done rk (e.put o.dst v) H) : DL P ops A N done ((i, .pure) :: rk) e H :=
  ⟨o, ho, .inr ⟨hg, v, hv, h⟩⟩
theorem DL.rd {v : Value} (ho : ops[i]? = some o) (hg : Region.wanted o (Env.yielded ops e) = true) (hv : Rd P o e H v) (h : DL P ops A N ((i, fun H' => Rd P o e H' v) :: done) rk (e.put o.dst v) H) :
    DL P ops A N done ((i, .read) :: rk) e H := ⟨o, ho, .inr ⟨hg, v, hv, h⟩⟩
theorem DL.al {obj : Obj} {mk : Nat → Value} (ho : ops[i]? = some o) (hg : Region.wanted o (Env.yielded ops e) = true) (hv : Al P o e obj mk)
    (h : ∀ b, H b = none → DL P ops A N done rk (e.put o.dst (mk b)) (H.ins b obj)) : DL P ops A N done ((i, .alloc) :: rk) e H := ⟨o, ho, .inr ⟨hg, obj, mk, hv, h⟩⟩
theorem DL.ef {M : Value → Hp → Prop} (ho : ops[i]? = some o) (hg : Region.wanted o (Env.yielded ops e) = true) (hv : Ef P o e H M)
    (h : ∀ v H', M v H' → (∀ p ∈ done, Anc A p.1 i = false → p.2 H') ∧ DL P ops A N done rk (e.put o.dst v) H') : DL P ops A N done ((i, .effect) :: rk) e H := ⟨o, ho, .inr ⟨hg, hv.mono h⟩⟩
theorem DL.caseB {d : Option Tmp} {c : Bool} (h1 : c = true → DL P ops A N done rk (e.put d (.bool true)) H) (h2 : c = false → DL P ops A N done rk (e.put d (.bool false)) H) : DL P ops A N done rk (e.put d (.bool c)) H := by
  cases c
  · exact h2 rfl
  · exact h1 rfl

/-! ### What was read reads the same: obligations -/
theorem obl_nil {Hx : Hp} : ∀ p ∈ ([] : Done), Anc A p.1 i = false → p.2 Hx := fun _ h => by cases h
theorem obl_anc {Hx : Hp} {x : Nat × (Hp → Prop)} {d : Done} (h : Anc A x.1 i = true) (k : ∀ p ∈ d, Anc A p.1 i = false → p.2 Hx) : ∀ p ∈ x :: d, Anc A p.1 i = false → p.2 Hx := fun p hp hn => by
  rcases List.mem_cons.1 hp with rfl | hp
  · rw [h] at hn; cases hn
  · exact k p hp hn
theorem obl_cons {Hx : Hp} {x : Nat × (Hp → Prop)} {d : Done} (h : x.2 Hx) (k : ∀ p ∈ d, Anc A p.1 i = false → p.2 Hx) : ∀ p ∈ x :: d, Anc A p.1 i = false → p.2 Hx := fun p hp hn => by
  rcases List.mem_cons.1 hp with rfl | hp
  · exact h
  · exact k p hp hn
/-- All that was read reads the same where all that is known stays. -/
theorem obl_sub {Hx : Hp} {d : Done} (hm : Done.Mono d) (s : Sub H Hx) (k : ∀ p ∈ d, p.2 H) : ∀ p ∈ d, Anc A p.1 i = false → p.2 Hx := fun p hp _ => hm p hp _ _ s (k p hp)

/-! ### Operations that only reckon -/
section
variable {d : Option Tmp} {t : TypeId} {ps : String} {af : Array Edge} {g : Option (Nat × Bool)}
theorem Pu.mv {x : Operand} {v : Value} (h : e.eval x = v) : Pu P ⟨d, .move x, t, ps, af, g⟩ e v := fun _ => by subst h; rfl
theorem Pu.asg {x : Operand} {v : Value} (h : e.eval x = v) : Pu P ⟨d, .assign x, t, ps, af, g⟩ e v := fun _ => by subst h; rfl
theorem Pu.pickT {c x y : Operand} {v : Value} (hc : e.eval c = .bool true) (h : e.eval x = v) : Pu P ⟨d, .pick c x y, t, ps, af, g⟩ e v := fun _ => by subst h; simp [execOp, hc, asBool]
theorem Pu.pickF {c x y : Operand} {v : Value} (hc : e.eval c = .bool false) (h : e.eval y = v) : Pu P ⟨d, .pick c x y, t, ps, af, g⟩ e v := fun _ => by subst h; simp [execOp, hc, asBool]
theorem Pu.nilCheck {x : Operand} {a : Addr} (h : e.eval x = .pointer (some a)) : Pu P ⟨d, .nilCheck x, t, ps, af, g⟩ e (.pointer (some a)) := fun _ => by simp [execOp, h]
theorem Pu.extract {x : Operand} {n : Nat} {vs : Array Value} {v : Value} (h : e.eval x = .tuple vs) (hv : vs[n]? = some v) : Pu P ⟨d, .extract x n, t, ps, af, g⟩ e v := fun _ => by
  simp [execOp, h, Instr.extract, hv]
theorem Pu.not {x : Operand} {T : TypeId} {b : Bool} (h : e.eval x = .bool b) : Pu P ⟨d, .unOp .not T x, t, ps, af, g⟩ e (.bool (!b)) := fun _ => by simp [execOp, h]; rfl
/-- Any operation that reckons by itself: by sight. -/
theorem Pu.by {v : Value} (h : ∀ w, (execOp e.eval o).run P w = .ok (.value v) w) : Pu P o e v := h

def sizeT (P : Program) (t : TypeId) : Option Nat := (P.info? t).map (·.size)
def aggT (P : Program) (t : TypeId) : Option Bool := (P.underlying t).map fun d => match d with | .struct _ | .array _ _ => true | _ => false
def elemT (P : Program) (t : TypeId) : Option TypeId := match P.underlying t with | some (.slice x) => some x | _ => none
def fieldOff (P : Program) (s : TypeId) (f : Nat) : Option Nat := match P.underlying s with
  | some (.struct fs) => match fs[f]? with
    | some fd => match sizeT P fd.type with
      | some (_ + 1) => some fd.offset
      | _ => none
    | none => none
  | _ => none
theorem run_sizeT {T n : Nat} (h : sizeT P T = some n) (w : World) : (sizeOf T).run P w = .ok n w := by
  unfold sizeT at h
  cases hi : P.info? T with
  | none => rw [hi] at h; cases h
  | some i =>
    rw [hi] at h
    simp only [Option.map_some, Option.some.injEq] at h
    rw [run_sizeOf w hi]
    simp [Program.cellsOf, hi, h]
theorem run_aggT {T : Nat} {b : Bool} (h : aggT P T = some b) (w : World) : (isAgg T).run P w = .ok b w := by
  unfold aggT at h
  cases hu : P.underlying T with
  | none => rw [hu] at h; cases h
  | some td =>
    rw [hu] at h
    cases td <;> simp_all [isAgg, run_underlying hu]
theorem Pu.fieldAddr {x : Operand} {s f k b off : Nat} (h : e.eval x = .pointer (some ⟨b, off, none⟩)) (hk : fieldOff P s f = some k) : Pu P ⟨d, .fieldAddr s x f, t, ps, af, g⟩ e (.pointer (some ⟨b, off + k, none⟩)) := fun w => by
  unfold fieldOff at hk
  cases hu : P.underlying s with
  | none => rw [hu] at hk; cases hk
  | some td =>
    rw [hu] at hk
    cases td <;> simp only at hk <;> try cases hk
    rename_i fs
    cases hf : fs[f]? with
    | none => rw [hf] at hk; cases hk
    | some fd =>
      rw [hf] at hk
      simp only at hk
      cases hs : sizeT P fd.type with
      | none => rw [hs] at hk; cases hk
      | some n =>
        rw [hs] at hk
        cases n with
        | zero => cases hk
        | succ n =>
          simp only [Option.some.injEq] at hk
          subst hk
          simp [execOp, h, Instr.fieldAt, run_underlying hu, hf, Instr.sureAddr, fieldPlace, run_sizeT hs]
          by_cases h0 : fd.offset = 0
          · simp [Addr.add, h0]
          · simp [Addr.add, h0]
theorem Pu.indexAddr {x y : Operand} {T E sz b off n c : Nat} {k : IntKind} {j : Int} (h : e.eval x = .slice (some ⟨b, off, none⟩) n c) (hj : e.eval y = .int k j) (hT : elemT P T = some E) (hs : sizeT P E = some sz)
    (h0 : 0 ≤ j) (h1 : j < n) : Pu P ⟨d, .indexAddr T x y, t, ps, af, g⟩ e (.pointer (some ⟨b, off + j.toNat * sz, none⟩)) := fun w => by
  unfold elemT at hT
  cases hu : P.underlying T with
  | none => rw [hu] at hT; cases hT
  | some td =>
    rw [hu] at hT
    cases td <;> simp only at hT <;> try cases hT
    simp [execOp, h, hj, Instr.indexAt, run_underlying hu, asIntOf, run_sizeT hs, h0, h1]
    by_cases hz : j.toNat * sz = 0
    · simp [Addr.add, hz]
    · simp [Addr.add, hz]
/-- An element of an array in memory. -/
theorem Pu.indexArr {x y : Operand} {T E sz b off n : Nat} {k : IntKind} {j : Int} (h : e.eval x = .pointer (some ⟨b, off, none⟩)) (hj : e.eval y = .int k j) (hT : P.underlying T = some (.array n E)) (hs : sizeT P E = some sz)
    (h0 : 0 ≤ j) (h1 : j < n) : Pu P ⟨d, .indexAddr T x y, t, ps, af, g⟩ e (.pointer (some ⟨b, off + j.toNat * sz, none⟩)) := fun w => by
  simp [execOp, h, hj, Instr.indexAt, run_underlying hT, asIntOf, run_sizeT hs, h0, h1, Instr.sureAddr]
  by_cases hz : j.toNat * sz = 0
  · simp [Addr.add, hz]
  · simp [Addr.add, hz]
theorem map_eq_toArray {xs : Array Operand} {vs : List Value} (h : xs.toList.map e.eval = vs) : xs.map e.eval = vs.toArray := by
  subst h; apply Array.toList_inj.1; simp
theorem Pu.makeFunc {fn : Fn} {first cap : Array Operand} {vs us : List Value} (h1 : first.toList.map e.eval = vs) (h2 : cap.toList.map e.eval = us) :
    Pu P ⟨d, .makeFunc fn first cap, t, ps, af, g⟩ e (.func fn vs.toArray us.toArray) := fun w => by
  simp [execOp, map_eq_toArray h1, map_eq_toArray h2, Instr.makeFunc]
/-- A built-in that reckons. -/
theorem Pu.builtin {bi : Builtin} {args : Array Operand} {at_ : Array TypeId} {vs : List Value} {v : Value} (h1 : args.toList.map e.eval = vs)
    (hv : ∀ cs w, (Go.builtin bi at_ t cs vs.toArray).run P w = .ok (.value v) w) : Pu P ⟨d, .call ⟨.builtin bi, args, at_⟩, t, ps, af, g⟩ e v := fun w => by
  simp only [execOp, resolve, map_eq_toArray h1, bind, Sem.bind, pure, invoke]
  exact hv _ w
theorem Pu.len {x : Operand} {T E n c : Nat} {a : Option Addr} (h : e.eval x = .slice a n c) (hT : elemT P T = some E) : Pu P ⟨d, .call ⟨.builtin .len, #[x], #[T]⟩, t, ps, af, g⟩ e (.int .i64 n) :=
  Pu.builtin (vs := [.slice a n c]) (by simp [h]) fun cs w => by
    unfold elemT at hT
    cases hu : P.underlying T with
    | none => rw [hu] at hT; cases hT
    | some td =>
      rw [hu] at hT
      cases td <;> simp only at hT <;> try cases hT
      simp [Go.builtin, Builtin.len_, run_underlying hu, goInt]
theorem Pu.lenS {x : Operand} {T : TypeId} {s : ByteArray} (h : e.eval x = .string s) (hT : P.underlying T = some .string) : Pu P ⟨d, .call ⟨.builtin .len, #[x], #[T]⟩, t, ps, af, g⟩ e (.int .i64 s.size) :=
  Pu.builtin (vs := [.string s]) (by simp [h]) fun cs w => by simp [Go.builtin, Builtin.len_, run_underlying hT, goInt]
theorem Pu.min {x y : Operand} {T U : TypeId} {k : IntKind} {m n : Int} (hx : e.eval x = .int k m) (hy : e.eval y = .int k n) :
    Pu P ⟨d, .call ⟨.builtin .min, #[x, y], #[T, U]⟩, t, ps, af, g⟩ e (.int k (if n < m then n else m)) :=
  Pu.builtin (vs := [.int k m, .int k n]) (by simp [hx, hy]) fun cs w => by
    simp [Go.builtin, Builtin.min_, Builtin.min2]
theorem Pu.max {x y : Operand} {T U : TypeId} {k : IntKind} {m n : Int} (hx : e.eval x = .int k m) (hy : e.eval y = .int k n) :
    Pu P ⟨d, .call ⟨.builtin .max, #[x, y], #[T, U]⟩, t, ps, af, g⟩ e (.int k (if m < n then n else m)) :=
  Pu.builtin (vs := [.int k m, .int k n]) (by simp [hx, hy]) fun cs w => by
    simp [Go.builtin, Builtin.max_, Builtin.max2]
end
end Go.Proofs.YtdheiajppnlbbaaGreat
