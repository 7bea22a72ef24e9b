/-
  THE LAYER, PART 5: the code of a function, item by item, to its return. Own work.
-/
import Derived.Test.YtdheiajppnlbbaaGreatA4
namespace Go.Proofs.YtdheiajppnlbbaaGreat
open Go Go.RowKit

/-- From what is to do, to the function's return. -/
def Gt (P : Program) (f : FuncId) (todo : List Item) (e : Env) (H : Hp) (K : Value → Hp → Prop) : Prop :=
  ∀ w a, e.Rel a → Has H w → ∀ b : Frame, b.fn = f → b.kind = .normal → ∀ cs, ∃ v w' fr H', K v H' ∧ Has H' w' ∧ Fr H w H' w' ∧
    Steps P (lone (b.at a todo) cs w) (lone fr cs w') ∧ fr.leaving P w' (.returned v) ∧ fr.fn = f

variable {P : Program} {f : FuncId} {k : List Item} {e : Env} {H : Hp} {K : Value → Hp → Prop}

theorem Gt.of_step {t t' : List Item} (h : Gt P f t' e H K) (hs : ∀ (b : Frame) a cs w, e.Rel a → step P (lone (b.at a t) cs w) = .next (lone (b.at a t') cs w)) : Gt P f t e H K :=
  fun w a hr hw b hf hk cs => let ⟨v, w', fr, H', h1, h2, h3, h4, h5⟩ := h w a hr hw b hf hk cs; ⟨v, w', fr, H', h1, h2, h3, .head (hs b a cs w hr) h4, h5⟩

theorem Gt.seq {x y : Code} (h : Gt P f (.code x :: .code y :: k) e H K) : Gt P f (.code (.seq x y) :: k) e H K := h.of_step fun _ _ _ _ _ => step_seq
theorem Gt.skip (h : Gt P f k e H K) : Gt P f (.code .skip :: k) e H K := h.of_step fun _ _ _ _ _ => step_skip
theorem Gt.block {id : Nat} {c : Code} (h : Gt P f (.code c :: .inBlock id :: k) e H K) : Gt P f (.code (.block id c) :: k) e H K := h.of_step fun _ _ _ _ _ => step_block
theorem Gt.inBlock {id : Nat} (h : Gt P f k e H K) : Gt P f (.inBlock id :: k) e H K := h.of_step fun _ _ _ _ _ => step_inBlock
theorem Gt.loop {c : Code} (h : Gt P f (.inLoop c :: k) e H K) : Gt P f (.code (.loop c) :: k) e H K := fun w a hr hw b hf hk cs => by
  obtain ⟨v, w', fr, H', h1, h2, h3, ⟨n, h4⟩, h5⟩ := h w a hr hw b hf hk cs
  refine ⟨v, w', fr, H', h1, h2, h3, ?_, h5⟩
  cases n with
  | zero =>
    exfalso
    simp only [runN, Stepped.next.injEq] at h4
    have hl : lone (b.at a (.inLoop c :: k)) cs w = lone fr cs w' := h4
    have h6 : b.at a (.inLoop c :: k) = fr := by
      have := congrArg (fun m : Machine => (m.gs[0]?).map (·.frame)) hl
      simpa [lone] using this
    have := h5.1.1
    rw [← h6] at this
    simp [Frame.at] at this
  | succ n =>
    refine ⟨n + 1, ?_⟩
    simp only [runN, step_inLoop] at h4
    simp only [runN, step_loop]
    exact h4
theorem Gt.inLoop {c : Code} (h : Gt P f (.code c :: .inLoop c :: k) e H K) : Gt P f (.inLoop c :: k) e H K := h.of_step fun _ _ _ _ _ => step_inLoop
theorem Gt.exit {id : Nat} {k' : List Item} (hk : exitTo id k = some k') (h : Gt P f k' e H K) : Gt P f (.code (.exit id) :: k) e H K := h.of_step fun _ _ _ _ _ => step_exit hk
theorem Gt.cond {c : Operand} {x y : Code} {t : Bool} (hc : e.eval c = .bool t) (h : Gt P f (.code (if t then x else y) :: k) e H K) : Gt P f (.code (.cond c x y) :: k) e H K :=
  h.of_step fun b a cs w hr => step_cond (by rw [hr.eval]; exact hc)
theorem Gt.condT {c : Operand} {x y : Code} (hc : e.eval c = .bool true) (h : Gt P f (.code x :: k) e H K) : Gt P f (.code (.cond c x y) :: k) e H K := Gt.cond hc h
theorem Gt.condF {c : Operand} {x y : Code} (hc : e.eval c = .bool false) (h : Gt P f (.code y :: k) e H K) : Gt P f (.code (.cond c x y) :: k) e H K := Gt.cond hc h
theorem Gt.condS {c : Operand} {x y : Code} {t : Bool} (hc : e.eval c = .bool t) (h : t = true → Gt P f (.code x :: k) e H K) (h' : t = false → Gt P f (.code y :: k) e H K) :
    Gt P f (.code (.cond c x y) :: k) e H K := by
  cases t
  · exact Gt.cond hc (h' rfl)
  · exact Gt.cond hc (h rfl)

theorem Gt.sub {H' : Hp} {t : List Item} (s : Sub H' H) (h : Gt P f t e H' K) : Gt P f t e H K := fun w a hr hw b hf hk cs => by
  obtain ⟨v, w', fr, H'', h1, h2, h3, h4⟩ := h w a hr (hw.sub s) b hf hk cs
  refine ⟨v, w', fr, H'', h1, h2, ⟨h3.os, h3.tape, h3.output, h3.size, fun x hx hn => h3.same x hx ?_, fun x hx => ?_⟩, h4⟩
  · cases hc : H' x with
    | none => rfl
    | some o => rw [s x o hc] at hn; cases hn
  · rcases h3.dom x hx with h5 | h5
    · left
      cases hc : H' x with
      | none => exact absurd hc h5
      | some o => rw [s x o hc]; simp
    · exact .inr h5
theorem Gt.eqv {e' : Env} {t : List Item} (s : e'.Eqv e) (h : Gt P f t e' H K) : Gt P f t e H K := fun w a hr hw => h w a (s.rel hr) hw
theorem Gt.mono {K' : Value → Hp → Prop} {t : List Item} (h : Gt P f t e H K) (hk : ∀ v H', K v H' → K' v H') : Gt P f t e H K' := fun w a hr hw b hf hkk cs =>
  let ⟨v, w', fr, H', h1, h2⟩ := h w a hr hw b hf hkk cs; ⟨v, w', fr, H', hk _ _ h1, h2⟩

/-- What a function gives back. -/
def Res (P : Program) (f : FuncId) (e : Env) (H : Hp) (v : Value) : Prop :=
  e.ds = [] ∧ ∃ fn, P.funcs[f]? = some fn ∧ ∀ w, Has H w → ∀ tmps : Array Value, (∀ t, tmps.getD t undef = e.get t) → (results fn tmps).run P w = .ok v w

theorem Res.none {fn : Func} (hf : P.funcs[f]? = some fn) (hr : fn.results = #[]) (hd : e.ds = []) : Res P f e H (.tuple #[]) := ⟨hd, fn, hf, fun w _ tmps _ => results_none hr tmps P w⟩
theorem Res.one {fn : Func} {t : Tmp} {v : Value} (hf : P.funcs[f]? = some fn) (hr : fn.results = #[.tmp t]) (hd : e.ds = []) (hv : e.get t = v) : Res P f e H v :=
  ⟨hd, fn, hf, fun w _ tmps ht => by rw [results_tmp hr tmps P w, ht, hv]⟩
theorem Res.two {fn : Func} {t u : Tmp} {v x : Value} (hf : P.funcs[f]? = some fn) (hr : fn.results = #[.tmp t, .tmp u]) (hd : e.ds = []) (hv : e.get t = v) (hx : e.get u = x) :
    Res P f e H (.tuple #[v, x]) :=
  ⟨hd, fn, hf, fun w _ tmps ht => by rw [results_tmp2 hr tmps P w, ht, hv, ht, hx]⟩

theorem Gt.ret {v : Value} {H' : Hp} (hr : Res P f e H v) (hs : Sub H' H) (hk : K v H') : Gt P f (.code .ret :: k) e H K := fun w a hrel hw b hf hkk cs => by
  obtain ⟨hd, fn, hfn, hres⟩ := hr
  exact ⟨v, w, _, H', hk, hw.sub hs, (Fr.refl H w).sub hs, .one step_ret, ⟨rfl, by show a.defers = []; rw [hrel.ds]; exact hd, hkk, fn, by rw [← hf] at hfn; exact hfn, hres w hw _ hrel.val⟩, hf⟩
theorem Gt.end {v : Value} {H' : Hp} (hr : Res P f e H v) (hs : Sub H' H) (hk : K v H') : Gt P f [] e H K := fun w a hrel hw b hf hkk cs => by
  obtain ⟨hd, fn, hfn, hres⟩ := hr
  exact ⟨v, w, _, H', hk, hw.sub hs, (Fr.refl H w).sub hs, .one step_end, ⟨rfl, by show a.defers = []; rw [hrel.ds]; exact hd, hkk, fn, by rw [← hf] at hfn; exact hfn, hres w hw _ hrel.val⟩, hf⟩

/-- A region's rule, out of its own law. -/
theorem Gt.of_wp {c : Code} {N : Env → Hp → Prop} (h : ∀ w a, e.Rel a → Has H w → ∀ Q : Exit → Act → World → Prop, (∀ e' a' w' H', e'.Rel a' → Has H' w' → Fr H w H' w' → N e' H' → Q .normal a' w') → c.wp P Q a w)
    (hN : ∀ e' H', N e' H' → Gt P f k e' H' K) : Gt P f (.code c :: k) e H K := fun w a hr hw b hf hk cs => by
  obtain ⟨ex, a', w', hq, harr⟩ := h w a hr hw (fun ex a' w' => ex = .normal ∧ ∃ e' H', e'.Rel a' ∧ Has H' w' ∧ Fr H w H' w' ∧ N e' H')
    (fun e' a' w' H' q1 q2 q3 q4 => ⟨rfl, e', H', q1, q2, q3, q4⟩) b k cs
  obtain ⟨rfl, e', H', q1, q2, q3, q4⟩ := hq
  obtain ⟨v, w'', fr, H'', h1, h2, h3, h4, h5⟩ := hN e' H' q4 w' a' q1 q2 b hf hk cs
  exact ⟨v, w'', fr, H'', h1, h2, q3.trans h3, Steps.trans harr h4, h5⟩

theorem Gt.region {id : Nat} {ops : Array Oper} (h : SQ P ops (List.range ops.size) e H fun e' H' => Gt P f k e' H' K) : Gt P f (.code (.region id ops false) :: k) e H K :=
  Gt.of_wp (N := fun e' H' => Gt P f k e' H' K) (fun w a hr hw Q kk => wp_region (h w a hr hw Q kk)) fun _ _ h => h
theorem Gt.draw {id : Nat} {ops : Array Oper} {A : List (List Nat)} (l : List (Nat × Kd)) (hm : P.follows .mixedOrders = true) (hok : orderOk ops A l = true)
    (h : DL P ops A (fun e' H' => Gt P f k e' H' K) [] l e H) : Gt P f (.code (.region id ops true) :: k) e H K :=
  Gt.of_wp (N := fun e' H' => Gt P f k e' H' K) (fun w a hr hw Q kk => wp_draw hm hok h hr hw kk) fun _ _ h => h

/-- A call, by its body. -/
theorem Call.enter {fn : Func} {c : Code} {args : Array Value} {n : Nat} (hf : P.funcs[f]? = some fn) (hb : fn.body = some c) (hn : fn.ntmps = n) (ha : args.size ≤ n)
    (h : Gt P f [.code c] (Env.begin n args) H K) : Call P f args H K := by
  subst hn
  intro w hw cs
  let b : Frame := { (default : Frame) with fn := f, kind := .normal }
  have henter : Frame.enter P f args .normal = b.at { tmps := args ++ Array.replicate (fn.ntmps - args.size) undef, defers := [] } [.code c] := by
    simp [Frame.enter, Frame.at, hf, hb, b]
  obtain ⟨v, w', fr, H', h1, h2, h3, h4, h5, h6⟩ := h w _ (Env.begin_rel fn.ntmps args ha) hw b rfl rfl cs
  rw [← henter] at h4
  exact ⟨.returned v, w', fr, ⟨v, H', rfl, h2, h3, h1⟩, h4, h6, h5⟩
end Go.Proofs.YtdheiajppnlbbaaGreat
