/-
  THE LAYER, PART 8: a range over a function, seen from its own function; the return behind it. Own work.
-/
import Derived.Test.YtdheiajppnlbbaaGreatA7
import Derived.RangeFuncIn
import Derived.RangeFuncLeaves
import Derived.RangeFuncRecord
namespace Go.Proofs.YtdheiajppnlbbaaGreat
open Go Go.RowKit

variable {P : Program} {f : FuncId} {k : List Item} {e : Env} {H : Hp} {K : Value → Hp → Prop}

/-- A loop's record, as it stands between two rounds. -/
def IsRec (H : Hp) (l : Nat) (fn : FuncId) (e : Env) (ps : Array Tmp) (assign body : Code) (D : Nat) (st : LoopState) (pend : Option Code) : Prop :=
  ∃ tmps, (∀ ds, Env.Rel { e with ds := ds } ⟨tmps, ds⟩) ∧ H l = some (.loop { state := st, pending := pend, fn, tmps, params := ps, assign, body, defers := D })

theorem run_endLoop' {w : World} {l : Nat} {r : Loop} (h : w.heap[l]? = some (.loop r)) (hr : r.state ≠ .busy) :
    (Instr.endLoop l).run P w = .ok r.pending { w with heap := w.heap.setIfInBounds l (.loop { r with state := .exhausted }) } := run_endLoop h hr

theorem Has.setObj {w : World} {l : Nat} {o o' : Obj} (hw : Has H w) (hl : H l = some o) : Has (H.ins l o') { w with heap := w.heap.setIfInBounds l o' } := fun x p hx => by
  have hlt := hw.lt hl
  unfold Hp.ins at hx
  split at hx
  · rename_i e0; subst e0
    show (w.heap.setIfInBounds x o')[x]? = _
    rw [Array.getElem?_setIfInBounds_self_of_lt hlt]; exact hx
  · rename_i e0
    show (w.heap.setIfInBounds l o')[x]? = _
    rw [Array.getElem?_setIfInBounds_ne (Ne.symm e0)]; exact hw x p hx
theorem Fr.setObj {w : World} {l : Nat} {o o' : Obj} (hl : H l = some o) : Fr H w (H.ins l o') { w with heap := w.heap.setIfInBounds l o' } :=
  ⟨rfl, rfl, rfl, by simp, fun x _ hn => by
    show (w.heap.setIfInBounds l o')[x]? = _
    rw [Array.getElem?_setIfInBounds_ne (fun he => by subst he; rw [hl] at hn; cases hn)], fun x hx => by
    unfold Hp.ins at hx
    split at hx
    · rename_i e0; subst e0; left; rw [hl]; simp
    · exact .inl hx⟩

/-- 'for .. := range f { .. }': the function is called; behind it the jump that is left, if there is one. -/
theorem Gt.rangeFunc {x : Operand} {ps : Array Tmp} {assign body : Code} {gf : FuncId} {fi ca : List Value} (hx : e.eval x = .func (.func gf) fi.toArray ca.toArray) (hE : Enters P gf)
    (h : ∀ D l H0, H D = none → (H.ins D (.deferred (some []))) l = none → IsRec H0 l f e ps assign body D .ready none → (∃ o, H0 = (H.ins D (.deferred (some []))).ins l o) → Call P gf (fi ++ [Value.func (.yield l) #[] #[]] ++ ca).toArray H0 fun v H' =>
      ∃ r H'', H' l = some (.loop r) ∧ r.state ≠ .busy ∧ Sub H'' (H'.ins l (.loop { r with state := .exhausted })) ∧
        Gt P f ((r.pending.map Item.code).toList ++ k) { e with ds := { target := .collected D, args := #[] } :: e.ds } H'' K) : Gt P f (.code (.rangeFunc x ps assign body) :: k) e H K := fun w a hr hw b hf hk cs => by
  let b' : Frame := { b with roundOf := none }
  have hat : ∀ a t, b'.atR a t = b.at a t := fun _ _ => rfl
  let D := w.heap.size
  let l := w.heap.size + 1
  let w1 := (w.alloc (.deferred (some []))).alloc (.loop { state := .ready, pending := none, fn := b.fn, tmps := a.tmps, params := ps, assign, body, defers := D })
  have he : (Instr.enterLoop b'.fn a.tmps ps assign body b'.roundOf).run P w = .ok (l, [{ target := .collected D, args := #[] }]) w1 := by
    exact run_enterLoop_outer _ _ _ _ _
  have hres : (resolve a.eval (rangeCall x l) 0).run P w1 = .ok { target := .fn (.func gf) ca.toArray, args := fi.toArray ++ #[.func (.yield l) #[] #[]] } w1 := by
    have hx' : a.eval x = .func (.func gf) fi.toArray ca.toArray := by rw [hr.eval]; exact hx
    have hc : a.eval (.const (.func (.yield l) #[] #[])) = .func (.yield l) #[] #[] := rfl
    simp [resolve, hx', hc, Deferred.ofValue]
  have hinv : (invoke (.fn (.func gf) ca.toArray) (fi.toArray ++ #[.func (.yield l) #[] #[]])).run P w1 = .ok (.enter gf (fi ++ [Value.func (.yield l) #[] #[]] ++ ca).toArray) w1 := by
    have := hE (fi.toArray ++ #[.func (.yield l) #[] #[]] ++ ca.toArray) w1
    simp [invoke] at this ⊢
    exact this
  have hstep := stepR_rangeFunc (P := P) (b := b') (a := a) (k := k) (cs := cs) (w := w) he hres hinv
  have hw1 : Has ((H.ins D (.deferred (some []))).ins l (.loop { state := .ready, pending := none, fn := b.fn, tmps := a.tmps, params := ps, assign, body, defers := D })) w1 := by
    have h1 := (hw.alloc (.deferred (some []))).alloc (.loop { state := .ready, pending := none, fn := b.fn, tmps := a.tmps, params := ps, assign, body, defers := D })
    rw [World.size_alloc] at h1
    exact h1
  have hfr1 : Fr H w ((H.ins D (.deferred (some []))).ins l (.loop { state := .ready, pending := none, fn := b.fn, tmps := a.tmps, params := ps, assign, body, defers := D })) w1 := by
    have h1 := (Fr.alloc (H := H) (w := w) (.deferred (some []))).trans (Fr.alloc (.loop { state := .ready, pending := none, fn := b.fn, tmps := a.tmps, params := ps, assign, body, defers := D }))
    rw [World.size_alloc] at h1
    exact h1
  have hfresh : (H.ins D (.deferred (some []))) l = none := by
    have h1 := (hw.alloc (.deferred (some []))).fresh
    rw [World.size_alloc] at h1
    exact h1
  obtain ⟨ee, w2, fr, ⟨v, H', rfl, hH', hfr, r, H'', hl, hst, hsub, hgo⟩, hsteps, hfn, hleave⟩ := h D l _ hw.fresh hfresh ⟨a.tmps, fun ds => ⟨hr.size, hr.val, rfl⟩, by rw [Hp.ins_same, hf]⟩ ⟨_, rfl⟩ w1 hw1
    (b'.atR { a with defers := { target := .collected D, args := #[] } :: a.defers } (.inRangeFunc l :: k) :: cs)
  have hend := run_endLoop' (P := P) (hH' l _ hl) hst
  have hback : step P (lone fr (b'.atR { a with defers := { target := .collected D, args := #[] } :: a.defers } (.inRangeFunc l :: k) :: cs) w2) =
      .next (lone (b'.atR { a with defers := { target := .collected D, args := #[] } :: a.defers } (.endRangeFunc l :: k)) cs w2) := by
    rw [← finish_atR_inRangeFunc l v]; exact step_leave_returned hleave
  have hstep2 := stepR_endRangeFunc (P := P) (b := b') (a := { a with defers := { target := .collected D, args := #[] } :: a.defers }) (k := k) (cs := cs) (w := w2) hend
  obtain ⟨v', w3, fr', H3, q1, q2, q3, q4, q5⟩ := hgo _ { a with defers := { target := .collected D, args := #[] } :: a.defers } ⟨hr.size, hr.val, by simp [hr.ds]⟩ ((hH'.setObj hl).sub hsub) b hf hk cs
  refine ⟨v', w3, fr', H3, q1, q2, (hfr1.trans hfr).trans (((Fr.setObj hl).sub hsub).trans q3), ?_, q5⟩
  rw [← hat]
  refine .head hstep (Steps.trans hsteps (.head hback (.head hstep2 ?_)))
  exact q4

theorem step_collect {fr : Frame} {cs : List Frame} {w : World} {D : Nat} {ds : List Deferred} (hm : fr.mode = .returning) (hd : fr.defers = { target := .collected D, args := #[] } :: ds) (hD : w.heap[D]? = some (.deferred (some []))) :
    step P (lone fr cs w) = .next (lone { fr with defers := ds } cs { w with heap := w.heap.setIfInBounds D (.deferred none) }) :=
  step_lone_go (by
    have hr : (Instr.takeDeferred D).run P w = .ok [] { w with heap := w.heap.setIfInBounds D (.deferred none) } := run_takeDeferred hD
    simp [stepG, hm, unwind, hd, Sem.runT_eq, hr, GStep.bare_after])

/-- The return behind a range over a function. -/
theorem Gt.retD {v : Value} {H' : Hp} {D : Nat} {ds : List Deferred} (hds : e.ds = { target := .collected D, args := #[] } :: ds) (hD : H D = some (.deferred (some []))) (hr : Res P f { e with ds := ds } (H.ins D (.deferred none)) v)
    (hs : Sub H' (H.ins D (.deferred none))) (hk : K v H') : Gt P f (.code .ret :: k) e H K := fun w a hrel hw b hf hkk cs => by
  obtain ⟨hd, fn, hfn, hres⟩ := hr
  have hds0 : ds = [] := hd
  have hw' := hw.setObj (o' := .deferred none) hD
  have h2 := step_collect (P := P) (fr := { b.at a (.code .ret :: k) with mode := .returning }) (cs := cs) (w := w) (D := D) (ds := ds) rfl (by show a.defers = _; rw [hrel.ds, hds]) (hw _ _ hD)
  refine ⟨v, _, _, H', hk, hw'.sub hs, (Fr.setObj hD).sub hs, .head step_ret (.one h2), ⟨rfl, hds0, hkk, fn, by rw [← hf] at hfn; exact hfn, hres _ hw' _ hrel.val⟩, hf⟩
end Go.Proofs.YtdheiajppnlbbaaGreat
