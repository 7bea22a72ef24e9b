/-
  THE LAYER, PART 10: results that lie in memory; small words for walks. Own work.
-/
import Derived.Test.YtdheiajppnlbbaaGreatA9
namespace Go.Proofs.YtdheiajppnlbbaaGreat
open Go Go.RowKit

variable {P : Program} {f : FuncId} {e : Env} {H : Hp}

/-- What one result is. -/
inductive RV (P : Program) (e : Env) (H : Hp) : ResultVar → Value → Prop where
  | tmp {t : Tmp} {v : Value} (h : e.get t = v) : RV P e H (.tmp t) v
  | cell {t T b off E : Nat} {fr : Nat × Nat} {c : List Value} {v : Value} (h : e.get t = .pointer (some ⟨b, off, none⟩)) (hT : aggT P T = some false) (hb : H b = some (.cells c.toArray E fr)) (hc : c[off]? = some v) : RV P e H (.cell t T) v
  | agg {t T b off E : Nat} {fr : Nat × Nat} {c vs : List Value} (h : e.get t = .pointer (some ⟨b, off, none⟩)) (hT : aggT P T = some true) (hs : sizeT P T = some vs.length) (hb : H b = some (.cells c.toArray E fr))
      (hc : (c.drop off).take vs.length = vs) : RV P e H (.cell t T) (.agg vs.toArray)

def resOne (tmps : Array Value) : ResultVar → Sem Value
  | .tmp t => pure (tmps.getD t undef)
  | .cell a t => do loadVar t (← asAddr (tmps.getD a undef))

theorem RV.run {r : ResultVar} {v : Value} (h : RV P e H r v) {w : World} (hw : Has H w) {tmps : Array Value} (ht : ∀ t, tmps.getD t undef = e.get t) : (resOne tmps r).run P w = .ok v w := by
  cases h with
  | tmp h => simp only [resOne, ht, h, Sem.run_pure]
  | cell h hT hb hc => simp only [resOne, ht, h, asAddr]; simp [loadVar, run_aggT hT, hw.cell hb hc]
  | @agg t T b off E fr c vs h hT hs hb hc =>
    have := run_loadCells_list (P := P) (w := w) ⟨b, off, none⟩ vs fun j v hj => by
      rw [add_off]
      refine hw.cell hb ?_
      rw [← hc] at hj
      have hlt : j < vs.length := by
        have := (List.getElem?_eq_some_iff.1 hj).1
        simp at this; omega
      rw [List.getElem?_take_of_lt hlt, List.getElem?_drop] at hj
      exact hj
    simp only [resOne, ht, h, asAddr]
    simp [loadVar, run_aggT hT, run_sizeT hs, this]

theorem results_eq (fn : Func) (tmps : Array Value) : results fn tmps = (do let vs ← fn.results.mapM (resOne tmps); pure (if h : vs.size = 1 then vs[0] else .tuple vs)) := rfl

theorem Res.mk1 {fn : Func} {r : ResultVar} {v : Value} (hf : P.funcs[f]? = some fn) (hr : fn.results = #[r]) (hd : e.ds = []) (hv : RV P e H r v) : Res P f e H v :=
  ⟨hd, fn, hf, fun w hw tmps ht => by rw [results_eq, hr]; simp [hv.run hw ht]⟩
theorem Res.mk2 {fn : Func} {r s : ResultVar} {v x : Value} (hf : P.funcs[f]? = some fn) (hr : fn.results = #[r, s]) (hd : e.ds = []) (hv : RV P e H r v) (hx : RV P e H s x) : Res P f e H (.tuple #[v, x]) :=
  ⟨hd, fn, hf, fun w hw tmps ht => by rw [results_eq, hr]; simp [hv.run hw ht, hx.run hw ht]⟩
theorem Res.mk3 {fn : Func} {r s q : ResultVar} {v x y : Value} (hf : P.funcs[f]? = some fn) (hr : fn.results = #[r, s, q]) (hd : e.ds = []) (hv : RV P e H r v) (hx : RV P e H s x) (hy : RV P e H q y) : Res P f e H (.tuple #[v, x, y]) :=
  ⟨hd, fn, hf, fun w hw tmps ht => by rw [results_eq, hr]; simp [hv.run hw ht, hx.run hw ht, hy.run hw ht]⟩

theorem Sub.ins' {A B : Hp} {b : Nat} {o : Obj} (h : Sub A B) (hb : A b = none) : Sub A (B.ins b o) := fun x p hx => by
  have h0 := h x p hx
  unfold Hp.ins
  split
  · rename_i e0; subst e0; rw [hb] at hx; cases hx
  · exact h0
end Go.Proofs.YtdheiajppnlbbaaGreat
