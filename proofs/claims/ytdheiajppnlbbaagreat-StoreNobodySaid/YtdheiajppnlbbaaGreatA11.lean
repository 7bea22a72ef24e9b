/-
  THE LAYER, PART 11: the rules of one more operation, over a frame that is written out. Own work.
-/
import Derived.Test.YtdheiajppnlbbaaGreatA10
namespace Go.Proofs.YtdheiajppnlbbaaGreat
open Go Go.RowKit

variable {P : Program} {ops : Array Oper} {H : Hp} {A : List (List Nat)} {N : Env → Hp → Prop} {done : Done} {i : Nat} {rest : List Nat} {rk : List (Nat × Kd)}
variable {n d : Nat} {l : List (Nat × Value)} {ds : List Deferred} {op : Op} {t : TypeId} {ps : String} {af : Array Edge} {g : Option (Nat × Bool)}

/-- From a call that needs nothing known, to what a row asks. -/
theorem below_of_call {f : FuncId} {args : Array Value} {w : World} {v0 : Value} (h : Call P f args (fun _ => none) (fun v _ => v = v0)) : Calls P f args w fun e w' => e = .returned v0 ∧ Below w.heap.size w w' :=
  Calls.mono (h w fun _ _ hb => by cases hb) fun e w' ⟨v, H', he, _, hfr, hv⟩ => ⟨by rw [he, hv], hfr.os, hfr.tape, hfr.output, hfr.size, fun k hk => hfr.same k hk rfl⟩
theorem Ef.sto {e : Env} {dd : Option Tmp} {x y : Operand} {T b off E : Nat} {c vs c' : List Value} {v : Value} (h : e.eval x = .pointer (some ⟨b, off, none⟩)) (hy : e.eval y = v) (hv : v.cells = vs.toArray) (hs : sizeT P T = some vs.length)
    (hb : H b = some (row c E)) (hl : off + vs.length ≤ c.length) (h1 : (vs.all fun v => v.oneCell') = true) (hc : spl c off vs = c') : Ef P ⟨dd, .store T x y, t, ps, af, g⟩ e H (fun v H' => v = undef ∧ H' = H.ins b (row c' E)) :=
  Ef.store h hy hv hs hb hl h1 hc ⟨rfl, rfl⟩
theorem Ef.app {e : Env} {dd : Option Tmp} {s x : Operand} {T E size bytes n m c xb xo xE : Nat} {xfr : Nat × Nat} {v : Value} {xs news xc : List Value} (hel : Elem P T E size bytes)
    (hs : e.eval s = v) (hown : Own H E size v n xs) (hx : e.eval x = .slice (some ⟨xb, xo, none⟩) m c) (hxb : H xb = some (.cells xc.toArray xE xfr)) (hnews : (xc.drop xo).take (m * size) = news) (hl : news.length = m * size)
    (h1 : ∀ u ∈ news, u.oneCell' = true) (hm : 0 < m) (h63 : n + m ≤ maxLen) (hbytes : (n + m) * bytes ≤ 140737488355328) :
    Ef P ⟨dd, .call ⟨.builtin .append, #[s, x], #[T, T]⟩, t, ps, af, g⟩ e H (fun v' H' => ∃ b cap cur, (v.ownBlock = some b ∨ H b = none) ∧ n + m ≤ cap ∧ cap ≤ maxLen ∧ cur.length = cap * size ∧
      cur.take ((n + m) * size) = xs ++ news ∧ v' = .slice (some ⟨b, 0, none⟩) (n + m) cap ∧ H' = (H.delV v).ins b (row cur E)) :=
  Ef.append hel hs hown hx hxb hnews hl h1 hm h63 hbytes fun b cap cur q1 q2 q3 q4 q5 => ⟨b, cap, cur, q1, q2, q3, q4, q5, rfl, rfl⟩
theorem Hp.del_ins {b : Nat} {o : Obj} (h : H b = none) : (H.ins b o).del b = H := by
  funext x; unfold Hp.del Hp.ins; split
  · rename_i e0; subst e0; exact h.symm
  · rfl
theorem own_new {b E : Nat} {o : Obj} (h : H b = some o) (ho : o = .cells #[] E (0, 0)) (size : Nat) : Own H E size (.slice (some ⟨b, 0, none⟩) 0 0) 0 [] :=
  ⟨by simp, .inr ⟨b, 0, #[], rfl, by rw [h, ho], Nat.le_refl _, Nat.zero_le _, by simp, by simp⟩⟩
theorem own_fresh {b1 b : Nat} {o : Obj} (h1 : H b1 = none) (h : (Value.slice (some ⟨b1, 0, none⟩) 0 0).ownBlock = some b ∨ (H.ins b1 o) b = none) : H b = none := by
  rcases h with h | h
  · simp only [Value.ownBlock, Option.some.injEq] at h; rw [← h]; exact h1
  · exact (Hp.ins_none h).2
theorem own_gone {b1 : Nat} {o : Obj} (h1 : H b1 = none) : (H.ins b1 o).delV (.slice (some ⟨b1, 0, none⟩) 0 0) = H := by rw [Hp.delV_some rfl]; exact Hp.del_ins h1
theorem take_one {xc : List Value} {v : Value} (h : xc[0]? = some v) : (xc.drop 0).take (1 * 1) = [v] := by
  cases xc with
  | nil => cases h
  | cons a l => simp at h; subst h; simp
theorem take_head {cur : List Value} {v : Value} (h : cur.take ((0 + 1) * 1) = [] ++ [v]) : cur[0]? = some v := by
  cases cur with
  | nil => cases h
  | cons a l => simp at h; subst h; simp
theorem SQ.p {v : Value} (ho : ops[i]? = some ⟨some d, op, t, ps, af, g⟩) (hg : Region.wanted ⟨some d, op, t, ps, af, g⟩ (Env.yielded ops ⟨n, l, ds⟩) = true) (hv : Pu P ⟨some d, op, t, ps, af, g⟩ ⟨n, l, ds⟩ v)
    (h : SQ P ops rest ⟨n, (d, v) :: l, ds⟩ H N) : SQ P ops (i :: rest) ⟨n, l, ds⟩ H N := SQ.pu ho hg hv h
theorem SQ.r {v : Value} (ho : ops[i]? = some ⟨some d, op, t, ps, af, g⟩) (hg : Region.wanted ⟨some d, op, t, ps, af, g⟩ (Env.yielded ops ⟨n, l, ds⟩) = true) (hv : Rd P ⟨some d, op, t, ps, af, g⟩ ⟨n, l, ds⟩ H v)
    (h : SQ P ops rest ⟨n, (d, v) :: l, ds⟩ H N) : SQ P ops (i :: rest) ⟨n, l, ds⟩ H N := SQ.rd ho hg hv h
theorem SQ.a {obj : Obj} {mk : Nat → Value} (ho : ops[i]? = some ⟨some d, op, t, ps, af, g⟩) (hg : Region.wanted ⟨some d, op, t, ps, af, g⟩ (Env.yielded ops ⟨n, l, ds⟩) = true) (hv : Al P ⟨some d, op, t, ps, af, g⟩ ⟨n, l, ds⟩ obj mk)
    (h : ∀ b, H b = none → SQ P ops rest ⟨n, (d, mk b) :: l, ds⟩ (H.ins b obj) N) : SQ P ops (i :: rest) ⟨n, l, ds⟩ H N := SQ.al ho hg hv h
theorem SQ.e {M : Value → Hp → Prop} (ho : ops[i]? = some ⟨some d, op, t, ps, af, g⟩) (hg : Region.wanted ⟨some d, op, t, ps, af, g⟩ (Env.yielded ops ⟨n, l, ds⟩) = true) (hv : Ef P ⟨some d, op, t, ps, af, g⟩ ⟨n, l, ds⟩ H M)
    (h : ∀ v H', M v H' → SQ P ops rest ⟨n, (d, v) :: l, ds⟩ H' N) : SQ P ops (i :: rest) ⟨n, l, ds⟩ H N := SQ.ef ho hg hv h
theorem SQ.e0 {M : Value → Hp → Prop} (ho : ops[i]? = some ⟨none, op, t, ps, af, g⟩) (hg : Region.wanted ⟨none, op, t, ps, af, g⟩ (Env.yielded ops ⟨n, l, ds⟩) = true) (hv : Ef P ⟨none, op, t, ps, af, g⟩ ⟨n, l, ds⟩ H M)
    (h : ∀ v H', M v H' → SQ P ops rest ⟨n, l, ds⟩ H' N) : SQ P ops (i :: rest) ⟨n, l, ds⟩ H N := SQ.ef ho hg hv h
theorem SQ.s (ho : ops[i]? = some ⟨some d, op, t, ps, af, g⟩) (hg : Region.wanted ⟨some d, op, t, ps, af, g⟩ (Env.yielded ops ⟨n, l, ds⟩) = false)
    (h : SQ P ops rest ⟨n, (d, undef) :: l, ds⟩ H N) : SQ P ops (i :: rest) ⟨n, l, ds⟩ H N := SQ.skip ho hg h
theorem SQ.s0 (ho : ops[i]? = some ⟨none, op, t, ps, af, g⟩) (hg : Region.wanted ⟨none, op, t, ps, af, g⟩ (Env.yielded ops ⟨n, l, ds⟩) = false)
    (h : SQ P ops rest ⟨n, l, ds⟩ H N) : SQ P ops (i :: rest) ⟨n, l, ds⟩ H N := SQ.skip ho hg h
theorem SQ.cb {il : List Nat} {c : Bool} (h1 : c = true → SQ P ops il ⟨n, (d, .bool true) :: l, ds⟩ H N) (h2 : c = false → SQ P ops il ⟨n, (d, .bool false) :: l, ds⟩ H N) : SQ P ops il ⟨n, (d, .bool c) :: l, ds⟩ H N := by
  cases c
  · exact h2 rfl
  · exact h1 rfl

theorem DL.p {v : Value} (ho : ops[i]? = some ⟨some d, op, t, ps, af, g⟩) (hg : Region.wanted ⟨some d, op, t, ps, af, g⟩ (Env.yielded ops ⟨n, l, ds⟩) = true) (hv : Pu P ⟨some d, op, t, ps, af, g⟩ ⟨n, l, ds⟩ v)
    (h : DL P ops A N done rk ⟨n, (d, v) :: l, ds⟩ H) : DL P ops A N done ((i, .pure) :: rk) ⟨n, l, ds⟩ H := DL.pu ho hg hv h
theorem DL.r {v : Value} (ho : ops[i]? = some ⟨some d, op, t, ps, af, g⟩) (hg : Region.wanted ⟨some d, op, t, ps, af, g⟩ (Env.yielded ops ⟨n, l, ds⟩) = true) (hv : Rd P ⟨some d, op, t, ps, af, g⟩ ⟨n, l, ds⟩ H v)
    (h : DL P ops A N ((i, fun H' => Rd P ⟨some d, op, t, ps, af, g⟩ ⟨n, l, ds⟩ H' v) :: done) rk ⟨n, (d, v) :: l, ds⟩ H) : DL P ops A N done ((i, .read) :: rk) ⟨n, l, ds⟩ H := DL.rd ho hg hv h
theorem DL.a {obj : Obj} {mk : Nat → Value} (ho : ops[i]? = some ⟨some d, op, t, ps, af, g⟩) (hg : Region.wanted ⟨some d, op, t, ps, af, g⟩ (Env.yielded ops ⟨n, l, ds⟩) = true) (hv : Al P ⟨some d, op, t, ps, af, g⟩ ⟨n, l, ds⟩ obj mk)
    (h : ∀ b, H b = none → DL P ops A N done rk ⟨n, (d, mk b) :: l, ds⟩ (H.ins b obj)) : DL P ops A N done ((i, .alloc) :: rk) ⟨n, l, ds⟩ H := DL.al ho hg hv h
theorem DL.e {M : Value → Hp → Prop} (ho : ops[i]? = some ⟨some d, op, t, ps, af, g⟩) (hg : Region.wanted ⟨some d, op, t, ps, af, g⟩ (Env.yielded ops ⟨n, l, ds⟩) = true) (hv : Ef P ⟨some d, op, t, ps, af, g⟩ ⟨n, l, ds⟩ H M)
    (h : ∀ v H', M v H' → (∀ p ∈ done, Anc A p.1 i = false → p.2 H') ∧ DL P ops A N done rk ⟨n, (d, v) :: l, ds⟩ H') : DL P ops A N done ((i, .effect) :: rk) ⟨n, l, ds⟩ H := DL.ef ho hg hv h
theorem DL.e0 {M : Value → Hp → Prop} (ho : ops[i]? = some ⟨none, op, t, ps, af, g⟩) (hg : Region.wanted ⟨none, op, t, ps, af, g⟩ (Env.yielded ops ⟨n, l, ds⟩) = true) (hv : Ef P ⟨none, op, t, ps, af, g⟩ ⟨n, l, ds⟩ H M)
    (h : ∀ v H', M v H' → (∀ p ∈ done, Anc A p.1 i = false → p.2 H') ∧ DL P ops A N done rk ⟨n, l, ds⟩ H') : DL P ops A N done ((i, .effect) :: rk) ⟨n, l, ds⟩ H := DL.ef ho hg hv h
theorem DL.s {k : Kd} (ho : ops[i]? = some ⟨some d, op, t, ps, af, g⟩) (hg : Region.wanted ⟨some d, op, t, ps, af, g⟩ (Env.yielded ops ⟨n, l, ds⟩) = false)
    (h : DL P ops A N done rk ⟨n, (d, undef) :: l, ds⟩ H) : DL P ops A N done ((i, k) :: rk) ⟨n, l, ds⟩ H := DL.skip ho hg h
theorem DL.s0 {k : Kd} (ho : ops[i]? = some ⟨none, op, t, ps, af, g⟩) (hg : Region.wanted ⟨none, op, t, ps, af, g⟩ (Env.yielded ops ⟨n, l, ds⟩) = false)
    (h : DL P ops A N done rk ⟨n, l, ds⟩ H) : DL P ops A N done ((i, k) :: rk) ⟨n, l, ds⟩ H := DL.skip ho hg h
theorem DL.cb {c : Bool} (h1 : c = true → DL P ops A N done rk ⟨n, (d, .bool true) :: l, ds⟩ H) (h2 : c = false → DL P ops A N done rk ⟨n, (d, .bool false) :: l, ds⟩ H) : DL P ops A N done rk ⟨n, (d, .bool c) :: l, ds⟩ H := by
  cases c
  · exact h2 rfl
  · exact h1 rfl
end Go.Proofs.YtdheiajppnlbbaaGreat
