/-
  THE LAYER, PART 9: append. Own work.
-/
import Derived.Test.YtdheiajppnlbbaaGreatA8
import Derived.Deep.AppendLies
namespace Go.Proofs.YtdheiajppnlbbaaGreat
open Go Go.RowKit

variable {P : Program} {e : Env} {H : Hp}
variable {d : Option Tmp} {t : TypeId} {ps : String} {af : Array Edge} {g : Option (Nat × Bool)}

/-- A slice of one's own, from its block's first cell on: n elements, whose cells are xs. -/
def Own (H : Hp) (E size : Nat) (v : Value) (n : Nat) (xs : List Value) : Prop :=
  xs.length = n * size ∧ ((v = .slice none 0 0 ∧ n = 0) ∨
    ∃ b cap cur, v = .slice (some ⟨b, 0, none⟩) n cap ∧ H b = some (.cells cur E (0, 0)) ∧ n ≤ cap ∧ cap ≤ maxLen ∧ cur.size = cap * size ∧ cur.toList.take (n * size) = xs)
theorem Own.nil (H : Hp) (E size : Nat) : Own H E size (.slice none 0 0) 0 [] := ⟨by simp, .inl ⟨rfl, rfl⟩⟩
theorem Own.rows {E size n : Nat} {v : Value} {xs : List Value} (h : Own H E size v n xs) {w : World} (hw : Has H w) : w.ownsRow 0 E size v n xs :=
  ⟨h.1, h.2.imp id fun ⟨b, cap, cur, h1, h2, h3, h4, h5, h6⟩ => ⟨b, cap, cur, h1, Nat.zero_le _, hw _ _ h2, h3, h4, h5, h6⟩⟩
theorem Own.sub {H' : Hp} {E size n : Nat} {v : Value} {xs : List Value} (h : Own H E size v n xs) (s : Sub H H') : Own H' E size v n xs :=
  ⟨h.1, h.2.imp id fun ⟨b, cap, cur, h1, h2, h3⟩ => ⟨b, cap, cur, h1, s _ _ h2, h3⟩⟩

def Hp.del (H : Hp) (b : Nat) : Hp := fun x => if x = b then none else H x
def Hp.delV (H : Hp) (v : Value) : Hp := match v.ownBlock with
  | some b => H.del b
  | none => H
theorem Hp.del_sub (H : Hp) (b : Nat) : Sub (H.del b) H := fun x p hx => by
  unfold Hp.del at hx
  split at hx
  · cases hx
  · exact hx
theorem Hp.delV_some {H : Hp} {v : Value} {b : Nat} (h : v.ownBlock = some b) : H.delV v = H.del b := by unfold Hp.delV; rw [h]
theorem Hp.delV_none {H : Hp} {v : Value} (h : v.ownBlock = none) : H.delV v = H := by unfold Hp.delV; rw [h]
theorem Hp.delV_sub (H : Hp) (v : Value) : Sub (H.delV v) H := by
  cases hv : v.ownBlock with
  | none => rw [Hp.delV_none hv]; exact Sub.refl _
  | some b => rw [Hp.delV_some hv]; exact Hp.del_sub H b
theorem Hp.delV_ne (H : Hp) {v : Value} {b : Nat} (h : v.ownBlock ≠ some b) : (H.delV v) b = H b := by
  cases hv : v.ownBlock with
  | none => rw [Hp.delV_none hv]
  | some c =>
    rw [Hp.delV_some hv]
    unfold Hp.del
    rw [if_neg]
    intro he; subst he; exact h hv

/-- What is known of a type of elements. -/
structure Elem (P : Program) (T E size bytes : Nat) : Prop where
  und : P.underlying T = some (.slice E)
  info : ∃ i z, P.info? E = some i ∧ i.zero = some z ∧ i.size = size ∧ i.bytes = bytes ∧ z.cells.size = size
  pos : 0 < size
theorem Elem.mk' {T E size bytes : Nat} {z : Value} (hu : P.underlying T = some (.slice E)) (h : (P.info? E).map (fun i => (i.zero, i.size, i.bytes)) = some (some z, size, bytes)) (hz : z.cells.size = size) (hp : 0 < size) : Elem P T E size bytes := by
  obtain ⟨i0, hi, hz0, hz1, hz2⟩ := info_parts h
  exact ⟨hu, ⟨i0, z, hi, hz0, hz1, hz2, hz⟩, hp⟩

/-- 'append(s, x...)', x not empty: the new slice lies where the old one lay, or in a new block. -/
theorem Ef.append {s x : Operand} {T E size bytes n m c xb xo xE : Nat} {xfr : Nat × Nat} {v : Value} {xs news xc : List Value} {M : Value → Hp → Prop} (hel : Elem P T E size bytes)
    (hs : e.eval s = v) (hown : Own H E size v n xs) (hx : e.eval x = .slice (some ⟨xb, xo, none⟩) m c) (hxb : H xb = some (.cells xc.toArray xE xfr)) (hnews : (xc.drop xo).take (m * size) = news) (hl : news.length = m * size)
    (h1 : ∀ u ∈ news, u.oneCell' = true) (hm : 0 < m) (h63 : n + m ≤ maxLen) (hbytes : (n + m) * bytes ≤ 140737488355328)
    (hM : ∀ b cap cur, (v.ownBlock = some b ∨ H b = none) → n + m ≤ cap → cap ≤ maxLen → cur.length = cap * size → cur.take ((n + m) * size) = xs ++ news →
      M (.slice (some ⟨b, 0, none⟩) (n + m) cap) ((H.delV v).ins b (row cur E))) : Ef P ⟨d, .call ⟨.builtin .append, #[s, x], #[T, T]⟩, t, ps, af, g⟩ e H M := fun w hw a next Q k => by
  obtain ⟨i, z, hi, hz, hz1, hz2, hz3⟩ := hel.info
  obtain ⟨b, cap, w', hr, h2, h3, h4, h5⟩ := run_append_lies (P := P) w T t 0 E i z size bytes hel.und hi hz hz1 hz2 hz3 hel.pos v n xs (hown.rows hw) ⟨xb, xo, none⟩ m c news hl
    (fun j u hj => by
      rw [add_off]
      refine hw.cell hxb ?_
      rw [← hnews] at hj
      have hlt : j < m * size := by
        have := (List.getElem?_eq_some_iff.1 hj).1
        simp at this; omega
      rw [List.getElem?_take_of_lt hlt, List.getElem?_drop] at hj
      exact hj) h1 hm h63 hbytes (Nat.zero_le _) _ rfl
  have hrun : (execOp e.eval ⟨d, .call ⟨.builtin .append, #[s, x], #[T, T]⟩, t, ps, af, g⟩).run P w = .ok (.value (.slice (some ⟨b, 0, none⟩) (n + m) cap)) w' := by
    have hr' : ∀ cs, (Go.builtin .append #[T, T] t cs #[v, .slice (some ⟨xb, xo, none⟩) m c]).run P w = .ok (.value (.slice (some ⟨b, 0, none⟩) (n + m) cap)) w' := fun cs => by
      simp only [Go.builtin, Sem.run_bind, hr, Result.andThen_ok, Sem.run_pure]
    simp only [execOp, resolve, bind, Sem.bind, pure, invoke, List.map_toArray, List.map_cons, List.map_nil, hs, hx]
    exact hr' _
  rw [hrun]
  obtain ⟨hlen, hor⟩ := h2
  rcases hor with ⟨h0, _⟩ | ⟨b', cap', cur, hv, _, hg, q1, q2, q3, q4⟩
  · cases h0
  simp only [Value.slice.injEq, Option.some.injEq, Addr.mk.injEq, and_true, true_and] at hv
  obtain ⟨rfl, rfl⟩ := hv
  have hb4 : v.ownBlock = some b ∨ H b = none := h4.imp id fun hb => by subst hb; exact hw.fresh
  refine k _ w' ((H.delV v).ins b (row cur.toList E)) (fun y p hy => ?_) ⟨h3.os, h3.tape, h3.output, h3.size, fun y hy hn => ?_, fun y hy => ?_⟩ (hM b cap cur.toList hb4 q1 q2 (by simpa using q3) q4)
  · unfold Hp.ins at hy
    split at hy
    · rename_i e0; subst e0
      simp only [row, Array.toArray_toList] at hy
      rw [hg]; exact hy
    · have hy2 := Hp.delV_sub H v _ _ hy
      have hne : some y ≠ v.ownBlock := fun he => by
        rw [Hp.delV_some he.symm] at hy
        simp [Hp.del] at hy
      rw [h3.block y (hw.lt hy2) hne]; exact hw _ _ hy2
  · refine h3.block y hy fun he => ?_
    rcases hown.2 with ⟨h0, _⟩ | ⟨b', _, _, h0, hb', _⟩
    · subst h0; cases he
    · subst h0
      simp only [Value.ownBlock, Option.some.injEq] at he
      subst he; rw [hb'] at hn; cases hn
  · unfold Hp.ins at hy
    split at hy
    · rename_i e0; subst e0
      rcases h4 with h4 | h4
      · left
        rcases hown.2 with ⟨h0, _⟩ | ⟨b', _, _, h0, hb', _⟩
        · subst h0; cases h4
        · subst h0
          simp only [Value.ownBlock, Option.some.injEq] at h4
          subst h4; rw [hb']; simp
      · right; omega
    · left
      cases hc : (H.delV v) y with
      | none => exact absurd hc hy
      | some p => rw [Hp.delV_sub H v _ _ hc]; simp

/-- 'append(s, x...)', x empty. -/
theorem Pu.append0 {s x : Operand} {T E size n cap c : Nat} {a xa : Option Addr} (hT : elemT P T = some E) (hsz : sizeT P E = some size) (hs : e.eval s = .slice a n cap) (hx : e.eval x = .slice xa 0 c) (hn : n ≤ cap) :
    Pu P ⟨d, .call ⟨.builtin .append, #[s, x], #[T, T]⟩, t, ps, af, g⟩ e (.slice a n cap) := Pu.builtin (vs := [.slice a n cap, .slice xa 0 c]) (by simp [hs, hx]) fun cs w => by
  unfold elemT at hT
  cases hu : P.underlying T with
  | none => rw [hu] at hT; cases hT
  | some td =>
    rw [hu] at hT
    cases td <;> simp only at hT <;> try cases hT
    cases a <;> cases xa <;> simp [Go.builtin, Builtin.append_, run_underlying hu, run_sizeT hsz, Builtin.lenOf, Builtin.firstCells, hn, loadCells, loadCellsFrom, storeCells]
end Go.Proofs.YtdheiajppnlbbaaGreat
