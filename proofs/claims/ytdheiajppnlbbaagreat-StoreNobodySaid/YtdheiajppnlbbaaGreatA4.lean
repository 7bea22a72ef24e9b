/-
  THE LAYER, PART 4: every order, out of one; the region's rule. Own work.
-/
import Derived.Test.YtdheiajppnlbbaaGreatA3
namespace Go.Proofs.YtdheiajppnlbbaaGreat
open Go Go.RowKit

variable {P : Program} {ops : Array Oper} {e : Env} {H : Hp} {A : List (List Nat)} {N : Env → Hp → Prop}

/-- x may come behind y although it is told ahead of it. -/
def MaySwap (ops : Array Oper) (A : List (List Nat)) (x y : Nat × Kd) : Prop :=
  Anc A x.1 y.1 = true ∨ (x.2.swap y.2 = true ∧ ∀ ox oy, ops[x.1]? = some ox → ops[y.1]? = some oy → ox.apart ops oy = true)

theorem DL.front {i : Nat} {k : Kd} {oi : Oper} {β : List (Nat × Kd)} (hs : ∀ (j : Nat) (o : Oper) cs b, ops[j]? = some o → o.op ≠ .select cs b) (hi : ops[i]? = some oi) :
    ∀ (α : List (Nat × Kd)) (done : Done) (e : Env) (H : Hp), (∃ w, Has H w) → Done.Mono done →
      (∀ p ∈ α, Anc A p.1 i = false ∧ p.2.swap k = true ∧ ∃ ox, ops[p.1]? = some ox ∧ ox.apart ops oi = true) →
      DL P ops A N done (α ++ (i, k) :: β) e H → DL P ops A N done ((i, k) :: (α ++ β)) e H := by
  intro α
  induction α with
  | nil => intro done e H _ _ _ h; exact h
  | cons p α ih =>
    obtain ⟨x, kx⟩ := p
    intro done e H hwd hm hα h
    obtain ⟨ha, hsw, ox, hox, hap⟩ := hα _ (List.mem_cons_self ..)
    have hα' := fun p hp => hα p (List.mem_cons_of_mem _ hp)
    refine DL.swap hox hi hap (fun cs b => hs x ox cs b hox) (fun cs b => hs i oi cs b hi) hsw ha hwd hm ?_
    obtain ⟨o, ho, h⟩ := h
    obtain rfl : ox = o := Option.some.inj (hox.symm.trans ho)
    refine ⟨ox, ho, ?_⟩
    rcases h with ⟨hg, h⟩ | ⟨hg, h⟩
    · exact .inl ⟨hg, ih done _ H hwd hm hα' h⟩
    · refine .inr ⟨hg, ?_⟩
      cases kx with
      | pure => obtain ⟨v, hv, h⟩ := h; exact ⟨v, hv, ih done _ H hwd hm hα' h⟩
      | read => obtain ⟨v, hv, h⟩ := h; exact ⟨v, hv, ih _ _ H hwd (hm.cons x ox e v) hα' h⟩
      | alloc =>
        obtain ⟨ob, mk, hv, h⟩ := h
        refine ⟨ob, mk, hv, fun b hb => ?_⟩
        obtain ⟨w, hw⟩ := hwd
        refine ih done _ _ ?_ hm hα' (h b hb)
        exact ⟨{ w with heap := ((w.heap ++ Array.replicate (b + 1 - w.heap.size) default).setIfInBounds b ob) }, fun x p hx => by
          unfold Hp.ins at hx
          split at hx
          · rename_i e0; subst e0
            have hb1 : x < (w.heap ++ Array.replicate (x + 1 - w.heap.size) (default : Obj)).size := by simp; omega
            show ((w.heap ++ Array.replicate (x + 1 - w.heap.size) default).setIfInBounds x ob)[x]? = some p
            rw [Array.getElem?_setIfInBounds_self_of_lt hb1]
            exact hx
          · rename_i e0
            have h0 := hw x p hx
            have hlt : x < w.heap.size := (Array.getElem?_eq_some_iff.1 h0).1
            show ((w.heap ++ Array.replicate (b + 1 - w.heap.size) default).setIfInBounds b ob)[x]? = some p
            rw [Array.getElem?_setIfInBounds_ne (by omega), Array.getElem?_append_left hlt]
            exact h0⟩
      | effect => exact h.mono' fun v H' hw' _ ⟨q1, q2⟩ => ⟨q1, ih done _ H' hw' hm hα' q2⟩

/-- What one order must keep, so that it serves every one. -/
structure Good (ops : Array Oper) (A : List (List Nat)) (listed : Array Bool) (l : List (Nat × Kd)) : Prop where
  size : listed.size = ops.size
  mem : ∀ j, j < ops.size → (listed.getD j true = false ↔ ∃ k, (j, k) ∈ l)
  rng : ∀ p ∈ l, p.1 < ops.size
  nodup : (l.map (·.1)).Nodup
  pair : l.Pairwise (MaySwap ops A)
  pre : ∀ α p β, l = α ++ p :: β → ∀ o, ops[p.1]? = some o → ∀ ed ∈ o.after, Region.binds .any ed = true → ed.on < ops.size ∧ ∀ q ∈ p :: β, q.1 ≠ ed.on
  anc : ∀ y oy, ops[y]? = some oy → ∀ x, Anc A x y = true → ∃ ed ∈ oy.after, Region.binds .any ed = true ∧ (ed.on = x ∨ Anc A x ed.on = true)
  down : ∀ y, listed.getD y false = true → ∀ x, Anc A x y = true → listed.getD x false = true

theorem getD_tf {listed : Array Bool} {j : Nat} (h : j < listed.size) : listed.getD j true = listed.getD j false := by simp [h]

theorem any_of_DL (hs : ∀ (j : Nat) (o : Oper) cs b, ops[j]? = some o → o.op ≠ .select cs b) {Q : Exit → Act → World → Prop} :
    ∀ (fuel : Nat) (listed : Array Bool) (l : List (Nat × Kd)) (done : Done) (e : Env) (H : Hp) (a : Act) (w : World), l.length = fuel → Good ops A listed l → Done.Mono done →
      DL P ops A N done l e H → e.Rel a → Has H w → (∀ e' a' w' H', e'.Rel a' → Has H' w' → Fr H w H' w' → N e' H' → Q .normal a' w') → wpAny P .any ops Q fuel listed a w := by
  intro fuel
  induction fuel with
  | zero =>
    intro listed l done e H a w hl hg _ h hr hw k
    obtain rfl := List.length_eq_zero_iff.1 hl
    obtain ⟨e0, he, hn⟩ := h
    refine ⟨?_, k e0 a w H (he.rel hr) hw (Fr.refl _ _) hn⟩
    rw [List.eq_nil_iff_forall_not_mem]
    intro j hj
    obtain ⟨h0, o, ho, _⟩ := mem_ready.1 hj
    obtain ⟨_, hk⟩ := (hg.mem j (Array.getElem?_eq_some_iff.1 ho).1).1 h0
    cases hk
  | succ fuel ih =>
    intro listed l done e H a w hl hg hm h hr hw k
    have hne : Region.ready .any ops listed ≠ [] := by
      match l, hl with
      | (i, kd) :: l', _ =>
        have hi := hg.rng _ (List.mem_cons_self ..)
        obtain ⟨o, ho⟩ : ∃ o, ops[i]? = some o := ⟨ops[i], by simp [hi]⟩
        have : i ∈ Region.ready .any ops listed := mem_ready.2 ⟨(hg.mem i hi).2 ⟨kd, List.mem_cons_self ..⟩, o, ho, fun ed hed hb => by
          obtain ⟨h1, h2⟩ := hg.pre [] (i, kd) l' rfl o ho ed hed hb
          cases hc : listed.getD ed.on true with
          | true => rw [← getD_tf (by rw [hg.size]; exact h1)]; exact hc
          | false =>
            obtain ⟨kk, hk⟩ := (hg.mem _ h1).1 hc
            exact absurd rfl (h2 _ hk)⟩
        intro h0; rw [h0] at this; cases this
    refine ⟨fun h0 => absurd h0 hne, fun i hi => ?_⟩
    obtain ⟨hun, oi, hoi, hall⟩ := mem_ready.1 hi
    have hir : i < ops.size := (Array.getElem?_eq_some_iff.1 hoi).1
    obtain ⟨kd, hmem⟩ := (hg.mem i hir).1 hun
    obtain ⟨α, β, rfl⟩ := List.append_of_mem hmem
    have notIn : ∀ x, listed.getD x false = true → ∀ kk, (x, kk) ∉ α ++ (i, kd) :: β := fun x hx kk hk => by
      have hxr := hg.rng _ hk
      have := (hg.mem x hxr).2 ⟨kk, hk⟩
      rw [getD_tf (by rw [hg.size]; exact hxr), hx] at this
      cases this
    have hα : ∀ p ∈ α, Anc A p.1 i = false ∧ p.2.swap kd = true ∧ ∃ ox, ops[p.1]? = some ox ∧ ox.apart ops oi = true := fun p hp => by
      have hanc : Anc A p.1 i = false := by
        cases hc : Anc A p.1 i with
        | false => rfl
        | true =>
          exfalso
          obtain ⟨ed, hed, hb, hor⟩ := hg.anc i oi hoi p.1 hc
          have hl1 := hall ed hed hb
          have : listed.getD p.1 false = true := by
            rcases hor with h1 | h1
            · rw [← h1]; exact hl1
            · exact hg.down _ hl1 _ h1
          exact notIn p.1 this p.2 (List.mem_append_left _ hp)
      have hpr := hg.rng p (List.mem_append_left _ hp)
      have hox : ops[p.1]? = some ops[p.1] := by simp [hpr]
      have hsw : MaySwap ops A p (i, kd) := (List.pairwise_append.1 hg.pair).2.2 p hp _ (List.mem_cons_self ..)
      rcases hsw with h1 | ⟨h1, h2⟩
      · simp only at h1; rw [hanc] at h1; cases h1
      · exact ⟨hanc, h1, _, hox, h2 _ _ hox hoi⟩
    have h' := DL.front hs hoi α done e H ⟨w, hw⟩ hm hα h
    have hg' : Good ops A (listed.setIfInBounds i true) (α ++ β) := by
      have hsub : (α ++ β).Sublist (α ++ (i, kd) :: β) := List.Sublist.append_left (List.sublist_cons_self _ _) _
      refine ⟨by simp [hg.size], fun j hj => ?_, fun p hp => hg.rng p (hsub.subset hp), hg.nodup.sublist (hsub.map _), hg.pair.sublist hsub, ?_, hg.anc, ?_⟩
      · by_cases hji : i = j
        · subst hji
          constructor
          · intro h0; simp [hg.size, hj] at h0
          · rintro ⟨kk, hk⟩
            exfalso
            have hn := hg.nodup
            simp only [List.map_append, List.map_cons] at hn
            have hn2 := (List.nodup_append.1 hn)
            rcases List.mem_append.1 hk with hk | hk
            · exact hn2.2.2 i (List.mem_map.2 ⟨_, hk, rfl⟩) i (List.mem_cons_self ..) rfl
            · exact (List.nodup_cons.1 hn2.2.1).1 (List.mem_map.2 ⟨_, hk, rfl⟩)
        · rw [getD_set_ne true hji, hg.mem j hj]
          constructor
          · rintro ⟨kk, hk⟩
            refine ⟨kk, ?_⟩
            rcases List.mem_append.1 hk with hk | hk
            · exact List.mem_append_left _ hk
            · rcases List.mem_cons.1 hk with hk | hk
              · exact absurd (Prod.mk.inj hk).1.symm hji
              · exact List.mem_append_right _ hk
          · rintro ⟨kk, hk⟩; exact ⟨kk, hsub.subset hk⟩
      · intro α' p β' hl' o ho ed hed hb
        -- the same element in the longer list
        rcases List.append_eq_append_iff.1 hl' with ⟨γ, rfl, hβ⟩ | ⟨γ, rfl, hβ⟩
        · have := hg.pre (α ++ (i, kd) :: γ) p β' (by rw [hβ]; simp) o ho ed hed hb
          exact this
        · cases γ with
          | nil =>
            simp only [List.nil_append] at hβ
            have := hg.pre (α' ++ [] ++ [(i, kd)]) p β' (by rw [← hβ]; simp) o ho ed hed hb
            exact this
          | cons g γ =>
            simp only [List.cons_append, List.cons.injEq] at hβ
            obtain ⟨rfl, rfl⟩ := hβ
            have := hg.pre α' p (γ ++ (i, kd) :: β) (by simp) o ho ed hed hb
            refine ⟨this.1, fun q hq => this.2 q ?_⟩
            rcases List.mem_cons.1 hq with rfl | hq
            · exact List.mem_cons_self ..
            · refine List.mem_cons_of_mem _ ?_
              rcases List.mem_append.1 hq with hq | hq
              · exact List.mem_append_left _ hq
              · exact List.mem_append_right _ (List.mem_cons_of_mem _ hq)
      · intro y hy x hx
        by_cases hyi : i = y
        · subst hyi
          obtain ⟨ed, hed, hb, hor⟩ := hg.anc i oi hoi x hx
          have hl1 := hall ed hed hb
          apply getD_set_true
          rcases hor with h1 | h1
          · rw [← h1]; exact hl1
          · exact hg.down _ hl1 _ h1
        · rw [getD_set_ne false hyi] at hy
          exact getD_set_true (hg.down y hy x hx)
    have hlen : (α ++ β).length = fuel := by simp at hl ⊢; omega
    obtain ⟨o, ho, h'⟩ := h'
    obtain rfl : oi = o := Option.some.inj (hoi.symm.trans ho)
    unfold wpOp
    simp only [hoi, hr.yielded]
    rcases h' with ⟨hw0, h'⟩ | ⟨hw0, h'⟩
    · simp only [hw0, if_false, Bool.false_eq_true]
      exact ih _ _ done _ H _ w hlen hg' hm h' (hr.put _ _) hw k
    · simp only [hw0, if_true]
      refine .inl ?_
      unfold Oper.wp
      rw [hr.eval]
      cases kd with
      | pure => obtain ⟨v, hv, h'⟩ := h'; rw [hv w]; exact ih _ _ done _ H _ w hlen hg' hm h' (hr.put _ _) hw k
      | read => obtain ⟨v, hv, h'⟩ := h'; rw [hv w hw]; exact ih _ _ _ _ H _ w hlen hg' (hm.cons i oi e v) h' (hr.put _ _) hw k
      | alloc =>
        obtain ⟨ob, mk, hv, h'⟩ := h'
        rw [hv w]
        exact ih _ _ done _ _ _ _ hlen hg' hm (h' _ hw.fresh) (hr.put _ _) (hw.alloc ob) fun e' a' w' H' q1 q2 q3 q4 => k e' a' w' H' q1 q2 ((Fr.alloc ob).trans q3) q4
      | effect =>
        exact h' w hw a _ Q fun v w' H' q1 q2 ⟨_, q3⟩ => ih _ _ done _ H' _ w' hlen hg' hm q3 (hr.put _ _) q1 fun e' a' w'' H'' r1 r2 r3 r4 => k e' a' w'' H'' r1 r2 (q2.trans r3) r4

/-! ### The look, by reckoning -/

def ancOk (ops : Array Oper) (A : List (List Nat)) : Bool :=
  (List.range ops.size).all fun y => match ops[y]? with
    | some oy => (A.getD y []).all fun x => oy.after.toList.any fun ed => Region.binds .any ed && (ed.on == x || Anc A x ed.on)
    | none => false
def pairOk (ops : Array Oper) (A : List (List Nat)) (x y : Nat × Kd) : Bool :=
  Anc A x.1 y.1 || (x.2.swap y.2 && match ops[x.1]?, ops[y.1]? with
    | some ox, some oy => ox.apart ops oy
    | _, _ => false)
def pairsOk (ops : Array Oper) (A : List (List Nat)) : List (Nat × Kd) → Bool
  | [] => true
  | p :: l => l.all (pairOk ops A p) && pairsOk ops A l
def preOk (ops : Array Oper) : List (Nat × Kd) → Bool
  | [] => true
  | p :: l => (match ops[p.1]? with
    | some o => o.after.toList.all fun ed => !Region.binds .any ed || (Nat.blt ed.on ops.size && (p :: l).all fun q => !(q.1 == ed.on))
    | none => false) && preOk ops l
def orderOk (ops : Array Oper) (A : List (List Nat)) (l : List (Nat × Kd)) : Bool :=
  Region.noSelect ops && (A.length == ops.size) && (l.length == ops.size) && (List.range ops.size).all (fun j => (l.map (·.1)).contains j) && (l.all fun p => Nat.blt p.1 ops.size) && decide (l.map (·.1)).Nodup &&
    ancOk ops A && pairsOk ops A l && preOk ops l

theorem good_of_ok {l : List (Nat × Kd)} (h : orderOk ops A l = true) : Good ops A (Array.replicate ops.size false) l := by
  simp only [orderOk, Bool.and_eq_true] at h
  obtain ⟨⟨⟨⟨⟨⟨⟨⟨_, hA⟩, hlen⟩, hall⟩, hrng⟩, hnd⟩, hanc⟩, hpair⟩, hpre⟩ := h
  have hnd' : (l.map (·.1)).Nodup := of_decide_eq_true hnd
  have hrng' : ∀ p ∈ l, p.1 < ops.size := fun p hp => by simpa using List.all_eq_true.1 hrng p hp
  refine ⟨by simp, fun j hj => ?_, hrng', hnd', ?_, ?_, ?_, ?_⟩
  · constructor
    · intro _
      have := List.all_eq_true.1 hall j (List.mem_range.2 hj)
      simp only [List.contains_iff_mem, List.mem_map] at this
      obtain ⟨⟨x, k⟩, hx, rfl⟩ := this
      exact ⟨k, hx⟩
    · intro _; simp [hj]
  · clear hall hlen hnd hnd' hpre hrng hrng'
    induction l with
    | nil => exact .nil
    | cons p l ih =>
      simp only [pairsOk, Bool.and_eq_true] at hpair
      refine List.pairwise_cons.2 ⟨fun q hq => ?_, ih hpair.2⟩
      have := List.all_eq_true.1 hpair.1 q hq
      simp only [pairOk, Bool.or_eq_true, Bool.and_eq_true] at this
      refine this.imp id fun ⟨h1, h2⟩ => ⟨h1, fun ox oy hx hy => ?_⟩
      rw [hx, hy] at h2; exact h2
  · intro α p β hl o ho ed hed hb
    subst hl
    clear hall hlen hnd hnd' hpair hrng hrng'
    induction α with
    | nil =>
      simp only [List.nil_append, preOk, Bool.and_eq_true, ho] at hpre
      have := List.all_eq_true.1 hpre.1 ed (by simpa using hed)
      simp only [hb, Bool.not_true, Bool.false_or, Bool.and_eq_true] at this
      refine ⟨by simpa using this.1, fun q hq => ?_⟩
      have h2 := List.all_eq_true.1 this.2 q hq
      simpa using h2
    | cons a α ih =>
      simp only [List.cons_append, preOk, Bool.and_eq_true] at hpre
      exact ih hpre.2
  · intro y oy hy x hx
    have hyr : y < ops.size := (Array.getElem?_eq_some_iff.1 hy).1
    have := List.all_eq_true.1 hanc y (List.mem_range.2 hyr)
    simp only [hy] at this
    have h2 := List.all_eq_true.1 this x (by simpa [Anc] using hx)
    obtain ⟨ed, hed, h3⟩ := List.any_eq_true.1 h2
    simp only [Bool.and_eq_true, Bool.or_eq_true, beq_iff_eq] at h3
    exact ⟨ed, by simpa using hed, h3.1, h3.2⟩
  · intro y hy
    exfalso
    by_cases h0 : y < ops.size <;> simp [h0] at hy

/-- A region that draws its order. -/
theorem wp_draw {id : Nat} {a : Act} {w : World} {l : List (Nat × Kd)} (hm : P.follows .mixedOrders = true) (hok : orderOk ops A l = true) (h : DL P ops A N [] l e H)
    (hr : e.Rel a) (hw : Has H w) {Q : Exit → Act → World → Prop} (k : ∀ e' a' w' H', e'.Rel a' → Has H' w' → Fr H w H' w' → N e' H' → Q .normal a' w') :
    (Code.region id ops true).wp P Q a w := by
  have hns : Region.noSelect ops = true := by simp only [orderOk, Bool.and_eq_true] at hok; exact hok.1.1.1.1.1.1.1.1
  have hlen : l.length = ops.size := by simp only [orderOk, Bool.and_eq_true] at hok; simpa using hok.1.1.1.1.1.1.2
  refine wp_region_any hm ?_
  have := any_of_DL (N := N) (Region.noSelect_spec hns) (Q := Q) ops.size (Array.replicate ops.size false) l [] e H a w.drew hlen (good_of_ok hok) (fun p hp => by cases hp) h hr hw.drew
    fun e' a' w' H' q1 q2 q3 q4 => k e' a' w' H' q1 q2 ((Fr.drew H w).trans q3) q4
  exact this
end Go.Proofs.YtdheiajppnlbbaaGreat
