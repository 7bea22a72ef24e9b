/-
  THE LAYER, PART 3: a region that draws its order: the one order that DL tells serves every other one. Own work.
-/
import Derived.Test.YtdheiajppnlbbaaGreatA2
namespace Go.Proofs.YtdheiajppnlbbaaGreat
open Go Go.RowKit

variable {P : Program} {ops : Array Oper} {e : Env} {H : Hp} {A : List (List Nat)} {N : Env → Hp → Prop}

theorem Ef.mono' {o : Oper} {M M' : Value → Hp → Prop} (h : Ef P o e H M) (hn : ∀ v H', (∃ w', Has H' w') → Sub H H → M v H' → M' v H') : Ef P o e H M' :=
  fun w hw a next Q k => h w hw a next Q fun v w' H' h1 h2 h3 => k v w' H' h1 h2 (hn _ _ ⟨w', h1⟩ (Sub.refl _) h3)

theorem Ef.extract {o : Oper} {M : Value → Hp → Prop} {p : Prop} (h : Ef P o e H M) (hw : ∃ w, Has H w) (hp : ∀ v H', M v H' → p) : p := by
  obtain ⟨w, hw⟩ := hw
  have h0 := h w hw { tmps := #[], defers := [] } (fun _ _ => p) (fun _ _ _ => False) (fun v w' H' _ _ h3 => hp v H' h3)
  generalize (execOp e.eval o).run P w = r at h0
  cases r with
  | ok n w' =>
    cases n <;> simp only [Oper.upon] at h0
    case value v => exact h0
    case skip => exact h0
    case defer d => exact h0
    case enter f args =>
      obtain ⟨e', w'', fr, hR, _⟩ := h0 []
      cases e' with
      | returned v => exact hR
      | panicked c => exact hR.elim
      | outgrown => obtain ⟨_, _, hf⟩ := hR; exact hf.elim
    case row row args =>
      obtain ⟨v, w'', hR, _⟩ := h0 default []
      exact hR
  | halt x w' => cases x <;> simp only [Oper.upon] at h0

abbrev Done := List (Nat × (Hp → Prop))
def Done.Mono (d : Done) : Prop := ∀ p ∈ d, ∀ H H', Sub H H' → p.2 H → p.2 H'
theorem Done.Mono.cons {d : Done} (h : Done.Mono d) (i : Nat) (o : Oper) (e : Env) (v : Value) : Done.Mono ((i, fun H' => Rd P o e H' v) :: d) := fun p hp => by
  rcases List.mem_cons.1 hp with rfl | hp
  · exact fun _ _ s hr => Rd.mono hr s
  · exact h p hp

theorem DL.swap {x y : Nat} {kx ky : Kd} {ox oy : Oper} {rest : List (Nat × Kd)} {done : Done} (hx : ops[x]? = some ox) (hy : ops[y]? = some oy)
    (hap : ox.apart ops oy = true) (hsx : ∀ cs b, ox.op ≠ .select cs b) (hsy : ∀ cs b, oy.op ≠ .select cs b) (hsw : kx.swap ky = true) (hanc : Anc A x y = false)
    (hwd : ∃ w, Has H w) (hmono : Done.Mono done) (h : DL P ops A N done ((x, kx) :: (y, ky) :: rest) e H) : DL P ops A N done ((y, ky) :: (x, kx) :: rest) e H := by
  obtain ⟨h1, h2, h3⟩ := Oper.apart_spec hap
  have ex : ∀ v, execOp (e.put oy.dst v).eval ox = execOp e.eval ox := fun v => exec_put (ops := ops) ox hsx e _ v h3
  have ey : ∀ v, execOp (e.put ox.dst v).eval oy = execOp e.eval oy := fun v => exec_put (ops := ops) oy hsy e _ v h1
  have wx : ∀ v, Region.wanted ox (Env.yielded ops (e.put oy.dst v)) = Region.wanted ox (Env.yielded ops e) := fun v => want_put ox e _ v h3
  have wy : ∀ v, Region.wanted oy (Env.yielded ops (e.put ox.dst v)) = Region.wanted oy (Env.yielded ops e) := fun v => want_put oy e _ v h1
  have cm : ∀ v u, ((e.put ox.dst v).put oy.dst u).Eqv ((e.put oy.dst u).put ox.dst v) := fun v u => Env.put_comm e v u h2
  have pux : ∀ {v u}, Pu P ox e v → Pu P ox (e.put oy.dst u) v := fun {v u} hp => by unfold Pu at *; rw [ex]; exact hp
  have puy : ∀ {v u}, Pu P oy (e.put ox.dst u) v → Pu P oy e v := fun {v u} hp => by unfold Pu at *; rw [← ey u]; exact hp
  have rdx : ∀ {v u H'}, Rd P ox e H' v → Rd P ox (e.put oy.dst u) H' v := fun {v u H'} hp => by unfold Rd at *; rw [ex]; exact hp
  have rdy : ∀ {v u H'}, Rd P oy (e.put ox.dst u) H' v → Rd P oy e H' v := fun {v u H'} hp => by unfold Rd at *; rw [← ey u]; exact hp
  have aly : ∀ {ob mk u}, Al P oy (e.put ox.dst u) ob mk → Al P oy e ob mk := fun {ob mk u} hp => by unfold Al at *; rw [← ey u]; exact hp
  have alx : ∀ {ob mk u}, Al P ox e ob mk → Al P ox (e.put oy.dst u) ob mk := fun {ob mk u} hp => by unfold Al at *; rw [ex u]; exact hp
  have efy : ∀ {M u}, Ef P oy (e.put ox.dst u) H M → Ef P oy e H M := fun {M u} hp => by unfold Ef at *; rw [← ey u]; exact hp
  have efx : ∀ {M u H'}, Ef P ox e H' M → Ef P ox (e.put oy.dst u) H' M := fun {M u H'} hp => by unfold Ef at *; rw [ex u]; exact hp
  obtain ⟨o, ho, h⟩ := h
  obtain rfl : ox = o := Option.some.inj (hx.symm.trans ho)
  refine ⟨oy, hy, ?_⟩
  rcases h with ⟨hg, h⟩ | ⟨hg, h⟩
  · -- x is passed over
    obtain ⟨o, ho', h⟩ := h
    obtain rfl : oy = o := Option.some.inj (hy.symm.trans ho')
    rw [wy] at h
    rcases h with ⟨hgy, h⟩ | ⟨hgy, h⟩
    · exact .inl ⟨hgy, ox, hx, .inl ⟨by rw [wx]; exact hg, h.congr _ (.refl _) (cm _ _)⟩⟩
    · refine .inr ⟨hgy, ?_⟩
      cases ky with
      | pure => obtain ⟨u, hu, h⟩ := h; exact ⟨u, puy hu, ox, hx, .inl ⟨by rw [wx]; exact hg, h.congr _ (.refl _) (cm _ _)⟩⟩
      | read =>
        obtain ⟨u, hu, h⟩ := h
        refine ⟨u, rdy hu, ox, hx, .inl ⟨by rw [wx]; exact hg, h.congr _ ((DoneLe.refl _).cons y fun _ hr => rdy hr) (cm _ _)⟩⟩
      | alloc => obtain ⟨ob, mk, ha, h⟩ := h; exact ⟨ob, mk, aly ha, fun b hb => ⟨ox, hx, .inl ⟨by rw [wx]; exact hg, (h b hb).congr _ (.refl _) (cm _ _)⟩⟩⟩
      | effect => exact (efy h).mono fun v H' ⟨q1, q2⟩ => ⟨q1, ox, hx, .inl ⟨by rw [wx]; exact hg, q2.congr _ (.refl _) (cm _ _)⟩⟩
  · cases kx with
    | pure =>
      obtain ⟨v, hv, o, ho', h⟩ := h
      obtain rfl : oy = o := Option.some.inj (hy.symm.trans ho')
      rw [wy] at h
      rcases h with ⟨hgy, h⟩ | ⟨hgy, h⟩
      · exact .inl ⟨hgy, ox, hx, .inr ⟨by rw [wx]; exact hg, v, pux hv, h.congr _ (.refl _) (cm _ _)⟩⟩
      · refine .inr ⟨hgy, ?_⟩
        cases ky with
        | pure => obtain ⟨u, hu, h⟩ := h; exact ⟨u, puy hu, ox, hx, .inr ⟨by rw [wx]; exact hg, v, pux hv, h.congr _ (.refl _) (cm _ _)⟩⟩
        | read =>
          obtain ⟨u, hu, h⟩ := h
          exact ⟨u, rdy hu, ox, hx, .inr ⟨by rw [wx]; exact hg, v, pux hv, h.congr _ ((DoneLe.refl _).cons y fun _ hr => rdy hr) (cm _ _)⟩⟩
        | alloc => obtain ⟨ob, mk, ha, h⟩ := h; exact ⟨ob, mk, aly ha, fun b hb => ⟨ox, hx, .inr ⟨by rw [wx]; exact hg, v, pux hv, (h b hb).congr _ (.refl _) (cm _ _)⟩⟩⟩
        | effect => exact (efy h).mono fun u H' ⟨q1, q2⟩ => ⟨q1, ox, hx, .inr ⟨by rw [wx]; exact hg, v, pux hv, q2.congr _ (.refl _) (cm _ _)⟩⟩
    | read =>
      obtain ⟨v, hv, o, ho', h⟩ := h
      obtain rfl : oy = o := Option.some.inj (hy.symm.trans ho')
      rw [wy] at h
      have dl : ∀ u, DoneLe ((x, fun H' => Rd P ox e H' v) :: done) ((x, fun H' => Rd P ox (e.put oy.dst u) H' v) :: done) := fun u => (DoneLe.refl _).cons x fun _ hr => rdx hr
      rcases h with ⟨hgy, h⟩ | ⟨hgy, h⟩
      · exact .inl ⟨hgy, ox, hx, .inr ⟨by rw [wx]; exact hg, v, rdx hv, h.congr _ (dl _) (cm _ _)⟩⟩
      · refine .inr ⟨hgy, ?_⟩
        cases ky with
        | pure => obtain ⟨u, hu, h⟩ := h; exact ⟨u, puy hu, ox, hx, .inr ⟨by rw [wx]; exact hg, v, rdx hv, h.congr _ (dl _) (cm _ _)⟩⟩
        | read =>
          obtain ⟨u, hu, h⟩ := h
          refine ⟨u, rdy hu, ox, hx, .inr ⟨by rw [wx]; exact hg, v, rdx hv, h.congr _ (fun p hp => ?_) (cm _ _)⟩⟩
          rcases List.mem_cons.1 hp with rfl | hp
          · exact ⟨_, List.mem_cons_of_mem _ (List.mem_cons_self ..), rfl, fun _ hr => rdx hr⟩
          rcases List.mem_cons.1 hp with rfl | hp
          · exact ⟨_, List.mem_cons_self .., rfl, fun _ hr => rdy hr⟩
          · exact ⟨p, List.mem_cons_of_mem _ (List.mem_cons_of_mem _ hp), rfl, fun _ hr => hr⟩
        | alloc =>
          obtain ⟨ob, mk, ha, h⟩ := h
          exact ⟨ob, mk, aly ha, fun b hb => ⟨ox, hx, .inr ⟨by rw [wx]; exact hg, v, Rd.mono (rdx hv) ((Sub.refl _).ins hb), (h b hb).congr _ (dl _) (cm _ _)⟩⟩⟩
        | effect =>
          refine (efy h).mono fun u H' ⟨q1, q2⟩ => ⟨fun p hp => q1 p (List.mem_cons_of_mem _ hp), ox, hx, .inr ⟨by rw [wx]; exact hg, v, rdx ?_, q2.congr _ (dl _) (cm _ _)⟩⟩
          exact q1 _ (List.mem_cons_self ..) hanc
    | alloc =>
      obtain ⟨ob, mk, ha, h⟩ := h
      obtain ⟨w0, hw0⟩ := hwd
      have hb0 := hw0.fresh
      have hh : ∀ b, H b = none → (Region.wanted oy (Env.yielded ops e) = false ∧ DL P ops A N done rest ((e.put ox.dst (mk b)).put oy.dst undef) (H.ins b ob)) ∨
          (Region.wanted oy (Env.yielded ops e) = true ∧ match ky with
            | .pure => ∃ v, Pu P oy e v ∧ DL P ops A N done rest ((e.put ox.dst (mk b)).put oy.dst v) (H.ins b ob)
            | .alloc => ∃ obj mk2, Al P oy e obj mk2 ∧ ∀ b2, (H.ins b ob) b2 = none → DL P ops A N done rest ((e.put ox.dst (mk b)).put oy.dst (mk2 b2)) ((H.ins b ob).ins b2 obj)
            | _ => True) := fun b hb => by
        obtain ⟨o, ho', h⟩ := h b hb
        obtain rfl : oy = o := Option.some.inj (hy.symm.trans ho')
        rw [wy] at h
        refine h.imp id fun ⟨g, h⟩ => ⟨g, ?_⟩
        cases ky with
        | pure => obtain ⟨v, hv, h⟩ := h; exact ⟨v, puy hv, h⟩
        | alloc => obtain ⟨o2, m2, hv, h⟩ := h; exact ⟨o2, m2, aly hv, h⟩
        | read => trivial
        | effect => trivial
      cases hgy : Region.wanted oy (Env.yielded ops e) with
      | false =>
        refine .inl ⟨rfl, ox, hx, .inr ⟨by rw [wx]; exact hg, ob, mk, alx ha, fun b hb => ?_⟩⟩
        rcases hh b hb with ⟨_, h⟩ | ⟨h0, _⟩
        · exact h.congr _ (.refl _) (cm _ _)
        · rw [hgy] at h0; cases h0
      | true =>
        refine .inr ⟨rfl, ?_⟩
        cases ky with
        | read => cases hsw
        | effect => cases hsw
        | pure =>
          rcases hh _ hb0 with ⟨h0, _⟩ | ⟨_, v, hv, _⟩
          · rw [hgy] at h0; cases h0
          refine ⟨v, hv, ox, hx, .inr ⟨by rw [wx]; exact hg, ob, mk, alx ha, fun b hb => ?_⟩⟩
          rcases hh b hb with ⟨h0, _⟩ | ⟨_, v', hv', h⟩
          · rw [hgy] at h0; cases h0
          obtain rfl := hv.unique hv'
          exact h.congr _ (.refl _) (cm _ _)
        | alloc =>
          rcases hh _ hb0 with ⟨h0, _⟩ | ⟨_, o2, m2, hv, _⟩
          · rw [hgy] at h0; cases h0
          refine ⟨o2, m2, hv, fun b2 hb2 => ⟨ox, hx, .inr ⟨by rw [wx]; exact hg, ob, mk, alx ha, fun b hb => ?_⟩⟩⟩
          obtain ⟨hne, hb'⟩ := Hp.ins_none hb
          rcases hh b hb' with ⟨h0, _⟩ | ⟨_, o2', m2', hv', h⟩
          · rw [hgy] at h0; cases h0
          obtain ⟨rfl, rfl⟩ := hv.unique hv'
          have := h b2 (Hp.ins_ne (Ne.symm hne) hb2)
          rw [Hp.ins_comm _ _ _ hne] at this
          exact this.congr _ (.refl _) (cm _ _)
    | effect =>
      have hk : ky = .alloc := by cases ky <;> first | rfl | cases hsw
      subst hk
      have hh : Ef P ox e H fun v H' => (∀ p ∈ done, Anc A p.1 x = false → p.2 H') ∧
          ((Region.wanted oy (Env.yielded ops e) = false ∧ DL P ops A N done rest ((e.put ox.dst v).put oy.dst undef) H') ∨
           (Region.wanted oy (Env.yielded ops e) = true ∧ ∃ obj mk, Al P oy e obj mk ∧ ∀ b, H' b = none → DL P ops A N done rest ((e.put ox.dst v).put oy.dst (mk b)) (H'.ins b obj))) :=
        h.mono fun v H' ⟨q1, o, ho', q2⟩ => by
          obtain rfl : oy = o := Option.some.inj (hy.symm.trans ho')
          rw [wy] at q2
          refine ⟨q1, q2.imp id fun ⟨g, ob, mk, ha, q⟩ => ⟨g, ob, mk, aly ha, q⟩⟩
      cases hgy : Region.wanted oy (Env.yielded ops e) with
      | false =>
        refine .inl ⟨rfl, ox, hx, .inr ⟨by rw [wx]; exact hg, efx (hh.mono fun v H' ⟨q1, q2⟩ => ⟨q1, ?_⟩)⟩⟩
        rcases q2 with ⟨_, q⟩ | ⟨h0, _⟩
        · exact q.congr _ (.refl _) (cm _ _)
        · rw [hgy] at h0; cases h0
      | true =>
        have hex : ∃ obj mk, Al P oy e obj mk := hh.extract hwd fun v H' ⟨_, q2⟩ => by
          rcases q2 with ⟨h0, _⟩ | ⟨_, ob, mk, ha, _⟩
          · rw [hgy] at h0; cases h0
          · exact ⟨ob, mk, ha⟩
        obtain ⟨ob, mk, ha⟩ := hex
        refine .inr ⟨rfl, ob, mk, ha, fun b hb => ⟨ox, hx, .inr ⟨by rw [wx]; exact hg, efx ((hh.frame hb).mono fun v H'' ⟨H', hH, hbn, q1, q2⟩ => ?_)⟩⟩⟩
        subst hH
        refine ⟨fun p hp hn => hmono p hp _ _ ((Sub.refl _).ins hbn) (q1 p hp hn), ?_⟩
        rcases q2 with ⟨h0, _⟩ | ⟨_, ob', mk', ha', q⟩
        · rw [hgy] at h0; cases h0
        obtain ⟨rfl, rfl⟩ := ha.unique ha'
        exact (q b hbn).congr _ (.refl _) (cm _ _)
end Go.Proofs.YtdheiajppnlbbaaGreat
