/-
  THE LAYER, PART 7: the rules of operations on memory, and of calls. Own work.
-/
import Derived.Test.YtdheiajppnlbbaaGreatA6
import Derived.Laws.AppendOwn
import Derived.Shelf.Abstract
namespace Go.Proofs.YtdheiajppnlbbaaGreat
open Go Go.RowKit

variable {P : Program} {ops : Array Oper} {o : Oper} {e : Env} {H : Hp}
variable {d : Option Tmp} {t : TypeId} {ps : String} {af : Array Edge} {g : Option (Nat × Bool)}

/-- A row of cells that nobody may not write. -/
abbrev row (c : List Value) (E : TypeId) : Obj := .cells c.toArray E (0, 0)

theorem Has.cell {w : World} (hw : Has H w) {b off : Nat} {c : List Value} {E : TypeId} {fr : Nat × Nat} {v : Value} (hb : H b = some (.cells c.toArray E fr)) (hc : c[off]? = some v) :
    w.cell? ⟨b, off, none⟩ = some v := by
  rw [cell_of_row w b off _ E fr (hw b _ hb)]; simpa using hc

theorem Rd.load {x : Operand} {T b off E : Nat} {fr : Nat × Nat} {c : List Value} {v : Value} (h : e.eval x = .pointer (some ⟨b, off, none⟩)) (hT : aggT P T = some false) (hb : H b = some (.cells c.toArray E fr)) (hc : c[off]? = some v) :
    Rd P ⟨d, .load T x, t, ps, af, g⟩ e H v := fun w hw => by
  simp [execOp, h, Instr.loadAt, Instr.sureAddr, loadVar, run_aggT hT, hw.cell hb hc]

theorem add_off (b off j : Nat) : (⟨b, off, none⟩ : Addr).add j = ⟨b, off + j, none⟩ := by
  unfold Addr.add; split
  · rename_i h; subst h; rfl
  · rfl

theorem Rd.loadA {x : Operand} {T b off E : Nat} {fr : Nat × Nat} {c vs : List Value} (h : e.eval x = .pointer (some ⟨b, off, none⟩)) (hT : aggT P T = some true) (hs : sizeT P T = some vs.length) (hb : H b = some (.cells c.toArray E fr))
    (hc : (c.drop off).take vs.length = vs) : Rd P ⟨d, .load T x, t, ps, af, g⟩ e H (.agg vs.toArray) := fun w hw => by
  have := run_loadCells_list (P := P) (w := w) ⟨b, off, none⟩ vs fun j v hj => by
    rw [add_off]
    refine hw.cell hb ?_
    rw [← hc] at hj
    have hlt : j < vs.length := by
      have := (List.getElem?_eq_some_iff.1 hj).1
      simp at this; omega
    rw [List.getElem?_take_of_lt hlt, List.getElem?_drop] at hj
    exact hj
  simp [execOp, h, Instr.loadAt, Instr.sureAddr, loadVar, run_aggT hT, run_sizeT hs, this]

/-- What a block holds behind a store. -/
def spl (c : List Value) (off : Nat) (vs : List Value) : List Value := c.take off ++ vs ++ c.drop (off + vs.length)

theorem heap_setRow_same {w : World} {b E : Nat} {cur : Array Value} {fr : Nat × Nat} (cs : Array Value) (h : w.heap[b]? = some (.cells cur E fr)) : (w.setRow b cs).heap[b]? = some (.cells cs E fr) := by
  exact setRow_heap w b cur cs E fr h
theorem heap_setRow_other {w : World} {b x : Nat} (cs : Array Value) (h : x ≠ b) : (w.setRow b cs).heap[x]? = w.heap[x]? := by
  exact setRow_other w b x cs h

theorem Has.setRow {w : World} (hw : Has H w) {b E : Nat} {cur : Array Value} {fr : Nat × Nat} (cs : Array Value) (hb : H b = some (.cells cur E fr)) : Has (H.ins b (.cells cs E fr)) (w.setRow b cs) := fun x p hx => by
  unfold Hp.ins at hx
  split at hx
  · rename_i e0; subst e0
    rw [heap_setRow_same cs (hw _ _ hb)]; exact hx
  · rename_i e0; rw [heap_setRow_other cs e0]; exact hw x p hx
theorem Fr.setRow {w : World} {b : Nat} {ob : Obj} (cs : Array Value) (hb : H b ≠ none) : Fr H w (H.ins b ob) (w.setRow b cs) :=
  ⟨rfl, rfl, rfl, by simp, fun x _ hn => heap_setRow_other cs fun he => by subst he; exact hb hn, fun x hx => by
    unfold Hp.ins at hx
    split at hx
    · rename_i e0; subst e0; exact .inl hb
    · exact .inl hx⟩

theorem Ef.store {x y : Operand} {T b off E : Nat} {c vs c' : List Value} {v : Value} {M : Value → Hp → Prop} (h : e.eval x = .pointer (some ⟨b, off, none⟩)) (hy : e.eval y = v) (hv : v.cells = vs.toArray) (hs : sizeT P T = some vs.length)
    (hb : H b = some (row c E)) (hl : off + vs.length ≤ c.length) (h1 : (vs.all fun v => v.oneCell') = true) (hc : spl c off vs = c') (hM : M undef (H.ins b (row c' E))) : Ef P ⟨d, .store T x y, t, ps, af, g⟩ e H M := fun w hw a next Q k => by
  have hst := run_storeCells_at (P := P) b off E vs 0 c.toArray w (hw b _ hb) (by simpa using hl) (fun v hv => List.all_eq_true.1 h1 v hv)
  have hrun : (execOp e.eval ⟨d, .store T x y, t, ps, af, g⟩).run P w = .ok .skip (w.setRow b c'.toArray) := by
    simp [execOp, h, hy, Instr.storeAt, Instr.sureAddr, storeVar, run_sizeT hs, hv]
    rw [hst]
    subst hc
    simp [spl]
  rw [hrun]
  exact k undef _ _ (hw.setRow _ hb) (Fr.setRow _ (by rw [hb]; simp)) hM

theorem Al.box {x : Operand} {T : TypeId} {v : Value} {vs : List Value} (hx : e.eval x = v) (hv : v.cells = vs.toArray) : Al P ⟨d, .box T x, t, ps, af, g⟩ e (row vs T) (fun b => .pointer (some ⟨b, 0, none⟩)) := fun w => by
  simp [execOp, hx, Instr.box, newVar, newRow, hv, row]

def zeroT (P : Program) (t : TypeId) : Option Value := (P.info? t).bind (·.zero)
theorem run_zeroT {T : TypeId} {z : Value} (h : zeroT P T = some z) (w : World) : (zeroValue T).run P w = .ok z w := by
  unfold zeroT at h
  cases hi : P.info? T with
  | none => rw [hi] at h; cases h
  | some i =>
    rw [hi] at h
    simp only [Option.bind_some] at h
    simp [zeroValue, run_typeInfo w hi, h]
theorem Al.alloc {T : TypeId} {z : Value} {vs : List Value} (hz : zeroT P T = some z) (hv : z.cells = vs.toArray) : Al P ⟨d, .alloc T, t, ps, af, g⟩ e (row vs T) (fun b => .pointer (some ⟨b, 0, none⟩)) := fun w => by
  simp [execOp, Instr.alloc, newVar, newRow, hv, row, run_zeroT hz]

theorem Al.makeMap {T K E : TypeId} (_hT : P.underlying T = some (.map K E)) : Al P ⟨d, .makeMap T none, t, ps, af, g⟩ e (.map #[] 0) (fun b => .map (some b)) := fun w => by
  have := run_makeMap (P := P) T w
  simp [execOp, this]

/-! ### A value of a struct type, part by part -/
def placesL (P : Program) : List Field → Option (List (Nat × Nat))
  | [] => some []
  | f :: fs => match sizeT P f.type, placesL P fs with
    | some n, some r => some ((f.offset, n) :: r)
    | _, _ => none
def fillL (places : List (Nat × Nat)) : List Value → List (Nat × Value) → Option (List Value)
  | cells, [] => some cells
  | cells, (i, v) :: rest => match places[i]? with
    | some (off, size) => if v.cells.toList.length == size && Nat.ble (off + size) cells.length then fillL places (spl cells off v.cells.toList) rest else none
    | none => none

theorem foldl_set (vs : List Value) : ∀ (k off : Nat) (cs : Array Value), off + k + vs.length ≤ cs.size →
    ((vs.zipIdx k).foldl (fun (cs : Array Value) (p : Value × Nat) => cs.setIfInBounds (off + p.2) p.1) cs).toList = cs.toList.take (off + k) ++ vs ++ cs.toList.drop (off + k + vs.length) := by
  induction vs with
  | nil => intro k off cs _; simp
  | cons v vs ih =>
    intro k off cs h
    simp only [List.length_cons] at h
    simp only [List.zipIdx_cons, List.foldl_cons]
    rw [ih (k + 1) off _ (by simp; omega)]
    have hlt : off + k < cs.toList.length := by simp; omega
    simp only [Array.toList_setIfInBounds, List.length_cons]
    have e1 : off + (k + 1) = off + k + 1 := by omega
    have e2 : off + k + 1 + vs.length = off + k + (vs.length + 1) := by omega
    rw [e1, e2, List.take_succ_eq_append_getElem (by simpa using hlt)]
    simp only [List.getElem_set_self, List.append_assoc, List.cons_append, List.nil_append]
    rw [List.take_set_of_le (Nat.le_refl _), List.drop_set_of_lt (by omega)]
theorem foldl_zip (v : Array Value) (off : Nat) (cs : Array Value) (h : off + v.size ≤ cs.size) :
    (v.zipIdx.foldl (fun cs (p : Value × Nat) => cs.setIfInBounds (off + p.2) p.1) cs).toList = spl cs.toList off v.toList := by
  have := foldl_set v.toList 0 off cs (by simpa using h)
  rw [← Array.foldl_toList, Array.toList_zipIdx]
  exact this

theorem fill_of_fillL {places : Array (Nat × Nat)} : ∀ (parts : List (Nat × Value)) (cells : Array Value) (r : List Value), fillL places.toList cells.toList parts = some r → Instr.fill (places[·]?) cells parts = some r.toArray := by
  intro parts
  induction parts with
  | nil => intro cells r h; simp [fillL] at h; subst h; simp [Instr.fill]
  | cons p parts ih =>
    obtain ⟨i, v⟩ := p
    intro cells r h
    simp only [fillL] at h
    simp only [Instr.fill]
    rw [← Array.getElem?_toList]
    cases hp : places.toList[i]? with
    | none => rw [hp] at h; cases h
    | some q =>
      obtain ⟨off, size⟩ := q
      rw [hp] at h
      simp only at h ⊢
      split at h
      · rename_i hc
        simp only [Bool.and_eq_true, beq_iff_eq, Nat.ble_eq] at hc
        have h1 : v.cells.size = size := by simpa using hc.1
        have h2 : off + v.cells.size ≤ cells.size := by rw [h1]; simpa using hc.2
        rw [if_neg (by simp [h1]; omega)]
        refine ih _ r ?_
        rw [foldl_zip _ _ _ h2]; exact h
      · cases h

theorem run_places {fs : List Field} {pl : List (Nat × Nat)} (h : placesL P fs = some pl) (w : World) :
    (fs.toArray.mapM (fun f => do pure (f.offset, ← sizeOf f.type)) : Sem (Array (Nat × Nat))).run P w = .ok pl.toArray w := by
  rw [Array.mapM_eq_mapM_toList]
  have key : ∀ (fs : List Field) (pl : List (Nat × Nat)), placesL P fs = some pl → (fs.mapM (fun f => Prod.mk f.offset <$> sizeOf f.type) : Sem (List (Nat × Nat))).run P w = .ok pl w := by
    intro fs
    induction fs with
    | nil => intro pl h; simp [placesL] at h; subst h; simp
    | cons f fs ih =>
      intro pl h
      simp only [placesL] at h
      cases hs : sizeT P f.type with
      | none => rw [hs] at h; cases h
      | some n =>
        rw [hs] at h
        cases hr : placesL P fs with
        | none => rw [hr] at h; cases h
        | some r =>
          rw [hr] at h
          simp only [Option.some.injEq] at h
          subst h
          simp [List.mapM_cons, run_sizeT hs, ih r hr]
  simp [key fs pl h]

def structT (P : Program) (t : TypeId) : Option (List Field) := match P.underlying t with | some (.struct fs) => some fs.toList | _ => none
theorem Pu.build {T : TypeId} {parts : Array (Nat × Operand)} {fs : List Field} {pl : List (Nat × Nat)} {z : Value} {qs : List (Nat × Value)} {vs : List Value} (hT : structT P T = some fs) (hp : placesL P fs = some pl) (hz : zeroT P T = some z)
    (hq : parts.toList.map (fun p => (p.1, e.eval p.2)) = qs) (hv : fillL pl z.cells.toList qs = some vs) : Pu P ⟨d, .build T parts, t, ps, af, g⟩ e (.agg vs.toArray) := fun w => by
  have hq' : (parts.map fun p => (p.1, e.eval p.2)) = qs.toArray := by subst hq; apply Array.toList_inj.1; simp
  unfold structT at hT
  cases hu : P.underlying T with
  | none => rw [hu] at hT; cases hT
  | some td =>
    rw [hu] at hT
    cases td <;> simp only at hT <;> try cases hT
    rename_i fa
    have hrp := run_places hp w
    simp only [Array.toArray_toList] at hrp
    simp at hrp
    have hfl := fill_of_fillL (places := pl.toArray) qs z.cells vs (by simpa using hv)
    simp only [List.getElem?_toArray] at hfl
    simp only [execOp, Instr.build, hq']
    simp [run_zeroT hz, run_underlying hu, hrp, hfl]

/-- A slice of a literal: its cells in a new block. -/
def fillS (size : Nat) : List Value → List (Nat × Value) → Option (List Value)
  | cells, [] => some cells
  | cells, (i, v) :: rest => if v.cells.toList.length == size && Nat.ble (i * size + size) cells.length then fillS size (spl cells (i * size) v.cells.toList) rest else none
theorem fill_of_fillS {size : Nat} : ∀ (parts : List (Nat × Value)) (cells : Array Value) (r : List Value), fillS size cells.toList parts = some r → Instr.fill (fun i => some (i * size, size)) cells parts = some r.toArray := by
  intro parts
  induction parts with
  | nil => intro cells r h; simp [fillS] at h; subst h; simp [Instr.fill]
  | cons p parts ih =>
    obtain ⟨i, v⟩ := p
    intro cells r h
    simp only [fillS] at h
    simp only [Instr.fill]
    split at h
    · rename_i hc
      simp only [Bool.and_eq_true, beq_iff_eq, Nat.ble_eq] at hc
      have h1 : v.cells.size = size := by simpa using hc.1
      have h2 : i * size + v.cells.size ≤ cells.size := by rw [h1]; simpa using hc.2
      rw [if_neg (by simp [h1]; omega)]
      refine ih _ r ?_
      rw [foldl_zip _ _ _ h2]; exact h
    · cases h
def zerosL (z : List Value) : Nat → List Value
  | 0 => []
  | n + 1 => z ++ zerosL z n
theorem zerosL_len (z : List Value) (n : Nat) : (zerosL z n).length = n * z.length := by
  induction n with
  | zero => simp [zerosL]
  | succ n ih => simp [zerosL, ih, Nat.succ_mul]; omega
theorem zerosL_get (z : List Value) : ∀ (n i : Nat), i < n * z.length → (zerosL z n)[i]? = z[i % z.length]? := by
  intro n
  induction n with
  | zero => intro i h; simp at h
  | succ n ih =>
    intro i h
    simp only [zerosL]
    by_cases hi : i < z.length
    · rw [List.getElem?_append_left hi, Nat.mod_eq_of_lt hi]
    · rw [List.getElem?_append_right (by omega), ih _ (by have := Nat.succ_mul n z.length; simp only [Nat.succ_eq_add_one] at this; omega)]
      rw [show i % z.length = (i - z.length) % z.length from Nat.mod_eq_sub_mod (by omega)]
theorem Al.buildSlice {T E sz len : Nat} {parts : Array (Nat × Operand)} {z : Value} {qs : List (Nat × Value)} {vs : List Value} (hT : elemT P T = some E) (hs : sizeT P E = some sz) (hz : zeroT P E = some z) (hzs : z.cells.toList.length = sz)
    (hq : parts.toList.map (fun p => (p.1, e.eval p.2)) = qs) (hlen : len * sz ≤ 16777216) (hv : fillS sz (zerosL z.cells.toList len) qs = some vs) :
    Al P ⟨d, .buildSlice T len parts, t, ps, af, g⟩ e (row vs E) (fun b => .slice (some ⟨b, 0, none⟩) len len) := fun w => by
  have hq' : (parts.map fun p => (p.1, e.eval p.2)) = qs.toArray := by subst hq; apply Array.toList_inj.1; simp
  unfold elemT at hT
  cases hu : P.underlying T with
  | none => rw [hu] at hT; cases hT
  | some td =>
    rw [hu] at hT
    cases td <;> simp only at hT <;> try cases hT
    have hz2 : z.cells.size = sz := by simpa using hzs
    have hcells : ∀ zz : Array Value, (len * sz = 0 → zz = #[]) → (len * sz ≠ 0 → zz = z.cells) → (Array.range (len * sz)).map (fun x => zz[x % zz.size]!) = (zerosL z.cells.toList len).toArray := by
      intro zz h0 h1
      apply Array.ext_getElem?
      intro j
      by_cases hj : j < len * sz
      · have hne : len * sz ≠ 0 := by omega
        rw [h1 hne]
        simp only [List.getElem?_toArray]
        rw [zerosL_get _ _ _ (by simpa [hz2] using hj)]
        have hszp : 0 < sz := by
          rcases Nat.eq_zero_or_pos sz with h | h
          · subst h; simp at hj
          · exact h
        have hm : j % z.cells.size < z.cells.size := Nat.mod_lt _ (by omega)
        simp [hj, hm, getElem!_pos]
      · rw [Array.getElem?_eq_none (by simp; omega), Array.getElem?_eq_none (by simp [zerosL_len, hz2]; omega)]
    simp only [execOp, Instr.buildSlice, hq']
    have hbig : ¬ (16777216 < len * sz) := by omega
    by_cases h0 : len * sz = 0
    · have hf := fill_of_fillS (size := sz) qs (zerosL z.cells.toList len).toArray vs (by simpa using hv)
      rw [← hcells #[] (fun _ => rfl) (fun h => absurd h0 h)] at hf
      simp [run_underlying hu, run_sizeT hs, h0] at hf ⊢
      simp [hf, newRow, row]
    · have hf := fill_of_fillS (size := sz) qs (zerosL z.cells.toList len).toArray vs (by simpa using hv)
      rw [← hcells z.cells (fun h => absurd h h0) (fun _ => rfl)] at hf
      simp [run_underlying hu, run_sizeT hs, hbig, h0, run_zeroT hz]
      simp [hf, newRow, row]

/-! ### Calls -/
theorem Ef.call {f : FuncId} {args : Array Operand} {at_ : Array TypeId} {vs : List Value} {M : Value → Hp → Prop} (hE : Enters P f) (h1 : args.toList.map e.eval = vs) (h : Call P f vs.toArray H M) :
    Ef P ⟨d, .call ⟨.value (.func f), args, at_⟩, t, ps, af, g⟩ e H M := fun w hw a next Q k => by
  have hrun : (execOp e.eval ⟨d, .call ⟨.value (.func f), args, at_⟩, t, ps, af, g⟩).run P w = .ok (.enter f vs.toArray) w := by
    simp [execOp, resolve, map_eq_toArray h1, Env.eval, Deferred.ofValue, invoke]
    exact hE _ w
  rw [hrun]
  exact Calls.mono (h w hw) fun e' w' ⟨v, H', he, q1, q2, q3⟩ => by subst he; exact k v w' H' q1 q2 q3
/-- A function value. -/
theorem Ef.callV {f : FuncId} {x : Operand} {fi ca : List Value} {args : Array Operand} {at_ : Array TypeId} {vs : List Value} {M : Value → Hp → Prop} (hx : e.eval x = .func (.func f) fi.toArray ca.toArray) (hE : Enters P f)
    (h1 : args.toList.map e.eval = vs) (h : Call P f (fi ++ vs ++ ca).toArray H M) :
    Ef P ⟨d, .call ⟨.value x, args, at_⟩, t, ps, af, g⟩ e H M := fun w hw a next Q k => by
  have hrun : (execOp e.eval ⟨d, .call ⟨.value x, args, at_⟩, t, ps, af, g⟩).run P w = .ok (.enter f (fi ++ vs ++ ca).toArray) w := by
    simp [execOp, resolve, map_eq_toArray h1, hx, Deferred.ofValue, invoke]
    exact hE _ w
  rw [hrun]
  exact Calls.mono (h w hw) fun e' w' ⟨v, H', he, q1, q2, q3⟩ => by subst he; exact k v w' H' q1 q2 q3
end Go.Proofs.YtdheiajppnlbbaaGreat
