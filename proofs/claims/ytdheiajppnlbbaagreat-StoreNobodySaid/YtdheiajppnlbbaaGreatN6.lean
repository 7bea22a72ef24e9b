/-
  StoreNobody, part 6: a store that failed, and is up again; the law. Own work; the walks are printed by a program of this session (wip/tools/walk.py).
-/
import Derived.Test.YtdheiajppnlbbaaGreatN5
namespace Go.Proofs.YtdheiajppnlbbaaGreat
open Go Go.RowKit
set_option maxRecDepth 100000 in
theorem fresh_nil (H : Hp) (sb lb rb rc db : Nat) (rl : List Value) (s : ByteArray) (dn : Bool) (hs : H sb = some (row (sCells (.slice (some ⟨rb, 0, none⟩) 1 rc) nil0 1 0 0 1 1 (some ⟨lb, 0, none⟩) (some ⟨db, 0, none⟩) dn) sT)) (hrb : H rb = some (row rl 9)) (hrl : rl[0]? = some (.string s)) : Call Tryz.prog 22 #[pt sb, nil0] H (fun v H' => ∃ lb tr ro m, H lb = none ∧ v = pt lb ∧ H' = H.ins lb (row (lC (some tr) ro nil0 1 0 0 1 1 (some m)) lT)) := by
  refine Call.enter Tryz.func22 rfl (n := 35) rfl (Nat.le_of_ble_eq_true rfl) ?_
  show Gt _ _ _ ⟨35, [(0, _), (1, _)], []⟩ _ _
  refine Gt.seq ?_
  refine Gt.region (show SQ _ _ [0] _ _ _ from ?_)
  refine SQ.p rfl rfl (Pu.asg (v := .pointer _) rfl) ?_
  refine SQ.nil ?_
  refine Gt.seq ?_
  refine Gt.draw (A := [[], [0], [0, 1], [0, 1, 2], [], [4], [4, 5], [4, 5, 6], [0, 1, 2, 3, 4, 5, 6, 7], [0, 1, 2, 3, 4, 5, 6, 7, 8], [0, 1, 2, 3, 4, 5, 6, 7, 8, 9], [0, 1, 2, 3, 4, 5, 6, 7, 8, 9], [0, 1, 2, 3, 4, 5, 6, 7, 8, 9, 10], [0, 1, 2, 3, 4, 5, 6, 7, 8, 9, 10, 11, 12]]) [(0, .pure), (1, .pure), (2, .pure), (3, .read), (4, .pure), (5, .pure), (6, .pure), (7, .read), (8, .effect), (9, .pure), (10, .pure), (11, .pure), (12, .pure), (13, .pure)] mixed (by kernel_rfl) ?_
  refine DL.p rfl rfl (Pu.mv (v := .pointer _) rfl) ?_
  refine DL.p rfl rfl (Pu.nilCheck rfl) ?_
  refine DL.p rfl rfl (Pu.fieldAddr (k := 0) rfl rfl) ?_
  refine DL.r rfl rfl (Rd.loadA (vs := [_, _, _, _, _]) rfl rfl rfl hs rfl) ?_
  refine DL.p rfl rfl (Pu.mv (v := .pointer _) rfl) ?_
  refine DL.p rfl rfl (Pu.nilCheck rfl) ?_
  refine DL.p rfl rfl (Pu.fieldAddr (k := 5) rfl rfl) ?_
  refine DL.r rfl rfl (Rd.loadA (vs := [_, _]) rfl rfl rfl hs rfl) ?_
  refine DL.e rfl rfl (Ef.call en24 (vs := [_, _]) rfl (lnew _ _ _ _ _ _ _ hrb hrl)) ?_
  rintro _ _ ⟨lc, lct, lco, lcm, hlc, rfl, rfl⟩
  have nsblc := Hp.ne_of hs hlc
  have nrblc := Hp.ne_of hrb hlc
  refine ⟨(obl_anc rfl (obl_anc rfl obl_nil)), ?_⟩
  refine DL.p rfl rfl (Pu.mv (v := _) rfl) ?_
  refine DL.p rfl rfl (Pu.extract (v := .pointer _) rfl rfl) ?_
  refine DL.p rfl rfl (Pu.extract (v := .int _ _) rfl rfl) ?_
  refine DL.p rfl rfl (Pu.asg (v := .pointer _) rfl) ?_
  refine DL.p rfl rfl (Pu.asg (v := .int _ _) rfl) ?_
  refine DL.nil ?_
  refine Gt.seq ?_
  refine Gt.region (show SQ _ _ [0, 1, 2] _ _ _ from ?_)
  refine SQ.p rfl rfl (Pu.mv (v := .pointer _) rfl) ?_
  refine SQ.p rfl rfl (Pu.makeFunc (vs := [_]) (us := []) rfl rfl) ?_
  refine SQ.p rfl rfl (Pu.asg (v := _) rfl) ?_
  refine SQ.nil ?_
  refine Gt.seq ?_
  refine Gt.seq ?_
  refine Gt.region (show SQ _ _ [0, 1, 2] _ _ _ from ?_)
  refine SQ.p rfl rfl (Pu.mv (v := .slice _ _ _) rfl) ?_
  refine SQ.p rfl rfl (Pu.len rfl rfl) ?_
  refine SQ.p rfl rfl (Pu.mv (v := .int _ _) rfl) ?_
  refine SQ.nil ?_
  refine Gt.block ?_
  refine Gt.loop ?_
  refine Gt.inLoop ?_
  refine Gt.seq ?_
  refine Gt.region (show SQ _ _ [0] _ _ _ from ?_)
  refine SQ.p rfl rfl (Pu.by (v := .bool false) fun _ => rfl) ?_
  refine SQ.nil ?_
  refine Gt.seq ?_
  refine Gt.condF rfl ?_
  refine Gt.exit rfl ?_
  refine Gt.seq ?_
  refine Gt.region (show SQ _ _ [0, 1] _ _ _ from ?_)
  refine SQ.p rfl rfl (Pu.mv (v := .pointer _) rfl) ?_
  refine SQ.p rfl rfl (Pu.asg (v := .pointer _) rfl) ?_
  refine SQ.nil ?_
  refine Gt.ret (Res.mk1 Tryz.func22 rfl rfl (.tmp (v := .pointer _) rfl)) (Sub.ins2 (Sub.refl _)) ?_
  exact ⟨lc, _, _, _, hlc, rfl, rfl⟩
set_option maxRecDepth 100000 in
theorem fail_made (H : Hp) (sb lb rb rc db : Nat) (rl : List Value) (s : ByteArray) (hs : H sb = some (row (sCells (.slice (some ⟨rb, 0, none⟩) 1 rc) nil0 1 0 0 1 1 (some ⟨lb, 0, none⟩) (some ⟨db, 0, none⟩) false) sT)) (hdb : H db = some (row (dC nil0 0 900 true) dT)) (tr : Addr) (ro : Value) (m : Nat) (hlb : H lb = some (row (lC (some tr) ro nil0 1 0 0 1 1 (some m)) lT)) (n1 : sb ≠ lb) (n2 : sb ≠ rb) (n3 : sb ≠ db) (n4 : lb ≠ db) (n5 : rb ≠ db) : Call Tryz.prog 5 #[pt sb, nil0, .int .i64 0] H (Same (.tuple #[]) ((H.ins db (row (dC nil0 0 900 true) dT)).ins sb (row (sCells (.slice (some ⟨rb, 0, none⟩) 1 rc) nil0 1 0 0 1 1 (some ⟨lb, 0, none⟩) (some ⟨db, 0, none⟩) true) sT))) := by
  refine Call.enter Tryz.func5 rfl (n := 30) rfl (Nat.le_of_ble_eq_true rfl) ?_
  show Gt _ _ _ ⟨30, [(0, _), (1, _), (2, _)], []⟩ _ _
  refine Gt.seq ?_
  refine Gt.seq ?_
  refine Gt.region (show SQ _ _ [0, 1] _ _ _ from ?_)
  refine SQ.p rfl rfl (Pu.mv (v := .pointer _) rfl) ?_
  refine SQ.e rfl rfl (Ef.call en9 (vs := [_]) rfl (down_made_false _ _ _ _ _ _ _ _ _ _ _ hs)) ?_
  rintro _ _ ⟨rfl, rfl⟩
  refine SQ.nil ?_
  refine Gt.condF rfl ?_
  refine Gt.skip ?_
  refine Gt.seq ?_
  refine Gt.seq ?_
  refine Gt.region (show SQ _ _ [0, 1, 2, 3, 4, 5] _ _ _ from ?_)
  refine SQ.p rfl rfl (Pu.mv (v := .pointer _) rfl) ?_
  refine SQ.p rfl rfl (Pu.nilCheck rfl) ?_
  refine SQ.p rfl rfl (Pu.fieldAddr (k := 7) rfl rfl) ?_
  refine SQ.r rfl rfl (Rd.load (v := .pointer _) rfl rfl hs rfl) ?_
  refine SQ.p rfl rfl (Pu.mv (v := .slice _ _ _) rfl) ?_
  refine SQ.e rfl rfl (Ef.call en13 (vs := [_, _]) rfl (lhear_nil _ _ _ _ _ _ _ _ _ _ _ hlb)) ?_
  rintro _ _ ⟨rfl, rfl⟩
  refine SQ.nil ?_
  refine Gt.condF rfl ?_
  refine Gt.skip ?_
  refine Gt.seq ?_
  refine Gt.region (show SQ _ _ [0, 1, 2, 3, 4, 5] _ _ _ from ?_)
  refine SQ.p rfl rfl (Pu.mv (v := .pointer _) rfl) ?_
  refine SQ.p rfl rfl (Pu.nilCheck rfl) ?_
  refine SQ.p rfl rfl (Pu.fieldAddr (k := 8) rfl rfl) ?_
  refine SQ.r rfl rfl (Rd.load (v := .pointer _) rfl rfl hs rfl) ?_
  refine SQ.p rfl rfl (Pu.mv (v := .int _ _) rfl) ?_
  refine SQ.e rfl rfl (Ef.call en15 (vs := [_, _]) rfl (dcrash _ _ hdb)) ?_
  rintro _ _ ⟨rfl, rfl⟩
  refine SQ.nil ?_
  refine Gt.region (show SQ _ _ [0, 1, 2, 3] _ _ _ from ?_)
  refine SQ.p rfl rfl (Pu.mv (v := .pointer _) rfl) ?_
  refine SQ.p rfl rfl (Pu.nilCheck rfl) ?_
  refine SQ.p rfl rfl (Pu.fieldAddr (k := 9) rfl rfl) ?_
  refine SQ.e0 rfl rfl (Ef.sto (v := .bool _) (vs := [_]) (c' := [_, _, _, _, _, _, _, _, _, _]) rfl rfl rfl rfl (Hp.ins_ne (by first | assumption | (apply Ne.symm; assumption)) hs) (Nat.le_of_ble_eq_true rfl) rfl rfl) ?_
  rintro _ _ ⟨rfl, rfl⟩
  refine SQ.nil ?_
  refine Gt.end (Res.none Tryz.func5 rfl rfl) (Sub.ins2 (Sub.ins2 (Sub.refl _))) ?_
  exact ⟨rfl, rfl⟩
set_option maxRecDepth 100000 in
theorem names_down (H : Hp) (sb lb rb rc db : Nat) (rl : List Value) (s : ByteArray) (hs : H sb = some (row (sCells (.slice (some ⟨rb, 0, none⟩) 1 rc) nil0 1 0 0 1 1 (some ⟨lb, 0, none⟩) (some ⟨db, 0, none⟩) true) sT)) : Call Tryz.prog 7 #[pt sb] H (Same (.tuple #[nil0, .int .i64 74]) H) := by
  refine Call.enter Tryz.func7 rfl (n := 20) rfl (Nat.le_of_ble_eq_true rfl) ?_
  show Gt _ _ _ ⟨20, [(0, _)], []⟩ _ _
  refine Gt.seq ?_
  refine Gt.region (show SQ _ _ [0, 1] _ _ _ from ?_)
  refine SQ.p rfl rfl (Pu.asg (v := .slice _ _ _) rfl) ?_
  refine SQ.p rfl rfl (Pu.asg (v := .int _ _) rfl) ?_
  refine SQ.nil ?_
  refine Gt.seq ?_
  refine Gt.block ?_
  refine Gt.seq ?_
  refine Gt.region (show SQ _ _ [0, 1, 2, 3] _ _ _ from ?_)
  refine SQ.p rfl rfl (Pu.mv (v := .pointer _) rfl) ?_
  refine SQ.e rfl rfl (Ef.call en16 (vs := [_]) rfl (is_made _ _ _ _ _ _ _ _ _ _ _ _ hs)) ?_
  rintro _ _ ⟨rfl, rfl⟩
  refine SQ.p rfl rfl (Pu.by (v := .bool false) fun _ => rfl) ?_
  refine SQ.p rfl rfl (Pu.asg (v := .bool _) rfl) ?_
  refine SQ.nil ?_
  refine Gt.condF rfl ?_
  refine Gt.seq ?_
  refine Gt.region (show SQ _ _ [0, 1, 2, 3, 4] _ _ _ from ?_)
  refine SQ.p rfl rfl (Pu.mv (v := .pointer _) rfl) ?_
  refine SQ.p rfl rfl (Pu.nilCheck rfl) ?_
  refine SQ.p rfl rfl (Pu.fieldAddr (k := 9) rfl rfl) ?_
  refine SQ.r rfl rfl (Rd.load (v := .bool true) rfl rfl hs rfl) ?_
  refine SQ.p rfl rfl (Pu.asg (v := .bool _) rfl) ?_
  refine SQ.nil ?_
  refine Gt.condT rfl ?_
  refine Gt.seq ?_
  refine Gt.region (show SQ _ _ [0, 1] _ _ _ from ?_)
  refine SQ.p rfl rfl (Pu.asg (v := .slice _ _ _) rfl) ?_
  refine SQ.p rfl rfl (Pu.asg (v := .int _ _) rfl) ?_
  refine SQ.nil ?_
  refine Gt.ret (Res.mk2 Tryz.func7 rfl rfl (.tmp (v := .slice _ _ _) rfl) (.tmp (v := .int _ _) rfl)) (Sub.refl _) ?_
  exact ⟨rfl, rfl⟩
set_option maxRecDepth 100000 in
theorem up_made (H : Hp) (sb lb rb rc db : Nat) (rl : List Value) (s : ByteArray) (hs : H sb = some (row (sCells (.slice (some ⟨rb, 0, none⟩) 1 rc) nil0 1 0 0 1 1 (some ⟨lb, 0, none⟩) (some ⟨db, 0, none⟩) true) sT)) (hrb : H rb = some (row rl 9)) (hrl : rl[0]? = some (.string s)) (hdb : H db = some (row (dC nil0 0 900 true) dT)) (n2 : sb ≠ rb) (n3 : sb ≠ db) (n5 : rb ≠ db) : Call Tryz.prog 11 #[pt sb] H (fun v H' => ∃ lb tr ro m, (H.ins db (row (dC nil0 0 900 true) dT)) lb = none ∧ v = .int .i64 0 ∧ H' = ((H.ins db (row (dC nil0 0 900 true) dT)).ins lb (row (lC (some tr) ro nil0 1 0 0 1 1 (some m)) lT)).ins sb (row (sCells (.slice (some ⟨rb, 0, none⟩) 1 rc) nil0 1 0 0 1 1 (some ⟨lb, 0, none⟩) (some ⟨db, 0, none⟩) false) sT)) := by
  refine Call.enter Tryz.func11 rfl (n := 35) rfl (Nat.le_of_ble_eq_true rfl) ?_
  show Gt _ _ _ ⟨35, [(0, _)], []⟩ _ _
  refine Gt.seq ?_
  refine Gt.region (show SQ _ _ [0] _ _ _ from ?_)
  refine SQ.p rfl rfl (Pu.asg (v := .int _ _) rfl) ?_
  refine SQ.nil ?_
  refine Gt.seq ?_
  refine Gt.seq ?_
  refine Gt.region (show SQ _ _ [0, 1, 2, 3, 4, 5, 6, 7, 8, 9] _ _ _ from ?_)
  refine SQ.p rfl rfl (Pu.mv (v := .pointer _) rfl) ?_
  refine SQ.e rfl rfl (Ef.call en16 (vs := [_]) rfl (is_made _ _ _ _ _ _ _ _ _ _ _ _ hs)) ?_
  rintro _ _ ⟨rfl, rfl⟩
  refine SQ.p rfl rfl (Pu.by (v := .bool false) fun _ => rfl) ?_
  refine SQ.p rfl rfl (Pu.mv (v := .bool _) rfl) ?_
  refine SQ.p rfl rfl (Pu.mv (v := .pointer _) rfl) ?_
  refine SQ.p rfl rfl (Pu.nilCheck rfl) ?_
  refine SQ.p rfl rfl (Pu.fieldAddr (k := 9) rfl rfl) ?_
  refine SQ.r rfl rfl (Rd.load (v := .bool true) rfl rfl hs rfl) ?_
  refine SQ.p rfl rfl (Pu.by (v := .bool false) fun _ => rfl) ?_
  refine SQ.p rfl rfl (Pu.pickF (v := .bool _) rfl rfl) ?_
  refine SQ.nil ?_
  refine Gt.condF rfl ?_
  refine Gt.skip ?_
  refine Gt.seq ?_
  refine Gt.region (show SQ _ _ [0, 1, 2, 3, 4, 5, 6, 7, 8, 9] _ _ _ from ?_)
  refine SQ.p rfl rfl (Pu.mv (v := .pointer _) rfl) ?_
  refine SQ.p rfl rfl (Pu.nilCheck rfl) ?_
  refine SQ.p rfl rfl (Pu.fieldAddr (k := 8) rfl rfl) ?_
  refine SQ.r rfl rfl (Rd.load (v := .pointer _) rfl rfl hs rfl) ?_
  refine SQ.e rfl rfl (Ef.call en23 (vs := [_]) rfl (recover_nil _ _ hdb)) ?_
  rintro _ _ ⟨rfl, rfl⟩
  refine SQ.p rfl rfl (Pu.mv (v := _) rfl) ?_
  refine SQ.p rfl rfl (Pu.extract (v := .slice _ _ _) rfl rfl) ?_
  refine SQ.p rfl rfl (Pu.extract (v := .int _ _) rfl rfl) ?_
  refine SQ.p rfl rfl (Pu.asg (v := .slice _ _ _) rfl) ?_
  refine SQ.p rfl rfl (Pu.asg (v := .int _ _) rfl) ?_
  refine SQ.nil ?_
  refine Gt.seq ?_
  refine Gt.seq ?_
  refine Gt.region (show SQ _ _ [0, 1] _ _ _ from ?_)
  refine SQ.p rfl rfl (Pu.mv (v := .int _ _) rfl) ?_
  refine SQ.p rfl rfl (Pu.by (v := .bool false) fun _ => rfl) ?_
  refine SQ.nil ?_
  refine Gt.condF rfl ?_
  refine Gt.skip ?_
  refine Gt.seq ?_
  refine Gt.region (show SQ _ _ [0, 1, 2, 3, 4, 5, 6, 7, 8, 9, 10] _ _ _ from ?_)
  refine SQ.p rfl rfl (Pu.mv (v := .pointer _) rfl) ?_
  refine SQ.p rfl rfl (Pu.mv (v := .pointer _) rfl) ?_
  refine SQ.p rfl rfl (Pu.mv (v := .pointer _) rfl) ?_
  refine SQ.p rfl rfl (Pu.mv (v := .slice _ _ _) rfl) ?_
  refine SQ.e rfl rfl (Ef.call en22 (vs := [_, _]) rfl (fresh_nil _ _ _ _ _ _ _ _ _ (Hp.ins_ne (by first | assumption | (apply Ne.symm; assumption)) hs) (Hp.ins_ne (by first | assumption | (apply Ne.symm; assumption)) hrb) hrl)) ?_
  rintro _ _ ⟨lc, lt, lo, lm, hlc, rfl, rfl⟩
  obtain ⟨_, hlc⟩ := Hp.ins_none hlc
  have nsblc := Hp.ne_of hs hlc
  have nrblc := Hp.ne_of hrb hlc
  have ndblc := Hp.ne_of hdb hlc
  refine SQ.p rfl rfl (Pu.nilCheck rfl) ?_
  refine SQ.p rfl rfl (Pu.fieldAddr (k := 7) rfl rfl) ?_
  refine SQ.e0 rfl rfl (Ef.sto (v := .pointer _) (vs := [_]) (c' := [_, _, _, _, _, _, _, _, _, _]) rfl rfl rfl rfl (Hp.ins_ne (by first | assumption | (apply Ne.symm; assumption)) (Hp.ins_ne (by first | assumption | (apply Ne.symm; assumption)) hs)) (Nat.le_of_ble_eq_true rfl) rfl rfl) ?_
  rintro _ _ ⟨rfl, rfl⟩
  refine SQ.p rfl rfl (Pu.nilCheck rfl) ?_
  refine SQ.p rfl rfl (Pu.fieldAddr (k := 9) rfl rfl) ?_
  refine SQ.e0 rfl rfl (Ef.sto (v := .bool _) (vs := [_]) (c' := [_, _, _, _, _, _, _, _, _, _]) rfl rfl rfl rfl (Hp.ins_same _ _ _) (Nat.le_of_ble_eq_true rfl) rfl rfl) ?_
  rintro _ _ ⟨rfl, rfl⟩
  rw [Hp.ins_ins]
  refine SQ.nil ?_
  refine Gt.seq ?_
  refine Gt.region (show SQ _ _ [0] _ _ _ from ?_)
  refine SQ.p rfl rfl (Pu.asg (v := .int _ _) rfl) ?_
  refine SQ.nil ?_
  refine Gt.ret (Res.mk1 Tryz.func11 rfl rfl (.tmp (v := .int _ _) rfl)) (Sub.ins2 (Sub.ins2 (Sub.ins2 (Sub.refl _)))) ?_
  exact ⟨lc, _, _, _, (Hp.ins_ne (by first | assumption | (apply Ne.symm; assumption)) hlc), rfl, rfl⟩
set_option maxRecDepth 100000 in
theorem up_up (H : Hp) (sb lb rb rc db : Nat) (rl : List Value) (s : ByteArray) (hs : H sb = some (row (sCells (.slice (some ⟨rb, 0, none⟩) 1 rc) nil0 1 0 0 1 1 (some ⟨lb, 0, none⟩) (some ⟨db, 0, none⟩) false) sT)) : Call Tryz.prog 11 #[pt sb] H (Same (.int .i64 9) H) := by
  refine Call.enter Tryz.func11 rfl (n := 35) rfl (Nat.le_of_ble_eq_true rfl) ?_
  show Gt _ _ _ ⟨35, [(0, _)], []⟩ _ _
  refine Gt.seq ?_
  refine Gt.region (show SQ _ _ [0] _ _ _ from ?_)
  refine SQ.p rfl rfl (Pu.asg (v := .int _ _) rfl) ?_
  refine SQ.nil ?_
  refine Gt.seq ?_
  refine Gt.seq ?_
  refine Gt.region (show SQ _ _ [0, 1, 2, 3, 4, 5, 6, 7, 8, 9] _ _ _ from ?_)
  refine SQ.p rfl rfl (Pu.mv (v := .pointer _) rfl) ?_
  refine SQ.e rfl rfl (Ef.call en16 (vs := [_]) rfl (is_made _ _ _ _ _ _ _ _ _ _ _ _ hs)) ?_
  rintro _ _ ⟨rfl, rfl⟩
  refine SQ.p rfl rfl (Pu.by (v := .bool false) fun _ => rfl) ?_
  refine SQ.p rfl rfl (Pu.mv (v := .bool _) rfl) ?_
  refine SQ.p rfl rfl (Pu.mv (v := .pointer _) rfl) ?_
  refine SQ.p rfl rfl (Pu.nilCheck rfl) ?_
  refine SQ.p rfl rfl (Pu.fieldAddr (k := 9) rfl rfl) ?_
  refine SQ.r rfl rfl (Rd.load (v := .bool false) rfl rfl hs rfl) ?_
  refine SQ.p rfl rfl (Pu.by (v := .bool true) fun _ => rfl) ?_
  refine SQ.p rfl rfl (Pu.pickF (v := .bool _) rfl rfl) ?_
  refine SQ.nil ?_
  refine Gt.condT rfl ?_
  refine Gt.seq ?_
  refine Gt.region (show SQ _ _ [0] _ _ _ from ?_)
  refine SQ.p rfl rfl (Pu.asg (v := .int _ _) rfl) ?_
  refine SQ.nil ?_
  refine Gt.ret (Res.mk1 Tryz.func11 rfl rfl (.tmp (v := .int _ _) rfl)) (Sub.refl _) ?_
  exact ⟨rfl, rfl⟩
set_option maxRecDepth 100000 in
theorem alive_any (H : Hp) : Call Tryz.prog 4 #[] H (Same (.bool true) H) := by
  refine Call.enter Tryz.func4 rfl (n := 41) rfl (Nat.le_of_ble_eq_true rfl) ?_
  show Gt _ _ _ ⟨41, [], []⟩ _ _
  refine Gt.seq ?_
  refine Gt.region (show SQ _ _ [0] _ _ _ from ?_)
  refine SQ.p rfl rfl (Pu.asg (v := .bool _) rfl) ?_
  refine SQ.nil ?_
  refine Gt.seq ?_
  refine Gt.region (show SQ _ _ [0, 1, 2, 3, 4, 5, 6, 7, 8] _ _ _ from ?_)
  refine SQ.a rfl rfl (Al.buildSlice (vs := [_]) rfl rfl rfl rfl rfl (by decide) rfl) ?_
  intro b1 hb1
  refine SQ.p rfl rfl (Pu.build (vs := [_, _, _, _, _]) rfl rfl rfl rfl rfl) ?_
  refine SQ.p rfl rfl (Pu.build (vs := [_, _]) rfl rfl rfl rfl rfl) ?_
  refine SQ.e rfl rfl (Ef.call en12 (vs := [_, _, _]) rfl (snew _ _ _ _ _ _ _ (Hp.ins_same _ _ _) rfl)) ?_
  rintro _ _ ⟨lb, lt, lo, lm, hlb, rb, rc, rl, hrb, hrl, db, hdb, sb, hsb, rfl, rfl⟩
  obtain ⟨_, hlb⟩ := Hp.ins_none hlb
  obtain ⟨_, hrb⟩ := Hp.ins_none hrb
  obtain ⟨_, hrb⟩ := Hp.ins_none hrb
  obtain ⟨_, hdb⟩ := Hp.ins_none hdb
  obtain ⟨_, hdb⟩ := Hp.ins_none hdb
  obtain ⟨_, hdb⟩ := Hp.ins_none hdb
  obtain ⟨_, hsb⟩ := Hp.ins_none hsb
  obtain ⟨_, hsb⟩ := Hp.ins_none hsb
  obtain ⟨_, hsb⟩ := Hp.ins_none hsb
  obtain ⟨_, hsb⟩ := Hp.ins_none hsb
  refine SQ.p rfl rfl (Pu.mv (v := _) rfl) ?_
  refine SQ.p rfl rfl (Pu.extract (v := .pointer _) rfl rfl) ?_
  refine SQ.p rfl rfl (Pu.extract (v := .int _ _) rfl rfl) ?_
  refine SQ.p rfl rfl (Pu.asg (v := .pointer _) rfl) ?_
  refine SQ.p rfl rfl (Pu.asg (v := .int _ _) rfl) ?_
  refine SQ.nil ?_
  refine Gt.seq ?_
  refine Gt.seq ?_
  refine Gt.region (show SQ _ _ [0, 1, 2, 3, 4, 5] _ _ _ from ?_)
  refine SQ.p rfl rfl (Pu.mv (v := .int _ _) rfl) ?_
  refine SQ.p rfl rfl (Pu.by (v := .bool false) fun _ => rfl) ?_
  refine SQ.p rfl rfl (Pu.mv (v := .bool _) rfl) ?_
  refine SQ.p rfl rfl (Pu.mv (v := .pointer _) rfl) ?_
  refine SQ.p rfl rfl (Pu.by (v := .bool false) fun _ => rfl) ?_
  refine SQ.p rfl rfl (Pu.pickF (v := .bool _) rfl rfl) ?_
  refine SQ.nil ?_
  refine Gt.condF rfl ?_
  refine Gt.skip ?_
  refine Gt.seq ?_
  refine Gt.region (show SQ _ _ [0, 1] _ _ _ from ?_)
  refine SQ.p rfl rfl (Pu.mv (v := .pointer _) rfl) ?_
  refine SQ.e rfl rfl (Ef.call en5 (vs := [_, _, _]) rfl (fail_made _ _ _ _ _ _ [] ⟨#[]⟩ (Hp.ins_same _ _ _) (Hp.ins_ne (by first | assumption | (apply Ne.symm; assumption)) (Hp.ins_same _ _ _)) _ _ _ (Hp.ins_ne (by first | assumption | (apply Ne.symm; assumption)) (Hp.ins_ne (by first | assumption | (apply Ne.symm; assumption)) (Hp.ins_ne (by first | assumption | (apply Ne.symm; assumption)) (Hp.ins_same _ _ _)))) (by first | assumption | (apply Ne.symm; assumption)) (by first | assumption | (apply Ne.symm; assumption)) (by first | assumption | (apply Ne.symm; assumption)) (by first | assumption | (apply Ne.symm; assumption)) (by first | assumption | (apply Ne.symm; assumption)))) ?_
  rintro _ _ ⟨rfl, rfl⟩
  refine SQ.nil ?_
  refine Gt.seq ?_
  refine Gt.region (show SQ _ _ [0, 1, 2, 3, 4, 5, 6] _ _ _ from ?_)
  refine SQ.p rfl rfl (Pu.mv (v := .pointer _) rfl) ?_
  refine SQ.e rfl rfl (Ef.call en7 (vs := [_]) rfl (names_down _ _ _ _ _ _ [] ⟨#[]⟩ (Hp.ins_same _ _ _))) ?_
  rintro _ _ ⟨rfl, rfl⟩
  refine SQ.p rfl rfl (Pu.mv (v := _) rfl) ?_
  refine SQ.p rfl rfl (Pu.extract (v := .slice _ _ _) rfl rfl) ?_
  refine SQ.p rfl rfl (Pu.extract (v := .int _ _) rfl rfl) ?_
  refine SQ.p rfl rfl (Pu.asg (v := .slice _ _ _) rfl) ?_
  refine SQ.p rfl rfl (Pu.asg (v := .int _ _) rfl) ?_
  refine SQ.nil ?_
  refine Gt.seq ?_
  refine Gt.region (show SQ _ _ [0, 1, 2, 3, 4, 5, 6, 7, 8, 9, 10, 11, 12, 13, 14, 15, 16] _ _ _ from ?_)
  refine SQ.p rfl rfl (Pu.mv (v := .pointer _) rfl) ?_
  refine SQ.e rfl rfl (Ef.call en9 (vs := [_]) rfl (down_made_true _ _ _ _ _ _ _ _ _ _ _ (Hp.ins_same _ _ _))) ?_
  rintro _ _ ⟨rfl, rfl⟩
  refine SQ.p rfl rfl (Pu.mv (v := .bool _) rfl) ?_
  refine SQ.p rfl rfl (Pu.mv (v := .int _ _) rfl) ?_
  refine SQ.p rfl rfl (Pu.by (v := .bool true) fun _ => rfl) ?_
  refine SQ.p rfl rfl (Pu.pickT (v := .bool _) rfl rfl) ?_
  refine SQ.p rfl rfl (Pu.mv (v := .bool _) rfl) ?_
  refine SQ.p rfl rfl (Pu.mv (v := .pointer _) rfl) ?_
  refine SQ.e rfl rfl (Ef.call en11 (vs := [_]) rfl (up_made _ _ _ _ _ _ _ _ (Hp.ins_same _ _ _) (Hp.ins_ne (by first | assumption | (apply Ne.symm; assumption)) (Hp.ins_ne (by first | assumption | (apply Ne.symm; assumption)) (Hp.ins_ne (by first | assumption | (apply Ne.symm; assumption)) (Hp.ins_ne (by first | assumption | (apply Ne.symm; assumption)) (Hp.ins_same _ _ _))))) hrl (Hp.ins_ne (by first | assumption | (apply Ne.symm; assumption)) (Hp.ins_same _ _ _)) (by first | assumption | (apply Ne.symm; assumption)) (by first | assumption | (apply Ne.symm; assumption)) (by first | assumption | (apply Ne.symm; assumption)))) ?_
  rintro _ _ ⟨lc, lt2, lo2, lm2, hlc, rfl, rfl⟩
  obtain ⟨_, hlc⟩ := Hp.ins_none hlc
  obtain ⟨_, hlc⟩ := Hp.ins_none hlc
  obtain ⟨_, hlc⟩ := Hp.ins_none hlc
  obtain ⟨_, hlc⟩ := Hp.ins_none hlc
  obtain ⟨_, hlc⟩ := Hp.ins_none hlc
  obtain ⟨_, hlc⟩ := Hp.ins_none hlc
  obtain ⟨_, hlc⟩ := Hp.ins_none hlc
  obtain ⟨_, hlc⟩ := Hp.ins_none hlc
  refine SQ.p rfl rfl (Pu.by (v := .bool true) fun _ => rfl) ?_
  refine SQ.p rfl rfl (Pu.pickT (v := .bool _) rfl rfl) ?_
  refine SQ.p rfl rfl (Pu.mv (v := .bool _) rfl) ?_
  refine SQ.p rfl rfl (Pu.mv (v := .pointer _) rfl) ?_
  refine SQ.e rfl rfl (Ef.call en9 (vs := [_]) rfl (down_made_false _ _ _ _ _ _ _ _ _ _ _ (Hp.ins_same _ _ _))) ?_
  rintro _ _ ⟨rfl, rfl⟩
  refine SQ.p rfl rfl (Pu.by (v := .bool true) fun _ => rfl) ?_
  refine SQ.p rfl rfl (Pu.pickT (v := .bool _) rfl rfl) ?_
  refine SQ.p rfl rfl (Pu.asg (v := .bool _) rfl) ?_
  refine SQ.nil ?_
  refine Gt.ret (Res.mk1 Tryz.func4 rfl rfl (.tmp (v := .bool true) rfl)) (Sub.ins' (Sub.ins' (Sub.ins' (Sub.ins' (Sub.ins' (Sub.ins' (Sub.ins' (Sub.ins' (Sub.ins' (Sub.ins' (Sub.refl _) hb1) hlb) hrb) hdb) hsb) hdb) hsb) hdb) hlc) hsb) ?_
  exact ⟨rfl, rfl⟩
set_option maxRecDepth 100000 in
theorem law_any (H : Hp) (ba : Option Addr) (bn bc : Nat) (x : Int) : Call Tryz.prog 3 #[.slice ba bn bc, .int .i64 x] H (Same (.bool true) H) := by
  refine Call.enter Tryz.func3 rfl (n := 101) rfl (Nat.le_of_ble_eq_true rfl) ?_
  show Gt _ _ _ ⟨101, [(0, _), (1, _)], []⟩ _ _
  refine Gt.seq ?_
  refine Gt.region (show SQ _ _ [0] _ _ _ from ?_)
  refine SQ.p rfl rfl (Pu.asg (v := .bool _) rfl) ?_
  refine SQ.nil ?_
  refine Gt.seq ?_
  refine Gt.seq ?_
  refine Gt.region (show SQ _ _ [0, 1] _ _ _ from ?_)
  refine SQ.e rfl rfl (Ef.call en4 (vs := []) rfl (alive_any _)) ?_
  rintro _ _ ⟨rfl, rfl⟩
  refine SQ.p rfl rfl (Pu.by (v := .bool false) fun _ => rfl) ?_
  refine SQ.nil ?_
  refine Gt.condF rfl ?_
  refine Gt.skip ?_
  refine Gt.seq ?_
  refine Gt.region (show SQ _ _ [0] _ _ _ from ?_)
  refine SQ.p rfl rfl (Pu.asg (v := .pointer _) rfl) ?_
  refine SQ.nil ?_
  refine Gt.seq ?_
  refine Gt.region (show SQ _ _ [0, 1, 2, 3, 4] _ _ _ from ?_)
  refine SQ.p rfl rfl (Pu.mv (v := .pointer _) rfl) ?_
  refine SQ.p rfl rfl (Pu.build (vs := [_, _, _, _, _, _, _, _, _, _]) rfl rfl rfl rfl rfl) ?_
  refine SQ.a rfl rfl (Al.box (v := .agg _) (vs := [_, _, _, _, _, _, _, _, _, _]) rfl rfl) ?_
  intro b1 hb1
  refine SQ.a rfl rfl (Al.buildSlice (vs := [_, _]) rfl rfl rfl rfl rfl (by decide) rfl) ?_
  intro b2 hb2
  obtain ⟨_, hb2⟩ := Hp.ins_none hb2
  refine SQ.p rfl rfl (Pu.asg (v := .slice _ _ _) rfl) ?_
  refine SQ.nil ?_
  refine Gt.seq ?_
  refine Gt.seq ?_
  refine Gt.region (show SQ _ _ [0] _ _ _ from ?_)
  refine SQ.p rfl rfl (Pu.asg (v := .int _ _) rfl) ?_
  refine SQ.nil ?_
  refine Gt.block ?_
  refine Gt.loop ?_
  refine Gt.inLoop ?_
  refine Gt.seq ?_
  refine Gt.seq ?_
  refine Gt.region (show SQ _ _ [0, 1, 2, 3] _ _ _ from ?_)
  refine SQ.p rfl rfl (Pu.mv (v := .int _ _) rfl) ?_
  refine SQ.p rfl rfl (Pu.mv (v := .slice _ _ _) rfl) ?_
  refine SQ.p rfl rfl (Pu.len rfl rfl) ?_
  refine SQ.p rfl rfl (Pu.by (v := .bool true) fun _ => rfl) ?_
  refine SQ.nil ?_
  refine Gt.condT rfl ?_
  refine Gt.skip ?_
  refine Gt.seq ?_
  refine Gt.block ?_
  refine Gt.seq ?_
  refine Gt.region (show SQ _ _ [0, 1, 2, 3, 4, 5, 6] _ _ _ from ?_)
  refine SQ.p rfl rfl (Pu.mv (v := .slice _ _ _) rfl) ?_
  refine SQ.p rfl rfl (Pu.mv (v := .int _ _) rfl) ?_
  refine SQ.p rfl rfl (Pu.indexAddr rfl rfl rfl rfl (by decide) (by decide)) ?_
  refine SQ.r rfl rfl (Rd.load (v := .pointer _) rfl rfl (Hp.ins_same _ _ _) rfl) ?_
  refine SQ.p rfl rfl (Pu.mv (v := .slice _ _ _) rfl) ?_
  refine SQ.p rfl rfl (Pu.mv (v := .int _ _) rfl) ?_
  refine SQ.e rfl rfl (Ef.call en5 (vs := [_, _, _]) rfl (fail_nil _ _ _)) ?_
  rintro _ _ ⟨rfl, rfl⟩
  refine SQ.nil ?_
  refine Gt.seq ?_
  refine Gt.region (show SQ _ _ [0, 1, 2, 3, 4, 5, 6, 7, 8, 9] _ _ _ from ?_)
  refine SQ.p rfl rfl (Pu.mv (v := .slice _ _ _) rfl) ?_
  refine SQ.p rfl rfl (Pu.mv (v := .int _ _) rfl) ?_
  refine SQ.p rfl rfl (Pu.indexAddr rfl rfl rfl rfl (by decide) (by decide)) ?_
  refine SQ.r rfl rfl (Rd.load (v := .pointer _) rfl rfl (Hp.ins_same _ _ _) rfl) ?_
  refine SQ.e rfl rfl (Ef.call en6 (vs := [_]) rfl (ledger_nil _)) ?_
  rintro _ _ ⟨rfl, rfl⟩
  refine SQ.p rfl rfl (Pu.mv (v := _) rfl) ?_
  refine SQ.p rfl rfl (Pu.extract (v := .slice _ _ _) rfl rfl) ?_
  refine SQ.p rfl rfl (Pu.extract (v := .int _ _) rfl rfl) ?_
  refine SQ.p rfl rfl (Pu.asg (v := .slice _ _ _) rfl) ?_
  refine SQ.p rfl rfl (Pu.asg (v := .int _ _) rfl) ?_
  refine SQ.nil ?_
  refine Gt.seq ?_
  refine Gt.region (show SQ _ _ [0, 1, 2, 3, 4, 5, 6, 7, 8, 9] _ _ _ from ?_)
  refine SQ.p rfl rfl (Pu.mv (v := .slice _ _ _) rfl) ?_
  refine SQ.p rfl rfl (Pu.mv (v := .int _ _) rfl) ?_
  refine SQ.p rfl rfl (Pu.indexAddr rfl rfl rfl rfl (by decide) (by decide)) ?_
  refine SQ.r rfl rfl (Rd.load (v := .pointer _) rfl rfl (Hp.ins_same _ _ _) rfl) ?_
  refine SQ.e rfl rfl (Ef.call en7 (vs := [_]) rfl (names_nil _)) ?_
  rintro _ _ ⟨rfl, rfl⟩
  refine SQ.p rfl rfl (Pu.mv (v := _) rfl) ?_
  refine SQ.p rfl rfl (Pu.extract (v := .slice _ _ _) rfl rfl) ?_
  refine SQ.p rfl rfl (Pu.extract (v := .int _ _) rfl rfl) ?_
  refine SQ.p rfl rfl (Pu.asg (v := .slice _ _ _) rfl) ?_
  refine SQ.p rfl rfl (Pu.asg (v := .int _ _) rfl) ?_
  refine SQ.nil ?_
  refine Gt.seq ?_
  refine Gt.region (show SQ _ _ [0, 1, 2, 3, 4, 5, 6, 7, 8, 9, 10, 11, 12, 13, 14, 15, 16, 17, 18, 19, 20, 21, 22, 23, 24, 25, 26, 27, 28, 29, 30, 31, 32, 33, 34, 35, 36, 37] _ _ _ from ?_)
  refine SQ.p rfl rfl (Pu.mv (v := .slice _ _ _) rfl) ?_
  refine SQ.p rfl rfl (Pu.mv (v := .int _ _) rfl) ?_
  refine SQ.p rfl rfl (Pu.indexAddr rfl rfl rfl rfl (by decide) (by decide)) ?_
  refine SQ.r rfl rfl (Rd.load (v := .pointer _) rfl rfl (Hp.ins_same _ _ _) rfl) ?_
  refine SQ.p rfl rfl (Pu.mv (v := .slice _ _ _) rfl) ?_
  refine SQ.e rfl rfl (Ef.call en8 (vs := [_, _]) rfl (hear_nil _ _)) ?_
  rintro _ _ ⟨rfl, rfl⟩
  refine SQ.p rfl rfl (Pu.mv (v := .bool _) rfl) ?_
  refine SQ.p rfl rfl (Pu.mv (v := .slice _ _ _) rfl) ?_
  refine SQ.p rfl rfl (Pu.mv (v := .int _ _) rfl) ?_
  refine SQ.p rfl rfl (Pu.indexAddr rfl rfl rfl rfl (by decide) (by decide)) ?_
  refine SQ.r rfl rfl (Rd.load (v := .pointer _) rfl rfl (Hp.ins_same _ _ _) rfl) ?_
  refine SQ.e rfl rfl (Ef.call en9 (vs := [_]) rfl (down_nil _)) ?_
  rintro _ _ ⟨rfl, rfl⟩
  refine SQ.p rfl rfl (Pu.by (v := .bool false) fun _ => rfl) ?_
  refine SQ.p rfl rfl (Pu.pickF (v := .bool _) rfl rfl) ?_
  refine SQ.p rfl rfl (Pu.mv (v := .bool _) rfl) ?_
  refine SQ.p rfl rfl (Pu.mv (v := .int _ _) rfl) ?_
  refine SQ.p rfl rfl (Pu.by (v := .bool false) fun _ => rfl) ?_
  refine SQ.p rfl rfl (Pu.pickF (v := .bool _) rfl rfl) ?_
  refine SQ.p rfl rfl (Pu.mv (v := .bool _) rfl) ?_
  refine SQ.p rfl rfl (Pu.mv (v := .int _ _) rfl) ?_
  refine SQ.p rfl rfl (Pu.by (v := .bool false) fun _ => rfl) ?_
  refine SQ.p rfl rfl (Pu.pickF (v := .bool _) rfl rfl) ?_
  refine SQ.p rfl rfl (Pu.mv (v := .bool _) rfl) ?_
  refine SQ.p rfl rfl (Pu.mv (v := .slice _ _ _) rfl) ?_
  refine SQ.p rfl rfl (Pu.mv (v := .int _ _) rfl) ?_
  refine SQ.p rfl rfl (Pu.indexAddr rfl rfl rfl rfl (by decide) (by decide)) ?_
  refine SQ.r rfl rfl (Rd.load (v := .pointer _) rfl rfl (Hp.ins_same _ _ _) rfl) ?_
  refine SQ.e rfl rfl (Ef.call en10 (vs := [_]) rfl (learner_nil _)) ?_
  rintro _ _ ⟨rfl, rfl⟩
  refine SQ.p rfl rfl (Pu.by (v := .bool false) fun _ => rfl) ?_
  refine SQ.p rfl rfl (Pu.pickF (v := .bool _) rfl rfl) ?_
  refine SQ.p rfl rfl (Pu.mv (v := .bool _) rfl) ?_
  refine SQ.p rfl rfl (Pu.mv (v := .slice _ _ _) rfl) ?_
  refine SQ.p rfl rfl (Pu.mv (v := .int _ _) rfl) ?_
  refine SQ.p rfl rfl (Pu.indexAddr rfl rfl rfl rfl (by decide) (by decide)) ?_
  refine SQ.r rfl rfl (Rd.load (v := .pointer _) rfl rfl (Hp.ins_same _ _ _) rfl) ?_
  refine SQ.e rfl rfl (Ef.call en11 (vs := [_]) rfl (up_nil _)) ?_
  rintro _ _ ⟨rfl, rfl⟩
  refine SQ.p rfl rfl (Pu.by (v := .bool false) fun _ => rfl) ?_
  refine SQ.p rfl rfl (Pu.pickF (v := .bool _) rfl rfl) ?_
  refine SQ.nil ?_
  refine Gt.condF rfl ?_
  refine Gt.skip ?_
  refine Gt.inBlock ?_
  refine Gt.region (show SQ _ _ [0, 1, 2] _ _ _ from ?_)
  refine SQ.p rfl rfl (Pu.mv (v := .int _ _) rfl) ?_
  refine SQ.p rfl rfl (Pu.by (v := .int _ _) fun _ => rfl) ?_
  refine SQ.p rfl rfl (Pu.asg (v := .int _ _) rfl) ?_
  refine SQ.nil ?_
  refine Gt.inLoop ?_
  refine Gt.seq ?_
  refine Gt.seq ?_
  refine Gt.region (show SQ _ _ [0, 1, 2, 3] _ _ _ from ?_)
  refine SQ.p rfl rfl (Pu.mv (v := .int _ _) rfl) ?_
  refine SQ.p rfl rfl (Pu.mv (v := .slice _ _ _) rfl) ?_
  refine SQ.p rfl rfl (Pu.len rfl rfl) ?_
  refine SQ.p rfl rfl (Pu.by (v := .bool true) fun _ => rfl) ?_
  refine SQ.nil ?_
  refine Gt.condT rfl ?_
  refine Gt.skip ?_
  refine Gt.seq ?_
  refine Gt.block ?_
  refine Gt.seq ?_
  refine Gt.region (show SQ _ _ [0, 1, 2, 3, 4, 5, 6] _ _ _ from ?_)
  refine SQ.p rfl rfl (Pu.mv (v := .slice _ _ _) rfl) ?_
  refine SQ.p rfl rfl (Pu.mv (v := .int _ _) rfl) ?_
  refine SQ.p rfl rfl (Pu.indexAddr rfl rfl rfl rfl (by decide) (by decide)) ?_
  refine SQ.r rfl rfl (Rd.load (v := .pointer _) rfl rfl (Hp.ins_same _ _ _) rfl) ?_
  refine SQ.p rfl rfl (Pu.mv (v := .slice _ _ _) rfl) ?_
  refine SQ.p rfl rfl (Pu.mv (v := .int _ _) rfl) ?_
  refine SQ.e rfl rfl (Ef.call en5 (vs := [_, _, _]) rfl (fail_zero _ _ _ _ _ _ _ _ _ _ _ (Hp.ins_ne (by first | assumption | (apply Ne.symm; assumption)) (Hp.ins_same _ _ _)) _ _)) ?_
  rintro _ _ ⟨rfl, rfl⟩
  refine SQ.nil ?_
  refine Gt.seq ?_
  refine Gt.region (show SQ _ _ [0, 1, 2, 3, 4, 5, 6, 7, 8, 9] _ _ _ from ?_)
  refine SQ.p rfl rfl (Pu.mv (v := .slice _ _ _) rfl) ?_
  refine SQ.p rfl rfl (Pu.mv (v := .int _ _) rfl) ?_
  refine SQ.p rfl rfl (Pu.indexAddr rfl rfl rfl rfl (by decide) (by decide)) ?_
  refine SQ.r rfl rfl (Rd.load (v := .pointer _) rfl rfl (Hp.ins_same _ _ _) rfl) ?_
  refine SQ.e rfl rfl (Ef.call en6 (vs := [_]) rfl (ledger_zero _ _ _ _ _ _ _ _ _ _ _ (Hp.ins_ne (by first | assumption | (apply Ne.symm; assumption)) (Hp.ins_same _ _ _)))) ?_
  rintro _ _ ⟨rfl, rfl⟩
  refine SQ.p rfl rfl (Pu.mv (v := _) rfl) ?_
  refine SQ.p rfl rfl (Pu.extract (v := .slice _ _ _) rfl rfl) ?_
  refine SQ.p rfl rfl (Pu.extract (v := .int _ _) rfl rfl) ?_
  refine SQ.p rfl rfl (Pu.asg (v := .slice _ _ _) rfl) ?_
  refine SQ.p rfl rfl (Pu.asg (v := .int _ _) rfl) ?_
  refine SQ.nil ?_
  refine Gt.seq ?_
  refine Gt.region (show SQ _ _ [0, 1, 2, 3, 4, 5, 6, 7, 8, 9] _ _ _ from ?_)
  refine SQ.p rfl rfl (Pu.mv (v := .slice _ _ _) rfl) ?_
  refine SQ.p rfl rfl (Pu.mv (v := .int _ _) rfl) ?_
  refine SQ.p rfl rfl (Pu.indexAddr rfl rfl rfl rfl (by decide) (by decide)) ?_
  refine SQ.r rfl rfl (Rd.load (v := .pointer _) rfl rfl (Hp.ins_same _ _ _) rfl) ?_
  refine SQ.e rfl rfl (Ef.call en7 (vs := [_]) rfl (names_zero _ _ _ _ _ _ _ _ _ _ _ (Hp.ins_ne (by first | assumption | (apply Ne.symm; assumption)) (Hp.ins_same _ _ _)))) ?_
  rintro _ _ ⟨rfl, rfl⟩
  refine SQ.p rfl rfl (Pu.mv (v := _) rfl) ?_
  refine SQ.p rfl rfl (Pu.extract (v := .slice _ _ _) rfl rfl) ?_
  refine SQ.p rfl rfl (Pu.extract (v := .int _ _) rfl rfl) ?_
  refine SQ.p rfl rfl (Pu.asg (v := .slice _ _ _) rfl) ?_
  refine SQ.p rfl rfl (Pu.asg (v := .int _ _) rfl) ?_
  refine SQ.nil ?_
  refine Gt.seq ?_
  refine Gt.region (show SQ _ _ [0, 1, 2, 3, 4, 5, 6, 7, 8, 9, 10, 11, 12, 13, 14, 15, 16, 17, 18, 19, 20, 21, 22, 23, 24, 25, 26, 27, 28, 29, 30, 31, 32, 33, 34, 35, 36, 37] _ _ _ from ?_)
  refine SQ.p rfl rfl (Pu.mv (v := .slice _ _ _) rfl) ?_
  refine SQ.p rfl rfl (Pu.mv (v := .int _ _) rfl) ?_
  refine SQ.p rfl rfl (Pu.indexAddr rfl rfl rfl rfl (by decide) (by decide)) ?_
  refine SQ.r rfl rfl (Rd.load (v := .pointer _) rfl rfl (Hp.ins_same _ _ _) rfl) ?_
  refine SQ.p rfl rfl (Pu.mv (v := .slice _ _ _) rfl) ?_
  refine SQ.e rfl rfl (Ef.call en8 (vs := [_, _]) rfl (hear_zero _ _ _ _ _ _ _ _ _ _ _ (Hp.ins_ne (by first | assumption | (apply Ne.symm; assumption)) (Hp.ins_same _ _ _)) _)) ?_
  rintro _ _ ⟨rfl, rfl⟩
  refine SQ.p rfl rfl (Pu.mv (v := .bool _) rfl) ?_
  refine SQ.p rfl rfl (Pu.mv (v := .slice _ _ _) rfl) ?_
  refine SQ.p rfl rfl (Pu.mv (v := .int _ _) rfl) ?_
  refine SQ.p rfl rfl (Pu.indexAddr rfl rfl rfl rfl (by decide) (by decide)) ?_
  refine SQ.r rfl rfl (Rd.load (v := .pointer _) rfl rfl (Hp.ins_same _ _ _) rfl) ?_
  refine SQ.e rfl rfl (Ef.call en9 (vs := [_]) rfl (down_zero _ _ _ _ _ _ _ _ _ _ _ (Hp.ins_ne (by first | assumption | (apply Ne.symm; assumption)) (Hp.ins_same _ _ _)))) ?_
  rintro _ _ ⟨rfl, rfl⟩
  refine SQ.p rfl rfl (Pu.by (v := .bool false) fun _ => rfl) ?_
  refine SQ.p rfl rfl (Pu.pickF (v := .bool _) rfl rfl) ?_
  refine SQ.p rfl rfl (Pu.mv (v := .bool _) rfl) ?_
  refine SQ.p rfl rfl (Pu.mv (v := .int _ _) rfl) ?_
  refine SQ.p rfl rfl (Pu.by (v := .bool false) fun _ => rfl) ?_
  refine SQ.p rfl rfl (Pu.pickF (v := .bool _) rfl rfl) ?_
  refine SQ.p rfl rfl (Pu.mv (v := .bool _) rfl) ?_
  refine SQ.p rfl rfl (Pu.mv (v := .int _ _) rfl) ?_
  refine SQ.p rfl rfl (Pu.by (v := .bool false) fun _ => rfl) ?_
  refine SQ.p rfl rfl (Pu.pickF (v := .bool _) rfl rfl) ?_
  refine SQ.p rfl rfl (Pu.mv (v := .bool _) rfl) ?_
  refine SQ.p rfl rfl (Pu.mv (v := .slice _ _ _) rfl) ?_
  refine SQ.p rfl rfl (Pu.mv (v := .int _ _) rfl) ?_
  refine SQ.p rfl rfl (Pu.indexAddr rfl rfl rfl rfl (by decide) (by decide)) ?_
  refine SQ.r rfl rfl (Rd.load (v := .pointer _) rfl rfl (Hp.ins_same _ _ _) rfl) ?_
  refine SQ.e rfl rfl (Ef.call en10 (vs := [_]) rfl (learner_zero _ _ _ _ _ _ _ _ _ _ _ (Hp.ins_ne (by first | assumption | (apply Ne.symm; assumption)) (Hp.ins_same _ _ _)))) ?_
  rintro _ _ ⟨rfl, rfl⟩
  refine SQ.p rfl rfl (Pu.by (v := .bool false) fun _ => rfl) ?_
  refine SQ.p rfl rfl (Pu.pickF (v := .bool _) rfl rfl) ?_
  refine SQ.p rfl rfl (Pu.mv (v := .bool _) rfl) ?_
  refine SQ.p rfl rfl (Pu.mv (v := .slice _ _ _) rfl) ?_
  refine SQ.p rfl rfl (Pu.mv (v := .int _ _) rfl) ?_
  refine SQ.p rfl rfl (Pu.indexAddr rfl rfl rfl rfl (by decide) (by decide)) ?_
  refine SQ.r rfl rfl (Rd.load (v := .pointer _) rfl rfl (Hp.ins_same _ _ _) rfl) ?_
  refine SQ.e rfl rfl (Ef.call en11 (vs := [_]) rfl (up_zero _ _ _ _ _ _ _ _ _ _ _ (Hp.ins_ne (by first | assumption | (apply Ne.symm; assumption)) (Hp.ins_same _ _ _)))) ?_
  rintro _ _ ⟨rfl, rfl⟩
  refine SQ.p rfl rfl (Pu.by (v := .bool false) fun _ => rfl) ?_
  refine SQ.p rfl rfl (Pu.pickF (v := .bool _) rfl rfl) ?_
  refine SQ.nil ?_
  refine Gt.condF rfl ?_
  refine Gt.skip ?_
  refine Gt.inBlock ?_
  refine Gt.region (show SQ _ _ [0, 1, 2] _ _ _ from ?_)
  refine SQ.p rfl rfl (Pu.mv (v := .int _ _) rfl) ?_
  refine SQ.p rfl rfl (Pu.by (v := .int _ _) fun _ => rfl) ?_
  refine SQ.p rfl rfl (Pu.asg (v := .int _ _) rfl) ?_
  refine SQ.nil ?_
  refine Gt.inLoop ?_
  refine Gt.seq ?_
  refine Gt.seq ?_
  refine Gt.region (show SQ _ _ [0, 1, 2, 3] _ _ _ from ?_)
  refine SQ.p rfl rfl (Pu.mv (v := .int _ _) rfl) ?_
  refine SQ.p rfl rfl (Pu.mv (v := .slice _ _ _) rfl) ?_
  refine SQ.p rfl rfl (Pu.len rfl rfl) ?_
  refine SQ.p rfl rfl (Pu.by (v := .bool false) fun _ => rfl) ?_
  refine SQ.nil ?_
  refine Gt.condF rfl ?_
  refine Gt.exit rfl ?_
  refine Gt.seq ?_
  refine Gt.region (show SQ _ _ [0, 1, 2, 3, 4, 5, 6, 7, 8] _ _ _ from ?_)
  refine SQ.a rfl rfl (Al.buildSlice (vs := [_]) rfl rfl rfl rfl rfl (by decide) rfl) ?_
  intro b3 hb3
  obtain ⟨_, hb3⟩ := Hp.ins_none hb3
  obtain ⟨_, hb3⟩ := Hp.ins_none hb3
  refine SQ.p rfl rfl (Pu.build (vs := [_, _, _, _, _]) rfl rfl rfl rfl rfl) ?_
  refine SQ.p rfl rfl (Pu.build (vs := [_, _]) rfl rfl rfl rfl rfl) ?_
  refine SQ.e rfl rfl (Ef.call en12 (vs := [_, _, _]) rfl (snew _ _ _ _ _ _ _ (Hp.ins_same _ _ _) rfl)) ?_
  rintro _ _ ⟨lb, lt, lo, lm, hlb, rb, rc, rl, hrb, hrl, db, hdb, sb, hsb, rfl, rfl⟩
  obtain ⟨_, hlb⟩ := Hp.ins_none hlb
  obtain ⟨_, hlb⟩ := Hp.ins_none hlb
  obtain ⟨_, hlb⟩ := Hp.ins_none hlb
  obtain ⟨_, hrb⟩ := Hp.ins_none hrb
  obtain ⟨_, hrb⟩ := Hp.ins_none hrb
  obtain ⟨_, hrb⟩ := Hp.ins_none hrb
  obtain ⟨_, hrb⟩ := Hp.ins_none hrb
  obtain ⟨_, hdb⟩ := Hp.ins_none hdb
  obtain ⟨_, hdb⟩ := Hp.ins_none hdb
  obtain ⟨_, hdb⟩ := Hp.ins_none hdb
  obtain ⟨_, hdb⟩ := Hp.ins_none hdb
  obtain ⟨_, hdb⟩ := Hp.ins_none hdb
  obtain ⟨_, hsb⟩ := Hp.ins_none hsb
  obtain ⟨_, hsb⟩ := Hp.ins_none hsb
  obtain ⟨_, hsb⟩ := Hp.ins_none hsb
  obtain ⟨_, hsb⟩ := Hp.ins_none hsb
  obtain ⟨_, hsb⟩ := Hp.ins_none hsb
  obtain ⟨_, hsb⟩ := Hp.ins_none hsb
  refine SQ.p rfl rfl (Pu.mv (v := _) rfl) ?_
  refine SQ.p rfl rfl (Pu.extract (v := .pointer _) rfl rfl) ?_
  refine SQ.p rfl rfl (Pu.extract (v := .int _ _) rfl rfl) ?_
  refine SQ.p rfl rfl (Pu.asg (v := .pointer _) rfl) ?_
  refine SQ.p rfl rfl (Pu.asg (v := .int _ _) rfl) ?_
  refine SQ.nil ?_
  refine Gt.seq ?_
  refine Gt.region (show SQ _ _ [0, 1, 2, 3, 4, 5, 6, 7] _ _ _ from ?_)
  refine SQ.p rfl rfl (Pu.mv (v := .int _ _) rfl) ?_
  refine SQ.p rfl rfl (Pu.by (v := .bool true) fun _ => rfl) ?_
  refine SQ.p rfl rfl (Pu.mv (v := .bool _) rfl) ?_
  refine SQ.p rfl rfl (Pu.mv (v := .pointer _) rfl) ?_
  refine SQ.e rfl rfl (Ef.call en11 (vs := [_]) rfl (up_up _ _ _ _ _ _ [] ⟨#[]⟩ (Hp.ins_same _ _ _))) ?_
  rintro _ _ ⟨rfl, rfl⟩
  refine SQ.p rfl rfl (Pu.by (v := .bool true) fun _ => rfl) ?_
  refine SQ.p rfl rfl (Pu.pickT (v := .bool _) rfl rfl) ?_
  refine SQ.p rfl rfl (Pu.asg (v := .bool _) rfl) ?_
  refine SQ.nil ?_
  refine Gt.ret (Res.mk1 Tryz.func3 rfl rfl (.tmp (v := .bool true) rfl)) (Sub.ins' (Sub.ins' (Sub.ins' (Sub.ins' (Sub.ins' (Sub.ins' (Sub.ins' (Sub.refl _) hb1) hb2) hb3) hlb) hrb) hdb) hsb) ?_
  exact ⟨rfl, rfl⟩
end Go.Proofs.YtdheiajppnlbbaaGreat
