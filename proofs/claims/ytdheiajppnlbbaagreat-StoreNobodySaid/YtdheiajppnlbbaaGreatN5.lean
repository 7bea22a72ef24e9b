/-
  StoreNobody, part 5: a store made, failed, up again. Own work; the walks are printed by a program of this session (wip/tools/walk.py).
-/
import Derived.Test.YtdheiajppnlbbaaGreatN4
namespace Go.Proofs.YtdheiajppnlbbaaGreat
open Go Go.RowKit
set_option maxRecDepth 100000 in
theorem snew (H : Hp) (xb c E : Nat) (fr : Nat × Nat) (xc : List Value) (s : ByteArray) (hx : H xb = some (.cells xc.toArray E fr)) (hs : xc[0]? = some (.string s)) : Call Tryz.prog 12 #[.agg #[.slice (some ⟨xb, 0, none⟩) 1 c, nil0, .int .i64 1, .int .i64 0, .int .i64 0], .agg #[.int .i64 1, .int .i64 1], .int .i64 900] H (fun v H' => ∃ lb tr ro m, H lb = none ∧ ∃ rb rc rl, (H.ins lb (row (lC (some tr) ro nil0 1 0 0 1 1 (some m)) lT)) rb = none ∧ rl[0]? = some (.string s) ∧ ∃ db, ((H.ins lb (row (lC (some tr) ro nil0 1 0 0 1 1 (some m)) lT)).ins rb (row rl 9)) db = none ∧ ∃ sb, (((H.ins lb (row (lC (some tr) ro nil0 1 0 0 1 1 (some m)) lT)).ins rb (row rl 9)).ins db (row (dC nil0 0 900 true) dT)) sb = none ∧ v = .tuple #[pt sb, .int .i64 0] ∧ H' = (((H.ins lb (row (lC (some tr) ro nil0 1 0 0 1 1 (some m)) lT)).ins rb (row rl 9)).ins db (row (dC nil0 0 900 true) dT)).ins sb (row (sCells (.slice (some ⟨rb, 0, none⟩) 1 rc) nil0 1 0 0 1 1 (some ⟨lb, 0, none⟩) (some ⟨db, 0, none⟩) false) sT)) := by
  refine Call.enter Tryz.func12 rfl (n := 34) rfl (Nat.le_of_ble_eq_true rfl) ?_
  show Gt _ _ _ ⟨34, [(0, _), (1, _), (2, _)], []⟩ _ _
  refine Gt.seq ?_
  refine Gt.region (show SQ _ _ [0, 1, 2, 3] _ _ _ from ?_)
  refine SQ.a rfl rfl (Al.box (v := .agg _) (vs := [_, _, _, _, _]) rfl rfl) ?_
  intro b1 hb1
  have nxbb1 := Hp.ne_of hx hb1
  refine SQ.a rfl rfl (Al.box (v := .agg _) (vs := [_, _]) rfl rfl) ?_
  intro b2 hb2
  obtain ⟨_, hb2⟩ := Hp.ins_none hb2
  have nxbb2 := Hp.ne_of hx hb2
  refine SQ.p rfl rfl (Pu.asg (v := .pointer _) rfl) ?_
  refine SQ.p rfl rfl (Pu.asg (v := .int _ _) rfl) ?_
  refine SQ.nil ?_
  refine Gt.seq ?_
  refine Gt.region (show SQ _ _ [0, 1, 2, 3, 4, 5, 6, 7] _ _ _ from ?_)
  refine SQ.r rfl rfl (Rd.loadA (vs := [_, _, _, _, _]) rfl rfl rfl (Hp.ins_ne (by first | assumption | (apply Ne.symm; assumption)) (Hp.ins_same _ _ _)) rfl) ?_
  refine SQ.r rfl rfl (Rd.loadA (vs := [_, _]) rfl rfl rfl (Hp.ins_same _ _ _) rfl) ?_
  refine SQ.e rfl rfl (Ef.call en24 (vs := [_, _]) rfl (lnew _ _ _ _ _ _ _ (Hp.ins_ne (by first | assumption | (apply Ne.symm; assumption)) (Hp.ins_ne (by first | assumption | (apply Ne.symm; assumption)) hx)) hs)) ?_
  rintro _ _ ⟨lb, lbt, lbo, lbm, hlb, rfl, rfl⟩
  obtain ⟨_, hlb⟩ := Hp.ins_none hlb
  obtain ⟨_, hlb⟩ := Hp.ins_none hlb
  have nxblb := Hp.ne_of hx hlb
  refine SQ.p rfl rfl (Pu.mv (v := _) rfl) ?_
  refine SQ.p rfl rfl (Pu.extract (v := .pointer _) rfl rfl) ?_
  refine SQ.p rfl rfl (Pu.extract (v := .int _ _) rfl rfl) ?_
  refine SQ.p rfl rfl (Pu.asg (v := .pointer _) rfl) ?_
  refine SQ.p rfl rfl (Pu.asg (v := .int _ _) rfl) ?_
  refine SQ.nil ?_
  refine Gt.seq ?_
  refine Gt.seq ?_
  refine Gt.region (show SQ _ _ [0, 1] _ _ _ from ?_)
  refine SQ.p rfl rfl (Pu.mv (v := .int _ _) rfl) ?_
  refine SQ.p rfl rfl (Pu.by (v := .bool false) fun _ => rfl) ?_
  refine SQ.nil ?_
  refine Gt.condF rfl ?_
  refine Gt.skip ?_
  refine Gt.seq ?_
  refine Gt.draw (A := [[], [0], [0, 1], [], [3], [0, 1, 2, 3, 4], [0, 1, 2, 3, 4], [0, 1, 2, 3, 4, 5, 6], [0, 1, 2, 3, 4, 5, 6, 7], [0, 1, 2, 3, 4, 5, 6, 7, 8]]) [(0, .pure), (1, .read), (3, .pure), (4, .read), (2, .effect), (6, .pure), (5, .effect), (7, .effect), (8, .pure), (9, .effect)] mixed (by kernel_rfl) ?_
  refine DL.p rfl rfl (Pu.fieldAddr (k := 0) rfl rfl) ?_
  refine DL.r rfl rfl (Rd.load (v := .slice _ _ _) rfl rfl (Hp.ins_ne (by first | assumption | (apply Ne.symm; assumption)) (Hp.ins_ne (by first | assumption | (apply Ne.symm; assumption)) (Hp.ins_same _ _ _))) rfl) ?_
  refine DL.p rfl rfl (Pu.fieldAddr (k := 1) rfl rfl) ?_
  refine DL.r rfl rfl (Rd.load (v := .slice _ _ _) rfl rfl (Hp.ins_ne (by first | assumption | (apply Ne.symm; assumption)) (Hp.ins_ne (by first | assumption | (apply Ne.symm; assumption)) (Hp.ins_same _ _ _))) rfl) ?_
  refine DL.e rfl rfl (Ef.call en25 (vs := [_]) rfl (clone_one _ _ _ _ _ _ _ (Hp.ins_ne (by first | assumption | (apply Ne.symm; assumption)) (Hp.ins_ne (by first | assumption | (apply Ne.symm; assumption)) (Hp.ins_ne (by first | assumption | (apply Ne.symm; assumption)) hx))) hs)) ?_
  rintro _ _ ⟨rb, rbc, rbl, hrb, rfl, _hrb, rfl⟩
  obtain ⟨_, hrb⟩ := Hp.ins_none hrb
  obtain ⟨_, hrb⟩ := Hp.ins_none hrb
  obtain ⟨_, hrb⟩ := Hp.ins_none hrb
  have nxbrb := Hp.ne_of hx hrb
  refine ⟨(obl_cons (Rd.load rfl rfl (Hp.ins_ne (by first | assumption | (apply Ne.symm; assumption)) (Hp.ins_ne (by first | assumption | (apply Ne.symm; assumption)) (Hp.ins_ne (by first | assumption | (apply Ne.symm; assumption)) (Hp.ins_same _ _ _)))) rfl) (obl_anc rfl obl_nil)), ?_⟩
  refine DL.p rfl rfl (Pu.fieldAddr (k := 0) rfl rfl) ?_
  refine DL.e rfl rfl (Ef.call en25 (vs := [_]) rfl (clone_strs_nil _)) ?_
  rintro _ _ ⟨rfl, rfl⟩
  refine ⟨(obl_anc rfl (obl_anc rfl obl_nil)), ?_⟩
  refine DL.e0 rfl rfl (Ef.sto (v := .slice _ _ _) (vs := [_]) (c' := [_, _, _, _, _]) rfl rfl rfl rfl (Hp.ins_ne (by first | assumption | (apply Ne.symm; assumption)) (Hp.ins_ne (by first | assumption | (apply Ne.symm; assumption)) (Hp.ins_ne (by first | assumption | (apply Ne.symm; assumption)) (Hp.ins_same _ _ _)))) (Nat.le_of_ble_eq_true rfl) rfl rfl) ?_
  rintro _ _ ⟨rfl, rfl⟩
  refine ⟨(obl_anc rfl (obl_anc rfl obl_nil)), ?_⟩
  refine DL.p rfl rfl (Pu.fieldAddr (k := 1) rfl rfl) ?_
  refine DL.e0 rfl rfl (Ef.sto (v := .slice _ _ _) (vs := [_]) (c' := [_, _, _, _, _]) rfl rfl rfl rfl (Hp.ins_same _ _ _) (Nat.le_of_ble_eq_true rfl) rfl rfl) ?_
  rintro _ _ ⟨rfl, rfl⟩
  rw [Hp.ins_ins]
  refine ⟨(obl_anc rfl (obl_anc rfl obl_nil)), ?_⟩
  refine DL.nil ?_
  refine Gt.seq ?_
  refine Gt.draw (A := [[], [], [], [], [3], [0, 1, 2, 3, 4], [0, 1, 2, 3, 4, 5], [0, 1, 2, 3, 4, 5, 6], [0, 1, 2, 3, 4, 5, 6, 7]]) [(0, .read), (1, .read), (2, .pure), (3, .pure), (4, .effect), (5, .pure), (6, .alloc), (7, .pure), (8, .pure)] mixed (by kernel_rfl) ?_
  refine DL.r rfl rfl (Rd.loadA (vs := [_, _, _, _, _]) rfl rfl rfl (Hp.ins_same _ _ _) rfl) ?_
  refine DL.r rfl rfl (Rd.loadA (vs := [_, _]) rfl rfl rfl (Hp.ins_ne (by first | assumption | (apply Ne.symm; assumption)) (Hp.ins_ne (by first | assumption | (apply Ne.symm; assumption)) (Hp.ins_ne (by first | assumption | (apply Ne.symm; assumption)) (Hp.ins_same _ _ _)))) rfl) ?_
  refine DL.p rfl rfl (Pu.mv (v := .pointer _) rfl) ?_
  refine DL.p rfl rfl (Pu.mv (v := .int _ _) rfl) ?_
  refine DL.e rfl rfl (Ef.call en26 (vs := [_]) rfl (dnew _)) ?_
  rintro _ _ ⟨db, hdb, rfl, rfl⟩
  obtain ⟨_, hdb⟩ := Hp.ins_none hdb
  obtain ⟨_, hdb⟩ := Hp.ins_none hdb
  obtain ⟨_, hdb⟩ := Hp.ins_none hdb
  obtain ⟨_, hdb⟩ := Hp.ins_none hdb
  obtain ⟨_, hdb⟩ := Hp.ins_none hdb
  have nxbdb := Hp.ne_of hx hdb
  refine ⟨(obl_cons (Rd.loadA rfl rfl rfl (Hp.ins_ne (by first | assumption | (apply Ne.symm; assumption)) (Hp.ins_ne (by first | assumption | (apply Ne.symm; assumption)) (Hp.ins_ne (by first | assumption | (apply Ne.symm; assumption)) (Hp.ins_ne (by first | assumption | (apply Ne.symm; assumption)) (Hp.ins_same _ _ _))))) rfl) (obl_cons (Rd.loadA rfl rfl rfl (Hp.ins_ne (by first | assumption | (apply Ne.symm; assumption)) (Hp.ins_same _ _ _)) rfl) obl_nil)), ?_⟩
  refine DL.p rfl rfl (Pu.build (vs := [_, _, _, _, _, _, _, _, _, _]) rfl rfl rfl rfl rfl) ?_
  refine DL.a rfl rfl (Al.box (v := .agg _) (vs := [_, _, _, _, _, _, _, _, _, _]) rfl rfl) ?_
  intro b3 hb3
  obtain ⟨_, hb3⟩ := Hp.ins_none hb3
  obtain ⟨_, hb3⟩ := Hp.ins_none hb3
  obtain ⟨_, hb3⟩ := Hp.ins_none hb3
  obtain ⟨_, hb3⟩ := Hp.ins_none hb3
  obtain ⟨_, hb3⟩ := Hp.ins_none hb3
  obtain ⟨_, hb3⟩ := Hp.ins_none hb3
  have nxbb3 := Hp.ne_of hx hb3
  refine DL.p rfl rfl (Pu.asg (v := .pointer _) rfl) ?_
  refine DL.p rfl rfl (Pu.asg (v := .int _ _) rfl) ?_
  refine DL.nil ?_
  refine Gt.ret (Res.mk2 Tryz.func12 rfl rfl (.tmp (v := .pointer _) rfl) (.tmp (v := .int _ _) rfl)) (Sub.ins2 (Sub.ins2 (Sub.ins' (Sub.ins2 (Sub.ins2 (Sub.ins' (Sub.ins' (Sub.refl _) hb1) hb2))) (Hp.ins_ne (by first | assumption | (apply Ne.symm; assumption)) (Hp.ins_ne (by first | assumption | (apply Ne.symm; assumption)) hb1))))) ?_
  exact ⟨lb, _, _, _, hlb, rb, _, _, (Hp.ins_ne (by first | assumption | (apply Ne.symm; assumption)) hrb), _hrb, db, (Hp.ins_ne (by first | assumption | (apply Ne.symm; assumption)) (Hp.ins_ne (by first | assumption | (apply Ne.symm; assumption)) hdb)), b3, (Hp.ins_ne (by first | assumption | (apply Ne.symm; assumption)) (Hp.ins_ne (by first | assumption | (apply Ne.symm; assumption)) (Hp.ins_ne (by first | assumption | (apply Ne.symm; assumption)) hb3))), rfl, rfl⟩
set_option maxRecDepth 100000 in
theorem frames_nil (H : Hp) : Call Tryz.prog 42 #[nil0] H (fun v H' => ∃ b, H b = none ∧ v = .func (.func 71) #[] #[pt b] ∧ H' = H.ins b (row [nil0] 22)) := by
  refine Call.enter Tryz.func42 rfl (n := 4) rfl (Nat.le_of_ble_eq_true rfl) ?_
  show Gt _ _ _ ⟨4, [(0, _)], []⟩ _ _
  refine Gt.seq ?_
  refine Gt.region (show SQ _ _ [0, 1] _ _ _ from ?_)
  refine SQ.a rfl rfl (Al.box (v := .slice _ _ _) (vs := [_]) rfl rfl) ?_
  intro b1 hb1
  refine SQ.p rfl rfl (Pu.asg (v := _) rfl) ?_
  refine SQ.nil ?_
  refine Gt.seq ?_
  refine Gt.region (show SQ _ _ [0, 1] _ _ _ from ?_)
  refine SQ.p rfl rfl (Pu.makeFunc (vs := []) (us := [_]) rfl rfl) ?_
  refine SQ.p rfl rfl (Pu.asg (v := _) rfl) ?_
  refine SQ.nil ?_
  refine Gt.ret (Res.mk1 Tryz.func42 rfl rfl (.tmp (v := _) rfl)) (Sub.ins2 (Sub.refl _)) ?_
  exact ⟨b1, hb1, rfl, rfl⟩
set_option maxRecDepth 100000 in
theorem frames1_nil (H : Hp) (y : Value) (b : Nat) (hb : H b = some (row [nil0] 22)) : Call Tryz.prog 71 #[y, pt b] H (Same (.tuple #[]) H) := by
  refine Call.enter Tryz.func71 rfl (n := 41) rfl (Nat.le_of_ble_eq_true rfl) ?_
  show Gt _ _ _ ⟨41, [(0, _), (1, _)], []⟩ _ _
  refine Gt.seq ?_
  refine Gt.region (show SQ _ _ [0] _ _ _ from ?_)
  refine SQ.p rfl rfl (Pu.asg (v := .int _ _) rfl) ?_
  refine SQ.nil ?_
  refine Gt.block ?_
  refine Gt.loop ?_
  refine Gt.inLoop ?_
  refine Gt.seq ?_
  refine Gt.seq ?_
  refine Gt.region (show SQ _ _ [0, 1, 2, 3, 4] _ _ _ from ?_)
  refine SQ.r rfl rfl (Rd.load (v := .slice _ _ _) rfl rfl hb rfl) ?_
  refine SQ.p rfl rfl (Pu.len rfl rfl) ?_
  refine SQ.p rfl rfl (Pu.mv (v := .int _ _) rfl) ?_
  refine SQ.p rfl rfl (Pu.by (v := .int _ _) fun _ => rfl) ?_
  refine SQ.p rfl rfl (Pu.by (v := .bool false) fun _ => rfl) ?_
  refine SQ.nil ?_
  refine Gt.condF rfl ?_
  refine Gt.exit rfl ?_
  refine Gt.end (Res.none Tryz.func71 rfl rfl) (Sub.refl _) ?_
  exact ⟨rfl, rfl⟩
set_option maxRecDepth 100000 in
theorem scan_nil (H : Hp) : Call Tryz.prog 20 #[nil0] H (Same (.tuple #[nil0, .int .i64 0]) H) := by
  refine Call.enter Tryz.func20 rfl (n := 20) rfl (Nat.le_of_ble_eq_true rfl) ?_
  show Gt _ _ _ ⟨20, [(0, _)], []⟩ _ _
  refine Gt.seq ?_
  refine Gt.region (show SQ _ _ [0, 1] _ _ _ from ?_)
  refine SQ.p rfl rfl (Pu.asg (v := .slice _ _ _) rfl) ?_
  refine SQ.p rfl rfl (Pu.asg (v := .int _ _) rfl) ?_
  refine SQ.nil ?_
  refine Gt.seq ?_
  refine Gt.region (show SQ _ _ [0] _ _ _ from ?_)
  refine SQ.a rfl rfl (Al.alloc (vs := [_]) rfl rfl) ?_
  intro b1 hb1
  refine SQ.nil ?_
  refine Gt.seq ?_
  refine Gt.region (show SQ _ _ [0, 1] _ _ _ from ?_)
  refine SQ.a rfl rfl (Al.alloc (vs := [_]) rfl rfl) ?_
  intro b2 hb2
  obtain ⟨_, hb2⟩ := Hp.ins_none hb2
  refine SQ.e0 rfl rfl (Ef.sto (v := .int _ _) (vs := [_]) (c' := [_]) rfl rfl rfl rfl (Hp.ins_same _ _ _) (Nat.le_of_ble_eq_true rfl) rfl rfl) ?_
  rintro _ _ ⟨rfl, rfl⟩
  rw [Hp.ins_ins]
  refine SQ.nil ?_
  refine Gt.seq ?_
  refine Gt.seq ?_
  refine Gt.region (show SQ _ _ [0, 1] _ _ _ from ?_)
  refine SQ.p rfl rfl (Pu.mv (v := .slice _ _ _) rfl) ?_
  refine SQ.e rfl rfl (Ef.call en42 (vs := [_]) rfl (frames_nil _)) ?_
  rintro _ _ ⟨fb, hfb, rfl, rfl⟩
  obtain ⟨_, hfb⟩ := Hp.ins_none hfb
  obtain ⟨_, hfb⟩ := Hp.ins_none hfb
  refine SQ.nil ?_
  refine Gt.block ?_
  refine Gt.rangeFunc (fi := []) (ca := [_]) rfl en71 ?_
  rintro D l _ hD hl hrec ⟨o, rfl⟩
  obtain ⟨tmps, _, hrec⟩ := hrec
  obtain ⟨_, hD⟩ := Hp.ins_none hD
  obtain ⟨_, hD⟩ := Hp.ins_none hD
  obtain ⟨_, hD⟩ := Hp.ins_none hD
  obtain ⟨_, hl⟩ := Hp.ins_none hl
  obtain ⟨_, hl⟩ := Hp.ins_none hl
  obtain ⟨_, hl⟩ := Hp.ins_none hl
  obtain ⟨_, hl⟩ := Hp.ins_none hl
  refine (frames1_nil _ _ _ (Hp.ins_ne (by first | assumption | (apply Ne.symm; assumption)) (Hp.ins_ne (by first | assumption | (apply Ne.symm; assumption)) (Hp.ins_same _ _ _)))).mono ?_
  rintro _ _ ⟨rfl, rfl⟩
  refine ⟨_, _, hrec, (fun h => by cases h), (Sub.ins' (Sub.ins' (Sub.refl _) (Hp.ins_ne (by first | assumption | (apply Ne.symm; assumption)) (Hp.ins_ne (by first | assumption | (apply Ne.symm; assumption)) (Hp.ins_ne (by first | assumption | (apply Ne.symm; assumption)) (Hp.ins_ne (by first | assumption | (apply Ne.symm; assumption)) hl))))) (Hp.ins_ne (by first | assumption | (apply Ne.symm; assumption)) (Hp.ins_ne (by first | assumption | (apply Ne.symm; assumption)) (Hp.ins_ne (by first | assumption | (apply Ne.symm; assumption)) (Hp.ins_ne (by first | assumption | (apply Ne.symm; assumption)) hl))))), ?_⟩
  refine Gt.inBlock ?_
  refine Gt.seq ?_
  refine Gt.draw (A := [[], [], [0], [0, 1, 2]]) [(0, .read), (1, .read), (2, .pure), (3, .pure)] mixed (by kernel_rfl) ?_
  refine DL.r rfl rfl (Rd.load (v := .slice _ _ _) rfl rfl (Hp.ins_ne (by first | assumption | (apply Ne.symm; assumption)) (Hp.ins_ne (by first | assumption | (apply Ne.symm; assumption)) (Hp.ins_ne (by first | assumption | (apply Ne.symm; assumption)) (Hp.ins_same _ _ _)))) rfl) ?_
  refine DL.r rfl rfl (Rd.load (v := .int _ _) rfl rfl (Hp.ins_ne (by first | assumption | (apply Ne.symm; assumption)) (Hp.ins_ne (by first | assumption | (apply Ne.symm; assumption)) (Hp.ins_same _ _ _))) rfl) ?_
  refine DL.p rfl rfl (Pu.asg (v := .slice _ _ _) rfl) ?_
  refine DL.p rfl rfl (Pu.asg (v := .int _ _) rfl) ?_
  refine DL.nil ?_
  refine Gt.retD rfl (Hp.ins_same _ _ _) (Res.mk2 Tryz.func20 rfl rfl (.tmp (v := .slice _ _ _) rfl) (.tmp (v := .int _ _) rfl)) (Sub.ins' (Sub.ins' (Sub.ins' (Sub.ins' (Sub.ins' (Sub.refl _) hb1) hb2) hfb) hD) hD) ?_
  exact ⟨rfl, rfl⟩
set_option maxRecDepth 100000 in
theorem recover_nil (H : Hp) (db : Nat) (hd : H db = some (row (dC nil0 0 900 true) dT)) : Call Tryz.prog 23 #[pt db] H (Same (.tuple #[nil0, .int .i64 0]) (H.ins db (row (dC nil0 0 900 true) dT))) := by
  refine Call.enter Tryz.func23 rfl (n := 19) rfl (Nat.le_of_ble_eq_true rfl) ?_
  show Gt _ _ _ ⟨19, [(0, _)], []⟩ _ _
  refine Gt.seq ?_
  refine Gt.region (show SQ _ _ [0, 1] _ _ _ from ?_)
  refine SQ.p rfl rfl (Pu.asg (v := .slice _ _ _) rfl) ?_
  refine SQ.p rfl rfl (Pu.asg (v := .int _ _) rfl) ?_
  refine SQ.nil ?_
  refine Gt.seq ?_
  refine Gt.seq ?_
  refine Gt.region (show SQ _ _ [0, 1, 2] _ _ _ from ?_)
  refine SQ.p rfl rfl (Pu.mv (v := .pointer _) rfl) ?_
  refine SQ.e rfl rfl (Ef.call en34 (vs := [_, _]) rfl (dappend_nil _ _ hd)) ?_
  rintro _ _ ⟨rfl, rfl⟩
  refine SQ.p rfl rfl (Pu.by (v := .bool false) fun _ => rfl) ?_
  refine SQ.nil ?_
  refine Gt.condF rfl ?_
  refine Gt.skip ?_
  refine Gt.seq ?_
  refine Gt.region (show SQ _ _ [0, 1, 2, 3, 4, 5, 6, 7] _ _ _ from ?_)
  refine SQ.p rfl rfl (Pu.mv (v := .pointer _) rfl) ?_
  refine SQ.e rfl rfl (Ef.call en21 (vs := [_]) rfl (dread _ _ (Hp.ins_same _ _ _))) ?_
  rintro _ _ ⟨rfl, rfl⟩
  refine SQ.e rfl rfl (Ef.call en20 (vs := [_]) rfl (scan_nil _)) ?_
  rintro _ _ ⟨rfl, rfl⟩
  refine SQ.p rfl rfl (Pu.mv (v := _) rfl) ?_
  refine SQ.p rfl rfl (Pu.extract (v := .slice _ _ _) rfl rfl) ?_
  refine SQ.p rfl rfl (Pu.extract (v := .int _ _) rfl rfl) ?_
  refine SQ.p rfl rfl (Pu.asg (v := .slice _ _ _) rfl) ?_
  refine SQ.p rfl rfl (Pu.asg (v := .int _ _) rfl) ?_
  refine SQ.nil ?_
  refine Gt.seq ?_
  refine Gt.region (show SQ _ _ [0, 1, 2, 3, 4, 5] _ _ _ from ?_)
  refine SQ.p rfl rfl (Pu.mv (v := .slice _ _ _) rfl) ?_
  refine SQ.p rfl rfl (Pu.mv (v := .pointer _) rfl) ?_
  refine SQ.p rfl rfl (Pu.mv (v := .int _ _) rfl) ?_
  refine SQ.e rfl rfl (Ef.call en44 (vs := [_, _]) rfl (dcut _ _ (Hp.ins_same _ _ _))) ?_
  rintro _ _ ⟨rfl, rfl⟩
  rw [Hp.ins_ins]
  refine SQ.p rfl rfl (Pu.asg (v := .slice _ _ _) rfl) ?_
  refine SQ.p rfl rfl (Pu.asg (v := .int _ _) rfl) ?_
  refine SQ.nil ?_
  refine Gt.ret (Res.mk2 Tryz.func23 rfl rfl (.tmp (v := .slice _ _ _) rfl) (.tmp (v := .int _ _) rfl)) (Sub.ins2 (Sub.refl _)) ?_
  exact ⟨rfl, rfl⟩
end Go.Proofs.YtdheiajppnlbbaaGreat
