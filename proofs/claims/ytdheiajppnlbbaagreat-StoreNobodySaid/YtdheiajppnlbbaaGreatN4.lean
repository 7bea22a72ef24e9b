/-
  StoreNobody, part 4: learners and stores, made; a journal of nothing. Own work; the walks are printed by a program of this session (wip/tools/walk.py).
-/
import Derived.Test.YtdheiajppnlbbaaGreatN3
namespace Go.Proofs.YtdheiajppnlbbaaGreat
open Go Go.RowKit
set_option maxRecDepth 100000 in
theorem clone_one (H : Hp) (xb c E : Nat) (fr : Nat × Nat) (xc : List Value) (s : ByteArray) (hx : H xb = some (.cells xc.toArray E fr)) (hs : xc[0]? = some (.string s)) : Call Tryz.prog 25 #[.slice (some ⟨xb, 0, none⟩) 1 c] H (fun v H' => ∃ b cap cur, H b = none ∧ v = .slice (some ⟨b, 0, none⟩) 1 cap ∧ cur[0]? = some (.string s) ∧ H' = H.ins b (row cur 9)) := by
  refine Call.enter Tryz.func25 rfl (n := 8) rfl (Nat.le_of_ble_eq_true rfl) ?_
  show Gt _ _ _ ⟨8, [(0, _)], []⟩ _ _
  refine Gt.seq ?_
  refine Gt.region (show SQ _ _ [0] _ _ _ from ?_)
  refine SQ.p rfl rfl (Pu.asg (v := .slice _ _ _) rfl) ?_
  refine SQ.nil ?_
  refine Gt.seq ?_
  refine Gt.seq ?_
  refine Gt.region (show SQ _ _ [0, 1] _ _ _ from ?_)
  refine SQ.p rfl rfl (Pu.mv (v := .slice _ _ _) rfl) ?_
  refine SQ.p rfl rfl (Pu.by (v := .bool false) fun _ => rfl) ?_
  refine SQ.nil ?_
  refine Gt.condF rfl ?_
  refine Gt.skip ?_
  refine Gt.seq ?_
  refine Gt.region (show SQ _ _ [0, 1, 2, 3] _ _ _ from ?_)
  refine SQ.a rfl rfl (Al.buildSlice (vs := []) rfl rfl rfl rfl rfl (by decide) rfl) ?_
  intro b1 hb1
  have nxbb1 := Hp.ne_of hx hb1
  refine SQ.p rfl rfl (Pu.mv (v := .slice _ _ _) rfl) ?_
  refine SQ.e rfl rfl (Ef.app (v := .slice _ _ _) elStr rfl (own_new (Hp.ins_same _ _ _) rfl 1) rfl (Hp.ins_ne (by first | assumption | (apply Ne.symm; assumption)) hx) (take_one hs) rfl (by simp [Value.oneCell']) (by decide) (by decide) (by decide)) ?_
  rintro _ _ ⟨b, cap, cur, hb, _, _, _, hcur, rfl, rfl⟩
  have hb := own_fresh hb1 hb
  have hcur := take_head hcur
  rw [own_gone hb1]
  refine SQ.p rfl rfl (Pu.asg (v := .slice _ _ _) rfl) ?_
  refine SQ.nil ?_
  refine Gt.ret (Res.mk1 Tryz.func25 rfl rfl (.tmp (v := .slice _ _ _) rfl)) (Sub.ins2 (Sub.refl _)) ?_
  exact ⟨b, cap, cur, hb, rfl, hcur, rfl⟩
set_option maxRecDepth 100000 in
theorem tnew (H : Hp) : Call Tryz.prog 46 #[] H (fun v H' => ∃ mb tb, H mb = none ∧ (H.ins mb (.map #[] 0)) tb = none ∧ v = pt tb ∧ H' = (H.ins mb (.map #[] 0)).ins tb (row [.map (some mb)] tT)) := by
  refine Call.enter Tryz.func46 rfl (n := 4) rfl (Nat.le_of_ble_eq_true rfl) ?_
  show Gt _ _ _ ⟨4, [], []⟩ _ _
  refine Gt.seq ?_
  refine Gt.region (show SQ _ _ [0] _ _ _ from ?_)
  refine SQ.p rfl rfl (Pu.asg (v := .pointer _) rfl) ?_
  refine SQ.nil ?_
  refine Gt.seq ?_
  refine Gt.region (show SQ _ _ [0, 1, 2, 3] _ _ _ from ?_)
  refine SQ.a rfl rfl (Al.makeMap rfl) ?_
  intro b1 hb1
  refine SQ.p rfl rfl (Pu.build (vs := [_]) rfl rfl rfl rfl rfl) ?_
  refine SQ.a rfl rfl (Al.box (v := .agg _) (vs := [_]) rfl rfl) ?_
  intro b2 hb2
  obtain ⟨_, hb2⟩ := Hp.ins_none hb2
  refine SQ.p rfl rfl (Pu.asg (v := .pointer _) rfl) ?_
  refine SQ.nil ?_
  refine Gt.ret (Res.mk1 Tryz.func46 rfl rfl (.tmp (v := .pointer _) rfl)) (Sub.ins2 (Sub.ins2 (Sub.refl _))) ?_
  exact ⟨b1, b2, hb1, (Hp.ins_ne (by first | assumption | (apply Ne.symm; assumption)) hb2), rfl, rfl⟩
set_option maxRecDepth 100000 in
theorem rcheck (H : Hp) : Call Tryz.prog 45 #[.agg #[.int .i64 1, .int .i64 1], .int .i64 1, .int .i64 1] H (Same (.int .i64 0) H) := by
  refine Call.enter Tryz.func45 rfl (n := 48) rfl (Nat.le_of_ble_eq_true rfl) ?_
  show Gt _ _ _ ⟨48, [(0, _), (1, _), (2, _)], []⟩ _ _
  refine Gt.seq ?_
  refine Gt.region (show SQ _ _ [0, 1] _ _ _ from ?_)
  refine SQ.a rfl rfl (Al.box (v := .agg _) (vs := [_, _]) rfl rfl) ?_
  intro b1 hb1
  refine SQ.p rfl rfl (Pu.asg (v := .int _ _) rfl) ?_
  refine SQ.nil ?_
  refine Gt.seq ?_
  refine Gt.seq ?_
  refine Gt.region (show SQ _ _ [0, 1, 2, 3, 4, 5, 6, 7, 8, 9, 10] _ _ _ from ?_)
  refine SQ.p rfl rfl (Pu.mv (v := .int _ _) rfl) ?_
  refine SQ.p rfl rfl (Pu.by (v := .bool false) fun _ => rfl) ?_
  refine SQ.p rfl rfl (Pu.mv (v := .bool _) rfl) ?_
  refine SQ.p rfl rfl (Pu.mv (v := .int _ _) rfl) ?_
  refine SQ.p rfl rfl (Pu.by (v := .bool false) fun _ => rfl) ?_
  refine SQ.p rfl rfl (Pu.pickF (v := .bool _) rfl rfl) ?_
  refine SQ.p rfl rfl (Pu.mv (v := .bool _) rfl) ?_
  refine SQ.p rfl rfl (Pu.mv (v := .int _ _) rfl) ?_
  refine SQ.p rfl rfl (Pu.mv (v := .int _ _) rfl) ?_
  refine SQ.p rfl rfl (Pu.by (v := .bool false) fun _ => rfl) ?_
  refine SQ.p rfl rfl (Pu.pickF (v := .bool _) rfl rfl) ?_
  refine SQ.nil ?_
  refine Gt.condF rfl ?_
  refine Gt.skip ?_
  refine Gt.seq ?_
  refine Gt.block ?_
  refine Gt.seq ?_
  refine Gt.region (show SQ _ _ [0, 1, 2, 3, 4, 5, 6, 7, 8, 9, 10, 11, 12, 13, 14, 15] _ _ _ from ?_)
  refine SQ.p rfl rfl (Pu.fieldAddr (k := 0) rfl rfl) ?_
  refine SQ.r rfl rfl (Rd.load (v := .int _ _) rfl rfl (Hp.ins_same _ _ _) rfl) ?_
  refine SQ.p rfl rfl (Pu.by (v := .bool true) fun _ => rfl) ?_
  refine SQ.p rfl rfl (Pu.mv (v := .bool _) rfl) ?_
  refine SQ.p rfl rfl (Pu.fieldAddr (k := 1) rfl rfl) ?_
  refine SQ.r rfl rfl (Rd.load (v := .int _ _) rfl rfl (Hp.ins_same _ _ _) rfl) ?_
  refine SQ.p rfl rfl (Pu.mv (v := .int _ _) rfl) ?_
  refine SQ.p rfl rfl (Pu.by (v := .bool true) fun _ => rfl) ?_
  refine SQ.p rfl rfl (Pu.pickT (v := .bool _) rfl rfl) ?_
  refine SQ.p rfl rfl (Pu.mv (v := .bool _) rfl) ?_
  refine SQ.p rfl rfl (Pu.fieldAddr (k := 1) rfl rfl) ?_
  refine SQ.r rfl rfl (Rd.load (v := .int _ _) rfl rfl (Hp.ins_same _ _ _) rfl) ?_
  refine SQ.p rfl rfl (Pu.mv (v := .int _ _) rfl) ?_
  refine SQ.p rfl rfl (Pu.by (v := .bool true) fun _ => rfl) ?_
  refine SQ.p rfl rfl (Pu.pickT (v := .bool _) rfl rfl) ?_
  refine SQ.p rfl rfl (Pu.asg (v := .bool _) rfl) ?_
  refine SQ.nil ?_
  refine Gt.condT rfl ?_
  refine Gt.seq ?_
  refine Gt.region (show SQ _ _ [0] _ _ _ from ?_)
  refine SQ.p rfl rfl (Pu.asg (v := .int _ _) rfl) ?_
  refine SQ.nil ?_
  refine Gt.ret (Res.mk1 Tryz.func45 rfl rfl (.tmp (v := .int _ _) rfl)) (Sub.ins' (Sub.refl _) hb1) ?_
  exact ⟨rfl, rfl⟩
set_option maxRecDepth 100000 in
theorem lnew (H : Hp) (xb c E : Nat) (fr : Nat × Nat) (xc : List Value) (s : ByteArray) (hx : H xb = some (.cells xc.toArray E fr)) (hs : xc[0]? = some (.string s)) : Call Tryz.prog 24 #[.agg #[.slice (some ⟨xb, 0, none⟩) 1 c, nil0, .int .i64 1, .int .i64 0, .int .i64 0], .agg #[.int .i64 1, .int .i64 1]] H (fun v H' => ∃ lb tr ro m, H lb = none ∧ v = .tuple #[pt lb, .int .i64 0] ∧ H' = H.ins lb (row (lC (some tr) ro nil0 1 0 0 1 1 (some m)) lT)) := by
  refine Call.enter Tryz.func24 rfl (n := 50) rfl (Nat.le_of_ble_eq_true rfl) ?_
  show Gt _ _ _ ⟨50, [(0, _), (1, _)], []⟩ _ _
  refine Gt.seq ?_
  refine Gt.region (show SQ _ _ [0, 1, 2, 3] _ _ _ from ?_)
  refine SQ.a rfl rfl (Al.box (v := .agg _) (vs := [_, _, _, _, _]) rfl rfl) ?_
  intro b1 hb1
  have nxbb1 := Hp.ne_of hx hb1
  refine SQ.a rfl rfl (Al.box (v := .agg _) (vs := [_, _]) rfl rfl) ?_
  intro b2 hb2
  obtain ⟨_, hb2⟩ := Hp.ins_none hb2
  have nxbb2 := Hp.ne_of hx hb2
  refine SQ.p rfl rfl (Pu.asg (v := .pointer _) rfl) ?_
  refine SQ.p rfl rfl (Pu.asg (v := .int _ _) rfl) ?_
  refine SQ.nil ?_
  refine Gt.seq ?_
  refine Gt.region (show SQ _ _ [0, 1, 2, 3] _ _ _ from ?_)
  refine SQ.p rfl rfl (Pu.fieldAddr (k := 0) rfl rfl) ?_
  refine SQ.r rfl rfl (Rd.load (v := .slice _ _ _) rfl rfl (Hp.ins_ne (by first | assumption | (apply Ne.symm; assumption)) (Hp.ins_same _ _ _)) rfl) ?_
  refine SQ.p rfl rfl (Pu.len rfl rfl) ?_
  refine SQ.p rfl rfl (Pu.asg (v := .int _ _) rfl) ?_
  refine SQ.nil ?_
  refine Gt.seq ?_
  refine Gt.seq ?_
  refine Gt.region (show SQ _ _ [0, 1, 2, 3, 4, 5, 6, 7, 8, 9, 10, 11, 12, 13, 14, 15, 16] _ _ _ from ?_)
  refine SQ.p rfl rfl (Pu.mv (v := .int _ _) rfl) ?_
  refine SQ.p rfl rfl (Pu.by (v := .bool false) fun _ => rfl) ?_
  refine SQ.p rfl rfl (Pu.mv (v := .bool _) rfl) ?_
  refine SQ.p rfl rfl (Pu.mv (v := .int _ _) rfl) ?_
  refine SQ.p rfl rfl (Pu.by (v := .bool false) fun _ => rfl) ?_
  refine SQ.p rfl rfl (Pu.pickF (v := .bool _) rfl rfl) ?_
  refine SQ.p rfl rfl (Pu.mv (v := .bool _) rfl) ?_
  refine SQ.p rfl rfl (Pu.fieldAddr (k := 2) rfl rfl) ?_
  refine SQ.r rfl rfl (Rd.load (v := .int _ _) rfl rfl (Hp.ins_ne (by first | assumption | (apply Ne.symm; assumption)) (Hp.ins_same _ _ _)) rfl) ?_
  refine SQ.p rfl rfl (Pu.by (v := .bool false) fun _ => rfl) ?_
  refine SQ.p rfl rfl (Pu.pickF (v := .bool _) rfl rfl) ?_
  refine SQ.p rfl rfl (Pu.mv (v := .bool _) rfl) ?_
  refine SQ.p rfl rfl (Pu.fieldAddr (k := 2) rfl rfl) ?_
  refine SQ.r rfl rfl (Rd.load (v := .int _ _) rfl rfl (Hp.ins_ne (by first | assumption | (apply Ne.symm; assumption)) (Hp.ins_same _ _ _)) rfl) ?_
  refine SQ.p rfl rfl (Pu.mv (v := .int _ _) rfl) ?_
  refine SQ.p rfl rfl (Pu.by (v := .bool false) fun _ => rfl) ?_
  refine SQ.p rfl rfl (Pu.pickF (v := .bool _) rfl rfl) ?_
  refine SQ.nil ?_
  refine Gt.condF rfl ?_
  refine Gt.skip ?_
  refine Gt.seq ?_
  refine Gt.seq ?_
  refine Gt.region (show SQ _ _ [0, 1, 2, 3, 4, 5] _ _ _ from ?_)
  refine SQ.r rfl rfl (Rd.loadA (vs := [_, _]) rfl rfl rfl (Hp.ins_same _ _ _) rfl) ?_
  refine SQ.p rfl rfl (Pu.mv (v := .int _ _) rfl) ?_
  refine SQ.p rfl rfl (Pu.fieldAddr (k := 2) rfl rfl) ?_
  refine SQ.r rfl rfl (Rd.load (v := .int _ _) rfl rfl (Hp.ins_ne (by first | assumption | (apply Ne.symm; assumption)) (Hp.ins_same _ _ _)) rfl) ?_
  refine SQ.e rfl rfl (Ef.call en45 (vs := [_, _, _]) rfl (rcheck _)) ?_
  rintro _ _ ⟨rfl, rfl⟩
  refine SQ.p rfl rfl (Pu.asg (v := .int _ _) rfl) ?_
  refine SQ.nil ?_
  refine Gt.seq ?_
  refine Gt.region (show SQ _ _ [0, 1] _ _ _ from ?_)
  refine SQ.p rfl rfl (Pu.mv (v := .int _ _) rfl) ?_
  refine SQ.p rfl rfl (Pu.by (v := .bool false) fun _ => rfl) ?_
  refine SQ.nil ?_
  refine Gt.condF rfl ?_
  refine Gt.skip ?_
  refine Gt.seq ?_
  refine Gt.draw (A := [[], [0], [0, 1], [], [3], [0, 1, 2, 3, 4], [0, 1, 2, 3, 4], [0, 1, 2, 3, 4, 5, 6], [0, 1, 2, 3, 4, 5, 6, 7], [0, 1, 2, 3, 4, 5, 6, 7, 8]]) [(0, .pure), (1, .read), (3, .pure), (4, .read), (2, .effect), (6, .pure), (5, .effect), (7, .effect), (8, .pure), (9, .effect)] mixed (by kernel_rfl) ?_
  refine DL.p rfl rfl (Pu.fieldAddr (k := 0) rfl rfl) ?_
  refine DL.r rfl rfl (Rd.load (v := .slice _ _ _) rfl rfl (Hp.ins_ne (by first | assumption | (apply Ne.symm; assumption)) (Hp.ins_same _ _ _)) rfl) ?_
  refine DL.p rfl rfl (Pu.fieldAddr (k := 1) rfl rfl) ?_
  refine DL.r rfl rfl (Rd.load (v := .slice _ _ _) rfl rfl (Hp.ins_ne (by first | assumption | (apply Ne.symm; assumption)) (Hp.ins_same _ _ _)) rfl) ?_
  refine DL.e rfl rfl (Ef.call en25 (vs := [_]) rfl (clone_one _ _ _ _ _ _ _ (Hp.ins_ne (by first | assumption | (apply Ne.symm; assumption)) (Hp.ins_ne (by first | assumption | (apply Ne.symm; assumption)) hx)) hs)) ?_
  rintro _ _ ⟨rb, rbc, rbl, hrb, rfl, _hrb, rfl⟩
  obtain ⟨_, hrb⟩ := Hp.ins_none hrb
  obtain ⟨_, hrb⟩ := Hp.ins_none hrb
  have nxbrb := Hp.ne_of hx hrb
  refine ⟨(obl_cons (Rd.load rfl rfl (Hp.ins_ne (by first | assumption | (apply Ne.symm; assumption)) (Hp.ins_ne (by first | assumption | (apply Ne.symm; assumption)) (Hp.ins_same _ _ _))) rfl) (obl_anc rfl obl_nil)), ?_⟩
  refine DL.p rfl rfl (Pu.fieldAddr (k := 0) rfl rfl) ?_
  refine DL.e rfl rfl (Ef.call en25 (vs := [_]) rfl (clone_strs_nil _)) ?_
  rintro _ _ ⟨rfl, rfl⟩
  refine ⟨(obl_anc rfl (obl_anc rfl obl_nil)), ?_⟩
  refine DL.e0 rfl rfl (Ef.sto (v := .slice _ _ _) (vs := [_]) (c' := [_, _, _, _, _]) rfl rfl rfl rfl (Hp.ins_ne (by first | assumption | (apply Ne.symm; assumption)) (Hp.ins_ne (by first | assumption | (apply Ne.symm; assumption)) (Hp.ins_same _ _ _))) (Nat.le_of_ble_eq_true rfl) rfl rfl) ?_
  rintro _ _ ⟨rfl, rfl⟩
  refine ⟨(obl_anc rfl (obl_anc rfl obl_nil)), ?_⟩
  refine DL.p rfl rfl (Pu.fieldAddr (k := 1) rfl rfl) ?_
  refine DL.e0 rfl rfl (Ef.sto (v := .slice _ _ _) (vs := [_]) (c' := [_, _, _, _, _]) rfl rfl rfl rfl (Hp.ins_same _ _ _) (Nat.le_of_ble_eq_true rfl) rfl rfl) ?_
  rintro _ _ ⟨rfl, rfl⟩
  rw [Hp.ins_ins]
  refine ⟨(obl_anc rfl (obl_anc rfl obl_nil)), ?_⟩
  refine DL.nil ?_
  refine Gt.seq ?_
  refine Gt.draw (A := [[], [], [], [], [0, 1, 2, 3], [0, 1, 2, 3, 4], [0, 1, 2, 3, 4, 5], [0, 1, 2, 3, 4, 5, 6]]) [(1, .read), (2, .read), (0, .effect), (3, .alloc), (4, .pure), (5, .alloc), (6, .pure), (7, .pure)] mixed (by kernel_rfl) ?_
  refine DL.r rfl rfl (Rd.loadA (vs := [_, _, _, _, _]) rfl rfl rfl (Hp.ins_same _ _ _) rfl) ?_
  refine DL.r rfl rfl (Rd.loadA (vs := [_, _]) rfl rfl rfl (Hp.ins_ne (by first | assumption | (apply Ne.symm; assumption)) (Hp.ins_ne (by first | assumption | (apply Ne.symm; assumption)) (Hp.ins_same _ _ _))) rfl) ?_
  refine DL.e rfl rfl (Ef.call en46 (vs := []) rfl (tnew _)) ?_
  rintro _ _ ⟨mb, tb, hmb, htb, rfl, rfl⟩
  obtain ⟨_, hmb⟩ := Hp.ins_none hmb
  obtain ⟨_, hmb⟩ := Hp.ins_none hmb
  obtain ⟨_, hmb⟩ := Hp.ins_none hmb
  obtain ⟨_, hmb⟩ := Hp.ins_none hmb
  have nxbmb := Hp.ne_of hx hmb
  obtain ⟨_, htb⟩ := Hp.ins_none htb
  obtain ⟨_, htb⟩ := Hp.ins_none htb
  obtain ⟨_, htb⟩ := Hp.ins_none htb
  obtain ⟨_, htb⟩ := Hp.ins_none htb
  obtain ⟨_, htb⟩ := Hp.ins_none htb
  have nxbtb := Hp.ne_of hx htb
  refine ⟨(obl_cons (Rd.loadA rfl rfl rfl (Hp.ins_ne (by first | assumption | (apply Ne.symm; assumption)) (Hp.ins_ne (by first | assumption | (apply Ne.symm; assumption)) (Hp.ins_ne (by first | assumption | (apply Ne.symm; assumption)) (Hp.ins_ne (by first | assumption | (apply Ne.symm; assumption)) (Hp.ins_same _ _ _))))) rfl) (obl_cons (Rd.loadA rfl rfl rfl (Hp.ins_ne (by first | assumption | (apply Ne.symm; assumption)) (Hp.ins_ne (by first | assumption | (apply Ne.symm; assumption)) (Hp.ins_same _ _ _))) rfl) obl_nil)), ?_⟩
  refine DL.a rfl rfl (Al.makeMap rfl) ?_
  intro b3 hb3
  obtain ⟨_, hb3⟩ := Hp.ins_none hb3
  obtain ⟨_, hb3⟩ := Hp.ins_none hb3
  obtain ⟨_, hb3⟩ := Hp.ins_none hb3
  obtain ⟨_, hb3⟩ := Hp.ins_none hb3
  obtain ⟨_, hb3⟩ := Hp.ins_none hb3
  obtain ⟨_, hb3⟩ := Hp.ins_none hb3
  have nxbb3 := Hp.ne_of hx hb3
  refine DL.p rfl rfl (Pu.build (vs := [_, _, _, _, _, _, _, _, _]) rfl rfl rfl rfl rfl) ?_
  refine DL.a rfl rfl (Al.box (v := .agg _) (vs := [_, _, _, _, _, _, _, _, _]) rfl rfl) ?_
  intro b4 hb4
  obtain ⟨_, hb4⟩ := Hp.ins_none hb4
  obtain ⟨_, hb4⟩ := Hp.ins_none hb4
  obtain ⟨_, hb4⟩ := Hp.ins_none hb4
  obtain ⟨_, hb4⟩ := Hp.ins_none hb4
  obtain ⟨_, hb4⟩ := Hp.ins_none hb4
  obtain ⟨_, hb4⟩ := Hp.ins_none hb4
  obtain ⟨_, hb4⟩ := Hp.ins_none hb4
  have nxbb4 := Hp.ne_of hx hb4
  refine DL.p rfl rfl (Pu.asg (v := .pointer _) rfl) ?_
  refine DL.p rfl rfl (Pu.asg (v := .int _ _) rfl) ?_
  refine DL.nil ?_
  refine Gt.ret (Res.mk2 Tryz.func24 rfl rfl (.tmp (v := .pointer _) rfl) (.tmp (v := .int _ _) rfl)) (Sub.ins2 (Sub.ins' (Sub.ins' (Sub.ins' (Sub.ins' (Sub.ins' (Sub.ins' (Sub.ins' (Sub.refl _) hb1) hb2) hrb) hb1) hmb) htb) hb3)) ?_
  exact ⟨b4, _, _, _, hb4, rfl, rfl⟩
end Go.Proofs.YtdheiajppnlbbaaGreat
