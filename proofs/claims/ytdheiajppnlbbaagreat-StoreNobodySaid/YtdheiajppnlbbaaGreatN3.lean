/-
  StoreNobody, part 3: a learner and a disk, made. Own work; the walks are printed by a program of this session (wip/tools/walk.py).
-/
import Derived.Test.YtdheiajppnlbbaaGreatN2
namespace Go.Proofs.YtdheiajppnlbbaaGreat
open Go Go.RowKit
abbrev dT : Nat := 90
abbrev tT : Nat := 119
abbrev dC (b : Value) (s r : Int) (m : Bool) : List Value := [b, .int .i64 s, .int .i64 r, .bool m]
set_option maxRecDepth 100000 in
theorem elStr : Elem Tryz.prog 25 9 1 16 := Elem.mk' (z := .string ⟨#[]⟩) rfl rfl rfl (by decide)
set_option maxRecDepth 100000 in
theorem mread_nil (H : Hp) : Call Tryz.prog 28 #[nil0] H (Same (.tuple #[.agg msg0.toArray, .int .i64 33]) H) := by
  refine Call.enter Tryz.func28 rfl (n := 29) rfl (Nat.le_of_ble_eq_true rfl) ?_
  show Gt _ _ _ ⟨29, [(0, _)], []⟩ _ _
  refine Gt.seq ?_
  refine Gt.region (show SQ _ _ [0, 1] _ _ _ from ?_)
  refine SQ.a rfl rfl (Al.alloc (vs := [_, _, _, _, _, _, _, _, _, _, _, _, _, _, _, _, _, _, _, _, _, _, _, _, _, _, _, _]) rfl rfl) ?_
  intro b1 hb1
  refine SQ.p rfl rfl (Pu.asg (v := .int _ _) rfl) ?_
  refine SQ.nil ?_
  refine Gt.seq ?_
  refine Gt.seq ?_
  refine Gt.region (show SQ _ _ [0, 1, 2] _ _ _ from ?_)
  refine SQ.p rfl rfl (Pu.mv (v := .slice _ _ _) rfl) ?_
  refine SQ.p rfl rfl (Pu.len rfl rfl) ?_
  refine SQ.p rfl rfl (Pu.by (v := .bool false) fun _ => rfl) ?_
  refine SQ.nil ?_
  refine Gt.condF rfl ?_
  refine Gt.skip ?_
  refine Gt.seq ?_
  refine Gt.region (show SQ _ _ [0, 1, 2] _ _ _ from ?_)
  refine SQ.p rfl rfl (Pu.mv (v := .slice _ _ _) rfl) ?_
  refine SQ.e rfl rfl (Ef.call en47 (vs := [_]) rfl (open_nil _)) ?_
  rintro _ _ ⟨rb, hrb, rfl, rfl⟩
  obtain ⟨_, hrb⟩ := Hp.ins_none hrb
  refine SQ.p rfl rfl (Pu.asg (v := .pointer _) rfl) ?_
  refine SQ.nil ?_
  refine Gt.seq ?_
  refine Gt.region (show SQ _ _ [0, 1, 2, 3] _ _ _ from ?_)
  refine SQ.p rfl rfl (Pu.mv (v := .pointer _) rfl) ?_
  refine SQ.e rfl rfl (Ef.call en48 (vs := [_]) rfl (read_nil _ _ (Hp.ins_same _ _ _))) ?_
  rintro _ _ ⟨rfl, rfl⟩
  rw [Hp.ins_ins]
  refine SQ.a rfl rfl (Al.alloc (vs := [_, _, _, _, _, _, _, _, _, _, _, _, _, _, _, _, _, _, _, _, _, _, _, _, _, _, _, _]) rfl rfl) ?_
  intro b2 hb2
  obtain ⟨_, hb2⟩ := Hp.ins_none hb2
  obtain ⟨_, hb2⟩ := Hp.ins_none hb2
  refine SQ.e0 rfl rfl (Ef.sto (v := .agg _) (vs := [_, _, _, _, _, _, _, _, _, _, _, _, _, _, _, _, _, _, _, _, _, _, _, _, _, _, _, _]) (c' := [_, _, _, _, _, _, _, _, _, _, _, _, _, _, _, _, _, _, _, _, _, _, _, _, _, _, _, _]) rfl rfl rfl rfl (Hp.ins_same _ _ _) (Nat.le_of_ble_eq_true rfl) rfl rfl) ?_
  rintro _ _ ⟨rfl, rfl⟩
  rw [Hp.ins_ins]
  refine SQ.nil ?_
  refine Gt.seq ?_
  refine Gt.seq ?_
  refine Gt.region (show SQ _ _ [0, 1, 2, 3, 4, 5, 6, 7, 8, 9, 10, 11, 12] _ _ _ from ?_)
  refine SQ.p rfl rfl (Pu.mv (v := .pointer _) rfl) ?_
  refine SQ.e rfl rfl (Ef.call en49 (vs := [_]) rfl (err_any _ _ _ _ (Hp.ins_ne (by first | assumption | (apply Ne.symm; assumption)) (Hp.ins_same _ _ _)))) ?_
  rintro _ _ ⟨rfl, rfl⟩
  refine SQ.p rfl rfl (Pu.by (v := .bool true) fun _ => rfl) ?_
  refine SQ.p rfl rfl (Pu.mv (v := .bool _) rfl) ?_
  refine SQ.s rfl rfl ?_
  refine SQ.s rfl rfl ?_
  refine SQ.s rfl rfl ?_
  refine SQ.p rfl rfl (Pu.pickT (v := .bool _) rfl rfl) ?_
  refine SQ.p rfl rfl (Pu.mv (v := .bool _) rfl) ?_
  refine SQ.s rfl rfl ?_
  refine SQ.s rfl rfl ?_
  refine SQ.s rfl rfl ?_
  refine SQ.p rfl rfl (Pu.pickT (v := .bool _) rfl rfl) ?_
  refine SQ.nil ?_
  refine Gt.condT rfl ?_
  refine Gt.seq ?_
  refine Gt.region (show SQ _ _ [0, 1, 2] _ _ _ from ?_)
  refine SQ.p rfl rfl (Pu.build (vs := [_, _, _, _, _, _, _, _, _, _, _, _, _, _, _, _, _, _, _, _, _, _, _, _, _, _, _, _]) rfl rfl rfl rfl rfl) ?_
  refine SQ.e0 rfl rfl (Ef.sto (v := .agg _) (vs := [_, _, _, _, _, _, _, _, _, _, _, _, _, _, _, _, _, _, _, _, _, _, _, _, _, _, _, _]) (c' := [_, _, _, _, _, _, _, _, _, _, _, _, _, _, _, _, _, _, _, _, _, _, _, _, _, _, _, _]) rfl rfl rfl rfl (Hp.ins_ne (by first | assumption | (apply Ne.symm; assumption)) (Hp.ins_ne (by first | assumption | (apply Ne.symm; assumption)) (Hp.ins_same _ _ _))) (Nat.le_of_ble_eq_true rfl) rfl rfl) ?_
  rintro _ _ ⟨rfl, rfl⟩
  refine SQ.p rfl rfl (Pu.asg (v := .int _ _) rfl) ?_
  refine SQ.nil ?_
  refine Gt.ret (Res.mk2 Tryz.func28 rfl rfl (.agg (vs := [_, _, _, _, _, _, _, _, _, _, _, _, _, _, _, _, _, _, _, _, _, _, _, _, _, _, _, _]) rfl rfl rfl (Hp.ins_same _ _ _) rfl) (.tmp (v := .int _ _) rfl)) (Sub.ins' (Sub.ins' (Sub.ins' (Sub.ins' (Sub.refl _) hb1) hrb) hb2) hb1) ?_
  exact ⟨rfl, rfl⟩
set_option maxRecDepth 100000 in
theorem lis_made (H : Hp) (lb : Nat) (tr : Option Addr) (ro cl : Value) (q b c k n : Int) (m : Nat) (hl : H lb = some (row (lC tr ro cl q b c k n (some m)) lT)) : Call Tryz.prog 27 #[pt lb] H (Same (.bool true) H) := by
  refine Call.enter Tryz.func27 rfl (n := 12) rfl (Nat.le_of_ble_eq_true rfl) ?_
  show Gt _ _ _ ⟨12, [(0, _)], []⟩ _ _
  refine Gt.seq ?_
  refine Gt.region (show SQ _ _ [0] _ _ _ from ?_)
  refine SQ.p rfl rfl (Pu.asg (v := .bool _) rfl) ?_
  refine SQ.nil ?_
  refine Gt.seq ?_
  refine Gt.region (show SQ _ _ [0, 1, 2, 3, 4, 5, 6, 7, 8, 9] _ _ _ from ?_)
  refine SQ.p rfl rfl (Pu.mv (v := .pointer _) rfl) ?_
  refine SQ.p rfl rfl (Pu.by (v := .bool true) fun _ => rfl) ?_
  refine SQ.p rfl rfl (Pu.mv (v := .bool _) rfl) ?_
  refine SQ.p rfl rfl (Pu.mv (v := .pointer _) rfl) ?_
  refine SQ.p rfl rfl (Pu.nilCheck rfl) ?_
  refine SQ.p rfl rfl (Pu.fieldAddr (k := 8) rfl rfl) ?_
  refine SQ.r rfl rfl (Rd.load (v := .map _) rfl rfl hl rfl) ?_
  refine SQ.p rfl rfl (Pu.by (v := .bool true) fun _ => rfl) ?_
  refine SQ.p rfl rfl (Pu.pickT (v := .bool _) rfl rfl) ?_
  refine SQ.p rfl rfl (Pu.asg (v := .bool _) rfl) ?_
  refine SQ.nil ?_
  refine Gt.ret (Res.mk1 Tryz.func27 rfl rfl (.tmp (v := .bool true) rfl)) (Sub.refl _) ?_
  exact ⟨rfl, rfl⟩
set_option maxRecDepth 100000 in
theorem lhear_nil (H : Hp) (lb : Nat) (tr : Option Addr) (ro cl : Value) (q b c k n : Int) (m : Nat) (hl : H lb = some (row (lC tr ro cl q b c k n (some m)) lT)) : Call Tryz.prog 13 #[pt lb, nil0] H (Same (.bool false) H) := by
  refine Call.enter Tryz.func13 rfl (n := 64) rfl (Nat.le_of_ble_eq_true rfl) ?_
  show Gt _ _ _ ⟨64, [(0, _), (1, _)], []⟩ _ _
  refine Gt.seq ?_
  refine Gt.region (show SQ _ _ [0] _ _ _ from ?_)
  refine SQ.p rfl rfl (Pu.asg (v := .bool _) rfl) ?_
  refine SQ.nil ?_
  refine Gt.seq ?_
  refine Gt.seq ?_
  refine Gt.region (show SQ _ _ [0, 1, 2] _ _ _ from ?_)
  refine SQ.p rfl rfl (Pu.mv (v := .pointer _) rfl) ?_
  refine SQ.e rfl rfl (Ef.call en27 (vs := [_]) rfl (lis_made _ _ _ _ _ _ _ _ _ _ _ hl)) ?_
  rintro _ _ ⟨rfl, rfl⟩
  refine SQ.p rfl rfl (Pu.by (v := .bool false) fun _ => rfl) ?_
  refine SQ.nil ?_
  refine Gt.condF rfl ?_
  refine Gt.skip ?_
  refine Gt.seq ?_
  refine Gt.region (show SQ _ _ [0, 1, 2, 3, 4, 5, 6, 7] _ _ _ from ?_)
  refine SQ.p rfl rfl (Pu.mv (v := .slice _ _ _) rfl) ?_
  refine SQ.e rfl rfl (Ef.call en28 (vs := [_]) rfl (mread_nil _)) ?_
  rintro _ _ ⟨rfl, rfl⟩
  refine SQ.p rfl rfl (Pu.mv (v := _) rfl) ?_
  refine SQ.p rfl rfl (Pu.extract (v := .agg _) rfl rfl) ?_
  refine SQ.p rfl rfl (Pu.extract (v := .int _ _) rfl rfl) ?_
  refine SQ.a rfl rfl (Al.alloc (vs := [_, _, _, _, _, _, _, _, _, _, _, _, _, _, _, _, _, _, _, _, _, _, _, _, _, _, _, _]) rfl rfl) ?_
  intro b1 hb1
  have nlbb1 := Hp.ne_of hl hb1
  refine SQ.e0 rfl rfl (Ef.sto (v := .agg _) (vs := [_, _, _, _, _, _, _, _, _, _, _, _, _, _, _, _, _, _, _, _, _, _, _, _, _, _, _, _]) (c' := [_, _, _, _, _, _, _, _, _, _, _, _, _, _, _, _, _, _, _, _, _, _, _, _, _, _, _, _]) rfl rfl rfl rfl (Hp.ins_same _ _ _) (Nat.le_of_ble_eq_true rfl) rfl rfl) ?_
  rintro _ _ ⟨rfl, rfl⟩
  rw [Hp.ins_ins]
  refine SQ.p rfl rfl (Pu.asg (v := .int _ _) rfl) ?_
  refine SQ.nil ?_
  refine Gt.seq ?_
  refine Gt.block ?_
  refine Gt.seq ?_
  refine Gt.region (show SQ _ _ [0, 1, 2] _ _ _ from ?_)
  refine SQ.p rfl rfl (Pu.mv (v := .int _ _) rfl) ?_
  refine SQ.p rfl rfl (Pu.by (v := .bool true) fun _ => rfl) ?_
  refine SQ.p rfl rfl (Pu.asg (v := .bool _) rfl) ?_
  refine SQ.nil ?_
  refine Gt.condT rfl ?_
  refine Gt.seq ?_
  refine Gt.region (show SQ _ _ [0] _ _ _ from ?_)
  refine SQ.p rfl rfl (Pu.asg (v := .bool _) rfl) ?_
  refine SQ.nil ?_
  refine Gt.ret (Res.mk1 Tryz.func13 rfl rfl (.tmp (v := .bool false) rfl)) (Sub.ins' (Sub.refl _) hb1) ?_
  exact ⟨rfl, rfl⟩
set_option maxRecDepth 100000 in
theorem dnew (H : Hp) : Call Tryz.prog 26 #[.int .i64 900] H (fun v H' => ∃ b, H b = none ∧ v = pt b ∧ H' = H.ins b (row (dC nil0 0 900 true) dT)) := by
  refine Call.enter Tryz.func26 rfl (n := 8) rfl (Nat.le_of_ble_eq_true rfl) ?_
  show Gt _ _ _ ⟨8, [(0, _)], []⟩ _ _
  refine Gt.seq ?_
  refine Gt.region (show SQ _ _ [0] _ _ _ from ?_)
  refine SQ.p rfl rfl (Pu.asg (v := .pointer _) rfl) ?_
  refine SQ.nil ?_
  refine Gt.seq ?_
  refine Gt.region (show SQ _ _ [0, 1, 2, 3, 4, 5] _ _ _ from ?_)
  refine SQ.p rfl rfl (Pu.mv (v := .int _ _) rfl) ?_
  refine SQ.p rfl rfl (Pu.max rfl rfl) ?_
  refine SQ.p rfl rfl (Pu.min rfl rfl) ?_
  refine SQ.p rfl rfl (Pu.build (vs := [_, _, _, _]) rfl rfl rfl rfl rfl) ?_
  refine SQ.a rfl rfl (Al.box (v := .agg _) (vs := [_, _, _, _]) rfl rfl) ?_
  intro b1 hb1
  refine SQ.p rfl rfl (Pu.asg (v := .pointer _) rfl) ?_
  refine SQ.nil ?_
  refine Gt.ret (Res.mk1 Tryz.func26 rfl rfl (.tmp (v := .pointer _) rfl)) (Sub.ins2 (Sub.refl _)) ?_
  exact ⟨b1, hb1, rfl, rfl⟩
set_option maxRecDepth 100000 in
theorem dis_made (H : Hp) (db : Nat) (sl : Value) (s r : Int) (hd : H db = some (row (dC sl s r true) dT)) : Call Tryz.prog 36 #[pt db] H (Same (.bool true) H) := by
  refine Call.enter Tryz.func36 rfl (n := 11) rfl (Nat.le_of_ble_eq_true rfl) ?_
  show Gt _ _ _ ⟨11, [(0, _)], []⟩ _ _
  refine Gt.seq ?_
  refine Gt.region (show SQ _ _ [0] _ _ _ from ?_)
  refine SQ.p rfl rfl (Pu.asg (v := .bool _) rfl) ?_
  refine SQ.nil ?_
  refine Gt.seq ?_
  refine Gt.region (show SQ _ _ [0, 1, 2, 3, 4, 5, 6, 7, 8] _ _ _ from ?_)
  refine SQ.p rfl rfl (Pu.mv (v := .pointer _) rfl) ?_
  refine SQ.p rfl rfl (Pu.by (v := .bool true) fun _ => rfl) ?_
  refine SQ.p rfl rfl (Pu.mv (v := .bool _) rfl) ?_
  refine SQ.p rfl rfl (Pu.mv (v := .pointer _) rfl) ?_
  refine SQ.p rfl rfl (Pu.nilCheck rfl) ?_
  refine SQ.p rfl rfl (Pu.fieldAddr (k := 3) rfl rfl) ?_
  refine SQ.r rfl rfl (Rd.load (v := .bool true) rfl rfl hd rfl) ?_
  refine SQ.p rfl rfl (Pu.pickT (v := .bool _) rfl rfl) ?_
  refine SQ.p rfl rfl (Pu.asg (v := .bool _) rfl) ?_
  refine SQ.nil ?_
  refine Gt.ret (Res.mk1 Tryz.func36 rfl rfl (.tmp (v := .bool true) rfl)) (Sub.refl _) ?_
  exact ⟨rfl, rfl⟩
set_option maxRecDepth 100000 in
theorem dappend_nil (H : Hp) (db : Nat) (hd : H db = some (row (dC nil0 0 900 true) dT)) : Call Tryz.prog 34 #[pt db, nil0] H (Same (.int .i64 0) (H.ins db (row (dC nil0 0 900 true) dT))) := by
  refine Call.enter Tryz.func34 rfl (n := 32) rfl (Nat.le_of_ble_eq_true rfl) ?_
  show Gt _ _ _ ⟨32, [(0, _), (1, _)], []⟩ _ _
  refine Gt.seq ?_
  refine Gt.region (show SQ _ _ [0] _ _ _ from ?_)
  refine SQ.p rfl rfl (Pu.asg (v := .int _ _) rfl) ?_
  refine SQ.nil ?_
  refine Gt.seq ?_
  refine Gt.block ?_
  refine Gt.seq ?_
  refine Gt.region (show SQ _ _ [0, 1, 2, 3] _ _ _ from ?_)
  refine SQ.p rfl rfl (Pu.mv (v := .pointer _) rfl) ?_
  refine SQ.e rfl rfl (Ef.call en36 (vs := [_]) rfl (dis_made _ _ _ _ _ hd)) ?_
  rintro _ _ ⟨rfl, rfl⟩
  refine SQ.p rfl rfl (Pu.by (v := .bool false) fun _ => rfl) ?_
  refine SQ.p rfl rfl (Pu.asg (v := .bool _) rfl) ?_
  refine SQ.nil ?_
  refine Gt.condF rfl ?_
  refine Gt.seq ?_
  refine Gt.draw (A := [[], [0], [], [2], [2, 3], [2, 3, 4], [], [6], [6, 7], [6, 7, 8], [6, 7, 8, 9], [2, 3, 4, 5, 6, 7, 8, 9, 10], [0, 1, 2, 3, 4, 5, 6, 7, 8, 9, 10, 11], [0, 1, 2, 3, 4, 5, 6, 7, 8, 9, 10, 11, 12]]) [(0, .pure), (1, .pure), (2, .pure), (3, .pure), (4, .pure), (5, .read), (6, .pure), (7, .pure), (8, .pure), (9, .read), (10, .pure), (11, .pure), (12, .pure), (13, .pure)] mixed (by kernel_rfl) ?_
  refine DL.p rfl rfl (Pu.mv (v := .slice _ _ _) rfl) ?_
  refine DL.p rfl rfl (Pu.len rfl rfl) ?_
  refine DL.p rfl rfl (Pu.mv (v := .pointer _) rfl) ?_
  refine DL.p rfl rfl (Pu.nilCheck rfl) ?_
  refine DL.p rfl rfl (Pu.fieldAddr (k := 2) rfl rfl) ?_
  refine DL.r rfl rfl (Rd.load (v := .int _ _) rfl rfl hd rfl) ?_
  refine DL.p rfl rfl (Pu.mv (v := .pointer _) rfl) ?_
  refine DL.p rfl rfl (Pu.nilCheck rfl) ?_
  refine DL.p rfl rfl (Pu.fieldAddr (k := 0) rfl rfl) ?_
  refine DL.r rfl rfl (Rd.load (v := .slice _ _ _) rfl rfl hd rfl) ?_
  refine DL.p rfl rfl (Pu.len rfl rfl) ?_
  refine DL.p rfl rfl (Pu.by (v := .int _ _) fun _ => rfl) ?_
  refine DL.p rfl rfl (Pu.by (v := .bool false) fun _ => rfl) ?_
  refine DL.p rfl rfl (Pu.asg (v := .bool _) rfl) ?_
  refine DL.nil ?_
  refine Gt.condF rfl ?_
  refine Gt.skip ?_
  refine Gt.inBlock ?_
  refine Gt.seq ?_
  refine Gt.region (show SQ _ _ [0, 1, 2, 3, 4, 5, 6, 7, 8, 9] _ _ _ from ?_)
  refine SQ.p rfl rfl (Pu.mv (v := .pointer _) rfl) ?_
  refine SQ.p rfl rfl (Pu.mv (v := .pointer _) rfl) ?_
  refine SQ.p rfl rfl (Pu.nilCheck rfl) ?_
  refine SQ.p rfl rfl (Pu.fieldAddr (k := 0) rfl rfl) ?_
  refine SQ.r rfl rfl (Rd.load (v := .slice _ _ _) rfl rfl hd rfl) ?_
  refine SQ.p rfl rfl (Pu.mv (v := .slice _ _ _) rfl) ?_
  refine SQ.p rfl rfl (Pu.append0 rfl rfl rfl rfl (Nat.le_refl _)) ?_
  refine SQ.p rfl rfl (Pu.nilCheck rfl) ?_
  refine SQ.p rfl rfl (Pu.fieldAddr (k := 0) rfl rfl) ?_
  refine SQ.e0 rfl rfl (Ef.sto (v := .slice _ _ _) (vs := [_]) (c' := [_, _, _, _]) rfl rfl rfl rfl hd (Nat.le_of_ble_eq_true rfl) rfl rfl) ?_
  rintro _ _ ⟨rfl, rfl⟩
  refine SQ.nil ?_
  refine Gt.seq ?_
  refine Gt.region (show SQ _ _ [0] _ _ _ from ?_)
  refine SQ.p rfl rfl (Pu.asg (v := .int _ _) rfl) ?_
  refine SQ.nil ?_
  refine Gt.ret (Res.mk1 Tryz.func34 rfl rfl (.tmp (v := .int _ _) rfl)) (Sub.ins2 (Sub.refl _)) ?_
  exact ⟨rfl, rfl⟩
set_option maxRecDepth 100000 in
theorem dcrash (H : Hp) (db : Nat) (hd : H db = some (row (dC nil0 0 900 true) dT)) : Call Tryz.prog 15 #[pt db, .int .i64 0] H (Same (.tuple #[]) (H.ins db (row (dC nil0 0 900 true) dT))) := by
  refine Call.enter Tryz.func15 rfl (n := 39) rfl (Nat.le_of_ble_eq_true rfl) ?_
  show Gt _ _ _ ⟨39, [(0, _), (1, _)], []⟩ _ _
  refine Gt.seq ?_
  refine Gt.seq ?_
  refine Gt.region (show SQ _ _ [0, 1, 2] _ _ _ from ?_)
  refine SQ.p rfl rfl (Pu.mv (v := .pointer _) rfl) ?_
  refine SQ.e rfl rfl (Ef.call en36 (vs := [_]) rfl (dis_made _ _ _ _ _ hd)) ?_
  rintro _ _ ⟨rfl, rfl⟩
  refine SQ.p rfl rfl (Pu.by (v := .bool false) fun _ => rfl) ?_
  refine SQ.nil ?_
  refine Gt.condF rfl ?_
  refine Gt.skip ?_
  refine Gt.seq ?_
  refine Gt.draw (A := [[], [0], [0, 1], [0, 1, 2], [], [4], [], [6], [6, 7], [6, 7, 8], [6, 7, 8, 9], [], [11], [11, 12], [11, 12, 13], [6, 7, 8, 9, 10, 11, 12, 13, 14], [4, 5, 6, 7, 8, 9, 10, 11, 12, 13, 14, 15], [0, 1, 2, 3, 4, 5, 6, 7, 8, 9, 10, 11, 12, 13, 14, 15, 16], [0, 1, 2, 3, 4, 5, 6, 7, 8, 9, 10, 11, 12, 13, 14, 15, 16, 17], [0, 1, 2, 3, 4, 5, 6, 7, 8, 9, 10, 11, 12, 13, 14, 15, 16, 17, 18], [0, 1, 2, 3, 4, 5, 6, 7, 8, 9, 10, 11, 12, 13, 14, 15, 16, 17, 18, 19]]) [(0, .pure), (1, .pure), (2, .pure), (3, .read), (4, .pure), (5, .pure), (6, .pure), (7, .pure), (8, .pure), (9, .read), (10, .pure), (11, .pure), (12, .pure), (13, .pure), (14, .read), (15, .pure), (16, .pure), (17, .pure), (18, .pure), (19, .pure), (20, .effect)] mixed (by kernel_rfl) ?_
  refine DL.p rfl rfl (Pu.mv (v := .pointer _) rfl) ?_
  refine DL.p rfl rfl (Pu.nilCheck rfl) ?_
  refine DL.p rfl rfl (Pu.fieldAddr (k := 1) rfl rfl) ?_
  refine DL.r rfl rfl (Rd.load (v := .int _ _) rfl rfl hd rfl) ?_
  refine DL.p rfl rfl (Pu.mv (v := .int _ _) rfl) ?_
  refine DL.p rfl rfl (Pu.max rfl rfl) ?_
  refine DL.p rfl rfl (Pu.mv (v := .pointer _) rfl) ?_
  refine DL.p rfl rfl (Pu.nilCheck rfl) ?_
  refine DL.p rfl rfl (Pu.fieldAddr (k := 0) rfl rfl) ?_
  refine DL.r rfl rfl (Rd.load (v := .slice _ _ _) rfl rfl hd rfl) ?_
  refine DL.p rfl rfl (Pu.len rfl rfl) ?_
  refine DL.p rfl rfl (Pu.mv (v := .pointer _) rfl) ?_
  refine DL.p rfl rfl (Pu.nilCheck rfl) ?_
  refine DL.p rfl rfl (Pu.fieldAddr (k := 1) rfl rfl) ?_
  refine DL.r rfl rfl (Rd.load (v := .int _ _) rfl rfl hd rfl) ?_
  refine DL.p rfl rfl (Pu.by (v := .int _ _) fun _ => rfl) ?_
  refine DL.p rfl rfl (Pu.min rfl rfl) ?_
  refine DL.p rfl rfl (Pu.by (v := .int _ _) fun _ => rfl) ?_
  refine DL.p rfl rfl (Pu.nilCheck rfl) ?_
  refine DL.p rfl rfl (Pu.fieldAddr (k := 1) rfl rfl) ?_
  refine DL.e0 rfl rfl (Ef.sto (v := .int _ _) (vs := [_]) (c' := [_, _, _, _]) rfl rfl rfl rfl hd (Nat.le_of_ble_eq_true rfl) rfl rfl) ?_
  rintro _ _ ⟨rfl, rfl⟩
  refine ⟨(obl_anc rfl (obl_anc rfl (obl_anc rfl obl_nil))), ?_⟩
  refine DL.nil ?_
  refine Gt.draw (A := [[], [], [1], [1, 2], [1, 2, 3], [], [5], [5, 6], [5, 6, 7], [1, 2, 3, 4, 5, 6, 7, 8], [0, 1, 2, 3, 4, 5, 6, 7, 8, 9], [0, 1, 2, 3, 4, 5, 6, 7, 8, 9, 10], [0, 1, 2, 3, 4, 5, 6, 7, 8, 9, 10, 11]]) [(0, .pure), (1, .pure), (2, .pure), (3, .pure), (4, .read), (5, .pure), (6, .pure), (7, .pure), (8, .read), (9, .pure), (10, .pure), (11, .pure), (12, .effect)] mixed (by kernel_rfl) ?_
  refine DL.p rfl rfl (Pu.mv (v := .pointer _) rfl) ?_
  refine DL.p rfl rfl (Pu.mv (v := .pointer _) rfl) ?_
  refine DL.p rfl rfl (Pu.nilCheck rfl) ?_
  refine DL.p rfl rfl (Pu.fieldAddr (k := 0) rfl rfl) ?_
  refine DL.r rfl rfl (Rd.load (v := .slice _ _ _) rfl rfl (Hp.ins_same _ _ _) rfl) ?_
  refine DL.p rfl rfl (Pu.mv (v := .pointer _) rfl) ?_
  refine DL.p rfl rfl (Pu.nilCheck rfl) ?_
  refine DL.p rfl rfl (Pu.fieldAddr (k := 1) rfl rfl) ?_
  refine DL.r rfl rfl (Rd.load (v := .int _ _) rfl rfl (Hp.ins_same _ _ _) rfl) ?_
  refine DL.p rfl rfl (Pu.by (v := .slice _ _ _) fun _ => rfl) ?_
  refine DL.p rfl rfl (Pu.nilCheck rfl) ?_
  refine DL.p rfl rfl (Pu.fieldAddr (k := 0) rfl rfl) ?_
  refine DL.e0 rfl rfl (Ef.sto (v := .slice _ _ _) (vs := [_]) (c' := [_, _, _, _]) rfl rfl rfl rfl (Hp.ins_same _ _ _) (Nat.le_of_ble_eq_true rfl) rfl rfl) ?_
  rintro _ _ ⟨rfl, rfl⟩
  rw [Hp.ins_ins]
  refine ⟨(obl_anc rfl (obl_anc rfl obl_nil)), ?_⟩
  refine DL.nil ?_
  refine Gt.end (Res.none Tryz.func15 rfl rfl) (Sub.ins2 (Sub.refl _)) ?_
  exact ⟨rfl, rfl⟩
set_option maxRecDepth 100000 in
theorem dread (H : Hp) (db : Nat) (hd : H db = some (row (dC nil0 0 900 true) dT)) : Call Tryz.prog 21 #[pt db] H (Same nil0 H) := by
  refine Call.enter Tryz.func21 rfl (n := 11) rfl (Nat.le_of_ble_eq_true rfl) ?_
  show Gt _ _ _ ⟨11, [(0, _)], []⟩ _ _
  refine Gt.seq ?_
  refine Gt.region (show SQ _ _ [0] _ _ _ from ?_)
  refine SQ.p rfl rfl (Pu.asg (v := .slice _ _ _) rfl) ?_
  refine SQ.nil ?_
  refine Gt.seq ?_
  refine Gt.seq ?_
  refine Gt.region (show SQ _ _ [0, 1, 2] _ _ _ from ?_)
  refine SQ.p rfl rfl (Pu.mv (v := .pointer _) rfl) ?_
  refine SQ.e rfl rfl (Ef.call en36 (vs := [_]) rfl (dis_made _ _ _ _ _ hd)) ?_
  rintro _ _ ⟨rfl, rfl⟩
  refine SQ.p rfl rfl (Pu.by (v := .bool false) fun _ => rfl) ?_
  refine SQ.nil ?_
  refine Gt.condF rfl ?_
  refine Gt.skip ?_
  refine Gt.seq ?_
  refine Gt.region (show SQ _ _ [0, 1, 2, 3, 4, 5] _ _ _ from ?_)
  refine SQ.p rfl rfl (Pu.mv (v := .pointer _) rfl) ?_
  refine SQ.p rfl rfl (Pu.nilCheck rfl) ?_
  refine SQ.p rfl rfl (Pu.fieldAddr (k := 0) rfl rfl) ?_
  refine SQ.r rfl rfl (Rd.load (v := .slice _ _ _) rfl rfl hd rfl) ?_
  refine SQ.e rfl rfl (Ef.call en43 (vs := [_]) rfl (clone_bytes_nil _)) ?_
  rintro _ _ ⟨rfl, rfl⟩
  refine SQ.p rfl rfl (Pu.asg (v := .slice _ _ _) rfl) ?_
  refine SQ.nil ?_
  refine Gt.ret (Res.mk1 Tryz.func21 rfl rfl (.tmp (v := .slice _ _ _) rfl)) (Sub.refl _) ?_
  exact ⟨rfl, rfl⟩
set_option maxRecDepth 100000 in
theorem dcut (H : Hp) (db : Nat) (hd : H db = some (row (dC nil0 0 900 true) dT)) : Call Tryz.prog 44 #[pt db, .int .i64 0] H (Same (.int .i64 0) (H.ins db (row (dC nil0 0 900 true) dT))) := by
  refine Call.enter Tryz.func44 rfl (n := 35) rfl (Nat.le_of_ble_eq_true rfl) ?_
  show Gt _ _ _ ⟨35, [(0, _), (1, _)], []⟩ _ _
  refine Gt.seq ?_
  refine Gt.region (show SQ _ _ [0] _ _ _ from ?_)
  refine SQ.p rfl rfl (Pu.asg (v := .int _ _) rfl) ?_
  refine SQ.nil ?_
  refine Gt.seq ?_
  refine Gt.block ?_
  refine Gt.seq ?_
  refine Gt.region (show SQ _ _ [0, 1, 2, 3] _ _ _ from ?_)
  refine SQ.p rfl rfl (Pu.mv (v := .pointer _) rfl) ?_
  refine SQ.e rfl rfl (Ef.call en36 (vs := [_]) rfl (dis_made _ _ _ _ _ hd)) ?_
  rintro _ _ ⟨rfl, rfl⟩
  refine SQ.p rfl rfl (Pu.by (v := .bool false) fun _ => rfl) ?_
  refine SQ.p rfl rfl (Pu.asg (v := .bool _) rfl) ?_
  refine SQ.nil ?_
  refine Gt.condF rfl ?_
  refine Gt.seq ?_
  refine Gt.region (show SQ _ _ [0, 1, 2, 3, 4, 5, 6, 7, 8, 9, 10, 11] _ _ _ from ?_)
  refine SQ.p rfl rfl (Pu.mv (v := .int _ _) rfl) ?_
  refine SQ.p rfl rfl (Pu.by (v := .bool false) fun _ => rfl) ?_
  refine SQ.p rfl rfl (Pu.mv (v := .bool _) rfl) ?_
  refine SQ.p rfl rfl (Pu.mv (v := .int _ _) rfl) ?_
  refine SQ.p rfl rfl (Pu.mv (v := .pointer _) rfl) ?_
  refine SQ.p rfl rfl (Pu.nilCheck rfl) ?_
  refine SQ.p rfl rfl (Pu.fieldAddr (k := 0) rfl rfl) ?_
  refine SQ.r rfl rfl (Rd.load (v := .slice _ _ _) rfl rfl hd rfl) ?_
  refine SQ.p rfl rfl (Pu.len rfl rfl) ?_
  refine SQ.p rfl rfl (Pu.by (v := .bool false) fun _ => rfl) ?_
  refine SQ.p rfl rfl (Pu.pickF (v := .bool _) rfl rfl) ?_
  refine SQ.p rfl rfl (Pu.asg (v := .bool _) rfl) ?_
  refine SQ.nil ?_
  refine Gt.condF rfl ?_
  refine Gt.skip ?_
  refine Gt.inBlock ?_
  refine Gt.seq ?_
  refine Gt.region (show SQ _ _ [0, 1, 2, 3, 4, 5, 6, 7, 8, 9, 10, 11, 12, 13, 14, 15] _ _ _ from ?_)
  refine SQ.p rfl rfl (Pu.mv (v := .pointer _) rfl) ?_
  refine SQ.p rfl rfl (Pu.mv (v := .pointer _) rfl) ?_
  refine SQ.p rfl rfl (Pu.mv (v := .pointer _) rfl) ?_
  refine SQ.p rfl rfl (Pu.nilCheck rfl) ?_
  refine SQ.p rfl rfl (Pu.fieldAddr (k := 0) rfl rfl) ?_
  refine SQ.r rfl rfl (Rd.load (v := .slice _ _ _) rfl rfl hd rfl) ?_
  refine SQ.p rfl rfl (Pu.mv (v := .int _ _) rfl) ?_
  refine SQ.p rfl rfl (Pu.mv (v := .int _ _) rfl) ?_
  refine SQ.p rfl rfl (Pu.by (v := .slice _ _ _) fun _ => rfl) ?_
  refine SQ.p rfl rfl (Pu.mv (v := .int _ _) rfl) ?_
  refine SQ.p rfl rfl (Pu.nilCheck rfl) ?_
  refine SQ.p rfl rfl (Pu.fieldAddr (k := 0) rfl rfl) ?_
  refine SQ.e0 rfl rfl (Ef.sto (v := .slice _ _ _) (vs := [_]) (c' := [_, _, _, _]) rfl rfl rfl rfl hd (Nat.le_of_ble_eq_true rfl) rfl rfl) ?_
  rintro _ _ ⟨rfl, rfl⟩
  refine SQ.p rfl rfl (Pu.nilCheck rfl) ?_
  refine SQ.p rfl rfl (Pu.fieldAddr (k := 1) rfl rfl) ?_
  refine SQ.e0 rfl rfl (Ef.sto (v := .int _ _) (vs := [_]) (c' := [_, _, _, _]) rfl rfl rfl rfl (Hp.ins_same _ _ _) (Nat.le_of_ble_eq_true rfl) rfl rfl) ?_
  rintro _ _ ⟨rfl, rfl⟩
  rw [Hp.ins_ins]
  refine SQ.nil ?_
  refine Gt.seq ?_
  refine Gt.region (show SQ _ _ [0] _ _ _ from ?_)
  refine SQ.p rfl rfl (Pu.asg (v := .int _ _) rfl) ?_
  refine SQ.nil ?_
  refine Gt.ret (Res.mk1 Tryz.func44 rfl rfl (.tmp (v := .int _ _) rfl)) (Sub.ins2 (Sub.refl _)) ?_
  exact ⟨rfl, rfl⟩
end Go.Proofs.YtdheiajppnlbbaaGreat
