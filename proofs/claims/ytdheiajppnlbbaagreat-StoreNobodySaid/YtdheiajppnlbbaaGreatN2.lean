/-
  StoreNobody, part 2: a message of no octets. Own work; the walks are printed by a program of this session (wip/tools/walk.py).
-/
import Derived.Test.YtdheiajppnlbbaaGreatN1
namespace Go.Proofs.YtdheiajppnlbbaaGreat
open Go Go.RowKit
abbrev i0 : Value := .int .i64 0
abbrev s0 : Value := .string ⟨#[]⟩
abbrev rT : Nat := 131
abbrev lT : Nat := 81
abbrev msg0 : List Value := [i0, i0, i0, s0, i0, i0, s0, nil0, nil0, s0, i0, i0, i0, s0, i0, i0, s0, i0, i0, s0, nil0, nil0, s0, i0, i0, i0, i0, s0]
abbrev rC (sl : Value) (e : Int) (m : Bool) : List Value := [sl, .int .i64 e, .bool m]
abbrev lC (tr : Option Addr) (ro cl : Value) (q b c k n : Int) (m : Option Nat) : List Value := [.pointer tr, ro, cl, .int .i64 q, .int .i64 b, .int .i64 c, .int .i64 k, .int .i64 n, .map m]
set_option maxRecDepth 100000 in
theorem clone_bytes_nil (H : Hp) : Call Tryz.prog 43 #[nil0] H (Same nil0 H) := by
  refine Call.enter Tryz.func43 rfl (n := 8) rfl (Nat.le_of_ble_eq_true rfl) ?_
  show Gt _ _ _ ⟨8, [(0, _)], []⟩ _ _
  refine Gt.seq ?_
  refine Gt.region (show SQ _ _ [0] _ _ _ from ?_)
  refine SQ.p rfl rfl (Pu.asg (v := .slice _ _ _) rfl) ?_
  refine SQ.nil ?_
  refine Gt.seq ?_
  refine Gt.seq ?_
  refine Gt.region (show SQ _ _ [0, 1] _ _ _ from ?_)
  refine SQ.p rfl rfl (Pu.mv (v := .slice _ _ _) rfl) ?_
  refine SQ.p rfl rfl (Pu.by (v := .bool true) fun _ => rfl) ?_
  refine SQ.nil ?_
  refine Gt.condT rfl ?_
  refine Gt.seq ?_
  refine Gt.region (show SQ _ _ [0] _ _ _ from ?_)
  refine SQ.p rfl rfl (Pu.asg (v := .slice _ _ _) rfl) ?_
  refine SQ.nil ?_
  refine Gt.ret (Res.mk1 Tryz.func43 rfl rfl (.tmp (v := .slice _ _ _) rfl)) (Sub.refl _) ?_
  exact ⟨rfl, rfl⟩
set_option maxRecDepth 100000 in
theorem clone_strs_nil (H : Hp) : Call Tryz.prog 25 #[nil0] H (Same nil0 H) := by
  refine Call.enter Tryz.func25 rfl (n := 8) rfl (Nat.le_of_ble_eq_true rfl) ?_
  show Gt _ _ _ ⟨8, [(0, _)], []⟩ _ _
  refine Gt.seq ?_
  refine Gt.region (show SQ _ _ [0] _ _ _ from ?_)
  refine SQ.p rfl rfl (Pu.asg (v := .slice _ _ _) rfl) ?_
  refine SQ.nil ?_
  refine Gt.seq ?_
  refine Gt.seq ?_
  refine Gt.region (show SQ _ _ [0, 1] _ _ _ from ?_)
  refine SQ.p rfl rfl (Pu.mv (v := .slice _ _ _) rfl) ?_
  refine SQ.p rfl rfl (Pu.by (v := .bool true) fun _ => rfl) ?_
  refine SQ.nil ?_
  refine Gt.condT rfl ?_
  refine Gt.seq ?_
  refine Gt.region (show SQ _ _ [0] _ _ _ from ?_)
  refine SQ.p rfl rfl (Pu.asg (v := .slice _ _ _) rfl) ?_
  refine SQ.nil ?_
  refine Gt.ret (Res.mk1 Tryz.func25 rfl rfl (.tmp (v := .slice _ _ _) rfl)) (Sub.refl _) ?_
  exact ⟨rfl, rfl⟩
set_option maxRecDepth 100000 in
theorem open_nil (H : Hp) : Call Tryz.prog 47 #[nil0] H (fun v H' => ∃ b, H b = none ∧ v = pt b ∧ H' = H.ins b (row (rC nil0 0 true) rT)) := by
  refine Call.enter Tryz.func47 rfl (n := 7) rfl (Nat.le_of_ble_eq_true rfl) ?_
  show Gt _ _ _ ⟨7, [(0, _)], []⟩ _ _
  refine Gt.seq ?_
  refine Gt.region (show SQ _ _ [0] _ _ _ from ?_)
  refine SQ.p rfl rfl (Pu.asg (v := .pointer _) rfl) ?_
  refine SQ.nil ?_
  refine Gt.seq ?_
  refine Gt.region (show SQ _ _ [0, 1, 2, 3, 4] _ _ _ from ?_)
  refine SQ.p rfl rfl (Pu.mv (v := .slice _ _ _) rfl) ?_
  refine SQ.e rfl rfl (Ef.call en43 (vs := [_]) rfl (clone_bytes_nil _)) ?_
  rintro _ _ ⟨rfl, rfl⟩
  refine SQ.p rfl rfl (Pu.build (vs := [_, _, _]) rfl rfl rfl rfl rfl) ?_
  refine SQ.a rfl rfl (Al.box (v := .agg _) (vs := [_, _, _]) rfl rfl) ?_
  intro b1 hb1
  refine SQ.p rfl rfl (Pu.asg (v := .pointer _) rfl) ?_
  refine SQ.nil ?_
  refine Gt.ret (Res.mk1 Tryz.func47 rfl rfl (.tmp (v := .pointer _) rfl)) (Sub.ins2 (Sub.refl _)) ?_
  exact ⟨b1, hb1, rfl, rfl⟩
set_option maxRecDepth 100000 in
theorem ready_ok (H : Hp) (rb : Nat) (sl : Value) (hr : H rb = some (row (rC sl 0 true) rT)) : Call Tryz.prog 79 #[pt rb] H (Same (.bool true) H) := by
  refine Call.enter Tryz.func79 rfl (n := 18) rfl (Nat.le_of_ble_eq_true rfl) ?_
  show Gt _ _ _ ⟨18, [(0, _)], []⟩ _ _
  refine Gt.seq ?_
  refine Gt.region (show SQ _ _ [0] _ _ _ from ?_)
  refine SQ.p rfl rfl (Pu.asg (v := .bool _) rfl) ?_
  refine SQ.nil ?_
  refine Gt.seq ?_
  refine Gt.region (show SQ _ _ [0, 1, 2, 3, 4, 5, 6, 7, 8, 9, 10, 11, 12, 13, 14, 15] _ _ _ from ?_)
  refine SQ.p rfl rfl (Pu.mv (v := .pointer _) rfl) ?_
  refine SQ.p rfl rfl (Pu.by (v := .bool true) fun _ => rfl) ?_
  refine SQ.p rfl rfl (Pu.mv (v := .bool _) rfl) ?_
  refine SQ.p rfl rfl (Pu.mv (v := .pointer _) rfl) ?_
  refine SQ.p rfl rfl (Pu.nilCheck rfl) ?_
  refine SQ.p rfl rfl (Pu.fieldAddr (k := 2) rfl rfl) ?_
  refine SQ.r rfl rfl (Rd.load (v := .bool true) rfl rfl hr rfl) ?_
  refine SQ.p rfl rfl (Pu.pickT (v := .bool _) rfl rfl) ?_
  refine SQ.p rfl rfl (Pu.mv (v := .bool _) rfl) ?_
  refine SQ.p rfl rfl (Pu.mv (v := .pointer _) rfl) ?_
  refine SQ.p rfl rfl (Pu.nilCheck rfl) ?_
  refine SQ.p rfl rfl (Pu.fieldAddr (k := 1) rfl rfl) ?_
  refine SQ.r rfl rfl (Rd.load (v := .int _ _) rfl rfl hr rfl) ?_
  refine SQ.p rfl rfl (Pu.by (v := .bool true) fun _ => rfl) ?_
  refine SQ.p rfl rfl (Pu.pickT (v := .bool _) rfl rfl) ?_
  refine SQ.p rfl rfl (Pu.asg (v := .bool _) rfl) ?_
  refine SQ.nil ?_
  refine Gt.ret (Res.mk1 Tryz.func79 rfl rfl (.tmp (v := .bool true) rfl)) (Sub.refl _) ?_
  exact ⟨rfl, rfl⟩
set_option maxRecDepth 100000 in
theorem stop_any (H : Hp) (rb : Nat) (sl : Value) (e x : Int) (m : Bool) (hr : H rb = some (row (rC sl e m) rT)) : Call Tryz.prog 112 #[pt rb, .int .i64 x] H (Same (.tuple #[]) (H.ins rb (row (rC nil0 x m) rT))) := by
  refine Call.enter Tryz.func112 rfl (n := 11) rfl (Nat.le_of_ble_eq_true rfl) ?_
  show Gt _ _ _ ⟨11, [(0, _), (1, _)], []⟩ _ _
  refine Gt.region (show SQ _ _ [0, 1, 2, 3, 4, 5, 6, 7, 8] _ _ _ from ?_)
  refine SQ.p rfl rfl (Pu.mv (v := .pointer _) rfl) ?_
  refine SQ.p rfl rfl (Pu.mv (v := .pointer _) rfl) ?_
  refine SQ.p rfl rfl (Pu.mv (v := .int _ _) rfl) ?_
  refine SQ.p rfl rfl (Pu.nilCheck rfl) ?_
  refine SQ.p rfl rfl (Pu.fieldAddr (k := 0) rfl rfl) ?_
  refine SQ.e0 rfl rfl (Ef.sto (v := .slice _ _ _) (vs := [_]) (c' := [_, _, _]) rfl rfl rfl rfl hr (Nat.le_of_ble_eq_true rfl) rfl rfl) ?_
  rintro _ _ ⟨rfl, rfl⟩
  refine SQ.p rfl rfl (Pu.nilCheck rfl) ?_
  refine SQ.p rfl rfl (Pu.fieldAddr (k := 1) rfl rfl) ?_
  refine SQ.e0 rfl rfl (Ef.sto (v := .int _ _) (vs := [_]) (c' := [_, _, _]) rfl rfl rfl rfl (Hp.ins_same _ _ _) (Nat.le_of_ble_eq_true rfl) rfl rfl) ?_
  rintro _ _ ⟨rfl, rfl⟩
  rw [Hp.ins_ins]
  refine SQ.nil ?_
  refine Gt.end (Res.none Tryz.func112 rfl rfl) (Sub.ins2 (Sub.refl _)) ?_
  exact ⟨rfl, rfl⟩
set_option maxRecDepth 100000 in
theorem take_nil (H : Hp) (rb : Nat) (hr : H rb = some (row (rC nil0 0 true) rT)) : Call Tryz.prog 111 #[pt rb, .int .i64 6] H (Same nil0 (H.ins rb (row (rC nil0 8 true) rT))) := by
  refine Call.enter Tryz.func111 rfl (n := 32) rfl (Nat.le_of_ble_eq_true rfl) ?_
  show Gt _ _ _ ⟨32, [(0, _), (1, _)], []⟩ _ _
  refine Gt.seq ?_
  refine Gt.region (show SQ _ _ [0] _ _ _ from ?_)
  refine SQ.p rfl rfl (Pu.asg (v := .slice _ _ _) rfl) ?_
  refine SQ.nil ?_
  refine Gt.seq ?_
  refine Gt.seq ?_
  refine Gt.region (show SQ _ _ [0, 1, 2, 3, 4, 5, 6] _ _ _ from ?_)
  refine SQ.p rfl rfl (Pu.mv (v := .pointer _) rfl) ?_
  refine SQ.p rfl rfl (Pu.nilCheck rfl) ?_
  refine SQ.p rfl rfl (Pu.fieldAddr (k := 0) rfl rfl) ?_
  refine SQ.r rfl rfl (Rd.load (v := .slice _ _ _) rfl rfl hr rfl) ?_
  refine SQ.p rfl rfl (Pu.len rfl rfl) ?_
  refine SQ.p rfl rfl (Pu.mv (v := .int _ _) rfl) ?_
  refine SQ.p rfl rfl (Pu.by (v := .bool true) fun _ => rfl) ?_
  refine SQ.nil ?_
  refine Gt.condT rfl ?_
  refine Gt.seq ?_
  refine Gt.region (show SQ _ _ [0, 1] _ _ _ from ?_)
  refine SQ.p rfl rfl (Pu.mv (v := .pointer _) rfl) ?_
  refine SQ.e rfl rfl (Ef.call en112 (vs := [_, _]) rfl (stop_any _ _ _ _ _ _ hr)) ?_
  rintro _ _ ⟨rfl, rfl⟩
  refine SQ.nil ?_
  refine Gt.seq ?_
  refine Gt.region (show SQ _ _ [0] _ _ _ from ?_)
  refine SQ.p rfl rfl (Pu.asg (v := .slice _ _ _) rfl) ?_
  refine SQ.nil ?_
  refine Gt.ret (Res.mk1 Tryz.func111 rfl rfl (.tmp (v := .slice _ _ _) rfl)) (Sub.ins2 (Sub.refl _)) ?_
  exact ⟨rfl, rfl⟩
set_option maxRecDepth 100000 in
theorem get_nil (H : Hp) : Call Tryz.prog 72 #[nil0] H (Same (.int .i64 0) H) := by
  refine Call.enter Tryz.func72 rfl (n := 21) rfl (Nat.le_of_ble_eq_true rfl) ?_
  show Gt _ _ _ ⟨21, [(0, _)], []⟩ _ _
  refine Gt.seq ?_
  refine Gt.region (show SQ _ _ [0] _ _ _ from ?_)
  refine SQ.p rfl rfl (Pu.asg (v := .int _ _) rfl) ?_
  refine SQ.nil ?_
  refine Gt.seq ?_
  refine Gt.region (show SQ _ _ [0] _ _ _ from ?_)
  refine SQ.p rfl rfl (Pu.asg (v := .int _ _) rfl) ?_
  refine SQ.nil ?_
  refine Gt.seq ?_
  refine Gt.seq ?_
  refine Gt.region (show SQ _ _ [0, 1, 2] _ _ _ from ?_)
  refine SQ.p rfl rfl (Pu.mv (v := .slice _ _ _) rfl) ?_
  refine SQ.p rfl rfl (Pu.len rfl rfl) ?_
  refine SQ.p rfl rfl (Pu.mv (v := .int _ _) rfl) ?_
  refine SQ.nil ?_
  refine Gt.block ?_
  refine Gt.loop ?_
  refine Gt.inLoop ?_
  refine Gt.seq ?_
  refine Gt.region (show SQ _ _ [0] _ _ _ from ?_)
  refine SQ.p rfl rfl (Pu.by (v := .bool false) fun _ => rfl) ?_
  refine SQ.nil ?_
  refine Gt.seq ?_
  refine Gt.condF rfl ?_
  refine Gt.exit rfl ?_
  refine Gt.seq ?_
  refine Gt.region (show SQ _ _ [0, 1, 2, 3] _ _ _ from ?_)
  refine SQ.p rfl rfl (Pu.mv (v := .int _ _) rfl) ?_
  refine SQ.p rfl rfl (Pu.by (v := .int _ _) fun _ => rfl) ?_
  refine SQ.p rfl rfl (Pu.by (v := .int _ _) fun _ => rfl) ?_
  refine SQ.p rfl rfl (Pu.asg (v := .int _ _) rfl) ?_
  refine SQ.nil ?_
  refine Gt.ret (Res.mk1 Tryz.func72 rfl rfl (.tmp (v := .int _ _) rfl)) (Sub.refl _) ?_
  exact ⟨rfl, rfl⟩
set_option maxRecDepth 100000 in
theorem num_nil (H : Hp) (rb : Nat) (hr : H rb = some (row (rC nil0 0 true) rT)) : Call Tryz.prog 73 #[pt rb, .int .i64 6] H (Same (.int .i64 0) (H.ins rb (row (rC nil0 8 true) rT))) := by
  refine Call.enter Tryz.func73 rfl (n := 34) rfl (Nat.le_of_ble_eq_true rfl) ?_
  show Gt _ _ _ ⟨34, [(0, _), (1, _)], []⟩ _ _
  refine Gt.seq ?_
  refine Gt.region (show SQ _ _ [0] _ _ _ from ?_)
  refine SQ.p rfl rfl (Pu.asg (v := .int _ _) rfl) ?_
  refine SQ.nil ?_
  refine Gt.seq ?_
  refine Gt.seq ?_
  refine Gt.region (show SQ _ _ [0, 1, 2] _ _ _ from ?_)
  refine SQ.p rfl rfl (Pu.mv (v := .pointer _) rfl) ?_
  refine SQ.e rfl rfl (Ef.call en79 (vs := [_]) rfl (ready_ok _ _ _ hr)) ?_
  rintro _ _ ⟨rfl, rfl⟩
  refine SQ.p rfl rfl (Pu.by (v := .bool false) fun _ => rfl) ?_
  refine SQ.nil ?_
  refine Gt.condF rfl ?_
  refine Gt.skip ?_
  refine Gt.seq ?_
  refine Gt.region (show SQ _ _ [0, 1, 2, 3] _ _ _ from ?_)
  refine SQ.p rfl rfl (Pu.mv (v := .pointer _) rfl) ?_
  refine SQ.e rfl rfl (Ef.call en111 (vs := [_, _]) rfl (take_nil _ _ hr)) ?_
  rintro _ _ ⟨rfl, rfl⟩
  refine SQ.e rfl rfl (Ef.call en72 (vs := [_]) rfl (get_nil _)) ?_
  rintro _ _ ⟨rfl, rfl⟩
  refine SQ.p rfl rfl (Pu.asg (v := .int _ _) rfl) ?_
  refine SQ.nil ?_
  refine Gt.seq ?_
  refine Gt.seq ?_
  refine Gt.region (show SQ _ _ [0, 1, 2, 3, 4, 5, 6, 7, 8, 9, 10, 11, 12, 13] _ _ _ from ?_)
  refine SQ.p rfl rfl (Pu.mv (v := .pointer _) rfl) ?_
  refine SQ.p rfl rfl (Pu.nilCheck rfl) ?_
  refine SQ.p rfl rfl (Pu.fieldAddr (k := 1) rfl rfl) ?_
  refine SQ.r rfl rfl (Rd.load (v := .int _ _) rfl rfl (Hp.ins_same _ _ _) rfl) ?_
  refine SQ.p rfl rfl (Pu.by (v := .bool false) fun _ => rfl) ?_
  refine SQ.p rfl rfl (Pu.mv (v := .bool _) rfl) ?_
  refine SQ.s rfl rfl ?_
  refine SQ.s rfl rfl ?_
  refine SQ.s rfl rfl ?_
  refine SQ.s rfl rfl ?_
  refine SQ.s rfl rfl ?_
  refine SQ.s rfl rfl ?_
  refine SQ.s rfl rfl ?_
  refine SQ.p rfl rfl (Pu.pickF (v := .bool _) rfl rfl) ?_
  refine SQ.nil ?_
  refine Gt.condF rfl ?_
  refine Gt.skip ?_
  refine Gt.seq ?_
  refine Gt.seq ?_
  refine Gt.region (show SQ _ _ [0, 1, 2, 3, 4] _ _ _ from ?_)
  refine SQ.p rfl rfl (Pu.mv (v := .pointer _) rfl) ?_
  refine SQ.p rfl rfl (Pu.nilCheck rfl) ?_
  refine SQ.p rfl rfl (Pu.fieldAddr (k := 1) rfl rfl) ?_
  refine SQ.r rfl rfl (Rd.load (v := .int _ _) rfl rfl (Hp.ins_same _ _ _) rfl) ?_
  refine SQ.p rfl rfl (Pu.by (v := .bool true) fun _ => rfl) ?_
  refine SQ.nil ?_
  refine Gt.condT rfl ?_
  refine Gt.seq ?_
  refine Gt.region (show SQ _ _ [0] _ _ _ from ?_)
  refine SQ.p rfl rfl (Pu.asg (v := .int _ _) rfl) ?_
  refine SQ.nil ?_
  refine Gt.ret (Res.mk1 Tryz.func73 rfl rfl (.tmp (v := .int _ _) rfl)) (Sub.ins2 (Sub.refl _)) ?_
  exact ⟨rfl, rfl⟩
set_option maxRecDepth 100000 in
theorem read_nil (H : Hp) (rb : Nat) (hr : H rb = some (row (rC nil0 0 true) rT)) : Call Tryz.prog 48 #[pt rb] H (Same (.agg msg0.toArray) (H.ins rb (row (rC nil0 8 true) rT))) := by
  refine Call.enter Tryz.func48 rfl (n := 49) rfl (Nat.le_of_ble_eq_true rfl) ?_
  show Gt _ _ _ ⟨49, [(0, _)], []⟩ _ _
  refine Gt.seq ?_
  refine Gt.region (show SQ _ _ [0] _ _ _ from ?_)
  refine SQ.a rfl rfl (Al.alloc (vs := [_, _, _, _, _, _, _, _, _, _, _, _, _, _, _, _, _, _, _, _, _, _, _, _, _, _, _, _]) rfl rfl) ?_
  intro b1 hb1
  have nrbb1 := Hp.ne_of hr hb1
  refine SQ.nil ?_
  refine Gt.seq ?_
  refine Gt.region (show SQ _ _ [0, 1, 2, 3, 4] _ _ _ from ?_)
  refine SQ.p rfl rfl (Pu.mv (v := .pointer _) rfl) ?_
  refine SQ.e rfl rfl (Ef.call en73 (vs := [_, _]) rfl (num_nil _ _ (Hp.ins_ne (by first | assumption | (apply Ne.symm; assumption)) hr))) ?_
  rintro _ _ ⟨rfl, rfl⟩
  refine SQ.p rfl rfl (Pu.build (vs := [_, _, _, _, _, _, _, _, _, _, _, _, _, _, _, _, _, _, _, _, _, _, _, _, _, _, _, _]) rfl rfl rfl rfl rfl) ?_
  refine SQ.a rfl rfl (Al.alloc (vs := [_, _, _, _, _, _, _, _, _, _, _, _, _, _, _, _, _, _, _, _, _, _, _, _, _, _, _, _]) rfl rfl) ?_
  intro b2 hb2
  obtain ⟨_, hb2⟩ := Hp.ins_none hb2
  obtain ⟨_, hb2⟩ := Hp.ins_none hb2
  have nrbb2 := Hp.ne_of hr hb2
  refine SQ.e0 rfl rfl (Ef.sto (v := .agg _) (vs := [_, _, _, _, _, _, _, _, _, _, _, _, _, _, _, _, _, _, _, _, _, _, _, _, _, _, _, _]) (c' := [_, _, _, _, _, _, _, _, _, _, _, _, _, _, _, _, _, _, _, _, _, _, _, _, _, _, _, _]) rfl rfl rfl rfl (Hp.ins_same _ _ _) (Nat.le_of_ble_eq_true rfl) rfl rfl) ?_
  rintro _ _ ⟨rfl, rfl⟩
  rw [Hp.ins_ins]
  refine SQ.nil ?_
  refine Gt.seq ?_
  refine Gt.seq ?_
  refine Gt.region (show SQ _ _ [0, 1] _ _ _ from ?_)
  refine SQ.p rfl rfl (Pu.fieldAddr (k := 0) rfl rfl) ?_
  refine SQ.r rfl rfl (Rd.load (v := .int _ _) rfl rfl (Hp.ins_same _ _ _) rfl) ?_
  refine SQ.nil ?_
  refine Gt.block ?_
  refine Gt.seq ?_
  refine Gt.region (show SQ _ _ [0, 1] _ _ _ from ?_)
  refine SQ.p rfl rfl (Pu.by (v := .bool false) fun _ => rfl) ?_
  refine SQ.p rfl rfl (Pu.asg (v := .bool _) rfl) ?_
  refine SQ.nil ?_
  refine Gt.condF rfl ?_
  refine Gt.seq ?_
  refine Gt.region (show SQ _ _ [0, 1] _ _ _ from ?_)
  refine SQ.p rfl rfl (Pu.by (v := .bool false) fun _ => rfl) ?_
  refine SQ.p rfl rfl (Pu.asg (v := .bool _) rfl) ?_
  refine SQ.nil ?_
  refine Gt.condF rfl ?_
  refine Gt.seq ?_
  refine Gt.region (show SQ _ _ [0, 1] _ _ _ from ?_)
  refine SQ.p rfl rfl (Pu.by (v := .bool false) fun _ => rfl) ?_
  refine SQ.p rfl rfl (Pu.asg (v := .bool _) rfl) ?_
  refine SQ.nil ?_
  refine Gt.condF rfl ?_
  refine Gt.seq ?_
  refine Gt.region (show SQ _ _ [0, 1] _ _ _ from ?_)
  refine SQ.p rfl rfl (Pu.by (v := .bool false) fun _ => rfl) ?_
  refine SQ.p rfl rfl (Pu.asg (v := .bool _) rfl) ?_
  refine SQ.nil ?_
  refine Gt.condF rfl ?_
  refine Gt.seq ?_
  refine Gt.region (show SQ _ _ [0, 1] _ _ _ from ?_)
  refine SQ.p rfl rfl (Pu.by (v := .bool false) fun _ => rfl) ?_
  refine SQ.p rfl rfl (Pu.asg (v := .bool _) rfl) ?_
  refine SQ.nil ?_
  refine Gt.condF rfl ?_
  refine Gt.seq ?_
  refine Gt.region (show SQ _ _ [0, 1] _ _ _ from ?_)
  refine SQ.p rfl rfl (Pu.by (v := .bool false) fun _ => rfl) ?_
  refine SQ.p rfl rfl (Pu.asg (v := .bool _) rfl) ?_
  refine SQ.nil ?_
  refine Gt.condF rfl ?_
  refine Gt.skip ?_
  refine Gt.inBlock ?_
  refine Gt.seq ?_
  refine Gt.region (show SQ _ _ [0, 1] _ _ _ from ?_)
  refine SQ.r rfl rfl (Rd.loadA (vs := [_, _, _, _, _, _, _, _, _, _, _, _, _, _, _, _, _, _, _, _, _, _, _, _, _, _, _, _]) rfl rfl rfl (Hp.ins_same _ _ _) rfl) ?_
  refine SQ.e0 rfl rfl (Ef.sto (v := .agg _) (vs := [_, _, _, _, _, _, _, _, _, _, _, _, _, _, _, _, _, _, _, _, _, _, _, _, _, _, _, _]) (c' := [_, _, _, _, _, _, _, _, _, _, _, _, _, _, _, _, _, _, _, _, _, _, _, _, _, _, _, _]) rfl rfl rfl rfl (Hp.ins_ne (by first | assumption | (apply Ne.symm; assumption)) (Hp.ins_ne (by first | assumption | (apply Ne.symm; assumption)) (Hp.ins_same _ _ _))) (Nat.le_of_ble_eq_true rfl) rfl rfl) ?_
  rintro _ _ ⟨rfl, rfl⟩
  refine SQ.nil ?_
  refine Gt.ret (Res.mk1 Tryz.func48 rfl rfl (.agg (vs := [_, _, _, _, _, _, _, _, _, _, _, _, _, _, _, _, _, _, _, _, _, _, _, _, _, _, _, _]) rfl rfl rfl (Hp.ins_same _ _ _) rfl)) (Sub.ins' (Sub.ins' (Sub.ins2 (Sub.ins' (Sub.refl _) hb1)) (Hp.ins_ne (by first | assumption | (apply Ne.symm; assumption)) hb2)) (Hp.ins_ne (by first | assumption | (apply Ne.symm; assumption)) hb1)) ?_
  exact ⟨rfl, rfl⟩
set_option maxRecDepth 100000 in
theorem err_any (H : Hp) (rb : Nat) (sl : Value) (e : Int) (hr : H rb = some (row (rC sl e true) rT)) : Call Tryz.prog 49 #[pt rb] H (Same (.int .i64 e) H) := by
  refine Call.enter Tryz.func49 rfl (n := 16) rfl (Nat.le_of_ble_eq_true rfl) ?_
  show Gt _ _ _ ⟨16, [(0, _)], []⟩ _ _
  refine Gt.seq ?_
  refine Gt.region (show SQ _ _ [0] _ _ _ from ?_)
  refine SQ.p rfl rfl (Pu.asg (v := .int _ _) rfl) ?_
  refine SQ.nil ?_
  refine Gt.seq ?_
  refine Gt.seq ?_
  refine Gt.region (show SQ _ _ [0, 1, 2, 3, 4, 5, 6, 7, 8] _ _ _ from ?_)
  refine SQ.p rfl rfl (Pu.mv (v := .pointer _) rfl) ?_
  refine SQ.p rfl rfl (Pu.by (v := .bool false) fun _ => rfl) ?_
  refine SQ.p rfl rfl (Pu.mv (v := .bool _) rfl) ?_
  refine SQ.p rfl rfl (Pu.mv (v := .pointer _) rfl) ?_
  refine SQ.p rfl rfl (Pu.nilCheck rfl) ?_
  refine SQ.p rfl rfl (Pu.fieldAddr (k := 2) rfl rfl) ?_
  refine SQ.r rfl rfl (Rd.load (v := .bool true) rfl rfl hr rfl) ?_
  refine SQ.p rfl rfl (Pu.by (v := .bool false) fun _ => rfl) ?_
  refine SQ.p rfl rfl (Pu.pickF (v := .bool _) rfl rfl) ?_
  refine SQ.nil ?_
  refine Gt.condF rfl ?_
  refine Gt.skip ?_
  refine Gt.seq ?_
  refine Gt.region (show SQ _ _ [0, 1, 2, 3, 4] _ _ _ from ?_)
  refine SQ.p rfl rfl (Pu.mv (v := .pointer _) rfl) ?_
  refine SQ.p rfl rfl (Pu.nilCheck rfl) ?_
  refine SQ.p rfl rfl (Pu.fieldAddr (k := 1) rfl rfl) ?_
  refine SQ.r rfl rfl (Rd.load (v := .int _ _) rfl rfl hr rfl) ?_
  refine SQ.p rfl rfl (Pu.asg (v := .int _ _) rfl) ?_
  refine SQ.nil ?_
  refine Gt.ret (Res.mk1 Tryz.func49 rfl rfl (.tmp (v := .int _ _) rfl)) (Sub.refl _) ?_
  exact ⟨rfl, rfl⟩
end Go.Proofs.YtdheiajppnlbbaaGreat
