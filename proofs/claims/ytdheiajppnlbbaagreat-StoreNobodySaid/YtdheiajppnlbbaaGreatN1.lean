/-
  StoreNobody, part 1: the store that nobody made, and small functions. Own work; the walks are printed by a program of this session (wip/tools/walk.py).
-/
import Derived.Test.YtdheiajppnlbbaaGreatN0
namespace Go.Proofs.YtdheiajppnlbbaaGreat
open Go Go.RowKit
set_option maxRecDepth 100000 in
theorem is_nil (H : Hp) : Call Tryz.prog 16 #[.pointer none] H (Same (.bool false) H) := by
  refine Call.enter Tryz.func16 rfl (n := 12) rfl (Nat.le_of_ble_eq_true rfl) ?_
  show Gt _ _ _ ⟨12, [(0, _)], []⟩ _ _
  refine Gt.seq ?_
  refine Gt.region (show SQ _ _ [0] _ _ _ from ?_)
  refine SQ.p rfl rfl (Pu.asg (v := .bool _) rfl) ?_
  refine SQ.nil ?_
  refine Gt.seq ?_
  refine Gt.region (show SQ _ _ [0, 1, 2, 3, 4, 5, 6, 7, 8, 9] _ _ _ from ?_)
  refine SQ.p rfl rfl (Pu.mv (v := .pointer _) rfl) ?_
  refine SQ.p rfl rfl (Pu.by (v := .bool false) fun _ => rfl) ?_
  refine SQ.p rfl rfl (Pu.mv (v := .bool _) rfl) ?_
  refine SQ.s rfl rfl ?_
  refine SQ.s rfl rfl ?_
  refine SQ.s rfl rfl ?_
  refine SQ.s rfl rfl ?_
  refine SQ.s rfl rfl ?_
  refine SQ.p rfl rfl (Pu.pickF (v := .bool _) rfl rfl) ?_
  refine SQ.p rfl rfl (Pu.asg (v := .bool _) rfl) ?_
  refine SQ.nil ?_
  refine Gt.ret (Res.mk1 Tryz.func16 rfl rfl (.tmp (v := .bool false) rfl)) (Sub.refl _) ?_
  exact ⟨rfl, rfl⟩
set_option maxRecDepth 100000 in
theorem is_zero (H : Hp) (sb : Nat) (ro cl : Value) (q b c k n : Int) (dp : Option Addr) (dn : Bool) (hs : H sb = some (row (sCells ro cl q b c k n none dp dn) sT)) : Call Tryz.prog 16 #[pt sb] H (Same (.bool false) H) := by
  refine Call.enter Tryz.func16 rfl (n := 12) rfl (Nat.le_of_ble_eq_true rfl) ?_
  show Gt _ _ _ ⟨12, [(0, _)], []⟩ _ _
  refine Gt.seq ?_
  refine Gt.region (show SQ _ _ [0] _ _ _ from ?_)
  refine SQ.p rfl rfl (Pu.asg (v := .bool _) rfl) ?_
  refine SQ.nil ?_
  refine Gt.seq ?_
  refine Gt.region (show SQ _ _ [0, 1, 2, 3, 4, 5, 6, 7, 8, 9] _ _ _ from ?_)
  refine SQ.p rfl rfl (Pu.mv (v := .pointer _) rfl) ?_
  refine SQ.p rfl rfl (Pu.by (v := .bool true) fun _ => rfl) ?_
  refine SQ.p rfl rfl (Pu.mv (v := .bool _) rfl) ?_
  refine SQ.p rfl rfl (Pu.mv (v := .pointer _) rfl) ?_
  refine SQ.p rfl rfl (Pu.nilCheck rfl) ?_
  refine SQ.p rfl rfl (Pu.fieldAddr (k := 7) rfl rfl) ?_
  refine SQ.r rfl rfl (Rd.load (v := .pointer _) rfl rfl hs rfl) ?_
  refine SQ.p rfl rfl (Pu.by (v := .bool false) fun _ => rfl) ?_
  refine SQ.p rfl rfl (Pu.pickT (v := .bool _) rfl rfl) ?_
  refine SQ.p rfl rfl (Pu.asg (v := .bool _) rfl) ?_
  refine SQ.nil ?_
  refine Gt.ret (Res.mk1 Tryz.func16 rfl rfl (.tmp (v := .bool false) rfl)) (Sub.refl _) ?_
  exact ⟨rfl, rfl⟩
set_option maxRecDepth 100000 in
theorem is_made (x : Addr) (H : Hp) (sb : Nat) (ro cl : Value) (q b c k n : Int) (dp : Option Addr) (dn : Bool) (hs : H sb = some (row (sCells ro cl q b c k n (some x) dp dn) sT)) : Call Tryz.prog 16 #[pt sb] H (Same (.bool true) H) := by
  refine Call.enter Tryz.func16 rfl (n := 12) rfl (Nat.le_of_ble_eq_true rfl) ?_
  show Gt _ _ _ ⟨12, [(0, _)], []⟩ _ _
  refine Gt.seq ?_
  refine Gt.region (show SQ _ _ [0] _ _ _ from ?_)
  refine SQ.p rfl rfl (Pu.asg (v := .bool _) rfl) ?_
  refine SQ.nil ?_
  refine Gt.seq ?_
  refine Gt.region (show SQ _ _ [0, 1, 2, 3, 4, 5, 6, 7, 8, 9] _ _ _ from ?_)
  refine SQ.p rfl rfl (Pu.mv (v := .pointer _) rfl) ?_
  refine SQ.p rfl rfl (Pu.by (v := .bool true) fun _ => rfl) ?_
  refine SQ.p rfl rfl (Pu.mv (v := .bool _) rfl) ?_
  refine SQ.p rfl rfl (Pu.mv (v := .pointer _) rfl) ?_
  refine SQ.p rfl rfl (Pu.nilCheck rfl) ?_
  refine SQ.p rfl rfl (Pu.fieldAddr (k := 7) rfl rfl) ?_
  refine SQ.r rfl rfl (Rd.load (v := .pointer _) rfl rfl hs rfl) ?_
  refine SQ.p rfl rfl (Pu.by (v := .bool true) fun _ => rfl) ?_
  refine SQ.p rfl rfl (Pu.pickT (v := .bool _) rfl rfl) ?_
  refine SQ.p rfl rfl (Pu.asg (v := .bool _) rfl) ?_
  refine SQ.nil ?_
  refine Gt.ret (Res.mk1 Tryz.func16 rfl rfl (.tmp (v := .bool true) rfl)) (Sub.refl _) ?_
  exact ⟨rfl, rfl⟩
set_option maxRecDepth 100000 in
theorem down_nil (H : Hp) : Call Tryz.prog 9 #[.pointer none] H (Same (.bool true) H) := by
  refine Call.enter Tryz.func9 rfl (n := 12) rfl (Nat.le_of_ble_eq_true rfl) ?_
  show Gt _ _ _ ⟨12, [(0, _)], []⟩ _ _
  refine Gt.seq ?_
  refine Gt.region (show SQ _ _ [0] _ _ _ from ?_)
  refine SQ.p rfl rfl (Pu.asg (v := .bool _) rfl) ?_
  refine SQ.nil ?_
  refine Gt.seq ?_
  refine Gt.region (show SQ _ _ [0, 1, 2, 3, 4, 5, 6, 7, 8, 9] _ _ _ from ?_)
  refine SQ.p rfl rfl (Pu.mv (v := .pointer _) rfl) ?_
  refine SQ.e rfl rfl (Ef.call en16 (vs := [_]) rfl (is_nil _)) ?_
  rintro _ _ ⟨rfl, rfl⟩
  refine SQ.p rfl rfl (Pu.by (v := .bool true) fun _ => rfl) ?_
  refine SQ.p rfl rfl (Pu.mv (v := .bool _) rfl) ?_
  refine SQ.s rfl rfl ?_
  refine SQ.s rfl rfl ?_
  refine SQ.s rfl rfl ?_
  refine SQ.s rfl rfl ?_
  refine SQ.p rfl rfl (Pu.pickT (v := .bool _) rfl rfl) ?_
  refine SQ.p rfl rfl (Pu.asg (v := .bool _) rfl) ?_
  refine SQ.nil ?_
  refine Gt.ret (Res.mk1 Tryz.func9 rfl rfl (.tmp (v := .bool true) rfl)) (Sub.refl _) ?_
  exact ⟨rfl, rfl⟩
set_option maxRecDepth 100000 in
theorem down_zero (H : Hp) (sb : Nat) (ro cl : Value) (q b c k n : Int) (dp : Option Addr) (dn : Bool) (hs : H sb = some (row (sCells ro cl q b c k n none dp dn) sT)) : Call Tryz.prog 9 #[pt sb] H (Same (.bool true) H) := by
  refine Call.enter Tryz.func9 rfl (n := 12) rfl (Nat.le_of_ble_eq_true rfl) ?_
  show Gt _ _ _ ⟨12, [(0, _)], []⟩ _ _
  refine Gt.seq ?_
  refine Gt.region (show SQ _ _ [0] _ _ _ from ?_)
  refine SQ.p rfl rfl (Pu.asg (v := .bool _) rfl) ?_
  refine SQ.nil ?_
  refine Gt.seq ?_
  refine Gt.region (show SQ _ _ [0, 1, 2, 3, 4, 5, 6, 7, 8, 9] _ _ _ from ?_)
  refine SQ.p rfl rfl (Pu.mv (v := .pointer _) rfl) ?_
  refine SQ.e rfl rfl (Ef.call en16 (vs := [_]) rfl (is_zero _ _ _ _ _ _ _ _ _ _ _ hs)) ?_
  rintro _ _ ⟨rfl, rfl⟩
  refine SQ.p rfl rfl (Pu.by (v := .bool true) fun _ => rfl) ?_
  refine SQ.p rfl rfl (Pu.mv (v := .bool _) rfl) ?_
  refine SQ.s rfl rfl ?_
  refine SQ.s rfl rfl ?_
  refine SQ.s rfl rfl ?_
  refine SQ.s rfl rfl ?_
  refine SQ.p rfl rfl (Pu.pickT (v := .bool _) rfl rfl) ?_
  refine SQ.p rfl rfl (Pu.asg (v := .bool _) rfl) ?_
  refine SQ.nil ?_
  refine Gt.ret (Res.mk1 Tryz.func9 rfl rfl (.tmp (v := .bool true) rfl)) (Sub.refl _) ?_
  exact ⟨rfl, rfl⟩
set_option maxRecDepth 100000 in
theorem fail_nil (H : Hp) (bv kv : Value) : Call Tryz.prog 5 #[.pointer none, bv, kv] H (Same (.tuple #[]) H) := by
  refine Call.enter Tryz.func5 rfl (n := 30) rfl (Nat.le_of_ble_eq_true rfl) ?_
  show Gt _ _ _ ⟨30, [(0, _), (1, _), (2, _)], []⟩ _ _
  refine Gt.seq ?_
  refine Gt.seq ?_
  refine Gt.region (show SQ _ _ [0, 1] _ _ _ from ?_)
  refine SQ.p rfl rfl (Pu.mv (v := .pointer _) rfl) ?_
  refine SQ.e rfl rfl (Ef.call en9 (vs := [_]) rfl (down_nil _)) ?_
  rintro _ _ ⟨rfl, rfl⟩
  refine SQ.nil ?_
  refine Gt.condT rfl ?_
  refine Gt.ret (Res.none Tryz.func5 rfl rfl) (Sub.refl _) ?_
  exact ⟨rfl, rfl⟩
set_option maxRecDepth 100000 in
theorem ledger_nil (H : Hp) : Call Tryz.prog 6 #[.pointer none] H (Same (.tuple #[nil0, .int .i64 9]) H) := by
  refine Call.enter Tryz.func6 rfl (n := 20) rfl (Nat.le_of_ble_eq_true rfl) ?_
  show Gt _ _ _ ⟨20, [(0, _)], []⟩ _ _
  refine Gt.seq ?_
  refine Gt.region (show SQ _ _ [0, 1] _ _ _ from ?_)
  refine SQ.p rfl rfl (Pu.asg (v := .slice _ _ _) rfl) ?_
  refine SQ.p rfl rfl (Pu.asg (v := .int _ _) rfl) ?_
  refine SQ.nil ?_
  refine Gt.seq ?_
  refine Gt.block ?_
  refine Gt.seq ?_
  refine Gt.region (show SQ _ _ [0, 1, 2, 3] _ _ _ from ?_)
  refine SQ.p rfl rfl (Pu.mv (v := .pointer _) rfl) ?_
  refine SQ.e rfl rfl (Ef.call en16 (vs := [_]) rfl (is_nil _)) ?_
  rintro _ _ ⟨rfl, rfl⟩
  refine SQ.p rfl rfl (Pu.by (v := .bool true) fun _ => rfl) ?_
  refine SQ.p rfl rfl (Pu.asg (v := .bool _) rfl) ?_
  refine SQ.nil ?_
  refine Gt.condT rfl ?_
  refine Gt.seq ?_
  refine Gt.region (show SQ _ _ [0, 1] _ _ _ from ?_)
  refine SQ.p rfl rfl (Pu.asg (v := .slice _ _ _) rfl) ?_
  refine SQ.p rfl rfl (Pu.asg (v := .int _ _) rfl) ?_
  refine SQ.nil ?_
  refine Gt.ret (Res.mk2 Tryz.func6 rfl rfl (.tmp (v := .slice _ _ _) rfl) (.tmp (v := .int _ _) rfl)) (Sub.refl _) ?_
  exact ⟨rfl, rfl⟩
set_option maxRecDepth 100000 in
theorem names_nil (H : Hp) : Call Tryz.prog 7 #[.pointer none] H (Same (.tuple #[nil0, .int .i64 9]) H) := by
  refine Call.enter Tryz.func7 rfl (n := 20) rfl (Nat.le_of_ble_eq_true rfl) ?_
  show Gt _ _ _ ⟨20, [(0, _)], []⟩ _ _
  refine Gt.seq ?_
  refine Gt.region (show SQ _ _ [0, 1] _ _ _ from ?_)
  refine SQ.p rfl rfl (Pu.asg (v := .slice _ _ _) rfl) ?_
  refine SQ.p rfl rfl (Pu.asg (v := .int _ _) rfl) ?_
  refine SQ.nil ?_
  refine Gt.seq ?_
  refine Gt.block ?_
  refine Gt.seq ?_
  refine Gt.region (show SQ _ _ [0, 1, 2, 3] _ _ _ from ?_)
  refine SQ.p rfl rfl (Pu.mv (v := .pointer _) rfl) ?_
  refine SQ.e rfl rfl (Ef.call en16 (vs := [_]) rfl (is_nil _)) ?_
  rintro _ _ ⟨rfl, rfl⟩
  refine SQ.p rfl rfl (Pu.by (v := .bool true) fun _ => rfl) ?_
  refine SQ.p rfl rfl (Pu.asg (v := .bool _) rfl) ?_
  refine SQ.nil ?_
  refine Gt.condT rfl ?_
  refine Gt.seq ?_
  refine Gt.region (show SQ _ _ [0, 1] _ _ _ from ?_)
  refine SQ.p rfl rfl (Pu.asg (v := .slice _ _ _) rfl) ?_
  refine SQ.p rfl rfl (Pu.asg (v := .int _ _) rfl) ?_
  refine SQ.nil ?_
  refine Gt.ret (Res.mk2 Tryz.func7 rfl rfl (.tmp (v := .slice _ _ _) rfl) (.tmp (v := .int _ _) rfl)) (Sub.refl _) ?_
  exact ⟨rfl, rfl⟩
set_option maxRecDepth 100000 in
theorem hear_nil (H : Hp) (bv : Value) : Call Tryz.prog 8 #[.pointer none, bv] H (Same (.bool false) H) := by
  refine Call.enter Tryz.func8 rfl (n := 32) rfl (Nat.le_of_ble_eq_true rfl) ?_
  show Gt _ _ _ ⟨32, [(0, _), (1, _)], []⟩ _ _
  refine Gt.seq ?_
  refine Gt.region (show SQ _ _ [0] _ _ _ from ?_)
  refine SQ.p rfl rfl (Pu.asg (v := .bool _) rfl) ?_
  refine SQ.nil ?_
  refine Gt.seq ?_
  refine Gt.seq ?_
  refine Gt.region (show SQ _ _ [0, 1, 2, 3, 4, 5, 6, 7, 8, 9, 10] _ _ _ from ?_)
  refine SQ.p rfl rfl (Pu.mv (v := .pointer _) rfl) ?_
  refine SQ.e rfl rfl (Ef.call en9 (vs := [_]) rfl (down_nil _)) ?_
  rintro _ _ ⟨rfl, rfl⟩
  refine SQ.p rfl rfl (Pu.mv (v := .bool _) rfl) ?_
  refine SQ.s rfl rfl ?_
  refine SQ.s rfl rfl ?_
  refine SQ.s rfl rfl ?_
  refine SQ.s rfl rfl ?_
  refine SQ.s rfl rfl ?_
  refine SQ.s rfl rfl ?_
  refine SQ.s rfl rfl ?_
  refine SQ.p rfl rfl (Pu.pickT (v := .bool _) rfl rfl) ?_
  refine SQ.nil ?_
  refine Gt.condT rfl ?_
  refine Gt.seq ?_
  refine Gt.region (show SQ _ _ [0] _ _ _ from ?_)
  refine SQ.p rfl rfl (Pu.asg (v := .bool _) rfl) ?_
  refine SQ.nil ?_
  refine Gt.ret (Res.mk1 Tryz.func8 rfl rfl (.tmp (v := .bool false) rfl)) (Sub.refl _) ?_
  exact ⟨rfl, rfl⟩
set_option maxRecDepth 100000 in
theorem learner_nil (H : Hp) : Call Tryz.prog 10 #[.pointer none] H (Same (.pointer none) H) := by
  refine Call.enter Tryz.func10 rfl (n := 19) rfl (Nat.le_of_ble_eq_true rfl) ?_
  show Gt _ _ _ ⟨19, [(0, _)], []⟩ _ _
  refine Gt.seq ?_
  refine Gt.region (show SQ _ _ [0] _ _ _ from ?_)
  refine SQ.p rfl rfl (Pu.asg (v := .pointer _) rfl) ?_
  refine SQ.nil ?_
  refine Gt.seq ?_
  refine Gt.seq ?_
  refine Gt.region (show SQ _ _ [0, 1] _ _ _ from ?_)
  refine SQ.p rfl rfl (Pu.mv (v := .pointer _) rfl) ?_
  refine SQ.e rfl rfl (Ef.call en9 (vs := [_]) rfl (down_nil _)) ?_
  rintro _ _ ⟨rfl, rfl⟩
  refine SQ.nil ?_
  refine Gt.condT rfl ?_
  refine Gt.seq ?_
  refine Gt.region (show SQ _ _ [0] _ _ _ from ?_)
  refine SQ.p rfl rfl (Pu.asg (v := .pointer _) rfl) ?_
  refine SQ.nil ?_
  refine Gt.ret (Res.mk1 Tryz.func10 rfl rfl (.tmp (v := .pointer _) rfl)) (Sub.refl _) ?_
  exact ⟨rfl, rfl⟩
set_option maxRecDepth 100000 in
theorem up_nil (H : Hp) : Call Tryz.prog 11 #[.pointer none] H (Same (.int .i64 9) H) := by
  refine Call.enter Tryz.func11 rfl (n := 35) rfl (Nat.le_of_ble_eq_true rfl) ?_
  show Gt _ _ _ ⟨35, [(0, _)], []⟩ _ _
  refine Gt.seq ?_
  refine Gt.region (show SQ _ _ [0] _ _ _ from ?_)
  refine SQ.p rfl rfl (Pu.asg (v := .int _ _) rfl) ?_
  refine SQ.nil ?_
  refine Gt.seq ?_
  refine Gt.seq ?_
  refine Gt.region (show SQ _ _ [0, 1, 2, 3, 4, 5, 6, 7, 8, 9] _ _ _ from ?_)
  refine SQ.p rfl rfl (Pu.mv (v := .pointer _) rfl) ?_
  refine SQ.e rfl rfl (Ef.call en16 (vs := [_]) rfl (is_nil _)) ?_
  rintro _ _ ⟨rfl, rfl⟩
  refine SQ.p rfl rfl (Pu.by (v := .bool true) fun _ => rfl) ?_
  refine SQ.p rfl rfl (Pu.mv (v := .bool _) rfl) ?_
  refine SQ.s rfl rfl ?_
  refine SQ.s rfl rfl ?_
  refine SQ.s rfl rfl ?_
  refine SQ.s rfl rfl ?_
  refine SQ.s rfl rfl ?_
  refine SQ.p rfl rfl (Pu.pickT (v := .bool _) rfl rfl) ?_
  refine SQ.nil ?_
  refine Gt.condT rfl ?_
  refine Gt.seq ?_
  refine Gt.region (show SQ _ _ [0] _ _ _ from ?_)
  refine SQ.p rfl rfl (Pu.asg (v := .int _ _) rfl) ?_
  refine SQ.nil ?_
  refine Gt.ret (Res.mk1 Tryz.func11 rfl rfl (.tmp (v := .int _ _) rfl)) (Sub.refl _) ?_
  exact ⟨rfl, rfl⟩
set_option maxRecDepth 100000 in
theorem fail_zero (H : Hp) (sb : Nat) (ro cl : Value) (q b c k n : Int) (dp : Option Addr) (dn : Bool) (hs : H sb = some (row (sCells ro cl q b c k n none dp dn) sT)) (bv kv : Value) : Call Tryz.prog 5 #[pt sb, bv, kv] H (Same (.tuple #[]) H) := by
  refine Call.enter Tryz.func5 rfl (n := 30) rfl (Nat.le_of_ble_eq_true rfl) ?_
  show Gt _ _ _ ⟨30, [(0, _), (1, _), (2, _)], []⟩ _ _
  refine Gt.seq ?_
  refine Gt.seq ?_
  refine Gt.region (show SQ _ _ [0, 1] _ _ _ from ?_)
  refine SQ.p rfl rfl (Pu.mv (v := .pointer _) rfl) ?_
  refine SQ.e rfl rfl (Ef.call en9 (vs := [_]) rfl (down_zero _ _ _ _ _ _ _ _ _ _ _ hs)) ?_
  rintro _ _ ⟨rfl, rfl⟩
  refine SQ.nil ?_
  refine Gt.condT rfl ?_
  refine Gt.ret (Res.none Tryz.func5 rfl rfl) (Sub.refl _) ?_
  exact ⟨rfl, rfl⟩
set_option maxRecDepth 100000 in
theorem ledger_zero (H : Hp) (sb : Nat) (ro cl : Value) (q b c k n : Int) (dp : Option Addr) (dn : Bool) (hs : H sb = some (row (sCells ro cl q b c k n none dp dn) sT)) : Call Tryz.prog 6 #[pt sb] H (Same (.tuple #[nil0, .int .i64 9]) H) := by
  refine Call.enter Tryz.func6 rfl (n := 20) rfl (Nat.le_of_ble_eq_true rfl) ?_
  show Gt _ _ _ ⟨20, [(0, _)], []⟩ _ _
  refine Gt.seq ?_
  refine Gt.region (show SQ _ _ [0, 1] _ _ _ from ?_)
  refine SQ.p rfl rfl (Pu.asg (v := .slice _ _ _) rfl) ?_
  refine SQ.p rfl rfl (Pu.asg (v := .int _ _) rfl) ?_
  refine SQ.nil ?_
  refine Gt.seq ?_
  refine Gt.block ?_
  refine Gt.seq ?_
  refine Gt.region (show SQ _ _ [0, 1, 2, 3] _ _ _ from ?_)
  refine SQ.p rfl rfl (Pu.mv (v := .pointer _) rfl) ?_
  refine SQ.e rfl rfl (Ef.call en16 (vs := [_]) rfl (is_zero _ _ _ _ _ _ _ _ _ _ _ hs)) ?_
  rintro _ _ ⟨rfl, rfl⟩
  refine SQ.p rfl rfl (Pu.by (v := .bool true) fun _ => rfl) ?_
  refine SQ.p rfl rfl (Pu.asg (v := .bool _) rfl) ?_
  refine SQ.nil ?_
  refine Gt.condT rfl ?_
  refine Gt.seq ?_
  refine Gt.region (show SQ _ _ [0, 1] _ _ _ from ?_)
  refine SQ.p rfl rfl (Pu.asg (v := .slice _ _ _) rfl) ?_
  refine SQ.p rfl rfl (Pu.asg (v := .int _ _) rfl) ?_
  refine SQ.nil ?_
  refine Gt.ret (Res.mk2 Tryz.func6 rfl rfl (.tmp (v := .slice _ _ _) rfl) (.tmp (v := .int _ _) rfl)) (Sub.refl _) ?_
  exact ⟨rfl, rfl⟩
set_option maxRecDepth 100000 in
theorem names_zero (H : Hp) (sb : Nat) (ro cl : Value) (q b c k n : Int) (dp : Option Addr) (dn : Bool) (hs : H sb = some (row (sCells ro cl q b c k n none dp dn) sT)) : Call Tryz.prog 7 #[pt sb] H (Same (.tuple #[nil0, .int .i64 9]) H) := by
  refine Call.enter Tryz.func7 rfl (n := 20) rfl (Nat.le_of_ble_eq_true rfl) ?_
  show Gt _ _ _ ⟨20, [(0, _)], []⟩ _ _
  refine Gt.seq ?_
  refine Gt.region (show SQ _ _ [0, 1] _ _ _ from ?_)
  refine SQ.p rfl rfl (Pu.asg (v := .slice _ _ _) rfl) ?_
  refine SQ.p rfl rfl (Pu.asg (v := .int _ _) rfl) ?_
  refine SQ.nil ?_
  refine Gt.seq ?_
  refine Gt.block ?_
  refine Gt.seq ?_
  refine Gt.region (show SQ _ _ [0, 1, 2, 3] _ _ _ from ?_)
  refine SQ.p rfl rfl (Pu.mv (v := .pointer _) rfl) ?_
  refine SQ.e rfl rfl (Ef.call en16 (vs := [_]) rfl (is_zero _ _ _ _ _ _ _ _ _ _ _ hs)) ?_
  rintro _ _ ⟨rfl, rfl⟩
  refine SQ.p rfl rfl (Pu.by (v := .bool true) fun _ => rfl) ?_
  refine SQ.p rfl rfl (Pu.asg (v := .bool _) rfl) ?_
  refine SQ.nil ?_
  refine Gt.condT rfl ?_
  refine Gt.seq ?_
  refine Gt.region (show SQ _ _ [0, 1] _ _ _ from ?_)
  refine SQ.p rfl rfl (Pu.asg (v := .slice _ _ _) rfl) ?_
  refine SQ.p rfl rfl (Pu.asg (v := .int _ _) rfl) ?_
  refine SQ.nil ?_
  refine Gt.ret (Res.mk2 Tryz.func7 rfl rfl (.tmp (v := .slice _ _ _) rfl) (.tmp (v := .int _ _) rfl)) (Sub.refl _) ?_
  exact ⟨rfl, rfl⟩
set_option maxRecDepth 100000 in
theorem hear_zero (H : Hp) (sb : Nat) (ro cl : Value) (q b c k n : Int) (dp : Option Addr) (dn : Bool) (hs : H sb = some (row (sCells ro cl q b c k n none dp dn) sT)) (bv : Value) : Call Tryz.prog 8 #[pt sb, bv] H (Same (.bool false) H) := by
  refine Call.enter Tryz.func8 rfl (n := 32) rfl (Nat.le_of_ble_eq_true rfl) ?_
  show Gt _ _ _ ⟨32, [(0, _), (1, _)], []⟩ _ _
  refine Gt.seq ?_
  refine Gt.region (show SQ _ _ [0] _ _ _ from ?_)
  refine SQ.p rfl rfl (Pu.asg (v := .bool _) rfl) ?_
  refine SQ.nil ?_
  refine Gt.seq ?_
  refine Gt.seq ?_
  refine Gt.region (show SQ _ _ [0, 1, 2, 3, 4, 5, 6, 7, 8, 9, 10] _ _ _ from ?_)
  refine SQ.p rfl rfl (Pu.mv (v := .pointer _) rfl) ?_
  refine SQ.e rfl rfl (Ef.call en9 (vs := [_]) rfl (down_zero _ _ _ _ _ _ _ _ _ _ _ hs)) ?_
  rintro _ _ ⟨rfl, rfl⟩
  refine SQ.p rfl rfl (Pu.mv (v := .bool _) rfl) ?_
  refine SQ.s rfl rfl ?_
  refine SQ.s rfl rfl ?_
  refine SQ.s rfl rfl ?_
  refine SQ.s rfl rfl ?_
  refine SQ.s rfl rfl ?_
  refine SQ.s rfl rfl ?_
  refine SQ.s rfl rfl ?_
  refine SQ.p rfl rfl (Pu.pickT (v := .bool _) rfl rfl) ?_
  refine SQ.nil ?_
  refine Gt.condT rfl ?_
  refine Gt.seq ?_
  refine Gt.region (show SQ _ _ [0] _ _ _ from ?_)
  refine SQ.p rfl rfl (Pu.asg (v := .bool _) rfl) ?_
  refine SQ.nil ?_
  refine Gt.ret (Res.mk1 Tryz.func8 rfl rfl (.tmp (v := .bool false) rfl)) (Sub.refl _) ?_
  exact ⟨rfl, rfl⟩
set_option maxRecDepth 100000 in
theorem learner_zero (H : Hp) (sb : Nat) (ro cl : Value) (q b c k n : Int) (dp : Option Addr) (dn : Bool) (hs : H sb = some (row (sCells ro cl q b c k n none dp dn) sT)) : Call Tryz.prog 10 #[pt sb] H (Same (.pointer none) H) := by
  refine Call.enter Tryz.func10 rfl (n := 19) rfl (Nat.le_of_ble_eq_true rfl) ?_
  show Gt _ _ _ ⟨19, [(0, _)], []⟩ _ _
  refine Gt.seq ?_
  refine Gt.region (show SQ _ _ [0] _ _ _ from ?_)
  refine SQ.p rfl rfl (Pu.asg (v := .pointer _) rfl) ?_
  refine SQ.nil ?_
  refine Gt.seq ?_
  refine Gt.seq ?_
  refine Gt.region (show SQ _ _ [0, 1] _ _ _ from ?_)
  refine SQ.p rfl rfl (Pu.mv (v := .pointer _) rfl) ?_
  refine SQ.e rfl rfl (Ef.call en9 (vs := [_]) rfl (down_zero _ _ _ _ _ _ _ _ _ _ _ hs)) ?_
  rintro _ _ ⟨rfl, rfl⟩
  refine SQ.nil ?_
  refine Gt.condT rfl ?_
  refine Gt.seq ?_
  refine Gt.region (show SQ _ _ [0] _ _ _ from ?_)
  refine SQ.p rfl rfl (Pu.asg (v := .pointer _) rfl) ?_
  refine SQ.nil ?_
  refine Gt.ret (Res.mk1 Tryz.func10 rfl rfl (.tmp (v := .pointer _) rfl)) (Sub.refl _) ?_
  exact ⟨rfl, rfl⟩
set_option maxRecDepth 100000 in
theorem up_zero (H : Hp) (sb : Nat) (ro cl : Value) (q b c k n : Int) (dp : Option Addr) (dn : Bool) (hs : H sb = some (row (sCells ro cl q b c k n none dp dn) sT)) : Call Tryz.prog 11 #[pt sb] H (Same (.int .i64 9) H) := by
  refine Call.enter Tryz.func11 rfl (n := 35) rfl (Nat.le_of_ble_eq_true rfl) ?_
  show Gt _ _ _ ⟨35, [(0, _)], []⟩ _ _
  refine Gt.seq ?_
  refine Gt.region (show SQ _ _ [0] _ _ _ from ?_)
  refine SQ.p rfl rfl (Pu.asg (v := .int _ _) rfl) ?_
  refine SQ.nil ?_
  refine Gt.seq ?_
  refine Gt.seq ?_
  refine Gt.region (show SQ _ _ [0, 1, 2, 3, 4, 5, 6, 7, 8, 9] _ _ _ from ?_)
  refine SQ.p rfl rfl (Pu.mv (v := .pointer _) rfl) ?_
  refine SQ.e rfl rfl (Ef.call en16 (vs := [_]) rfl (is_zero _ _ _ _ _ _ _ _ _ _ _ hs)) ?_
  rintro _ _ ⟨rfl, rfl⟩
  refine SQ.p rfl rfl (Pu.by (v := .bool true) fun _ => rfl) ?_
  refine SQ.p rfl rfl (Pu.mv (v := .bool _) rfl) ?_
  refine SQ.s rfl rfl ?_
  refine SQ.s rfl rfl ?_
  refine SQ.s rfl rfl ?_
  refine SQ.s rfl rfl ?_
  refine SQ.s rfl rfl ?_
  refine SQ.p rfl rfl (Pu.pickT (v := .bool _) rfl rfl) ?_
  refine SQ.nil ?_
  refine Gt.condT rfl ?_
  refine Gt.seq ?_
  refine Gt.region (show SQ _ _ [0] _ _ _ from ?_)
  refine SQ.p rfl rfl (Pu.asg (v := .int _ _) rfl) ?_
  refine SQ.nil ?_
  refine Gt.ret (Res.mk1 Tryz.func11 rfl rfl (.tmp (v := .int _ _) rfl)) (Sub.refl _) ?_
  exact ⟨rfl, rfl⟩
set_option maxRecDepth 100000 in
theorem down_made_true (x : Addr) (H : Hp) (sb : Nat) (ro cl : Value) (q b c k n : Int) (dp : Option Addr) (hs : H sb = some (row (sCells ro cl q b c k n (some x) dp true) sT)) : Call Tryz.prog 9 #[pt sb] H (Same (.bool true) H) := by
  refine Call.enter Tryz.func9 rfl (n := 12) rfl (Nat.le_of_ble_eq_true rfl) ?_
  show Gt _ _ _ ⟨12, [(0, _)], []⟩ _ _
  refine Gt.seq ?_
  refine Gt.region (show SQ _ _ [0] _ _ _ from ?_)
  refine SQ.p rfl rfl (Pu.asg (v := .bool _) rfl) ?_
  refine SQ.nil ?_
  refine Gt.seq ?_
  refine Gt.region (show SQ _ _ [0, 1, 2, 3, 4, 5, 6, 7, 8, 9] _ _ _ from ?_)
  refine SQ.p rfl rfl (Pu.mv (v := .pointer _) rfl) ?_
  refine SQ.e rfl rfl (Ef.call en16 (vs := [_]) rfl (is_made _ _ _ _ _ _ _ _ _ _ _ _ hs)) ?_
  rintro _ _ ⟨rfl, rfl⟩
  refine SQ.p rfl rfl (Pu.by (v := .bool false) fun _ => rfl) ?_
  refine SQ.p rfl rfl (Pu.mv (v := .bool _) rfl) ?_
  refine SQ.p rfl rfl (Pu.mv (v := .pointer _) rfl) ?_
  refine SQ.p rfl rfl (Pu.nilCheck rfl) ?_
  refine SQ.p rfl rfl (Pu.fieldAddr (k := 9) rfl rfl) ?_
  refine SQ.r rfl rfl (Rd.load (v := .bool true) rfl rfl hs rfl) ?_
  refine SQ.p rfl rfl (Pu.pickF (v := .bool _) rfl rfl) ?_
  refine SQ.p rfl rfl (Pu.asg (v := .bool _) rfl) ?_
  refine SQ.nil ?_
  refine Gt.ret (Res.mk1 Tryz.func9 rfl rfl (.tmp (v := .bool true) rfl)) (Sub.refl _) ?_
  exact ⟨rfl, rfl⟩
set_option maxRecDepth 100000 in
theorem down_made_false (x : Addr) (H : Hp) (sb : Nat) (ro cl : Value) (q b c k n : Int) (dp : Option Addr) (hs : H sb = some (row (sCells ro cl q b c k n (some x) dp false) sT)) : Call Tryz.prog 9 #[pt sb] H (Same (.bool false) H) := by
  refine Call.enter Tryz.func9 rfl (n := 12) rfl (Nat.le_of_ble_eq_true rfl) ?_
  show Gt _ _ _ ⟨12, [(0, _)], []⟩ _ _
  refine Gt.seq ?_
  refine Gt.region (show SQ _ _ [0] _ _ _ from ?_)
  refine SQ.p rfl rfl (Pu.asg (v := .bool _) rfl) ?_
  refine SQ.nil ?_
  refine Gt.seq ?_
  refine Gt.region (show SQ _ _ [0, 1, 2, 3, 4, 5, 6, 7, 8, 9] _ _ _ from ?_)
  refine SQ.p rfl rfl (Pu.mv (v := .pointer _) rfl) ?_
  refine SQ.e rfl rfl (Ef.call en16 (vs := [_]) rfl (is_made _ _ _ _ _ _ _ _ _ _ _ _ hs)) ?_
  rintro _ _ ⟨rfl, rfl⟩
  refine SQ.p rfl rfl (Pu.by (v := .bool false) fun _ => rfl) ?_
  refine SQ.p rfl rfl (Pu.mv (v := .bool _) rfl) ?_
  refine SQ.p rfl rfl (Pu.mv (v := .pointer _) rfl) ?_
  refine SQ.p rfl rfl (Pu.nilCheck rfl) ?_
  refine SQ.p rfl rfl (Pu.fieldAddr (k := 9) rfl rfl) ?_
  refine SQ.r rfl rfl (Rd.load (v := .bool false) rfl rfl hs rfl) ?_
  refine SQ.p rfl rfl (Pu.pickF (v := .bool _) rfl rfl) ?_
  refine SQ.p rfl rfl (Pu.asg (v := .bool _) rfl) ?_
  refine SQ.nil ?_
  refine Gt.ret (Res.mk1 Tryz.func9 rfl rfl (.tmp (v := .bool false) rfl)) (Sub.refl _) ?_
  exact ⟨rfl, rfl⟩
end Go.Proofs.YtdheiajppnlbbaaGreat
