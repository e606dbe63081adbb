/- Proved here: NetClocksUptoSaid, the law NetClocks where what it reads is of bulk at most 1048576; this text holds a part of its proof. -/
import Derived.Test.YtfahdeckchkpmaaGreatT20
section
set_option linter.unusedVariables false
set_option linter.unusedSimpArgs false
set_option maxRecDepth 100000
set_option maxHeartbeats 4000000
namespace Go.Av
open Go.Proofs
variable {H : Heap}

theorem c_copy5 {t : Bool} {xs : List Int} (hx : xs.length ≤ 1099511627776) : ACalls Tryz.prog 69 [.nums .u64 t xs] H (fun x H' => x = .nums .u64 false xs ∧ H' = H) := by
  refine ACalls.enter (fn := Tryz.f69) (N := 7) (rs := [.tmp 2]) (by kernel_rfl) (by kernel_rfl) rfl rfl (Nat.le_of_ble_eq_true rfl) rfl ?_
  refine AW.sr (by kernel_rfl) fun K1 hK1 => ?_
  simp (disch := omega) only [go_sem, w_i64, w_u64, w_i32, w_u32, w_u8, Nat.min_eq_left, Nat.min_eq_right, Nat.reduceBEq, Int.reduceBNe, Int.reduceBEq, Nat.reduceBNe, Nat.reduceAdd, Nat.reduceMul, Nat.reduceSub, Nat.reduceLT, Nat.reduceLeDiff, Nat.reduceEqDiff, Int.reduceLT, Int.reduceLE, Int.reduceEq, Int.reduceToNat, Int.reduceNeg, reduceCtorEq, ↓reduceIte]
  repeat (apply And.intro; (focus first | trivial | omega | (intros; omega) | (intros; simp_all; done) | (intros; simp_all; omega)))
  refine hK1 _ _ ?_
  try clear hK1 K1
  refine AW.sr (by kernel_rfl) fun K2 hK2 => ?_
  simp (disch := omega) only [go_sem, w_i64, w_u64, w_i32, w_u32, w_u8, Nat.min_eq_left, Nat.min_eq_right, Nat.reduceBEq, Int.reduceBNe, Int.reduceBEq, Nat.reduceBNe, Nat.reduceAdd, Nat.reduceMul, Nat.reduceSub, Nat.reduceLT, Nat.reduceLeDiff, Nat.reduceEqDiff, Int.reduceLT, Int.reduceLE, Int.reduceEq, Int.reduceToNat, Int.reduceNeg, reduceCtorEq, ↓reduceIte]
  repeat (apply And.intro; (focus first | trivial | omega | (intros; omega) | (intros; simp_all; done) | (intros; simp_all; omega)))
  refine hK2 _ _ ?_
  try clear hK2 K2
  refine AW.sr (by kernel_rfl) fun K3 hK3 => ?_
  simp (disch := omega) only [go_sem, w_i64, w_u64, w_i32, w_u32, w_u8, Nat.min_eq_left, Nat.min_eq_right, Nat.reduceBEq, Int.reduceBNe, Int.reduceBEq, Nat.reduceBNe, Nat.reduceAdd, Nat.reduceMul, Nat.reduceSub, Nat.reduceLT, Nat.reduceLeDiff, Nat.reduceEqDiff, Int.reduceLT, Int.reduceLE, Int.reduceEq, Int.reduceToNat, Int.reduceNeg, reduceCtorEq, ↓reduceIte]
  repeat (apply And.intro; (focus first | trivial | omega | (intros; omega) | (intros; simp_all; done) | (intros; simp_all; omega)))
  refine hK3 _ _ ?_
  try clear hK3 K3
  refine AW.ret ?_
  simp (disch := omega) only [go_sem, w_i64, w_u64, w_i32, w_u32, w_u8, Nat.min_eq_left, Nat.min_eq_right, Nat.reduceBEq, Int.reduceBNe, Int.reduceBEq, Nat.reduceBNe, Nat.reduceAdd, Nat.reduceMul, Nat.reduceSub, Nat.reduceLT, Nat.reduceLeDiff, Nat.reduceEqDiff, Int.reduceLT, Int.reduceLE, Int.reduceEq, Int.reduceToNat, Int.reduceNeg, reduceCtorEq, ↓reduceIte]


theorem c_copy8 {c : CertV} (hc : c.Ok) : ACalls Tryz.prog 70 [.agg c.cells] H (fun x H' => x = .agg c.cells ∧ H' = H) := by
  refine ACalls.drop ?_
  refine ACalls.enter (fn := Tryz.f70) (N := 20) (rs := [.cell 2 102]) (by kernel_rfl) (by kernel_rfl) rfl rfl (Nat.le_of_ble_eq_true rfl) rfl ?_
  simp only [CertV.cells]
  have hs := hc.sig
  refine AW.sr (by kernel_rfl) fun K1 hK1 => ?_
  simp (disch := ((try simp only [List.length_set, List.length_append, List.length_cons, List.length_nil]); omega)) only [go_sem, w_i64, w_u64, w_i32, w_u32, w_u8, Nat.min_eq_left, Nat.min_eq_right, Nat.reduceBEq, Int.reduceBNe, Int.reduceBEq, Nat.reduceBNe, Nat.reduceAdd, Nat.reduceMul, Nat.reduceSub, Nat.reduceLT, Nat.reduceLeDiff, Nat.reduceEqDiff, Int.reduceLT, Int.reduceLE, Int.reduceEq, Int.reduceToNat, Int.reduceNeg, reduceCtorEq, ↓reduceIte, hp_getL, hp_setL, hp_ne, hp_eq, hp_getS0, hp_getSk, hp_setS0, hp_setSk]
  repeat (apply And.intro; (focus first | trivial | omega | (intros; omega) | (intros; simp_all; done) | (intros; simp_all; omega)))
  refine hK1 _ _ ?_
  try clear hK1 K1
  refine AW.sr (by kernel_rfl) fun K2 hK2 => ?_
  simp (disch := ((try simp only [List.length_set, List.length_append, List.length_cons, List.length_nil]); omega)) only [go_sem, w_i64, w_u64, w_i32, w_u32, w_u8, Nat.min_eq_left, Nat.min_eq_right, Nat.reduceBEq, Int.reduceBNe, Int.reduceBEq, Nat.reduceBNe, Nat.reduceAdd, Nat.reduceMul, Nat.reduceSub, Nat.reduceLT, Nat.reduceLeDiff, Nat.reduceEqDiff, Int.reduceLT, Int.reduceLE, Int.reduceEq, Int.reduceToNat, Int.reduceNeg, reduceCtorEq, ↓reduceIte, hp_getL, hp_setL, hp_ne, hp_eq, hp_getS0, hp_getSk, hp_setS0, hp_setSk]
  repeat (apply And.intro; (focus first | trivial | omega | (intros; omega) | (intros; simp_all; done) | (intros; simp_all; omega)))
  refine hK2 _ _ ?_
  try clear hK2 K2
  refine AW.sd [7, 9] (by kernel_rfl) (by kernel_rfl) (by kernel_rfl) fun K3 hK3 => ?_
  simp (disch := ((try simp only [List.length_set, List.length_append, List.length_cons, List.length_nil]); omega)) only [go_sem, w_i64, w_u64, w_i32, w_u32, w_u8, Nat.min_eq_left, Nat.min_eq_right, Nat.reduceBEq, Int.reduceBNe, Int.reduceBEq, Nat.reduceBNe, Nat.reduceAdd, Nat.reduceMul, Nat.reduceSub, Nat.reduceLT, Nat.reduceLeDiff, Nat.reduceEqDiff, Int.reduceLT, Int.reduceLE, Int.reduceEq, Int.reduceToNat, Int.reduceNeg, reduceCtorEq, ↓reduceIte, hp_getL, hp_setL, hp_ne, hp_eq, hp_getS0, hp_getSk, hp_setS0, hp_setSk]
  repeat (apply And.intro; (focus first | trivial | omega | (intros; omega) | (intros; simp_all; done) | (intros; simp_all; omega)))
  refine Exists.intro _ (And.intro (c_copy5 hc.n) ?_)
  simp (disch := ((try simp only [List.length_set, List.length_append, List.length_cons, List.length_nil]); omega)) only [go_sem, w_i64, w_u64, w_i32, w_u32, w_u8, Nat.min_eq_left, Nat.min_eq_right, Nat.reduceBEq, Int.reduceBNe, Int.reduceBEq, Nat.reduceBNe, Nat.reduceAdd, Nat.reduceMul, Nat.reduceSub, Nat.reduceLT, Nat.reduceLeDiff, Nat.reduceEqDiff, Int.reduceLT, Int.reduceLE, Int.reduceEq, Int.reduceToNat, Int.reduceNeg, reduceCtorEq, ↓reduceIte, hp_getL, hp_setL, hp_ne, hp_eq, hp_getS0, hp_getSk, hp_setS0, hp_setSk]
  repeat (apply And.intro; (focus first | trivial | omega | (intros; omega) | (intros; simp_all; done) | (intros; simp_all; omega)))
  refine Exists.intro _ (And.intro (c_copy5 hc.e) ?_)
  simp (disch := ((try simp only [List.length_set, List.length_append, List.length_cons, List.length_nil]); omega)) only [go_sem, w_i64, w_u64, w_i32, w_u32, w_u8, Nat.min_eq_left, Nat.min_eq_right, Nat.reduceBEq, Int.reduceBNe, Int.reduceBEq, Nat.reduceBNe, Nat.reduceAdd, Nat.reduceMul, Nat.reduceSub, Nat.reduceLT, Nat.reduceLeDiff, Nat.reduceEqDiff, Int.reduceLT, Int.reduceLE, Int.reduceEq, Int.reduceToNat, Int.reduceNeg, reduceCtorEq, ↓reduceIte, hp_getL, hp_setL, hp_ne, hp_eq, hp_getS0, hp_getSk, hp_setS0, hp_setSk]
  repeat (apply And.intro; (focus first | trivial | omega | (intros; omega) | (intros; simp_all; done) | (intros; simp_all; omega)))
  refine hK3 _ _ ?_
  try clear hK3 K3
  refine AW.sr (by kernel_rfl) fun K4 hK4 => ?_
  simp (disch := ((try simp only [List.length_set, List.length_append, List.length_cons, List.length_nil]); omega)) only [go_sem, w_i64, w_u64, w_i32, w_u32, w_u8, Nat.min_eq_left, Nat.min_eq_right, Nat.reduceBEq, Int.reduceBNe, Int.reduceBEq, Nat.reduceBNe, Nat.reduceAdd, Nat.reduceMul, Nat.reduceSub, Nat.reduceLT, Nat.reduceLeDiff, Nat.reduceEqDiff, Int.reduceLT, Int.reduceLE, Int.reduceEq, Int.reduceToNat, Int.reduceNeg, reduceCtorEq, ↓reduceIte, hp_getL, hp_setL, hp_ne, hp_eq, hp_getS0, hp_getSk, hp_setS0, hp_setSk]
  repeat (apply And.intro; (focus first | trivial | omega | (intros; omega) | (intros; simp_all; done) | (intros; simp_all; omega)))
  refine hK4 _ _ ?_
  try clear hK4 K4
  refine AW.sr (by kernel_rfl) fun K5 hK5 => ?_
  simp (disch := ((try simp only [List.length_set, List.length_append, List.length_cons, List.length_nil]); omega)) only [go_sem, w_i64, w_u64, w_i32, w_u32, w_u8, Nat.min_eq_left, Nat.min_eq_right, Nat.reduceBEq, Int.reduceBNe, Int.reduceBEq, Nat.reduceBNe, Nat.reduceAdd, Nat.reduceMul, Nat.reduceSub, Nat.reduceLT, Nat.reduceLeDiff, Nat.reduceEqDiff, Int.reduceLT, Int.reduceLE, Int.reduceEq, Int.reduceToNat, Int.reduceNeg, reduceCtorEq, ↓reduceIte, hp_getL, hp_setL, hp_ne, hp_eq, hp_getS0, hp_getSk, hp_setS0, hp_setSk]
  repeat (apply And.intro; (focus first | trivial | omega | (intros; omega) | (intros; simp_all; done) | (intros; simp_all; omega)))
  refine hK5 _ _ ?_
  try clear hK5 K5
  refine AW.sr (by kernel_rfl) fun K6 hK6 => ?_
  simp (disch := ((try simp only [List.length_set, List.length_append, List.length_cons, List.length_nil]); omega)) only [go_sem, w_i64, w_u64, w_i32, w_u32, w_u8, Nat.min_eq_left, Nat.min_eq_right, Nat.reduceBEq, Int.reduceBNe, Int.reduceBEq, Nat.reduceBNe, Nat.reduceAdd, Nat.reduceMul, Nat.reduceSub, Nat.reduceLT, Nat.reduceLeDiff, Nat.reduceEqDiff, Int.reduceLT, Int.reduceLE, Int.reduceEq, Int.reduceToNat, Int.reduceNeg, reduceCtorEq, ↓reduceIte, hp_getL, hp_setL, hp_ne, hp_eq, hp_getS0, hp_getSk, hp_setS0, hp_setSk]
  repeat (apply And.intro; (focus first | trivial | omega | (intros; omega) | (intros; simp_all; done) | (intros; simp_all; omega)))
  refine hK6 _ _ ?_
  try clear hK6 K6
  refine AW.ret ?_
  simp (disch := ((try simp only [List.length_set, List.length_append, List.length_cons, List.length_nil]); omega)) only [go_sem, w_i64, w_u64, w_i32, w_u32, w_u8, Nat.min_eq_left, Nat.min_eq_right, Nat.reduceBEq, Int.reduceBNe, Int.reduceBEq, Nat.reduceBNe, Nat.reduceAdd, Nat.reduceMul, Nat.reduceSub, Nat.reduceLT, Nat.reduceLeDiff, Nat.reduceEqDiff, Int.reduceLT, Int.reduceLE, Int.reduceEq, Int.reduceToNat, Int.reduceNeg, reduceCtorEq, ↓reduceIte, hp_getL, hp_setL, hp_ne, hp_eq, hp_getS0, hp_getSk, hp_setS0, hp_setSk]
  exact ⟨_, rfl, by simp [AV.lt, AV.lts]⟩


theorem c_heavy5 {n e d : List Int} : ACalls Tryz.prog 62 [.agg [.nums .u64 false n, .nums .u64 false e, .nums .u64 false d]] H (fun x H' => x = .bool (decide (4 < (n.length : Int)) || decide (4 < (e.length : Int)) || decide (4 < (d.length : Int))) ∧ H' = H) := by
  refine ACalls.drop ?_
  refine ACalls.enter (fn := Tryz.f62) (N := 19) (rs := [.tmp 2]) (by kernel_rfl) (by kernel_rfl) rfl rfl (Nat.le_of_ble_eq_true rfl) rfl ?_
  refine AW.sr (by kernel_rfl) fun K1 hK1 => ?_
  simp (disch := ((try simp only [List.length_set, List.length_append, List.length_cons, List.length_nil]); omega)) only [go_sem, w_i64, w_u64, w_i32, w_u32, w_u8, Nat.min_eq_left, Nat.min_eq_right, Nat.reduceBEq, Int.reduceBNe, Int.reduceBEq, Nat.reduceBNe, Nat.reduceAdd, Nat.reduceMul, Nat.reduceSub, Nat.reduceLT, Nat.reduceLeDiff, Nat.reduceEqDiff, Int.reduceLT, Int.reduceLE, Int.reduceEq, Int.reduceToNat, Int.reduceNeg, reduceCtorEq, ↓reduceIte, hp_getL, hp_setL, hp_ne, hp_eq, hp_getS0, hp_getSk, hp_setS0, hp_setSk]
  repeat (apply And.intro; (focus first | trivial | omega | (intros; omega) | (intros; simp_all; done) | (intros; simp_all; omega)))
  refine hK1 _ _ ?_
  try clear hK1 K1
  refine AW.sr (by kernel_rfl) fun K2 hK2 => ?_
  simp (disch := ((try simp only [List.length_set, List.length_append, List.length_cons, List.length_nil]); omega)) only [go_sem, w_i64, w_u64, w_i32, w_u32, w_u8, Nat.min_eq_left, Nat.min_eq_right, Nat.reduceBEq, Int.reduceBNe, Int.reduceBEq, Nat.reduceBNe, Nat.reduceAdd, Nat.reduceMul, Nat.reduceSub, Nat.reduceLT, Nat.reduceLeDiff, Nat.reduceEqDiff, Int.reduceLT, Int.reduceLE, Int.reduceEq, Int.reduceToNat, Int.reduceNeg, reduceCtorEq, ↓reduceIte, hp_getL, hp_setL, hp_ne, hp_eq, hp_getS0, hp_getSk, hp_setS0, hp_setSk]
  repeat (apply And.intro; (focus first | trivial | omega | (intros; omega) | (intros; simp_all; done) | (intros; simp_all; omega)))
  refine hK2 _ _ ?_
  try clear hK2 K2
  refine AW.ret ?_
  simp (disch := ((try simp only [List.length_set, List.length_append, List.length_cons, List.length_nil]); omega)) only [go_sem, w_i64, w_u64, w_i32, w_u32, w_u8, Nat.min_eq_left, Nat.min_eq_right, Nat.reduceBEq, Int.reduceBNe, Int.reduceBEq, Nat.reduceBNe, Nat.reduceAdd, Nat.reduceMul, Nat.reduceSub, Nat.reduceLT, Nat.reduceLeDiff, Nat.reduceEqDiff, Int.reduceLT, Int.reduceLE, Int.reduceEq, Int.reduceToNat, Int.reduceNeg, reduceCtorEq, ↓reduceIte, hp_getL, hp_setL, hp_ne, hp_eq, hp_getS0, hp_getSk, hp_setS0, hp_setSk]
  exact ⟨_, rfl, trivial⟩


theorem c_heavy6 {n e d : List Int} : ACalls Tryz.prog 63 [.agg [.nums .u64 false n, .nums .u64 false e, .nums .u64 false d]] H (fun x H' => x = .bool (decide (3 < (n.length : Int)) || decide (3 < (e.length : Int)) || decide (3 < (d.length : Int))) ∧ H' = H) := by
  refine ACalls.drop ?_
  refine ACalls.enter (fn := Tryz.f63) (N := 19) (rs := [.tmp 2]) (by kernel_rfl) (by kernel_rfl) rfl rfl (Nat.le_of_ble_eq_true rfl) rfl ?_
  refine AW.sr (by kernel_rfl) fun K1 hK1 => ?_
  simp (disch := ((try simp only [List.length_set, List.length_append, List.length_cons, List.length_nil]); omega)) only [go_sem, w_i64, w_u64, w_i32, w_u32, w_u8, Nat.min_eq_left, Nat.min_eq_right, Nat.reduceBEq, Int.reduceBNe, Int.reduceBEq, Nat.reduceBNe, Nat.reduceAdd, Nat.reduceMul, Nat.reduceSub, Nat.reduceLT, Nat.reduceLeDiff, Nat.reduceEqDiff, Int.reduceLT, Int.reduceLE, Int.reduceEq, Int.reduceToNat, Int.reduceNeg, reduceCtorEq, ↓reduceIte, hp_getL, hp_setL, hp_ne, hp_eq, hp_getS0, hp_getSk, hp_setS0, hp_setSk]
  repeat (apply And.intro; (focus first | trivial | omega | (intros; omega) | (intros; simp_all; done) | (intros; simp_all; omega)))
  refine hK1 _ _ ?_
  try clear hK1 K1
  refine AW.sr (by kernel_rfl) fun K2 hK2 => ?_
  simp (disch := ((try simp only [List.length_set, List.length_append, List.length_cons, List.length_nil]); omega)) only [go_sem, w_i64, w_u64, w_i32, w_u32, w_u8, Nat.min_eq_left, Nat.min_eq_right, Nat.reduceBEq, Int.reduceBNe, Int.reduceBEq, Nat.reduceBNe, Nat.reduceAdd, Nat.reduceMul, Nat.reduceSub, Nat.reduceLT, Nat.reduceLeDiff, Nat.reduceEqDiff, Int.reduceLT, Int.reduceLE, Int.reduceEq, Int.reduceToNat, Int.reduceNeg, reduceCtorEq, ↓reduceIte, hp_getL, hp_setL, hp_ne, hp_eq, hp_getS0, hp_getSk, hp_setS0, hp_setSk]
  repeat (apply And.intro; (focus first | trivial | omega | (intros; omega) | (intros; simp_all; done) | (intros; simp_all; omega)))
  refine hK2 _ _ ?_
  try clear hK2 K2
  refine AW.ret ?_
  simp (disch := ((try simp only [List.length_set, List.length_append, List.length_cons, List.length_nil]); omega)) only [go_sem, w_i64, w_u64, w_i32, w_u32, w_u8, Nat.min_eq_left, Nat.min_eq_right, Nat.reduceBEq, Int.reduceBNe, Int.reduceBEq, Nat.reduceBNe, Nat.reduceAdd, Nat.reduceMul, Nat.reduceSub, Nat.reduceLT, Nat.reduceLeDiff, Nat.reduceEqDiff, Int.reduceLT, Int.reduceLE, Int.reduceEq, Int.reduceToNat, Int.reduceNeg, reduceCtorEq, ↓reduceIte, hp_getL, hp_setL, hp_ne, hp_eq, hp_getS0, hp_getSk, hp_setS0, hp_setSk]
  exact ⟨_, rfl, trivial⟩


def heavy8 (c : CertV) : Bool := decide (4 < (c.n.length : Int)) || decide (4 < (c.e.length : Int)) || decide (100 < (c.issuer.size : Int)) || decide (100 < (c.subject.size : Int)) || decide (300 < (c.sig.length : Int))
theorem c_heavy8 {c : CertV} : ACalls Tryz.prog 64 [.agg c.cells] H (fun x H' => x = .bool (heavy8 c) ∧ H' = H) := by
  refine ACalls.drop ?_
  refine ACalls.enter (fn := Tryz.f64) (N := 31) (rs := [.tmp 2]) (by kernel_rfl) (by kernel_rfl) rfl rfl (Nat.le_of_ble_eq_true rfl) rfl ?_
  simp only [CertV.cells]
  refine AW.sr (by kernel_rfl) fun K1 hK1 => ?_
  simp (disch := ((try simp only [List.length_set, List.length_append, List.length_cons, List.length_nil]); omega)) only [go_sem, w_i64, w_u64, w_i32, w_u32, w_u8, Nat.min_eq_left, Nat.min_eq_right, Nat.reduceBEq, Int.reduceBNe, Int.reduceBEq, Nat.reduceBNe, Nat.reduceAdd, Nat.reduceMul, Nat.reduceSub, Nat.reduceLT, Nat.reduceLeDiff, Nat.reduceEqDiff, Int.reduceLT, Int.reduceLE, Int.reduceEq, Int.reduceToNat, Int.reduceNeg, reduceCtorEq, ↓reduceIte, hp_getL, hp_setL, hp_ne, hp_eq, hp_getS0, hp_getSk, hp_setS0, hp_setSk]
  repeat (apply And.intro; (focus first | trivial | omega | (intros; omega) | (intros; simp_all; done) | (intros; simp_all; omega)))
  refine hK1 _ _ ?_
  try clear hK1 K1
  refine AW.sr (by kernel_rfl) fun K2 hK2 => ?_
  simp (disch := ((try simp only [List.length_set, List.length_append, List.length_cons, List.length_nil]); omega)) only [go_sem, w_i64, w_u64, w_i32, w_u32, w_u8, Nat.min_eq_left, Nat.min_eq_right, Nat.reduceBEq, Int.reduceBNe, Int.reduceBEq, Nat.reduceBNe, Nat.reduceAdd, Nat.reduceMul, Nat.reduceSub, Nat.reduceLT, Nat.reduceLeDiff, Nat.reduceEqDiff, Int.reduceLT, Int.reduceLE, Int.reduceEq, Int.reduceToNat, Int.reduceNeg, reduceCtorEq, ↓reduceIte, hp_getL, hp_setL, hp_ne, hp_eq, hp_getS0, hp_getSk, hp_setS0, hp_setSk]
  repeat (apply And.intro; (focus first | trivial | omega | (intros; omega) | (intros; simp_all; done) | (intros; simp_all; omega)))
  refine hK2 _ _ ?_
  try clear hK2 K2
  refine AW.ret ?_
  simp (disch := ((try simp only [List.length_set, List.length_append, List.length_cons, List.length_nil]); omega)) only [go_sem, w_i64, w_u64, w_i32, w_u32, w_u8, Nat.min_eq_left, Nat.min_eq_right, Nat.reduceBEq, Int.reduceBNe, Int.reduceBEq, Nat.reduceBNe, Nat.reduceAdd, Nat.reduceMul, Nat.reduceSub, Nat.reduceLT, Nat.reduceLeDiff, Nat.reduceEqDiff, Int.reduceLT, Int.reduceLE, Int.reduceEq, Int.reduceToNat, Int.reduceNeg, reduceCtorEq, ↓reduceIte, hp_getL, hp_setL, hp_ne, hp_eq, hp_getS0, hp_getSk, hp_setS0, hp_setSk]
  exact ⟨_, rfl, trivial, rfl⟩


def heavyB (c : ConfV) : Bool := ((decide (4 < (c.n.length : Int)) || decide (4 < (c.e.length : Int)) || decide (4 < (c.d.length : Int))) || (decide (3 < (c.p.length : Int)) || decide (3 < (c.q.length : Int)) || decide (3 < (c.g.length : Int))) || decide (3 < (c.a.length : Int)) || decide (3 < (c.b.length : Int)) || decide (6 < (c.certs.length : Int)) || decide (20 < (c.names.length : Int)) || decide (100 < (c.name.size : Int))) || c.certs.any heavy8
theorem any_some {α : Type} {p : α → Bool} {l : List α} {i : Nat} (hi : i < l.length) (h : p l[i] = true) : l.any p = true := List.any_eq_true.2 ⟨l[i], List.getElem_mem hi, h⟩
theorem any_none {α : Type} {p : α → Bool} {l : List α} (h : ∀ i (hi : i < l.length), p l[i] = false) : l.any p = false := by
  rw [List.any_eq_false]
  intro x hx
  obtain ⟨i, hi, rfl⟩ := List.getElem_of_mem hx
  simp [h i hi]
theorem c_heavy17 {c : ConfV} (hl : c.certs.length ≤ 4294967295) : ACalls Tryz.prog 25 [.agg c.cells] H (fun x H' => x = .bool (heavyB c) ∧ H' = H) := by
  refine ACalls.drop ?_
  refine ACalls.enter (fn := Tryz.f25) (N := 55) (rs := [.tmp 2]) (by kernel_rfl) (by kernel_rfl) rfl rfl (Nat.le_of_ble_eq_true rfl) rfl ?_
  simp only [ConfV.cells, certs, strs]
  have hcl := certs_len (l := c.certs)
  refine AW.sr (by kernel_rfl) fun K1 hK1 => ?_
  simp (disch := ((try simp only [List.length_set, List.length_append, List.length_cons, List.length_nil]); omega)) only [go_sem, w_i64, w_u64, w_i32, w_u32, w_u8, Nat.min_eq_left, Nat.min_eq_right, Nat.reduceBEq, Int.reduceBNe, Int.reduceBEq, Nat.reduceBNe, Nat.reduceAdd, Nat.reduceMul, Nat.reduceSub, Nat.reduceLT, Nat.reduceLeDiff, Nat.reduceEqDiff, Int.reduceLT, Int.reduceLE, Int.reduceEq, Int.reduceToNat, Int.reduceNeg, reduceCtorEq, ↓reduceIte, hp_getL, hp_setL, hp_ne, hp_eq, hp_getS0, hp_getSk, hp_setS0, hp_setSk, certs, strs]
  repeat (apply And.intro; (focus first | trivial | omega | (intros; omega) | (intros; simp_all; done) | (intros; simp_all; omega)))
  refine hK1 _ _ ?_
  try clear hK1 K1
  refine AW.sq fun K2 hK2 => ?_
  refine AW.sr (by kernel_rfl) fun K3 hK3 => ?_
  simp (disch := ((try simp only [List.length_set, List.length_append, List.length_cons, List.length_nil]); omega)) only [go_sem, w_i64, w_u64, w_i32, w_u32, w_u8, Nat.min_eq_left, Nat.min_eq_right, Nat.reduceBEq, Int.reduceBNe, Int.reduceBEq, Nat.reduceBNe, Nat.reduceAdd, Nat.reduceMul, Nat.reduceSub, Nat.reduceLT, Nat.reduceLeDiff, Nat.reduceEqDiff, Int.reduceLT, Int.reduceLE, Int.reduceEq, Int.reduceToNat, Int.reduceNeg, reduceCtorEq, ↓reduceIte, hp_getL, hp_setL, hp_ne, hp_eq, hp_getS0, hp_getSk, hp_setS0, hp_setSk, certs, strs]
  repeat (apply And.intro; (focus first | trivial | omega | (intros; omega) | (intros; simp_all; done) | (intros; simp_all; omega)))
  refine (c_heavy5).mono fun x2 H2 _ hx2 => ?_
  obtain ⟨rfl, hE2⟩ := hx2; subst H2
  simp (disch := ((try simp only [List.length_set, List.length_append, List.length_cons, List.length_nil]); omega)) only [go_sem, w_i64, w_u64, w_i32, w_u32, w_u8, Nat.min_eq_left, Nat.min_eq_right, Nat.reduceBEq, Int.reduceBNe, Int.reduceBEq, Nat.reduceBNe, Nat.reduceAdd, Nat.reduceMul, Nat.reduceSub, Nat.reduceLT, Nat.reduceLeDiff, Nat.reduceEqDiff, Int.reduceLT, Int.reduceLE, Int.reduceEq, Int.reduceToNat, Int.reduceNeg, reduceCtorEq, ↓reduceIte, hp_getL, hp_setL, hp_ne, hp_eq, hp_getS0, hp_getSk, hp_setS0, hp_setSk, certs, strs]
  repeat (apply And.intro; (focus first | trivial | omega | (intros; omega) | (intros; simp_all; done) | (intros; simp_all; omega)))
  refine Exists.intro _ (And.intro (fun hg => ⟨by (try simp (disch := ((try simp only [List.length_set, List.length_append, List.length_cons, List.length_nil]); omega)) only [go_sem, w_i64, w_u64, w_i32, w_u32, w_u8, Nat.min_eq_left, Nat.min_eq_right, Nat.reduceBEq, Int.reduceBNe, Int.reduceBEq, Nat.reduceBNe, Nat.reduceAdd, Nat.reduceMul, Nat.reduceSub, Nat.reduceLT, Nat.reduceLeDiff, Nat.reduceEqDiff, Int.reduceLT, Int.reduceLE, Int.reduceEq, Int.reduceToNat, Int.reduceNeg, reduceCtorEq, ↓reduceIte, hp_getL, hp_setL, hp_ne, hp_eq, hp_getS0, hp_getSk, hp_setS0, hp_setSk, certs, strs]); (try trivial), (c_heavy6)⟩) ?_)
  simp (disch := ((try simp only [List.length_set, List.length_append, List.length_cons, List.length_nil]); omega)) only [go_sem, w_i64, w_u64, w_i32, w_u32, w_u8, Nat.min_eq_left, Nat.min_eq_right, Nat.reduceBEq, Int.reduceBNe, Int.reduceBEq, Nat.reduceBNe, Nat.reduceAdd, Nat.reduceMul, Nat.reduceSub, Nat.reduceLT, Nat.reduceLeDiff, Nat.reduceEqDiff, Int.reduceLT, Int.reduceLE, Int.reduceEq, Int.reduceToNat, Int.reduceNeg, reduceCtorEq, ↓reduceIte, hp_getL, hp_setL, hp_ne, hp_eq, hp_getS0, hp_getSk, hp_setS0, hp_setSk, certs, strs]
  repeat (apply And.intro; (focus first | trivial | omega | (intros; omega) | (intros; simp_all; done) | (intros; simp_all; omega)))
  refine hK3 _ _ ?_
  try clear hK3 K3
  refine AW.cond rfl (fun h => ?_) (fun h => ?_)
  · try simp only [decide_eq_true_eq, decide_eq_false_iff_not, beq_iff_eq, beq_eq_false_iff_ne, bne_iff_ne, bne_eq_false_iff_eq, ne_eq, Bool.and_eq_true, Bool.or_eq_true, Bool.and_eq_false_iff, Bool.or_eq_false_iff, Bool.not_eq_true', Bool.not_eq_false', Int.not_lt, Int.not_le, Decidable.not_not, Bool.not_true, Bool.not_false] at h
    refine AW.sr (by kernel_rfl) fun K4 hK4 => ?_
    simp (disch := ((try simp only [List.length_set, List.length_append, List.length_cons, List.length_nil]); omega)) only [go_sem, w_i64, w_u64, w_i32, w_u32, w_u8, Nat.min_eq_left, Nat.min_eq_right, Nat.reduceBEq, Int.reduceBNe, Int.reduceBEq, Nat.reduceBNe, Nat.reduceAdd, Nat.reduceMul, Nat.reduceSub, Nat.reduceLT, Nat.reduceLeDiff, Nat.reduceEqDiff, Int.reduceLT, Int.reduceLE, Int.reduceEq, Int.reduceToNat, Int.reduceNeg, reduceCtorEq, ↓reduceIte, hp_getL, hp_setL, hp_ne, hp_eq, hp_getS0, hp_getSk, hp_setS0, hp_setSk, certs, strs]
    repeat (apply And.intro; (focus first | trivial | omega | (intros; omega) | (intros; simp_all; done) | (intros; simp_all; omega)))
    refine hK4 _ _ ?_
    try clear hK4 K4
    refine AW.ret ?_
    simp (disch := ((try simp only [List.length_set, List.length_append, List.length_cons, List.length_nil]); omega)) only [go_sem, w_i64, w_u64, w_i32, w_u32, w_u8, Nat.min_eq_left, Nat.min_eq_right, Nat.reduceBEq, Int.reduceBNe, Int.reduceBEq, Nat.reduceBNe, Nat.reduceAdd, Nat.reduceMul, Nat.reduceSub, Nat.reduceLT, Nat.reduceLeDiff, Nat.reduceEqDiff, Int.reduceLT, Int.reduceLE, Int.reduceEq, Int.reduceToNat, Int.reduceNeg, reduceCtorEq, ↓reduceIte, hp_getL, hp_setL, hp_ne, hp_eq, hp_getS0, hp_getSk, hp_setS0, hp_setSk, certs, strs]
    exact ⟨_, rfl, trivial, by rw [heavyB, Bool.or_eq_true_iff.2 (.inl (by simpa using h))]⟩
  · try simp only [decide_eq_true_eq, decide_eq_false_iff_not, beq_iff_eq, beq_eq_false_iff_ne, bne_iff_ne, bne_eq_false_iff_eq, ne_eq, Bool.and_eq_true, Bool.or_eq_true, Bool.and_eq_false_iff, Bool.or_eq_false_iff, Bool.not_eq_true', Bool.not_eq_false', Int.not_lt, Int.not_le, Decidable.not_not, Bool.not_true, Bool.not_false] at h
    have hz := h
    refine AW.skip ?_
    simp (disch := ((try simp only [List.length_set, List.length_append, List.length_cons, List.length_nil]); omega)) only [go_sem, w_i64, w_u64, w_i32, w_u32, w_u8, Nat.min_eq_left, Nat.min_eq_right, Nat.reduceBEq, Int.reduceBNe, Int.reduceBEq, Nat.reduceBNe, Nat.reduceAdd, Nat.reduceMul, Nat.reduceSub, Nat.reduceLT, Nat.reduceLeDiff, Nat.reduceEqDiff, Int.reduceLT, Int.reduceLE, Int.reduceEq, Int.reduceToNat, Int.reduceNeg, reduceCtorEq, ↓reduceIte, hp_getL, hp_setL, hp_ne, hp_eq, hp_getS0, hp_getSk, hp_setS0, hp_setSk, certs, strs]
    refine hK2 _ _ ?_
    try clear hK2 K2
    refine AW.sq fun K5 hK5 => ?_
    refine AW.sr (by kernel_rfl) fun K6 hK6 => ?_
    simp (disch := ((try simp only [List.length_set, List.length_append, List.length_cons, List.length_nil]); omega)) only [go_sem, w_i64, w_u64, w_i32, w_u32, w_u8, Nat.min_eq_left, Nat.min_eq_right, Nat.reduceBEq, Int.reduceBNe, Int.reduceBEq, Nat.reduceBNe, Nat.reduceAdd, Nat.reduceMul, Nat.reduceSub, Nat.reduceLT, Nat.reduceLeDiff, Nat.reduceEqDiff, Int.reduceLT, Int.reduceLE, Int.reduceEq, Int.reduceToNat, Int.reduceNeg, reduceCtorEq, ↓reduceIte, hp_getL, hp_setL, hp_ne, hp_eq, hp_getS0, hp_getSk, hp_setS0, hp_setSk, certs, strs]
    repeat (apply And.intro; (focus first | trivial | omega | (intros; omega) | (intros; simp_all; done) | (intros; simp_all; omega)))
    refine hK6 _ _ ?_
    try clear hK6 K6
    refine AW.bloop (fun n l H' => ∃ i : Nat, n = c.certs.length - i ∧ i ≤ c.certs.length ∧ (∀ j (h : j < i) (h' : j < c.certs.length), heavy8 c.certs[j] = false) ∧ l = [(1, .ptr H.length 0), (3, .int .i64 i)] ∧ H' = H ++ [.cells c.cells]) c.certs.length ⟨[(1, _), (3, _)], le_cons rfl (le_cons rfl le_nil), ?_⟩ fun n l1 G _ hI => ?_
    · exact ⟨0, by omega, by omega, fun j hj => by omega, rfl, rfl⟩
    obtain ⟨i, rfl, hi, hall, rfl, rfl⟩ := hI; simp only [ConfV.cells, certs, strs]
    refine AW.sq fun K7 hK7 => ?_
    refine AW.sr (by kernel_rfl) fun K8 hK8 => ?_
    simp (disch := ((try simp only [List.length_set, List.length_append, List.length_cons, List.length_nil]); omega)) only [go_sem, w_i64, w_u64, w_i32, w_u32, w_u8, Nat.min_eq_left, Nat.min_eq_right, Nat.reduceBEq, Int.reduceBNe, Int.reduceBEq, Nat.reduceBNe, Nat.reduceAdd, Nat.reduceMul, Nat.reduceSub, Nat.reduceLT, Nat.reduceLeDiff, Nat.reduceEqDiff, Int.reduceLT, Int.reduceLE, Int.reduceEq, Int.reduceToNat, Int.reduceNeg, reduceCtorEq, ↓reduceIte, hp_getL, hp_setL, hp_ne, hp_eq, hp_getS0, hp_getSk, hp_setS0, hp_setSk, certs, strs]
    repeat (apply And.intro; (focus first | trivial | omega | (intros; omega) | (intros; simp_all; done) | (intros; simp_all; omega)))
    refine hK8 _ _ ?_
    try clear hK8 K8
    refine AW.cond rfl (fun h => ?_) (fun h => ?_)
    · try simp only [decide_eq_true_eq, decide_eq_false_iff_not, beq_iff_eq, beq_eq_false_iff_ne, bne_iff_ne, bne_eq_false_iff_eq, ne_eq, Bool.and_eq_true, Bool.or_eq_true, Bool.and_eq_false_iff, Bool.or_eq_false_iff, Bool.not_eq_true', Bool.not_eq_false', Int.not_lt, Int.not_le, Decidable.not_not, Bool.not_true, Bool.not_false] at h
      have hlt : i < c.certs.length := by omega
      refine AW.skip ?_
      simp (disch := ((try simp only [List.length_set, List.length_append, List.length_cons, List.length_nil]); omega)) only [go_sem, w_i64, w_u64, w_i32, w_u32, w_u8, Nat.min_eq_left, Nat.min_eq_right, Nat.reduceBEq, Int.reduceBNe, Int.reduceBEq, Nat.reduceBNe, Nat.reduceAdd, Nat.reduceMul, Nat.reduceSub, Nat.reduceLT, Nat.reduceLeDiff, Nat.reduceEqDiff, Int.reduceLT, Int.reduceLE, Int.reduceEq, Int.reduceToNat, Int.reduceNeg, reduceCtorEq, ↓reduceIte, hp_getL, hp_setL, hp_ne, hp_eq, hp_getS0, hp_getSk, hp_setS0, hp_setSk, certs, strs]
      refine hK7 _ _ ?_
      try clear hK7 K7
      refine AW.sblock fun K9 hK9 => ?_
      refine AW.sr (by kernel_rfl) fun K10 hK10 => ?_
      simp (disch := ((try simp only [List.length_set, List.length_append, List.length_cons, List.length_nil]); omega)) only [go_sem, w_i64, w_u64, w_i32, w_u32, w_u8, Nat.min_eq_left, Nat.min_eq_right, Nat.reduceBEq, Int.reduceBNe, Int.reduceBEq, Nat.reduceBNe, Nat.reduceAdd, Nat.reduceMul, Nat.reduceSub, Nat.reduceLT, Nat.reduceLeDiff, Nat.reduceEqDiff, Int.reduceLT, Int.reduceLE, Int.reduceEq, Int.reduceToNat, Int.reduceNeg, reduceCtorEq, ↓reduceIte, hp_getL, hp_setL, hp_ne, hp_eq, hp_getS0, hp_getSk, hp_setS0, hp_setSk, certs, strs]
      try simp only [certs_at hlt, List.take_take, Nat.min_self]
      try simp (disch := ((try simp only [List.length_set, List.length_append, List.length_cons, List.length_nil]); omega)) only [go_sem, w_i64, w_u64, w_i32, w_u32, w_u8, Nat.min_eq_left, Nat.min_eq_right, Nat.reduceBEq, Int.reduceBNe, Int.reduceBEq, Nat.reduceBNe, Nat.reduceAdd, Nat.reduceMul, Nat.reduceSub, Nat.reduceLT, Nat.reduceLeDiff, Nat.reduceEqDiff, Int.reduceLT, Int.reduceLE, Int.reduceEq, Int.reduceToNat, Int.reduceNeg, reduceCtorEq, ↓reduceIte, hp_getL, hp_setL, hp_ne, hp_eq, hp_getS0, hp_getSk, hp_setS0, hp_setSk, certs, strs]
      repeat (apply And.intro; (focus first | trivial | omega | (intros; omega) | (intros; simp_all; done) | (intros; simp_all; omega)))
      refine (c_heavy8).mono fun x5 H5 _ hx5 => ?_
      obtain ⟨rfl, hE5⟩ := hx5; subst H5
      simp (disch := ((try simp only [List.length_set, List.length_append, List.length_cons, List.length_nil]); omega)) only [go_sem, w_i64, w_u64, w_i32, w_u32, w_u8, Nat.min_eq_left, Nat.min_eq_right, Nat.reduceBEq, Int.reduceBNe, Int.reduceBEq, Nat.reduceBNe, Nat.reduceAdd, Nat.reduceMul, Nat.reduceSub, Nat.reduceLT, Nat.reduceLeDiff, Nat.reduceEqDiff, Int.reduceLT, Int.reduceLE, Int.reduceEq, Int.reduceToNat, Int.reduceNeg, reduceCtorEq, ↓reduceIte, hp_getL, hp_setL, hp_ne, hp_eq, hp_getS0, hp_getSk, hp_setS0, hp_setSk, certs, strs]
      repeat (apply And.intro; (focus first | trivial | omega | (intros; omega) | (intros; simp_all; done) | (intros; simp_all; omega)))
      refine hK10 _ _ ?_
      try clear hK10 K10
      refine AW.cond rfl (fun h => ?_) (fun h => ?_)
      · try simp only [decide_eq_true_eq, decide_eq_false_iff_not, beq_iff_eq, beq_eq_false_iff_ne, bne_iff_ne, bne_eq_false_iff_eq, ne_eq, Bool.and_eq_true, Bool.or_eq_true, Bool.and_eq_false_iff, Bool.or_eq_false_iff, Bool.not_eq_true', Bool.not_eq_false', Int.not_lt, Int.not_le, Decidable.not_not, Bool.not_true, Bool.not_false] at h
        refine AW.sr (by kernel_rfl) fun K11 hK11 => ?_
        simp (disch := ((try simp only [List.length_set, List.length_append, List.length_cons, List.length_nil]); omega)) only [go_sem, w_i64, w_u64, w_i32, w_u32, w_u8, Nat.min_eq_left, Nat.min_eq_right, Nat.reduceBEq, Int.reduceBNe, Int.reduceBEq, Nat.reduceBNe, Nat.reduceAdd, Nat.reduceMul, Nat.reduceSub, Nat.reduceLT, Nat.reduceLeDiff, Nat.reduceEqDiff, Int.reduceLT, Int.reduceLE, Int.reduceEq, Int.reduceToNat, Int.reduceNeg, reduceCtorEq, ↓reduceIte, hp_getL, hp_setL, hp_ne, hp_eq, hp_getS0, hp_getSk, hp_setS0, hp_setSk, certs, strs]
        repeat (apply And.intro; (focus first | trivial | omega | (intros; omega) | (intros; simp_all; done) | (intros; simp_all; omega)))
        refine hK11 _ _ ?_
        try clear hK11 K11
        refine AW.ret ?_
        simp (disch := ((try simp only [List.length_set, List.length_append, List.length_cons, List.length_nil]); omega)) only [go_sem, w_i64, w_u64, w_i32, w_u32, w_u8, Nat.min_eq_left, Nat.min_eq_right, Nat.reduceBEq, Int.reduceBNe, Int.reduceBEq, Nat.reduceBNe, Nat.reduceAdd, Nat.reduceMul, Nat.reduceSub, Nat.reduceLT, Nat.reduceLeDiff, Nat.reduceEqDiff, Int.reduceLT, Int.reduceLE, Int.reduceEq, Int.reduceToNat, Int.reduceNeg, reduceCtorEq, ↓reduceIte, hp_getL, hp_setL, hp_ne, hp_eq, hp_getS0, hp_getSk, hp_setS0, hp_setSk, certs, strs]
        exact ⟨_, rfl, trivial, by rw [heavyB, any_some hlt h, Bool.or_true]⟩
      · try simp only [decide_eq_true_eq, decide_eq_false_iff_not, beq_iff_eq, beq_eq_false_iff_ne, bne_iff_ne, bne_eq_false_iff_eq, ne_eq, Bool.and_eq_true, Bool.or_eq_true, Bool.and_eq_false_iff, Bool.or_eq_false_iff, Bool.not_eq_true', Bool.not_eq_false', Int.not_lt, Int.not_le, Decidable.not_not, Bool.not_true, Bool.not_false] at h
        refine AW.skip ?_
        simp (disch := ((try simp only [List.length_set, List.length_append, List.length_cons, List.length_nil]); omega)) only [go_sem, w_i64, w_u64, w_i32, w_u32, w_u8, Nat.min_eq_left, Nat.min_eq_right, Nat.reduceBEq, Int.reduceBNe, Int.reduceBEq, Nat.reduceBNe, Nat.reduceAdd, Nat.reduceMul, Nat.reduceSub, Nat.reduceLT, Nat.reduceLeDiff, Nat.reduceEqDiff, Int.reduceLT, Int.reduceLE, Int.reduceEq, Int.reduceToNat, Int.reduceNeg, reduceCtorEq, ↓reduceIte, hp_getL, hp_setL, hp_ne, hp_eq, hp_getS0, hp_getSk, hp_setS0, hp_setSk, certs, strs]
        refine hK9 _ _ ?_
        try clear hK9 K9
        refine AW.rg (by kernel_rfl) fun K12 hK12 => ?_
        simp (disch := ((try simp only [List.length_set, List.length_append, List.length_cons, List.length_nil]); omega)) only [go_sem, w_i64, w_u64, w_i32, w_u32, w_u8, Nat.min_eq_left, Nat.min_eq_right, Nat.reduceBEq, Int.reduceBNe, Int.reduceBEq, Nat.reduceBNe, Nat.reduceAdd, Nat.reduceMul, Nat.reduceSub, Nat.reduceLT, Nat.reduceLeDiff, Nat.reduceEqDiff, Int.reduceLT, Int.reduceLE, Int.reduceEq, Int.reduceToNat, Int.reduceNeg, reduceCtorEq, ↓reduceIte, hp_getL, hp_setL, hp_ne, hp_eq, hp_getS0, hp_getSk, hp_setS0, hp_setSk, certs, strs]
        repeat (apply And.intro; (focus first | trivial | omega | (intros; omega) | (intros; simp_all; done) | (intros; simp_all; omega)))
        refine hK12 _ _ ?_
        try clear hK12 K12
        simp (disch := ((try simp only [List.length_set, List.length_append, List.length_cons, List.length_nil]); omega)) only [go_sem, w_i64, w_u64, w_i32, w_u32, w_u8, Nat.min_eq_left, Nat.min_eq_right, Nat.reduceBEq, Int.reduceBNe, Int.reduceBEq, Nat.reduceBNe, Nat.reduceAdd, Nat.reduceMul, Nat.reduceSub, Nat.reduceLT, Nat.reduceLeDiff, Nat.reduceEqDiff, Int.reduceLT, Int.reduceLE, Int.reduceEq, Int.reduceToNat, Int.reduceNeg, reduceCtorEq, ↓reduceIte, hp_getL, hp_setL, hp_ne, hp_eq, hp_getS0, hp_getSk, hp_setS0, hp_setSk, certs, strs]
        refine ⟨c.certs.length - (i + 1), by omega, [(1, _), (3, _)], le_cons rfl (le_cons rfl le_nil), i + 1, rfl, by omega, fun j hj h' => ?_, ?_, rfl⟩
        · rcases Nat.lt_or_ge j i with h1 | h1
          · exact hall j h1 h'
          · have : j = i := by omega
            subst this
            exact h
        · (simp (disch := omega) only [go_sem, Nat.min_eq_left, Nat.min_eq_right, Nat.reduceBEq, Int.reduceBNe, Int.reduceBEq, Nat.reduceBNe, Nat.reduceAdd, Nat.reduceMul, Nat.reduceSub, Nat.reduceLT, Nat.reduceLeDiff, Nat.reduceEqDiff, Int.reduceLT, Int.reduceLE, Int.reduceEq, Int.reduceToNat, Int.reduceNeg, reduceCtorEq, ↓reduceIte, List.cons.injEq, Prod.mk.injEq, AV.int.injEq, AV.nums.injEq, AV.bool.injEq]; try omega)
    · try simp only [decide_eq_true_eq, decide_eq_false_iff_not, beq_iff_eq, beq_eq_false_iff_ne, bne_iff_ne, bne_eq_false_iff_eq, ne_eq, Bool.and_eq_true, Bool.or_eq_true, Bool.and_eq_false_iff, Bool.or_eq_false_iff, Bool.not_eq_true', Bool.not_eq_false', Int.not_lt, Int.not_le, Decidable.not_not, Bool.not_true, Bool.not_false] at h
      refine AW.exit ?_
      simp (disch := ((try simp only [List.length_set, List.length_append, List.length_cons, List.length_nil]); omega)) only [go_sem, w_i64, w_u64, w_i32, w_u32, w_u8, Nat.min_eq_left, Nat.min_eq_right, Nat.reduceBEq, Int.reduceBNe, Int.reduceBEq, Nat.reduceBNe, Nat.reduceAdd, Nat.reduceMul, Nat.reduceSub, Nat.reduceLT, Nat.reduceLeDiff, Nat.reduceEqDiff, Int.reduceLT, Int.reduceLE, Int.reduceEq, Int.reduceToNat, Int.reduceNeg, reduceCtorEq, ↓reduceIte, hp_getL, hp_setL, hp_ne, hp_eq, hp_getS0, hp_getSk, hp_setS0, hp_setSk, certs, strs]
      refine hK5 _ _ ?_
      try clear hK5 K5
      refine AW.sr (by kernel_rfl) fun K13 hK13 => ?_
      simp (disch := ((try simp only [List.length_set, List.length_append, List.length_cons, List.length_nil]); omega)) only [go_sem, w_i64, w_u64, w_i32, w_u32, w_u8, Nat.min_eq_left, Nat.min_eq_right, Nat.reduceBEq, Int.reduceBNe, Int.reduceBEq, Nat.reduceBNe, Nat.reduceAdd, Nat.reduceMul, Nat.reduceSub, Nat.reduceLT, Nat.reduceLeDiff, Nat.reduceEqDiff, Int.reduceLT, Int.reduceLE, Int.reduceEq, Int.reduceToNat, Int.reduceNeg, reduceCtorEq, ↓reduceIte, hp_getL, hp_setL, hp_ne, hp_eq, hp_getS0, hp_getSk, hp_setS0, hp_setSk, certs, strs]
      repeat (apply And.intro; (focus first | trivial | omega | (intros; omega) | (intros; simp_all; done) | (intros; simp_all; omega)))
      refine hK13 _ _ ?_
      try clear hK13 K13
      refine AW.ret ?_
      simp (disch := ((try simp only [List.length_set, List.length_append, List.length_cons, List.length_nil]); omega)) only [go_sem, w_i64, w_u64, w_i32, w_u32, w_u8, Nat.min_eq_left, Nat.min_eq_right, Nat.reduceBEq, Int.reduceBNe, Int.reduceBEq, Nat.reduceBNe, Nat.reduceAdd, Nat.reduceMul, Nat.reduceSub, Nat.reduceLT, Nat.reduceLeDiff, Nat.reduceEqDiff, Int.reduceLT, Int.reduceLE, Int.reduceEq, Int.reduceToNat, Int.reduceNeg, reduceCtorEq, ↓reduceIte, hp_getL, hp_setL, hp_ne, hp_eq, hp_getS0, hp_getSk, hp_setS0, hp_setSk, certs, strs]
      have hb : c.certs.any heavy8 = false := any_none fun j hj => hall j (by omega) hj
      exact ⟨_, rfl, trivial, by rw [heavyB, hb, Bool.or_false]; simp at hz ⊢; omega⟩


theorem c_heavy18 {l : List ConfV} (hl : l.length ≤ 4294967295) (hc : ∀ c ∈ l, c.certs.length ≤ 4294967295) : ACalls Tryz.prog 52 [confs l] H (fun x H' => x = .bool (decide (20 < (l.length : Int)) || l.any heavyB) ∧ H' = H) := by
  refine ACalls.enter (fn := Tryz.f52) (N := 18) (rs := [.tmp 2]) (by kernel_rfl) (by kernel_rfl) rfl rfl (Nat.le_of_ble_eq_true rfl) rfl ?_
  unfold confs
  have hcl := confs_len (l := l)
  refine AW.sr (by kernel_rfl) fun K1 hK1 => ?_
  simp (disch := ((try simp only [List.length_set, List.length_append, List.length_cons, List.length_nil]); omega)) only [go_sem, w_i64, w_u64, w_i32, w_u32, w_u8, Nat.min_eq_left, Nat.min_eq_right, Nat.reduceBEq, Int.reduceBNe, Int.reduceBEq, Nat.reduceBNe, Nat.reduceAdd, Nat.reduceMul, Nat.reduceSub, Nat.reduceLT, Nat.reduceLeDiff, Nat.reduceEqDiff, Int.reduceLT, Int.reduceLE, Int.reduceEq, Int.reduceToNat, Int.reduceNeg, reduceCtorEq, ↓reduceIte, hp_getL, hp_setL, hp_ne, hp_eq, hp_getS0, hp_getSk, hp_setS0, hp_setSk]
  repeat (apply And.intro; (focus first | trivial | omega | (intros; omega) | (intros; simp_all; done) | (intros; simp_all; omega)))
  refine hK1 _ _ ?_
  try clear hK1 K1
  refine AW.sq fun K2 hK2 => ?_
  refine AW.sr (by kernel_rfl) fun K3 hK3 => ?_
  simp (disch := ((try simp only [List.length_set, List.length_append, List.length_cons, List.length_nil]); omega)) only [go_sem, w_i64, w_u64, w_i32, w_u32, w_u8, Nat.min_eq_left, Nat.min_eq_right, Nat.reduceBEq, Int.reduceBNe, Int.reduceBEq, Nat.reduceBNe, Nat.reduceAdd, Nat.reduceMul, Nat.reduceSub, Nat.reduceLT, Nat.reduceLeDiff, Nat.reduceEqDiff, Int.reduceLT, Int.reduceLE, Int.reduceEq, Int.reduceToNat, Int.reduceNeg, reduceCtorEq, ↓reduceIte, hp_getL, hp_setL, hp_ne, hp_eq, hp_getS0, hp_getSk, hp_setS0, hp_setSk]
  repeat (apply And.intro; (focus first | trivial | omega | (intros; omega) | (intros; simp_all; done) | (intros; simp_all; omega)))
  refine hK3 _ _ ?_
  try clear hK3 K3
  refine AW.cond rfl (fun h => ?_) (fun h => ?_)
  · try simp only [decide_eq_true_eq, decide_eq_false_iff_not, beq_iff_eq, beq_eq_false_iff_ne, bne_iff_ne, bne_eq_false_iff_eq, ne_eq, Bool.and_eq_true, Bool.or_eq_true, Bool.and_eq_false_iff, Bool.or_eq_false_iff, Bool.not_eq_true', Bool.not_eq_false', Int.not_lt, Int.not_le, Decidable.not_not, Bool.not_true, Bool.not_false] at h
    refine AW.sr (by kernel_rfl) fun K4 hK4 => ?_
    simp (disch := ((try simp only [List.length_set, List.length_append, List.length_cons, List.length_nil]); omega)) only [go_sem, w_i64, w_u64, w_i32, w_u32, w_u8, Nat.min_eq_left, Nat.min_eq_right, Nat.reduceBEq, Int.reduceBNe, Int.reduceBEq, Nat.reduceBNe, Nat.reduceAdd, Nat.reduceMul, Nat.reduceSub, Nat.reduceLT, Nat.reduceLeDiff, Nat.reduceEqDiff, Int.reduceLT, Int.reduceLE, Int.reduceEq, Int.reduceToNat, Int.reduceNeg, reduceCtorEq, ↓reduceIte, hp_getL, hp_setL, hp_ne, hp_eq, hp_getS0, hp_getSk, hp_setS0, hp_setSk]
    repeat (apply And.intro; (focus first | trivial | omega | (intros; omega) | (intros; simp_all; done) | (intros; simp_all; omega)))
    refine hK4 _ _ ?_
    try clear hK4 K4
    refine AW.ret ?_
    simp (disch := ((try simp only [List.length_set, List.length_append, List.length_cons, List.length_nil]); omega)) only [go_sem, w_i64, w_u64, w_i32, w_u32, w_u8, Nat.min_eq_left, Nat.min_eq_right, Nat.reduceBEq, Int.reduceBNe, Int.reduceBEq, Nat.reduceBNe, Nat.reduceAdd, Nat.reduceMul, Nat.reduceSub, Nat.reduceLT, Nat.reduceLeDiff, Nat.reduceEqDiff, Int.reduceLT, Int.reduceLE, Int.reduceEq, Int.reduceToNat, Int.reduceNeg, reduceCtorEq, ↓reduceIte, hp_getL, hp_setL, hp_ne, hp_eq, hp_getS0, hp_getSk, hp_setS0, hp_setSk]
    simp at h ⊢; omega
  · try simp only [decide_eq_true_eq, decide_eq_false_iff_not, beq_iff_eq, beq_eq_false_iff_ne, bne_iff_ne, bne_eq_false_iff_eq, ne_eq, Bool.and_eq_true, Bool.or_eq_true, Bool.and_eq_false_iff, Bool.or_eq_false_iff, Bool.not_eq_true', Bool.not_eq_false', Int.not_lt, Int.not_le, Decidable.not_not, Bool.not_true, Bool.not_false] at h
    have hz := h
    refine AW.skip ?_
    simp (disch := ((try simp only [List.length_set, List.length_append, List.length_cons, List.length_nil]); omega)) only [go_sem, w_i64, w_u64, w_i32, w_u32, w_u8, Nat.min_eq_left, Nat.min_eq_right, Nat.reduceBEq, Int.reduceBNe, Int.reduceBEq, Nat.reduceBNe, Nat.reduceAdd, Nat.reduceMul, Nat.reduceSub, Nat.reduceLT, Nat.reduceLeDiff, Nat.reduceEqDiff, Int.reduceLT, Int.reduceLE, Int.reduceEq, Int.reduceToNat, Int.reduceNeg, reduceCtorEq, ↓reduceIte, hp_getL, hp_setL, hp_ne, hp_eq, hp_getS0, hp_getSk, hp_setS0, hp_setSk]
    refine hK2 _ _ ?_
    try clear hK2 K2
    refine AW.sq fun K5 hK5 => ?_
    refine AW.sr (by kernel_rfl) fun K6 hK6 => ?_
    simp (disch := ((try simp only [List.length_set, List.length_append, List.length_cons, List.length_nil]); omega)) only [go_sem, w_i64, w_u64, w_i32, w_u32, w_u8, Nat.min_eq_left, Nat.min_eq_right, Nat.reduceBEq, Int.reduceBNe, Int.reduceBEq, Nat.reduceBNe, Nat.reduceAdd, Nat.reduceMul, Nat.reduceSub, Nat.reduceLT, Nat.reduceLeDiff, Nat.reduceEqDiff, Int.reduceLT, Int.reduceLE, Int.reduceEq, Int.reduceToNat, Int.reduceNeg, reduceCtorEq, ↓reduceIte, hp_getL, hp_setL, hp_ne, hp_eq, hp_getS0, hp_getSk, hp_setS0, hp_setSk]
    repeat (apply And.intro; (focus first | trivial | omega | (intros; omega) | (intros; simp_all; done) | (intros; simp_all; omega)))
    refine hK6 _ _ ?_
    try clear hK6 K6
    refine AW.bloop (fun n r H' => ∃ i : Nat, n = l.length - i ∧ i ≤ l.length ∧ (∀ j (h : j < i) (h' : j < l.length), heavyB l[j] = false) ∧ r = [(0, confs l), (3, .int .i64 i)] ∧ H' = H) l.length ⟨[(0, _), (3, _)], le_cons rfl (le_cons rfl le_nil), ?_⟩ fun n l1 G _ hI => ?_
    · exact ⟨0, by omega, by omega, fun j hj => by omega, rfl, rfl⟩
    obtain ⟨i, rfl, hi, hall, rfl, rfl⟩ := hI; unfold confs
    refine AW.sq fun K7 hK7 => ?_
    refine AW.sr (by kernel_rfl) fun K8 hK8 => ?_
    simp (disch := ((try simp only [List.length_set, List.length_append, List.length_cons, List.length_nil]); omega)) only [go_sem, w_i64, w_u64, w_i32, w_u32, w_u8, Nat.min_eq_left, Nat.min_eq_right, Nat.reduceBEq, Int.reduceBNe, Int.reduceBEq, Nat.reduceBNe, Nat.reduceAdd, Nat.reduceMul, Nat.reduceSub, Nat.reduceLT, Nat.reduceLeDiff, Nat.reduceEqDiff, Int.reduceLT, Int.reduceLE, Int.reduceEq, Int.reduceToNat, Int.reduceNeg, reduceCtorEq, ↓reduceIte, hp_getL, hp_setL, hp_ne, hp_eq, hp_getS0, hp_getSk, hp_setS0, hp_setSk]
    repeat (apply And.intro; (focus first | trivial | omega | (intros; omega) | (intros; simp_all; done) | (intros; simp_all; omega)))
    refine hK8 _ _ ?_
    try clear hK8 K8
    refine AW.cond rfl (fun h => ?_) (fun h => ?_)
    · try simp only [decide_eq_true_eq, decide_eq_false_iff_not, beq_iff_eq, beq_eq_false_iff_ne, bne_iff_ne, bne_eq_false_iff_eq, ne_eq, Bool.and_eq_true, Bool.or_eq_true, Bool.and_eq_false_iff, Bool.or_eq_false_iff, Bool.not_eq_true', Bool.not_eq_false', Int.not_lt, Int.not_le, Decidable.not_not, Bool.not_true, Bool.not_false] at h
      have hlt : i < l.length := by omega
      refine AW.skip ?_
      simp (disch := ((try simp only [List.length_set, List.length_append, List.length_cons, List.length_nil]); omega)) only [go_sem, w_i64, w_u64, w_i32, w_u32, w_u8, Nat.min_eq_left, Nat.min_eq_right, Nat.reduceBEq, Int.reduceBNe, Int.reduceBEq, Nat.reduceBNe, Nat.reduceAdd, Nat.reduceMul, Nat.reduceSub, Nat.reduceLT, Nat.reduceLeDiff, Nat.reduceEqDiff, Int.reduceLT, Int.reduceLE, Int.reduceEq, Int.reduceToNat, Int.reduceNeg, reduceCtorEq, ↓reduceIte, hp_getL, hp_setL, hp_ne, hp_eq, hp_getS0, hp_getSk, hp_setS0, hp_setSk]
      refine hK7 _ _ ?_
      try clear hK7 K7
      refine AW.sblock fun K9 hK9 => ?_
      refine AW.sr (by kernel_rfl) fun K10 hK10 => ?_
      simp (disch := ((try simp only [List.length_set, List.length_append, List.length_cons, List.length_nil]); omega)) only [go_sem, w_i64, w_u64, w_i32, w_u32, w_u8, Nat.min_eq_left, Nat.min_eq_right, Nat.reduceBEq, Int.reduceBNe, Int.reduceBEq, Nat.reduceBNe, Nat.reduceAdd, Nat.reduceMul, Nat.reduceSub, Nat.reduceLT, Nat.reduceLeDiff, Nat.reduceEqDiff, Int.reduceLT, Int.reduceLE, Int.reduceEq, Int.reduceToNat, Int.reduceNeg, reduceCtorEq, ↓reduceIte, hp_getL, hp_setL, hp_ne, hp_eq, hp_getS0, hp_getSk, hp_setS0, hp_setSk]
      try simp only [confs_at hlt, List.take_take, Nat.min_self]
      try simp (disch := ((try simp only [List.length_set, List.length_append, List.length_cons, List.length_nil]); omega)) only [go_sem, w_i64, w_u64, w_i32, w_u32, w_u8, Nat.min_eq_left, Nat.min_eq_right, Nat.reduceBEq, Int.reduceBNe, Int.reduceBEq, Nat.reduceBNe, Nat.reduceAdd, Nat.reduceMul, Nat.reduceSub, Nat.reduceLT, Nat.reduceLeDiff, Nat.reduceEqDiff, Int.reduceLT, Int.reduceLE, Int.reduceEq, Int.reduceToNat, Int.reduceNeg, reduceCtorEq, ↓reduceIte, hp_getL, hp_setL, hp_ne, hp_eq, hp_getS0, hp_getSk, hp_setS0, hp_setSk]
      repeat (apply And.intro; (focus first | trivial | omega | (intros; omega) | (intros; simp_all; done) | (intros; simp_all; omega)))
      refine (c_heavy17 (hc _ (List.getElem_mem hlt))).mono fun x4 H4 _ hx4 => ?_
      obtain ⟨rfl, hE4⟩ := hx4; subst H4
      simp (disch := ((try simp only [List.length_set, List.length_append, List.length_cons, List.length_nil]); omega)) only [go_sem, w_i64, w_u64, w_i32, w_u32, w_u8, Nat.min_eq_left, Nat.min_eq_right, Nat.reduceBEq, Int.reduceBNe, Int.reduceBEq, Nat.reduceBNe, Nat.reduceAdd, Nat.reduceMul, Nat.reduceSub, Nat.reduceLT, Nat.reduceLeDiff, Nat.reduceEqDiff, Int.reduceLT, Int.reduceLE, Int.reduceEq, Int.reduceToNat, Int.reduceNeg, reduceCtorEq, ↓reduceIte, hp_getL, hp_setL, hp_ne, hp_eq, hp_getS0, hp_getSk, hp_setS0, hp_setSk]
      repeat (apply And.intro; (focus first | trivial | omega | (intros; omega) | (intros; simp_all; done) | (intros; simp_all; omega)))
      refine hK10 _ _ ?_
      try clear hK10 K10
      refine AW.cond rfl (fun h => ?_) (fun h => ?_)
      · try simp only [decide_eq_true_eq, decide_eq_false_iff_not, beq_iff_eq, beq_eq_false_iff_ne, bne_iff_ne, bne_eq_false_iff_eq, ne_eq, Bool.and_eq_true, Bool.or_eq_true, Bool.and_eq_false_iff, Bool.or_eq_false_iff, Bool.not_eq_true', Bool.not_eq_false', Int.not_lt, Int.not_le, Decidable.not_not, Bool.not_true, Bool.not_false] at h
        refine AW.sr (by kernel_rfl) fun K11 hK11 => ?_
        simp (disch := ((try simp only [List.length_set, List.length_append, List.length_cons, List.length_nil]); omega)) only [go_sem, w_i64, w_u64, w_i32, w_u32, w_u8, Nat.min_eq_left, Nat.min_eq_right, Nat.reduceBEq, Int.reduceBNe, Int.reduceBEq, Nat.reduceBNe, Nat.reduceAdd, Nat.reduceMul, Nat.reduceSub, Nat.reduceLT, Nat.reduceLeDiff, Nat.reduceEqDiff, Int.reduceLT, Int.reduceLE, Int.reduceEq, Int.reduceToNat, Int.reduceNeg, reduceCtorEq, ↓reduceIte, hp_getL, hp_setL, hp_ne, hp_eq, hp_getS0, hp_getSk, hp_setS0, hp_setSk]
        repeat (apply And.intro; (focus first | trivial | omega | (intros; omega) | (intros; simp_all; done) | (intros; simp_all; omega)))
        refine hK11 _ _ ?_
        try clear hK11 K11
        refine AW.ret ?_
        simp (disch := ((try simp only [List.length_set, List.length_append, List.length_cons, List.length_nil]); omega)) only [go_sem, w_i64, w_u64, w_i32, w_u32, w_u8, Nat.min_eq_left, Nat.min_eq_right, Nat.reduceBEq, Int.reduceBNe, Int.reduceBEq, Nat.reduceBNe, Nat.reduceAdd, Nat.reduceMul, Nat.reduceSub, Nat.reduceLT, Nat.reduceLeDiff, Nat.reduceEqDiff, Int.reduceLT, Int.reduceLE, Int.reduceEq, Int.reduceToNat, Int.reduceNeg, reduceCtorEq, ↓reduceIte, hp_getL, hp_setL, hp_ne, hp_eq, hp_getS0, hp_getSk, hp_setS0, hp_setSk]
        rw [any_some hlt h, Bool.or_true]
      · try simp only [decide_eq_true_eq, decide_eq_false_iff_not, beq_iff_eq, beq_eq_false_iff_ne, bne_iff_ne, bne_eq_false_iff_eq, ne_eq, Bool.and_eq_true, Bool.or_eq_true, Bool.and_eq_false_iff, Bool.or_eq_false_iff, Bool.not_eq_true', Bool.not_eq_false', Int.not_lt, Int.not_le, Decidable.not_not, Bool.not_true, Bool.not_false] at h
        refine AW.skip ?_
        simp (disch := ((try simp only [List.length_set, List.length_append, List.length_cons, List.length_nil]); omega)) only [go_sem, w_i64, w_u64, w_i32, w_u32, w_u8, Nat.min_eq_left, Nat.min_eq_right, Nat.reduceBEq, Int.reduceBNe, Int.reduceBEq, Nat.reduceBNe, Nat.reduceAdd, Nat.reduceMul, Nat.reduceSub, Nat.reduceLT, Nat.reduceLeDiff, Nat.reduceEqDiff, Int.reduceLT, Int.reduceLE, Int.reduceEq, Int.reduceToNat, Int.reduceNeg, reduceCtorEq, ↓reduceIte, hp_getL, hp_setL, hp_ne, hp_eq, hp_getS0, hp_getSk, hp_setS0, hp_setSk]
        refine hK9 _ _ ?_
        try clear hK9 K9
        refine AW.rg (by kernel_rfl) fun K12 hK12 => ?_
        simp (disch := ((try simp only [List.length_set, List.length_append, List.length_cons, List.length_nil]); omega)) only [go_sem, w_i64, w_u64, w_i32, w_u32, w_u8, Nat.min_eq_left, Nat.min_eq_right, Nat.reduceBEq, Int.reduceBNe, Int.reduceBEq, Nat.reduceBNe, Nat.reduceAdd, Nat.reduceMul, Nat.reduceSub, Nat.reduceLT, Nat.reduceLeDiff, Nat.reduceEqDiff, Int.reduceLT, Int.reduceLE, Int.reduceEq, Int.reduceToNat, Int.reduceNeg, reduceCtorEq, ↓reduceIte, hp_getL, hp_setL, hp_ne, hp_eq, hp_getS0, hp_getSk, hp_setS0, hp_setSk]
        repeat (apply And.intro; (focus first | trivial | omega | (intros; omega) | (intros; simp_all; done) | (intros; simp_all; omega)))
        refine hK12 _ _ ?_
        try clear hK12 K12
        simp (disch := ((try simp only [List.length_set, List.length_append, List.length_cons, List.length_nil]); omega)) only [go_sem, w_i64, w_u64, w_i32, w_u32, w_u8, Nat.min_eq_left, Nat.min_eq_right, Nat.reduceBEq, Int.reduceBNe, Int.reduceBEq, Nat.reduceBNe, Nat.reduceAdd, Nat.reduceMul, Nat.reduceSub, Nat.reduceLT, Nat.reduceLeDiff, Nat.reduceEqDiff, Int.reduceLT, Int.reduceLE, Int.reduceEq, Int.reduceToNat, Int.reduceNeg, reduceCtorEq, ↓reduceIte, hp_getL, hp_setL, hp_ne, hp_eq, hp_getS0, hp_getSk, hp_setS0, hp_setSk]
        refine ⟨l.length - (i + 1), by omega, [(0, _), (3, _)], le_cons rfl (le_cons rfl le_nil), i + 1, rfl, by omega, fun j hj h' => ?_, ?_, rfl⟩
        · rcases Nat.lt_or_ge j i with h1 | h1
          · exact hall j h1 h'
          · have : j = i := by omega
            subst this
            exact h
        · (simp (disch := omega) only [go_sem, Nat.min_eq_left, Nat.min_eq_right, Nat.reduceBEq, Int.reduceBNe, Int.reduceBEq, Nat.reduceBNe, Nat.reduceAdd, Nat.reduceMul, Nat.reduceSub, Nat.reduceLT, Nat.reduceLeDiff, Nat.reduceEqDiff, Int.reduceLT, Int.reduceLE, Int.reduceEq, Int.reduceToNat, Int.reduceNeg, reduceCtorEq, ↓reduceIte, List.cons.injEq, Prod.mk.injEq, AV.int.injEq, AV.nums.injEq, AV.bool.injEq]; try omega)
    · try simp only [decide_eq_true_eq, decide_eq_false_iff_not, beq_iff_eq, beq_eq_false_iff_ne, bne_iff_ne, bne_eq_false_iff_eq, ne_eq, Bool.and_eq_true, Bool.or_eq_true, Bool.and_eq_false_iff, Bool.or_eq_false_iff, Bool.not_eq_true', Bool.not_eq_false', Int.not_lt, Int.not_le, Decidable.not_not, Bool.not_true, Bool.not_false] at h
      refine AW.exit ?_
      simp (disch := ((try simp only [List.length_set, List.length_append, List.length_cons, List.length_nil]); omega)) only [go_sem, w_i64, w_u64, w_i32, w_u32, w_u8, Nat.min_eq_left, Nat.min_eq_right, Nat.reduceBEq, Int.reduceBNe, Int.reduceBEq, Nat.reduceBNe, Nat.reduceAdd, Nat.reduceMul, Nat.reduceSub, Nat.reduceLT, Nat.reduceLeDiff, Nat.reduceEqDiff, Int.reduceLT, Int.reduceLE, Int.reduceEq, Int.reduceToNat, Int.reduceNeg, reduceCtorEq, ↓reduceIte, hp_getL, hp_setL, hp_ne, hp_eq, hp_getS0, hp_getSk, hp_setS0, hp_setSk]
      refine hK5 _ _ ?_
      try clear hK5 K5
      refine AW.sr (by kernel_rfl) fun K13 hK13 => ?_
      simp (disch := ((try simp only [List.length_set, List.length_append, List.length_cons, List.length_nil]); omega)) only [go_sem, w_i64, w_u64, w_i32, w_u32, w_u8, Nat.min_eq_left, Nat.min_eq_right, Nat.reduceBEq, Int.reduceBNe, Int.reduceBEq, Nat.reduceBNe, Nat.reduceAdd, Nat.reduceMul, Nat.reduceSub, Nat.reduceLT, Nat.reduceLeDiff, Nat.reduceEqDiff, Int.reduceLT, Int.reduceLE, Int.reduceEq, Int.reduceToNat, Int.reduceNeg, reduceCtorEq, ↓reduceIte, hp_getL, hp_setL, hp_ne, hp_eq, hp_getS0, hp_getSk, hp_setS0, hp_setSk]
      repeat (apply And.intro; (focus first | trivial | omega | (intros; omega) | (intros; simp_all; done) | (intros; simp_all; omega)))
      refine hK13 _ _ ?_
      try clear hK13 K13
      refine AW.ret ?_
      simp (disch := ((try simp only [List.length_set, List.length_append, List.length_cons, List.length_nil]); omega)) only [go_sem, w_i64, w_u64, w_i32, w_u32, w_u8, Nat.min_eq_left, Nat.min_eq_right, Nat.reduceBEq, Int.reduceBNe, Int.reduceBEq, Nat.reduceBNe, Nat.reduceAdd, Nat.reduceMul, Nat.reduceSub, Nat.reduceLT, Nat.reduceLeDiff, Nat.reduceEqDiff, Int.reduceLT, Int.reduceLE, Int.reduceEq, Int.reduceToNat, Int.reduceNeg, reduceCtorEq, ↓reduceIte, hp_getL, hp_setL, hp_ne, hp_eq, hp_getS0, hp_getSk, hp_setS0, hp_setSk]
      have hb : l.any heavyB = false := any_none fun j hj => hall j (by omega) hj
      rw [hb, Bool.or_false]; simp at hz ⊢; omega


end Go.Av
end
