/- Proved here: NetClocksUptoSaid, the law NetClocks where what it reads is of bulk at most 1048576; this text holds a part of its proof. -/
import Derived.Test.YtfahdeckchkpmaaGreatT14
import Derived.Test.YtfahdeckchkpmaaGreatF
section
set_option linter.unusedVariables false
set_option linter.unusedSimpArgs false
set_option maxRecDepth 100000
namespace Go.Av
open Go.Proofs
variable {H : Heap}

theorem c_clone_strs {xs : List ByteArray} (hx : xs.length ≤ 4294967296) : ACalls Tryz.prog 121 [strs xs] H (fun x H' => x = strs xs ∧ H' = H) := by
  refine ACalls.enter (fn := Tryz.f121) (N := 8) (rs := [.tmp 2]) (by kernel_rfl) (by kernel_rfl) rfl rfl (Nat.le_of_ble_eq_true rfl) rfl ?_
  unfold strs
  refine AW.sr (by kernel_rfl) fun K1 hK1 => ?_
  simp (disch := omega) only [go_sem, w_i64, w_u64, w_i32, w_u32, w_u8, Nat.min_eq_left, Nat.min_eq_right, Nat.reduceBEq, Int.reduceBNe, Int.reduceBEq, Nat.reduceBNe, Nat.reduceAdd, Nat.reduceMul, Nat.reduceSub, Nat.reduceLT, Nat.reduceLeDiff, Nat.reduceEqDiff, Int.reduceLT, Int.reduceLE, Int.reduceEq, Int.reduceToNat, Int.reduceNeg, reduceCtorEq, ↓reduceIte]
  repeat (apply And.intro; (focus first | trivial | omega | (intros; omega) | (intros; simp_all; done) | (intros; simp_all; omega)))
  refine hK1 _ _ ?_
  try clear hK1 K1
  refine AW.sq fun K2 hK2 => ?_
  refine AW.sr (by kernel_rfl) fun K3 hK3 => ?_
  simp (disch := omega) only [go_sem, w_i64, w_u64, w_i32, w_u32, w_u8, Nat.min_eq_left, Nat.min_eq_right, Nat.reduceBEq, Int.reduceBNe, Int.reduceBEq, Nat.reduceBNe, Nat.reduceAdd, Nat.reduceMul, Nat.reduceSub, Nat.reduceLT, Nat.reduceLeDiff, Nat.reduceEqDiff, Int.reduceLT, Int.reduceLE, Int.reduceEq, Int.reduceToNat, Int.reduceNeg, reduceCtorEq, ↓reduceIte]
  refine fun b hb => ?_
  refine hK3 _ _ ?_
  try clear hK3 K3
  refine AW.cond rfl (fun h => ?_) (fun h => ?_)
  · try simp only [decide_eq_true_eq, decide_eq_false_iff_not, beq_iff_eq, beq_eq_false_iff_ne, bne_iff_ne, bne_eq_false_iff_eq, ne_eq, Bool.and_eq_true, Bool.or_eq_true, Bool.and_eq_false_iff, Bool.or_eq_false_iff, Bool.not_eq_true', Bool.not_eq_false', Int.not_lt, Int.not_le, Decidable.not_not, Bool.not_true, Bool.not_false] at h
    refine AW.sr (by kernel_rfl) fun K4 hK4 => ?_
    simp (disch := omega) only [go_sem, w_i64, w_u64, w_i32, w_u32, w_u8, Nat.min_eq_left, Nat.min_eq_right, Nat.reduceBEq, Int.reduceBNe, Int.reduceBEq, Nat.reduceBNe, Nat.reduceAdd, Nat.reduceMul, Nat.reduceSub, Nat.reduceLT, Nat.reduceLeDiff, Nat.reduceEqDiff, Int.reduceLT, Int.reduceLE, Int.reduceEq, Int.reduceToNat, Int.reduceNeg, reduceCtorEq, ↓reduceIte]
    repeat (apply And.intro; (focus first | trivial | omega | (intros; omega) | (intros; simp_all; done) | (intros; simp_all; omega)))
    refine hK4 _ _ ?_
    try clear hK4 K4
    obtain rfl : xs = [] := by
      cases xs with
      | nil => rfl
      | cons x xs => have := hb (by simp); rw [h] at this; cases this
    refine AW.sub 2 (Sub.nilS (t := false)) ?_
    refine AW.ret ?_
    simp (disch := omega) only [go_sem, w_i64, w_u64, w_i32, w_u32, w_u8, Nat.min_eq_left, Nat.min_eq_right, Nat.reduceBEq, Int.reduceBNe, Int.reduceBEq, Nat.reduceBNe, Nat.reduceAdd, Nat.reduceMul, Nat.reduceSub, Nat.reduceLT, Nat.reduceLeDiff, Nat.reduceEqDiff, Int.reduceLT, Int.reduceLE, Int.reduceEq, Int.reduceToNat, Int.reduceNeg, reduceCtorEq, ↓reduceIte]
  · try simp only [decide_eq_true_eq, decide_eq_false_iff_not, beq_iff_eq, beq_eq_false_iff_ne, bne_iff_ne, bne_eq_false_iff_eq, ne_eq, Bool.and_eq_true, Bool.or_eq_true, Bool.and_eq_false_iff, Bool.or_eq_false_iff, Bool.not_eq_true', Bool.not_eq_false', Int.not_lt, Int.not_le, Decidable.not_not, Bool.not_true, Bool.not_false] at h
    refine AW.skip ?_
    simp (disch := omega) only [go_sem, w_i64, w_u64, w_i32, w_u32, w_u8, Nat.min_eq_left, Nat.min_eq_right, Nat.reduceBEq, Int.reduceBNe, Int.reduceBEq, Nat.reduceBNe, Nat.reduceAdd, Nat.reduceMul, Nat.reduceSub, Nat.reduceLT, Nat.reduceLeDiff, Nat.reduceEqDiff, Int.reduceLT, Int.reduceLE, Int.reduceEq, Int.reduceToNat, Int.reduceNeg, reduceCtorEq, ↓reduceIte]
    refine hK2 _ _ ?_
    try clear hK2 K2
    refine AW.sr (by kernel_rfl) fun K5 hK5 => ?_
    simp (disch := omega) only [go_sem, w_i64, w_u64, w_i32, w_u32, w_u8, Nat.min_eq_left, Nat.min_eq_right, Nat.reduceBEq, Int.reduceBNe, Int.reduceBEq, Nat.reduceBNe, Nat.reduceAdd, Nat.reduceMul, Nat.reduceSub, Nat.reduceLT, Nat.reduceLeDiff, Nat.reduceEqDiff, Int.reduceLT, Int.reduceLE, Int.reduceEq, Int.reduceToNat, Int.reduceNeg, reduceCtorEq, ↓reduceIte]
    repeat (apply And.intro; (focus first | trivial | omega | (intros; omega) | (intros; simp_all; done) | (intros; simp_all; omega)))
    refine hK5 _ _ ?_
    try clear hK5 K5
    refine AW.ret ?_
    simp (disch := omega) only [go_sem, w_i64, w_u64, w_i32, w_u32, w_u8, Nat.min_eq_left, Nat.min_eq_right, Nat.reduceBEq, Int.reduceBNe, Int.reduceBEq, Nat.reduceBNe, Nat.reduceAdd, Nat.reduceMul, Nat.reduceSub, Nat.reduceLT, Nat.reduceLeDiff, Nat.reduceEqDiff, Int.reduceLT, Int.reduceLE, Int.reduceEq, Int.reduceToNat, Int.reduceNeg, reduceCtorEq, ↓reduceIte]


theorem c_clone_certs {xs : List CertV} (hx : xs.length ≤ 4294967296) : ACalls Tryz.prog 122 [certs xs] H (fun x H' => if xs = [] then x = certs [] ∧ H' = H else x = .rref H.length 0 0 xs.length ∧ H' = H ++ [.row 0 102 9 xs.length (xs.flatMap CertV.cells)]) := by
  refine ACalls.enter (fn := Tryz.f122) (N := 8) (rs := [.tmp 2]) (by kernel_rfl) (by kernel_rfl) rfl rfl (Nat.le_of_ble_eq_true rfl) rfl ?_
  unfold certs
  have hcl := certs_len (l := xs)
  refine AW.sr (by kernel_rfl) fun K1 hK1 => ?_
  simp (disch := omega) only [go_sem, w_i64, w_u64, w_i32, w_u32, w_u8, Nat.min_eq_left, Nat.min_eq_right, Nat.reduceBEq, Int.reduceBNe, Int.reduceBEq, Nat.reduceBNe, Nat.reduceAdd, Nat.reduceMul, Nat.reduceSub, Nat.reduceLT, Nat.reduceLeDiff, Nat.reduceEqDiff, Int.reduceLT, Int.reduceLE, Int.reduceEq, Int.reduceToNat, Int.reduceNeg, reduceCtorEq, ↓reduceIte]
  repeat (apply And.intro; (focus first | trivial | omega | (intros; omega) | (intros; simp_all; done) | (intros; simp_all; omega)))
  refine hK1 _ _ ?_
  try clear hK1 K1
  refine AW.sq fun K2 hK2 => ?_
  refine AW.sr (by kernel_rfl) fun K3 hK3 => ?_
  simp (disch := omega) only [go_sem, w_i64, w_u64, w_i32, w_u32, w_u8, Nat.min_eq_left, Nat.min_eq_right, Nat.reduceBEq, Int.reduceBNe, Int.reduceBEq, Nat.reduceBNe, Nat.reduceAdd, Nat.reduceMul, Nat.reduceSub, Nat.reduceLT, Nat.reduceLeDiff, Nat.reduceEqDiff, Int.reduceLT, Int.reduceLE, Int.reduceEq, Int.reduceToNat, Int.reduceNeg, reduceCtorEq, ↓reduceIte]
  refine fun b hb => ?_
  refine hK3 _ _ ?_
  try clear hK3 K3
  refine AW.cond rfl (fun h => ?_) (fun h => ?_)
  · try simp only [decide_eq_true_eq, decide_eq_false_iff_not, beq_iff_eq, beq_eq_false_iff_ne, bne_iff_ne, bne_eq_false_iff_eq, ne_eq, Bool.and_eq_true, Bool.or_eq_true, Bool.and_eq_false_iff, Bool.or_eq_false_iff, Bool.not_eq_true', Bool.not_eq_false', Int.not_lt, Int.not_le, Decidable.not_not, Bool.not_true, Bool.not_false] at h
    refine AW.sr (by kernel_rfl) fun K4 hK4 => ?_
    simp (disch := omega) only [go_sem, w_i64, w_u64, w_i32, w_u32, w_u8, Nat.min_eq_left, Nat.min_eq_right, Nat.reduceBEq, Int.reduceBNe, Int.reduceBEq, Nat.reduceBNe, Nat.reduceAdd, Nat.reduceMul, Nat.reduceSub, Nat.reduceLT, Nat.reduceLeDiff, Nat.reduceEqDiff, Int.reduceLT, Int.reduceLE, Int.reduceEq, Int.reduceToNat, Int.reduceNeg, reduceCtorEq, ↓reduceIte]
    repeat (apply And.intro; (focus first | trivial | omega | (intros; omega) | (intros; simp_all; done) | (intros; simp_all; omega)))
    refine hK4 _ _ ?_
    try clear hK4 K4
    obtain rfl : xs = [] := by
      cases xs with
      | nil => rfl
      | cons x xs => have := hb (by rw [hcl]; simp); rw [h] at this; cases this
    refine AW.sub 2 (Sub.nilS (t := false)) ?_
    refine AW.ret ?_
    simp (disch := omega) only [go_sem, w_i64, w_u64, w_i32, w_u32, w_u8, Nat.min_eq_left, Nat.min_eq_right, Nat.reduceBEq, Int.reduceBNe, Int.reduceBEq, Nat.reduceBNe, Nat.reduceAdd, Nat.reduceMul, Nat.reduceSub, Nat.reduceLT, Nat.reduceLeDiff, Nat.reduceEqDiff, Int.reduceLT, Int.reduceLE, Int.reduceEq, Int.reduceToNat, Int.reduceNeg, reduceCtorEq, ↓reduceIte]
    simp
  · try simp only [decide_eq_true_eq, decide_eq_false_iff_not, beq_iff_eq, beq_eq_false_iff_ne, bne_iff_ne, bne_eq_false_iff_eq, ne_eq, Bool.and_eq_true, Bool.or_eq_true, Bool.and_eq_false_iff, Bool.or_eq_false_iff, Bool.not_eq_true', Bool.not_eq_false', Int.not_lt, Int.not_le, Decidable.not_not, Bool.not_true, Bool.not_false] at h
    refine AW.skip ?_
    simp (disch := omega) only [go_sem, w_i64, w_u64, w_i32, w_u32, w_u8, Nat.min_eq_left, Nat.min_eq_right, Nat.reduceBEq, Int.reduceBNe, Int.reduceBEq, Nat.reduceBNe, Nat.reduceAdd, Nat.reduceMul, Nat.reduceSub, Nat.reduceLT, Nat.reduceLeDiff, Nat.reduceEqDiff, Int.reduceLT, Int.reduceLE, Int.reduceEq, Int.reduceToNat, Int.reduceNeg, reduceCtorEq, ↓reduceIte]
    refine hK2 _ _ ?_
    try clear hK2 K2
    by_cases hxe : xs = []
    · subst hxe
      refine AW.sr (by kernel_rfl) fun K5 hK5 => ?_
      simp (disch := omega) only [go_sem, w_i64, w_u64, w_i32, w_u32, w_u8, Nat.min_eq_left, Nat.min_eq_right, Nat.reduceBEq, Int.reduceBNe, Int.reduceBEq, Nat.reduceBNe, Nat.reduceAdd, Nat.reduceMul, Nat.reduceSub, Nat.reduceLT, Nat.reduceLeDiff, Nat.reduceEqDiff, Int.reduceLT, Int.reduceLE, Int.reduceEq, Int.reduceToNat, Int.reduceNeg, reduceCtorEq, ↓reduceIte]
      simp only [List.flatMap_nil, List.length_nil, List.map_nil]
      repeat (apply And.intro; (focus first | trivial | omega | (intros; omega) | (intros; simp_all; done) | (intros; simp_all; omega)))
      refine hK5 _ _ ?_
      refine AW.ret ?_
      simp (disch := omega) only [go_sem, w_i64, w_u64, w_i32, w_u32, w_u8, Nat.min_eq_left, Nat.min_eq_right, Nat.reduceBEq, Int.reduceBNe, Int.reduceBEq, Nat.reduceBNe, Nat.reduceAdd, Nat.reduceMul, Nat.reduceSub, Nat.reduceLT, Nat.reduceLeDiff, Nat.reduceEqDiff, Int.reduceLT, Int.reduceLE, Int.reduceEq, Int.reduceToNat, Int.reduceNeg, reduceCtorEq, ↓reduceIte]
      simp
    have hpos : 0 < xs.length := by
      cases xs with
      | nil => exact absurd rfl hxe
      | cons x xs => simp
    refine AW.srT [2] (by kernel_rfl) fun K5 hK5 => ?_
    simp (disch := omega) only [go_sem, w_i64, w_u64, w_i32, w_u32, w_u8, Nat.min_eq_left, Nat.min_eq_right, Nat.reduceBEq, Int.reduceBNe, Int.reduceBEq, Nat.reduceBNe, Nat.reduceAdd, Nat.reduceMul, Nat.reduceSub, Nat.reduceLT, Nat.reduceLeDiff, Nat.reduceEqDiff, Int.reduceLT, Int.reduceLE, Int.reduceEq, Int.reduceToNat, Int.reduceNeg, reduceCtorEq, ↓reduceIte]
    repeat (apply And.intro; (focus first | trivial | omega | (intros; omega) | (intros; simp_all; done) | (intros; simp_all; omega)))
    refine hK5 _ _ ?_
    try clear hK5 K5
    refine AW.ret ?_
    simp (disch := omega) only [go_sem, w_i64, w_u64, w_i32, w_u32, w_u8, Nat.min_eq_left, Nat.min_eq_right, Nat.reduceBEq, Int.reduceBNe, Int.reduceBEq, Nat.reduceBNe, Nat.reduceAdd, Nat.reduceMul, Nat.reduceSub, Nat.reduceLT, Nat.reduceLeDiff, Nat.reduceEqDiff, Int.reduceLT, Int.reduceLE, Int.reduceEq, Int.reduceToNat, Int.reduceNeg, reduceCtorEq, ↓reduceIte]
    simp [hxe]


end Go.Av
end
