/- Proved here: NetClocksUptoSaid, the law NetClocks where what it reads is of bulk at most 1048576; this text holds a part of its proof. -/
import Derived.Test.YtfahdeckchkpmaaGreatT12
section
set_option linter.unusedVariables false
set_option linter.unusedSimpArgs false
set_option maxRecDepth 100000
namespace Go.Av
open Go.Proofs
variable {H : Heap}
attribute [go_sem] cells_len Nat.le_refl
@[go_sem] theorem cells_take (c : CertV) : c.cells.take 9 = c.cells := rfl

theorem c_has_cert {xs : List CertV} {p : CertV → Bool} {g : FuncId} {cs : List AV} (hp : ∀ i (h : i < xs.length), ACalls Tryz.prog g (.agg xs[i].cells :: cs) H (fun y H' => y = .bool (p xs[i]) ∧ H' = H)) : ACalls Tryz.prog 118 [certs xs, .clo g cs] H (fun x H' => x = .bool (xs.any p) ∧ H' = H) := by
  refine ACalls.enter (fn := Tryz.f118) (N := 9) (rs := [.tmp 4]) (by kernel_rfl) (by kernel_rfl) rfl rfl (Nat.le_of_ble_eq_true rfl) rfl ?_
  refine AW.sr (by kernel_rfl) fun K1 hK1 => ?_
  simp (disch := omega) only [go_sem, w_i64, w_u64, w_i32, w_u32, w_u8, Nat.min_eq_left, Nat.min_eq_right, Nat.reduceBEq, Nat.reduceAdd, Nat.reduceMul, Nat.reduceSub, Nat.reduceLT, Nat.reduceLeDiff, Nat.reduceEqDiff, Int.reduceLT, Int.reduceLE, Int.reduceEq, Int.reduceToNat, Int.reduceNeg, reduceCtorEq, ↓reduceIte]
  repeat (apply And.intro; (focus first | trivial | omega | (intros; omega) | (intros; simp_all; done) | (intros; simp_all; omega)))
  refine hK1 _ _ ?_
  try clear hK1 K1
  refine AW.sr (by kernel_rfl) fun K2 hK2 => ?_
  simp (disch := omega) only [go_sem, w_i64, w_u64, w_i32, w_u32, w_u8, Nat.min_eq_left, Nat.min_eq_right, Nat.reduceBEq, Nat.reduceAdd, Nat.reduceMul, Nat.reduceSub, Nat.reduceLT, Nat.reduceLeDiff, Nat.reduceEqDiff, Int.reduceLT, Int.reduceLE, Int.reduceEq, Int.reduceToNat, Int.reduceNeg, reduceCtorEq, ↓reduceIte]
  repeat (apply And.intro; (focus first | trivial | omega | (intros; omega) | (intros; simp_all; done) | (intros; simp_all; omega)))
  refine (c_idx_cert hp).mono fun x2 H2 _ hx2 => ?_
  obtain ⟨rfl, rfl⟩ := hx2
  simp (disch := omega) only [go_sem, w_i64, w_u64, w_i32, w_u32, w_u8, Nat.min_eq_left, Nat.min_eq_right, Nat.reduceBEq, Nat.reduceAdd, Nat.reduceMul, Nat.reduceSub, Nat.reduceLT, Nat.reduceLeDiff, Nat.reduceEqDiff, Int.reduceLT, Int.reduceLE, Int.reduceEq, Int.reduceToNat, Int.reduceNeg, reduceCtorEq, ↓reduceIte]
  repeat (apply And.intro; (focus first | trivial | omega | (intros; omega) | (intros; simp_all; done) | (intros; simp_all; omega)))
  refine hK2 _ _ ?_
  try clear hK2 K2
  refine AW.ret ?_
  simp (disch := omega) only [go_sem, w_i64, w_u64, w_i32, w_u32, w_u8, Nat.min_eq_left, Nat.min_eq_right, Nat.reduceBEq, Nat.reduceAdd, Nat.reduceMul, Nat.reduceSub, Nat.reduceLT, Nat.reduceLeDiff, Nat.reduceEqDiff, Int.reduceLT, Int.reduceLE, Int.reduceEq, Int.reduceToNat, Int.reduceNeg, reduceCtorEq, ↓reduceIte]
  rw [idxP_any]


theorem c_may1 {c : CertV} (hc : c.Ok) : ACalls Tryz.prog 119 [.agg c.cells] H (fun x H' => x = .bool (certBad c) ∧ H' = H) := by
  refine ACalls.drop ?_
  refine ACalls.enter (fn := Tryz.f119) (N := 6) (rs := [.tmp 2]) (by kernel_rfl) (by kernel_rfl) rfl rfl (Nat.le_of_ble_eq_true rfl) rfl ?_
  refine AW.sr (by kernel_rfl) fun K1 hK1 => ?_
  simp (disch := omega) only [go_sem, w_i64, w_u64, w_i32, w_u32, w_u8, Nat.min_eq_left, Nat.min_eq_right, Nat.reduceBEq, Nat.reduceAdd, Nat.reduceMul, Nat.reduceSub, Nat.reduceLT, Nat.reduceLeDiff, Nat.reduceEqDiff, Int.reduceLT, Int.reduceLE, Int.reduceEq, Int.reduceToNat, Int.reduceNeg, reduceCtorEq, ↓reduceIte]
  repeat (apply And.intro; (focus first | trivial | omega | (intros; omega) | (intros; simp_all; done) | (intros; simp_all; omega)))
  refine hK1 _ _ ?_
  try clear hK1 K1
  refine AW.sr (by kernel_rfl) fun K2 hK2 => ?_
  simp (disch := omega) only [go_sem, w_i64, w_u64, w_i32, w_u32, w_u8, Nat.min_eq_left, Nat.min_eq_right, Nat.reduceBEq, Nat.reduceAdd, Nat.reduceMul, Nat.reduceSub, Nat.reduceLT, Nat.reduceLeDiff, Nat.reduceEqDiff, Int.reduceLT, Int.reduceLE, Int.reduceEq, Int.reduceToNat, Int.reduceNeg, reduceCtorEq, ↓reduceIte]
  repeat (apply And.intro; (focus first | trivial | omega | (intros; omega) | (intros; simp_all; done) | (intros; simp_all; omega)))
  refine (c_certRight hc).mono fun x1 H1 _ hx1 => ?_
  obtain ⟨rfl, rfl⟩ := hx1
  simp (disch := omega) only [go_sem, w_i64, w_u64, w_i32, w_u32, w_u8, Nat.min_eq_left, Nat.min_eq_right, Nat.reduceBEq, Nat.reduceAdd, Nat.reduceMul, Nat.reduceSub, Nat.reduceLT, Nat.reduceLeDiff, Nat.reduceEqDiff, Int.reduceLT, Int.reduceLE, Int.reduceEq, Int.reduceToNat, Int.reduceNeg, reduceCtorEq, ↓reduceIte]
  repeat (apply And.intro; (focus first | trivial | omega | (intros; omega) | (intros; simp_all; done) | (intros; simp_all; omega)))
  refine hK2 _ _ ?_
  try clear hK2 K2
  refine AW.ret ?_
  simp (disch := omega) only [go_sem, w_i64, w_u64, w_i32, w_u32, w_u8, Nat.min_eq_left, Nat.min_eq_right, Nat.reduceBEq, Nat.reduceAdd, Nat.reduceMul, Nat.reduceSub, Nat.reduceLT, Nat.reduceLeDiff, Nat.reduceEqDiff, Int.reduceLT, Int.reduceLE, Int.reduceEq, Int.reduceToNat, Int.reduceNeg, reduceCtorEq, ↓reduceIte]
  refine ⟨_, rfl, trivial, ?_⟩
  cases certBad c <;> rfl


end Go.Av
end
