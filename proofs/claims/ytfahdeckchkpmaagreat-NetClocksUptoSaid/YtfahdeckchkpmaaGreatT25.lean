/- Proved here: NetClocksUptoSaid, the law NetClocks where what it reads is of bulk at most 1048576; this text holds a part of its proof. -/
import Derived.Test.YtfahdeckchkpmaaGreatT24
section
set_option linter.unusedVariables false
set_option linter.unusedSimpArgs false
set_option maxRecDepth 100000
set_option maxHeartbeats 8000000
namespace Go.Av
open Go.Proofs
variable {H : Heap}

theorem clock_law {start rate n : Int} (h1 : -16 ≤ rate) (h2 : rate ≤ 16) (h3 : 0 ≤ n) (h4 : n ≤ 1099511627776) :
    IntKind.i64.wrap (IntKind.i64.wrap (IntKind.u64.wrap (showsI n start rate - showsI 0 start rate)) - n) = rate * n.fdiv (2 ^ 20) := by
  unfold showsI
  have e0 : (0 : Int).fdiv (2 ^ 20) = 0 := rfl
  rw [e0, Int.mul_zero]
  have hq : 0 ≤ n.fdiv (2 ^ 20) ∧ n.fdiv (2 ^ 20) ≤ 1048576 := by
    rw [Int.fdiv_eq_ediv_of_nonneg _ (by decide)]
    omega
  generalize n.fdiv (2 ^ 20) = q at *
  have hm : -16 * q ≤ rate * q ∧ rate * q ≤ 16 * q := ⟨Int.mul_le_mul_of_nonneg_right h1 hq.1, Int.mul_le_mul_of_nonneg_right h2 hq.1⟩
  generalize rate * q = z at *
  simp only [IntKind.wrap_u64, IntKind.wrap_i64]
  omega
theorem fdiv_bd {n : Int} (h3 : 0 ≤ n) (h4 : n ≤ 1099511627776) : 0 ≤ n.fdiv (2 ^ 20) ∧ n.fdiv (2 ^ 20) ≤ 1048576 := by
  rw [Int.fdiv_eq_ediv_of_nonneg _ (by decide)]
  omega
theorem mkPlaces_at : ∀ {l : List ConfV} {ks : List ClockV} {ds : List HostIds} {i : Nat} (h : i < l.length) (h1 : i < ks.length) (h2 : i < ds.length) (h3 : i < (mkPlaces l ks ds).length), (mkPlaces l ks ds)[i] = mkPlace l[i] ks[i] ds[i]
  | c :: l, k :: ks, d :: ds, 0, _, _, _, _ => rfl
  | c :: l, k :: ks, d :: ds, i + 1, h, h1, h2, h3 => by
    simp only [mkPlaces, List.getElem_cons_succ]
    exact mkPlaces_at (l := l) (ks := ks) (ds := ds) (by simpa using h) (by simpa using h1) (by simpa using h2) _
theorem newOk_rate {l : List ConfV} {ks : List ClockV} (h : newOk l ks = true) {i : Nat} (hi : i < l.length) : l.length = ks.length ∧ ∃ h' : i < ks.length, -16 ≤ ks[i].rate ∧ ks[i].rate ≤ 16 := by
  simp only [newOk, Bool.and_eq_true, decide_eq_true_eq, List.all_eq_true, List.mem_range] at h
  have h' : i < ks.length := by omega
  have := h.2.2.2 i hi
  rw [List.getElem?_eq_getElem hi, List.getElem?_eq_getElem h'] at this
  simp only [hostOk, Bool.and_eq_true, decide_eq_true_eq] at this
  exact ⟨h.2.2.1, h', this.2.1, this.2.2.1⟩
theorem getD_map0 {α : Type} {f : α → Int} {l : List α} {i : Nat} (h : i < l.length) : (l.map f).getD i 0 = f l[i] := by simp [List.getD, h]
def wasL (ps : List PlaceV) : List Int := ps.map fun p => showsI 0 p.start p.rate
theorem wasL_snoc {ps : List PlaceV} {i : Nat} (h : i < ps.length) : (wasL ps).take (i + 1) = (wasL ps).take i ++ [showsI 0 ps[i].start ps[i].rate] := by
  unfold wasL
  rw [List.take_succ_eq_append_getElem (by simpa using h), List.getElem_map]

theorem c_netClocks {l : List ConfV} {ks : List ClockV} {n : Int} (hc : ∀ c ∈ l, c.Fit) (hl : l.length ≤ 4294967295) (hk : ks.length ≤ 4294967295) : ACalls Tryz.prog 4 [confs l, clks ks, .int .i64 n] H (fun x H' => x = .bool true) := by
  refine ACalls.enter (fn := Tryz.f4) (N := 113) (rs := [.tmp 6]) (by kernel_rfl) (by kernel_rfl) rfl rfl (Nat.le_of_ble_eq_true rfl) rfl ?_
  refine AW.sr (by kernel_rfl) fun K1 hK1 => ?_
  simp (disch := ((try simp only [List.length_set, List.length_append, List.length_cons, List.length_nil]); omega)) only [go_sem, w_i64, w_u64, w_i32, w_u32, w_u8, Nat.min_eq_left, Nat.min_eq_right, Nat.reduceBEq, Int.reduceBNe, Int.reduceBEq, Nat.reduceBNe, Nat.reduceAdd, Nat.reduceMul, Nat.reduceSub, Nat.reduceLT, Nat.reduceLeDiff, Nat.reduceEqDiff, Int.reduceLT, Int.reduceLE, Int.reduceEq, Int.reduceToNat, Int.reduceNeg, reduceCtorEq, ↓reduceIte, hp_getL, hp_setL, hp_ne, hp_eq, hp_getS0, hp_getSk, hp_setS0, hp_setSk, confs, clks, mailsA, eventsA]
  repeat (apply And.intro; (focus first | trivial | omega | (intros; omega) | (intros; simp_all; done) | (intros; simp_all; omega)))
  refine hK1 _ _ ?_
  try clear hK1 K1
  refine AW.sr (by kernel_rfl) fun K2 hK2 => ?_
  simp (disch := ((try simp only [List.length_set, List.length_append, List.length_cons, List.length_nil]); omega)) only [go_sem, w_i64, w_u64, w_i32, w_u32, w_u8, Nat.min_eq_left, Nat.min_eq_right, Nat.reduceBEq, Int.reduceBNe, Int.reduceBEq, Nat.reduceBNe, Nat.reduceAdd, Nat.reduceMul, Nat.reduceSub, Nat.reduceLT, Nat.reduceLeDiff, Nat.reduceEqDiff, Int.reduceLT, Int.reduceLE, Int.reduceEq, Int.reduceToNat, Int.reduceNeg, reduceCtorEq, ↓reduceIte, hp_getL, hp_setL, hp_ne, hp_eq, hp_getS0, hp_getSk, hp_setS0, hp_setSk, confs, clks, mailsA, eventsA]
  repeat (apply And.intro; (focus first | trivial | omega | (intros; omega) | (intros; simp_all; done) | (intros; simp_all; omega)))
  refine (c_played0 hc hl hk).mono fun x2 H2 _ hx2 => ?_
  have hP := hx2
  simp (disch := ((try simp only [List.length_set, List.length_append, List.length_cons, List.length_nil]); omega)) only [go_sem, w_i64, w_u64, w_i32, w_u32, w_u8, Nat.min_eq_left, Nat.min_eq_right, Nat.reduceBEq, Int.reduceBNe, Int.reduceBEq, Nat.reduceBNe, Nat.reduceAdd, Nat.reduceMul, Nat.reduceSub, Nat.reduceLT, Nat.reduceLeDiff, Nat.reduceEqDiff, Int.reduceLT, Int.reduceLE, Int.reduceEq, Int.reduceToNat, Int.reduceNeg, reduceCtorEq, ↓reduceIte, hp_getL, hp_setL, hp_ne, hp_eq, hp_getS0, hp_getSk, hp_setS0, hp_setSk, confs, clks, mailsA, eventsA]
  repeat (apply And.intro; (focus first | trivial | omega | (intros; omega) | (intros; simp_all; done) | (intros; simp_all; omega)))
  refine hK2 _ _ ?_
  try clear hK2 K2
  refine AW.sq fun K3 hK3 => ?_
  rcases hP with ⟨rfl, hs0⟩ | ⟨d, v1, ds, rfl, hnew, hB⟩
  · refine AW.sr (by kernel_rfl) fun K5 hK5 => ?_
    simp (disch := ((try simp only [List.length_set, List.length_append, List.length_cons, List.length_nil]); omega)) only [go_sem, w_i64, w_u64, w_i32, w_u32, w_u8, Nat.min_eq_left, Nat.min_eq_right, Nat.reduceBEq, Int.reduceBNe, Int.reduceBEq, Nat.reduceBNe, Nat.reduceAdd, Nat.reduceMul, Nat.reduceSub, Nat.reduceLT, Nat.reduceLeDiff, Nat.reduceEqDiff, Int.reduceLT, Int.reduceLE, Int.reduceEq, Int.reduceToNat, Int.reduceNeg, reduceCtorEq, ↓reduceIte, hp_getL, hp_setL, hp_ne, hp_eq, hp_getS0, hp_getSk, hp_setS0, hp_setSk, confs, clks, mailsA, eventsA]
    repeat (apply And.intro; (focus first | trivial | omega | (intros; omega) | (intros; simp_all; done) | (intros; simp_all; omega)))
    refine hK5 _ _ ?_
    try clear hK5 K5
    refine AW.condT rfl ?_
    refine AW.sr (by kernel_rfl) fun K6 hK6 => ?_
    simp (disch := ((try simp only [List.length_set, List.length_append, List.length_cons, List.length_nil]); omega)) only [go_sem, w_i64, w_u64, w_i32, w_u32, w_u8, Nat.min_eq_left, Nat.min_eq_right, Nat.reduceBEq, Int.reduceBNe, Int.reduceBEq, Nat.reduceBNe, Nat.reduceAdd, Nat.reduceMul, Nat.reduceSub, Nat.reduceLT, Nat.reduceLeDiff, Nat.reduceEqDiff, Int.reduceLT, Int.reduceLE, Int.reduceEq, Int.reduceToNat, Int.reduceNeg, reduceCtorEq, ↓reduceIte, hp_getL, hp_setL, hp_ne, hp_eq, hp_getS0, hp_getSk, hp_setS0, hp_setSk, confs, clks, mailsA, eventsA]
    repeat (apply And.intro; (focus first | trivial | omega | (intros; omega) | (intros; simp_all; done) | (intros; simp_all; omega)))
    refine (c_alive18).mono fun x0 H0 _ hx0 => ?_
    obtain ⟨rfl, hE0⟩ := hx0; subst H0
    simp (disch := ((try simp only [List.length_set, List.length_append, List.length_cons, List.length_nil]); omega)) only [go_sem, w_i64, w_u64, w_i32, w_u32, w_u8, Nat.min_eq_left, Nat.min_eq_right, Nat.reduceBEq, Int.reduceBNe, Int.reduceBEq, Nat.reduceBNe, Nat.reduceAdd, Nat.reduceMul, Nat.reduceSub, Nat.reduceLT, Nat.reduceLeDiff, Nat.reduceEqDiff, Int.reduceLT, Int.reduceLE, Int.reduceEq, Int.reduceToNat, Int.reduceNeg, reduceCtorEq, ↓reduceIte, hp_getL, hp_setL, hp_ne, hp_eq, hp_getS0, hp_getSk, hp_setS0, hp_setSk, confs, clks, mailsA, eventsA]
    repeat (apply And.intro; (focus first | trivial | omega | (intros; omega) | (intros; simp_all; done) | (intros; simp_all; omega)))
    refine hK6 _ _ ?_
    try clear hK6 K6
    refine AW.ret ?_
    simp (disch := ((try simp only [List.length_set, List.length_append, List.length_cons, List.length_nil]); omega)) only [go_sem, w_i64, w_u64, w_i32, w_u32, w_u8, Nat.min_eq_left, Nat.min_eq_right, Nat.reduceBEq, Int.reduceBNe, Int.reduceBEq, Nat.reduceBNe, Nat.reduceAdd, Nat.reduceMul, Nat.reduceSub, Nat.reduceLT, Nat.reduceLeDiff, Nat.reduceEqDiff, Int.reduceLT, Int.reduceLE, Int.reduceEq, Int.reduceToNat, Int.reduceNeg, reduceCtorEq, ↓reduceIte, hp_getL, hp_setL, hp_ne, hp_eq, hp_getS0, hp_getSk, hp_setS0, hp_setSk, confs, clks, mailsA, eventsA]
  have hW := hB.world
  have hlen := hB.len
  obtain ⟨hw, hp, hm, hlg⟩ := hB.world
  simp only [worldCells] at hw
  have hle : 1 ≤ l.length ∧ l.length = ks.length := by
    simp only [newOk, Bool.and_eq_true, decide_eq_true_eq] at hnew
    exact ⟨hnew.1, hnew.2.2.1⟩
  have hpl : (mkPlaces l ks ds).length = l.length := mkPlaces_len (by omega) hlen
  have hnd : d.all.Nodup := (List.nodup_append.1 hB.nodup).1
  refine AW.sr (by kernel_rfl) fun K4 hK4 => ?_
  simp (disch := ((try simp only [List.length_set, List.length_append, List.length_cons, List.length_nil]); omega)) only [go_sem, w_i64, w_u64, w_i32, w_u32, w_u8, Nat.min_eq_left, Nat.min_eq_right, Nat.reduceBEq, Int.reduceBNe, Int.reduceBEq, Nat.reduceBNe, Nat.reduceAdd, Nat.reduceMul, Nat.reduceSub, Nat.reduceLT, Nat.reduceLeDiff, Nat.reduceEqDiff, Int.reduceLT, Int.reduceLE, Int.reduceEq, Int.reduceToNat, Int.reduceNeg, reduceCtorEq, ↓reduceIte, hp_getL, hp_setL, hp_ne, hp_eq, hp_getS0, hp_getSk, hp_setS0, hp_setSk, confs, clks, mailsA, eventsA, hw]
  repeat (apply And.intro; (focus first | trivial | omega | (intros; omega) | (intros; simp_all; done) | (intros; simp_all; omega)))
  refine hK4 _ _ ?_
  try clear hK4 K4
  refine AW.cond rfl (fun h => ?_) (fun h => ?_)
  · try simp only [decide_eq_true_eq, decide_eq_false_iff_not, beq_iff_eq, beq_eq_false_iff_ne, bne_iff_ne, bne_eq_false_iff_eq, ne_eq, Bool.and_eq_true, Bool.or_eq_true, Bool.and_eq_false_iff, Bool.or_eq_false_iff, Bool.not_eq_true', Bool.not_eq_false', Int.not_lt, Int.not_le, Decidable.not_not, Bool.not_true, Bool.not_false] at h
    refine AW.sr (by kernel_rfl) fun K5 hK5 => ?_
    simp (disch := ((try simp only [List.length_set, List.length_append, List.length_cons, List.length_nil]); omega)) only [go_sem, w_i64, w_u64, w_i32, w_u32, w_u8, Nat.min_eq_left, Nat.min_eq_right, Nat.reduceBEq, Int.reduceBNe, Int.reduceBEq, Nat.reduceBNe, Nat.reduceAdd, Nat.reduceMul, Nat.reduceSub, Nat.reduceLT, Nat.reduceLeDiff, Nat.reduceEqDiff, Int.reduceLT, Int.reduceLE, Int.reduceEq, Int.reduceToNat, Int.reduceNeg, reduceCtorEq, ↓reduceIte, hp_getL, hp_setL, hp_ne, hp_eq, hp_getS0, hp_getSk, hp_setS0, hp_setSk, confs, clks, mailsA, eventsA]
    repeat (apply And.intro; (focus first | trivial | omega | (intros; omega) | (intros; simp_all; done) | (intros; simp_all; omega)))
    refine (c_alive18).mono fun x0 H0 _ hx0 => ?_
    obtain ⟨rfl, hE0⟩ := hx0; subst H0
    simp (disch := ((try simp only [List.length_set, List.length_append, List.length_cons, List.length_nil]); omega)) only [go_sem, w_i64, w_u64, w_i32, w_u32, w_u8, Nat.min_eq_left, Nat.min_eq_right, Nat.reduceBEq, Int.reduceBNe, Int.reduceBEq, Nat.reduceBNe, Nat.reduceAdd, Nat.reduceMul, Nat.reduceSub, Nat.reduceLT, Nat.reduceLeDiff, Nat.reduceEqDiff, Int.reduceLT, Int.reduceLE, Int.reduceEq, Int.reduceToNat, Int.reduceNeg, reduceCtorEq, ↓reduceIte, hp_getL, hp_setL, hp_ne, hp_eq, hp_getS0, hp_getSk, hp_setS0, hp_setSk, confs, clks, mailsA, eventsA]
    repeat (apply And.intro; (focus first | trivial | omega | (intros; omega) | (intros; simp_all; done) | (intros; simp_all; omega)))
    refine hK5 _ _ ?_
    try clear hK5 K5
    refine AW.ret ?_
    simp (disch := ((try simp only [List.length_set, List.length_append, List.length_cons, List.length_nil]); omega)) only [go_sem, w_i64, w_u64, w_i32, w_u32, w_u8, Nat.min_eq_left, Nat.min_eq_right, Nat.reduceBEq, Int.reduceBNe, Int.reduceBEq, Nat.reduceBNe, Nat.reduceAdd, Nat.reduceMul, Nat.reduceSub, Nat.reduceLT, Nat.reduceLeDiff, Nat.reduceEqDiff, Int.reduceLT, Int.reduceLE, Int.reduceEq, Int.reduceToNat, Int.reduceNeg, reduceCtorEq, ↓reduceIte, hp_getL, hp_setL, hp_ne, hp_eq, hp_getS0, hp_getSk, hp_setS0, hp_setSk, confs, clks, mailsA, eventsA]
  · try simp only [decide_eq_true_eq, decide_eq_false_iff_not, beq_iff_eq, beq_eq_false_iff_ne, bne_iff_ne, bne_eq_false_iff_eq, ne_eq, Bool.and_eq_true, Bool.or_eq_true, Bool.and_eq_false_iff, Bool.or_eq_false_iff, Bool.not_eq_true', Bool.not_eq_false', Int.not_lt, Int.not_le, Decidable.not_not, Bool.not_true, Bool.not_false] at h
    refine AW.skip ?_
    simp (disch := ((try simp only [List.length_set, List.length_append, List.length_cons, List.length_nil]); omega)) only [go_sem, w_i64, w_u64, w_i32, w_u32, w_u8, Nat.min_eq_left, Nat.min_eq_right, Nat.reduceBEq, Int.reduceBNe, Int.reduceBEq, Nat.reduceBNe, Nat.reduceAdd, Nat.reduceMul, Nat.reduceSub, Nat.reduceLT, Nat.reduceLeDiff, Nat.reduceEqDiff, Int.reduceLT, Int.reduceLE, Int.reduceEq, Int.reduceToNat, Int.reduceNeg, reduceCtorEq, ↓reduceIte, hp_getL, hp_setL, hp_ne, hp_eq, hp_getS0, hp_getSk, hp_setS0, hp_setSk, confs, clks, mailsA, eventsA]
    refine hK3 _ _ ?_
    try clear hK3 K3
    have hn2 : 0 ≤ n ∧ n ≤ 1099511627776 := by omega
    refine AW.sr (by kernel_rfl) fun K6 hK6 => ?_
    simp (disch := ((try simp only [List.length_set, List.length_append, List.length_cons, List.length_nil]); omega)) only [go_sem, w_i64, w_u64, w_i32, w_u32, w_u8, Nat.min_eq_left, Nat.min_eq_right, Nat.reduceBEq, Int.reduceBNe, Int.reduceBEq, Nat.reduceBNe, Nat.reduceAdd, Nat.reduceMul, Nat.reduceSub, Nat.reduceLT, Nat.reduceLeDiff, Nat.reduceEqDiff, Int.reduceLT, Int.reduceLE, Int.reduceEq, Int.reduceToNat, Int.reduceNeg, reduceCtorEq, ↓reduceIte, hp_getL, hp_setL, hp_ne, hp_eq, hp_getS0, hp_getSk, hp_setS0, hp_setSk, confs, clks, mailsA, eventsA]
    repeat (apply And.intro; (focus first | trivial | omega | (intros; omega) | (intros; simp_all; done) | (intros; simp_all; omega)))
    refine hK6 _ _ ?_
    try clear hK6 K6
    refine AW.sq fun K7 hK7 => ?_
    refine AW.ownN 8 51 .u64 rfl ?_
    have hwl : (wasL (mkPlaces l ks ds)).length = l.length := by unfold wasL; rw [List.length_map, hpl]
    refine AW.sr (by kernel_rfl) fun K8 hK8 => ?_
    simp (disch := ((try simp only [List.length_set, List.length_append, List.length_cons, List.length_nil]); omega)) only [go_sem, w_i64, w_u64, w_i32, w_u32, w_u8, Nat.min_eq_left, Nat.min_eq_right, Nat.reduceBEq, Int.reduceBNe, Int.reduceBEq, Nat.reduceBNe, Nat.reduceAdd, Nat.reduceMul, Nat.reduceSub, Nat.reduceLT, Nat.reduceLeDiff, Nat.reduceEqDiff, Int.reduceLT, Int.reduceLE, Int.reduceEq, Int.reduceToNat, Int.reduceNeg, reduceCtorEq, ↓reduceIte, hp_getL, hp_setL, hp_ne, hp_eq, hp_getS0, hp_getSk, hp_setS0, hp_setSk, confs, clks, mailsA, eventsA]
    repeat (apply And.intro; (focus first | trivial | omega | (intros; omega) | (intros; simp_all; done) | (intros; simp_all; omega)))
    refine hK8 _ _ ?_
    try clear hK8 K8
    refine AW.bloop (fun m r H' => ∃ i : Nat, m = l.length - i ∧ i ≤ l.length ∧ r = [(0, confs l), (2, .int .i64 n), (7, .ptr d.wid 0), (8, .rref H2.length i 0 i), (9, .int .i64 i)] ∧ H' = H2 ++ [.nrow i 51 .u64 ((wasL (mkPlaces l ks ds)).take i)]) l.length ⟨[(0, _), (2, _), (7, _), (8, _), (9, _)], le_cons rfl (le_cons rfl (le_cons rfl (le_cons rfl (le_cons rfl le_nil)))), ?_⟩ fun n l1 G _ hI => ?_
    · exact ⟨0, by omega, by omega, rfl, by simp⟩
    obtain ⟨i, rfl, hi, rfl, rfl⟩ := hI
    refine AW.sq fun K9 hK9 => ?_
    refine AW.sr (by kernel_rfl) fun K10 hK10 => ?_
    simp (disch := ((try simp only [List.length_set, List.length_append, List.length_cons, List.length_nil]); omega)) only [go_sem, w_i64, w_u64, w_i32, w_u32, w_u8, Nat.min_eq_left, Nat.min_eq_right, Nat.reduceBEq, Int.reduceBNe, Int.reduceBEq, Nat.reduceBNe, Nat.reduceAdd, Nat.reduceMul, Nat.reduceSub, Nat.reduceLT, Nat.reduceLeDiff, Nat.reduceEqDiff, Int.reduceLT, Int.reduceLE, Int.reduceEq, Int.reduceToNat, Int.reduceNeg, reduceCtorEq, ↓reduceIte, hp_getL, hp_setL, hp_ne, hp_eq, hp_getS0, hp_getSk, hp_setS0, hp_setSk, confs, clks, mailsA, eventsA]
    repeat (apply And.intro; (focus first | trivial | omega | (intros; omega) | (intros; simp_all; done) | (intros; simp_all; omega)))
    refine hK10 _ _ ?_
    try clear hK10 K10
    refine AW.cond rfl (fun h => ?_) (fun h => ?_)
    · try simp only [decide_eq_true_eq, decide_eq_false_iff_not, beq_iff_eq, beq_eq_false_iff_ne, bne_iff_ne, bne_eq_false_iff_eq, ne_eq, Bool.and_eq_true, Bool.or_eq_true, Bool.and_eq_false_iff, Bool.or_eq_false_iff, Bool.not_eq_true', Bool.not_eq_false', Int.not_lt, Int.not_le, Decidable.not_not, Bool.not_true, Bool.not_false] at h
      refine AW.skip ?_
      simp (disch := ((try simp only [List.length_set, List.length_append, List.length_cons, List.length_nil]); omega)) only [go_sem, w_i64, w_u64, w_i32, w_u32, w_u8, Nat.min_eq_left, Nat.min_eq_right, Nat.reduceBEq, Int.reduceBNe, Int.reduceBEq, Nat.reduceBNe, Nat.reduceAdd, Nat.reduceMul, Nat.reduceSub, Nat.reduceLT, Nat.reduceLeDiff, Nat.reduceEqDiff, Int.reduceLT, Int.reduceLE, Int.reduceEq, Int.reduceToNat, Int.reduceNeg, reduceCtorEq, ↓reduceIte, hp_getL, hp_setL, hp_ne, hp_eq, hp_getS0, hp_getSk, hp_setS0, hp_setSk, confs, clks, mailsA, eventsA]
      refine hK9 _ _ ?_
      try clear hK9 K9
      refine AW.sblock fun K11 hK11 => ?_
      refine AW.sr (by kernel_rfl) fun K12 hK12 => ?_
      simp (disch := ((try simp only [List.length_set, List.length_append, List.length_cons, List.length_nil]); omega)) only [go_sem, w_i64, w_u64, w_i32, w_u32, w_u8, Nat.min_eq_left, Nat.min_eq_right, Nat.reduceBEq, Int.reduceBNe, Int.reduceBEq, Nat.reduceBNe, Nat.reduceAdd, Nat.reduceMul, Nat.reduceSub, Nat.reduceLT, Nat.reduceLeDiff, Nat.reduceEqDiff, Int.reduceLT, Int.reduceLE, Int.reduceEq, Int.reduceToNat, Int.reduceNeg, reduceCtorEq, ↓reduceIte, hp_getL, hp_setL, hp_ne, hp_eq, hp_getS0, hp_getSk, hp_setS0, hp_setSk, confs, clks, mailsA, eventsA]
      repeat (apply And.intro; (focus first | trivial | omega | (intros; omega) | (intros; simp_all; done) | (intros; simp_all; omega)))
      refine (c_Shows (hW.same (Same.app (S := [])) (by simp)) (by omega) (i := i) (by omega) (by omega)).mono fun x2 H2 _ hx2 => ?_
      obtain ⟨rfl, hE2⟩ := hx2; subst H2
      simp (disch := ((try simp only [List.length_set, List.length_append, List.length_cons, List.length_nil]); omega)) only [go_sem, w_i64, w_u64, w_i32, w_u32, w_u8, Nat.min_eq_left, Nat.min_eq_right, Nat.reduceBEq, Int.reduceBNe, Int.reduceBEq, Nat.reduceBNe, Nat.reduceAdd, Nat.reduceMul, Nat.reduceSub, Nat.reduceLT, Nat.reduceLeDiff, Nat.reduceEqDiff, Int.reduceLT, Int.reduceLE, Int.reduceEq, Int.reduceToNat, Int.reduceNeg, reduceCtorEq, ↓reduceIte, hp_getL, hp_setL, hp_ne, hp_eq, hp_getS0, hp_getSk, hp_setS0, hp_setSk, confs, clks, mailsA, eventsA]
      repeat (apply And.intro; (focus first | trivial | omega | (intros; omega) | (intros; simp_all; done) | (intros; simp_all; omega)))
      refine hK12 _ _ ?_
      try clear hK12 K12
      refine AW.sq fun K13 hK13 => ?_
      refine AW.sr (by kernel_rfl) fun K14 hK14 => ?_
      simp (disch := ((try simp only [List.length_set, List.length_append, List.length_cons, List.length_nil]); omega)) only [go_sem, w_i64, w_u64, w_i32, w_u32, w_u8, Nat.min_eq_left, Nat.min_eq_right, Nat.reduceBEq, Int.reduceBNe, Int.reduceBEq, Nat.reduceBNe, Nat.reduceAdd, Nat.reduceMul, Nat.reduceSub, Nat.reduceLT, Nat.reduceLeDiff, Nat.reduceEqDiff, Int.reduceLT, Int.reduceLE, Int.reduceEq, Int.reduceToNat, Int.reduceNeg, reduceCtorEq, ↓reduceIte, hp_getL, hp_setL, hp_ne, hp_eq, hp_getS0, hp_getSk, hp_setS0, hp_setSk, confs, clks, mailsA, eventsA]
      repeat (apply And.intro; (focus first | trivial | omega | (intros; omega) | (intros; simp_all; done) | (intros; simp_all; omega)))
      refine hK14 _ _ ?_
      try clear hK14 K14
      refine AW.condF rfl ?_
      refine AW.skip ?_
      simp (disch := ((try simp only [List.length_set, List.length_append, List.length_cons, List.length_nil]); omega)) only [go_sem, w_i64, w_u64, w_i32, w_u32, w_u8, Nat.min_eq_left, Nat.min_eq_right, Nat.reduceBEq, Int.reduceBNe, Int.reduceBEq, Nat.reduceBNe, Nat.reduceAdd, Nat.reduceMul, Nat.reduceSub, Nat.reduceLT, Nat.reduceLeDiff, Nat.reduceEqDiff, Int.reduceLT, Int.reduceLE, Int.reduceEq, Int.reduceToNat, Int.reduceNeg, reduceCtorEq, ↓reduceIte, hp_getL, hp_setL, hp_ne, hp_eq, hp_getS0, hp_getSk, hp_setS0, hp_setSk, confs, clks, mailsA, eventsA]
      refine hK13 _ _ ?_
      try clear hK13 K13
      refine AW.rg (by kernel_rfl) fun K15 hK15 => ?_
      simp (disch := ((try simp only [List.length_set, List.length_append, List.length_cons, List.length_nil]); omega)) only [go_sem, w_i64, w_u64, w_i32, w_u32, w_u8, Nat.min_eq_left, Nat.min_eq_right, Nat.reduceBEq, Int.reduceBNe, Int.reduceBEq, Nat.reduceBNe, Nat.reduceAdd, Nat.reduceMul, Nat.reduceSub, Nat.reduceLT, Nat.reduceLeDiff, Nat.reduceEqDiff, Int.reduceLT, Int.reduceLE, Int.reduceEq, Int.reduceToNat, Int.reduceNeg, reduceCtorEq, ↓reduceIte, hp_getL, hp_setL, hp_ne, hp_eq, hp_getS0, hp_getSk, hp_setS0, hp_setSk, confs, clks, mailsA, eventsA, hwl]
      repeat (apply And.intro; (focus first | trivial | omega | (intros; omega) | (intros; simp_all; done) | (intros; simp_all; omega)))
      refine hK15 _ _ ?_
      try clear hK15 K15
      simp (disch := ((try simp only [List.length_set, List.length_append, List.length_cons, List.length_nil]); omega)) only [go_sem, w_i64, w_u64, w_i32, w_u32, w_u8, Nat.min_eq_left, Nat.min_eq_right, Nat.reduceBEq, Int.reduceBNe, Int.reduceBEq, Nat.reduceBNe, Nat.reduceAdd, Nat.reduceMul, Nat.reduceSub, Nat.reduceLT, Nat.reduceLeDiff, Nat.reduceEqDiff, Int.reduceLT, Int.reduceLE, Int.reduceEq, Int.reduceToNat, Int.reduceNeg, reduceCtorEq, ↓reduceIte, hp_getL, hp_setL, hp_ne, hp_eq, hp_getS0, hp_getSk, hp_setS0, hp_setSk, confs, clks, mailsA, eventsA]
      refine hK11 _ _ ?_
      try clear hK11 K11
      refine AW.rg (by kernel_rfl) fun K16 hK16 => ?_
      simp (disch := ((try simp only [List.length_set, List.length_append, List.length_cons, List.length_nil]); omega)) only [go_sem, w_i64, w_u64, w_i32, w_u32, w_u8, Nat.min_eq_left, Nat.min_eq_right, Nat.reduceBEq, Int.reduceBNe, Int.reduceBEq, Nat.reduceBNe, Nat.reduceAdd, Nat.reduceMul, Nat.reduceSub, Nat.reduceLT, Nat.reduceLeDiff, Nat.reduceEqDiff, Int.reduceLT, Int.reduceLE, Int.reduceEq, Int.reduceToNat, Int.reduceNeg, reduceCtorEq, ↓reduceIte, hp_getL, hp_setL, hp_ne, hp_eq, hp_getS0, hp_getSk, hp_setS0, hp_setSk, confs, clks, mailsA, eventsA]
      repeat (apply And.intro; (focus first | trivial | omega | (intros; omega) | (intros; simp_all; done) | (intros; simp_all; omega)))
      refine hK16 _ _ ?_
      try clear hK16 K16
      simp (disch := ((try simp only [List.length_set, List.length_append, List.length_cons, List.length_nil]); omega)) only [go_sem, w_i64, w_u64, w_i32, w_u32, w_u8, Nat.min_eq_left, Nat.min_eq_right, Nat.reduceBEq, Int.reduceBNe, Int.reduceBEq, Nat.reduceBNe, Nat.reduceAdd, Nat.reduceMul, Nat.reduceSub, Nat.reduceLT, Nat.reduceLeDiff, Nat.reduceEqDiff, Int.reduceLT, Int.reduceLE, Int.reduceEq, Int.reduceToNat, Int.reduceNeg, reduceCtorEq, ↓reduceIte, hp_getL, hp_setL, hp_ne, hp_eq, hp_getS0, hp_getSk, hp_setS0, hp_setSk, confs, clks, mailsA, eventsA]
      refine ⟨l.length - (i + 1), by omega, [(0, _), (2, _), (7, _), (8, _), (9, _)], le_cons rfl (le_cons rfl (le_cons rfl (le_cons rfl (le_cons rfl le_nil)))), i + 1, rfl, by omega, ?_, ?_⟩
      · (simp (disch := omega) only [go_sem, Nat.min_eq_left, Nat.min_eq_right, Nat.reduceBEq, Int.reduceBNe, Int.reduceBEq, Nat.reduceBNe, Nat.reduceAdd, Nat.reduceMul, Nat.reduceSub, Nat.reduceLT, Nat.reduceLeDiff, Nat.reduceEqDiff, Int.reduceLT, Int.reduceLE, Int.reduceEq, Int.reduceToNat, Int.reduceNeg, reduceCtorEq, ↓reduceIte, List.cons.injEq, Prod.mk.injEq, AV.int.injEq, AV.nums.injEq, AV.bool.injEq]; try omega)
      · rw [wasL_snoc (by omega)]
    · try simp only [decide_eq_true_eq, decide_eq_false_iff_not, beq_iff_eq, beq_eq_false_iff_ne, bne_iff_ne, bne_eq_false_iff_eq, ne_eq, Bool.and_eq_true, Bool.or_eq_true, Bool.and_eq_false_iff, Bool.or_eq_false_iff, Bool.not_eq_true', Bool.not_eq_false', Int.not_lt, Int.not_le, Decidable.not_not, Bool.not_true, Bool.not_false] at h
      refine AW.exit ?_
      simp (disch := ((try simp only [List.length_set, List.length_append, List.length_cons, List.length_nil]); omega)) only [go_sem, w_i64, w_u64, w_i32, w_u32, w_u8, Nat.min_eq_left, Nat.min_eq_right, Nat.reduceBEq, Int.reduceBNe, Int.reduceBEq, Nat.reduceBNe, Nat.reduceAdd, Nat.reduceMul, Nat.reduceSub, Nat.reduceLT, Nat.reduceLeDiff, Nat.reduceEqDiff, Int.reduceLT, Int.reduceLE, Int.reduceEq, Int.reduceToNat, Int.reduceNeg, reduceCtorEq, ↓reduceIte, hp_getL, hp_setL, hp_ne, hp_eq, hp_getS0, hp_getSk, hp_setS0, hp_setSk, confs, clks, mailsA, eventsA]
      refine hK7 _ _ ?_
      try clear hK7 K7
      obtain rfl : i = l.length := by omega
      refine AW.freezeN 8 H2.length rfl (by simp only [hp_get0, List.getElem?_cons_zero]; rfl) ?_
      simp only [Nat.zero_mul, List.drop_zero]
      rw [List.take_take, Nat.min_self, List.take_of_length_le (by omega)]
      simp (disch := ((try simp only [List.length_set, List.length_append, List.length_cons, List.length_nil]); omega)) only [go_sem, w_i64, w_u64, w_i32, w_u32, w_u8, Nat.min_eq_left, Nat.min_eq_right, Nat.reduceBEq, Int.reduceBNe, Int.reduceBEq, Nat.reduceBNe, Nat.reduceAdd, Nat.reduceMul, Nat.reduceSub, Nat.reduceLT, Nat.reduceLeDiff, Nat.reduceEqDiff, Int.reduceLT, Int.reduceLE, Int.reduceEq, Int.reduceToNat, Int.reduceNeg, reduceCtorEq, ↓reduceIte, hp_getL, hp_setL, hp_ne, hp_eq, hp_getS0, hp_getSk, hp_setS0, hp_setSk, confs, clks, mailsA, eventsA]
      refine AW.sr (by kernel_rfl) fun K17 hK17 => ?_
      simp (disch := ((try simp only [List.length_set, List.length_append, List.length_cons, List.length_nil]); omega)) only [go_sem, w_i64, w_u64, w_i32, w_u32, w_u8, Nat.min_eq_left, Nat.min_eq_right, Nat.reduceBEq, Int.reduceBNe, Int.reduceBEq, Nat.reduceBNe, Nat.reduceAdd, Nat.reduceMul, Nat.reduceSub, Nat.reduceLT, Nat.reduceLeDiff, Nat.reduceEqDiff, Int.reduceLT, Int.reduceLE, Int.reduceEq, Int.reduceToNat, Int.reduceNeg, reduceCtorEq, ↓reduceIte, hp_getL, hp_setL, hp_ne, hp_eq, hp_getS0, hp_getSk, hp_setS0, hp_setSk, confs, clks, mailsA, eventsA]
      repeat (apply And.intro; (focus first | trivial | omega | (intros; omega) | (intros; simp_all; done) | (intros; simp_all; omega)))
      refine (c_doTick (hW.same (Same.app (S := [])) (by simp)) (by omega) (by omega) (by omega) (by omega) (by omega) hnd).mono fun x3 H3 _ hx3 => ?_
      obtain ⟨rfl, hW3, hsm3⟩ := hx3
      simp (disch := ((try simp only [List.length_set, List.length_append, List.length_cons, List.length_nil]); omega)) only [go_sem, w_i64, w_u64, w_i32, w_u32, w_u8, Nat.min_eq_left, Nat.min_eq_right, Nat.reduceBEq, Int.reduceBNe, Int.reduceBEq, Nat.reduceBNe, Nat.reduceAdd, Nat.reduceMul, Nat.reduceSub, Nat.reduceLT, Nat.reduceLeDiff, Nat.reduceEqDiff, Int.reduceLT, Int.reduceLE, Int.reduceEq, Int.reduceToNat, Int.reduceNeg, reduceCtorEq, ↓reduceIte, hp_getL, hp_setL, hp_ne, hp_eq, hp_getS0, hp_getSk, hp_setS0, hp_setSk, confs, clks, mailsA, eventsA]
      repeat (apply And.intro; (focus first | trivial | omega | (intros; omega) | (intros; simp_all; done) | (intros; simp_all; omega)))
      refine hK17 _ _ ?_
      try clear hK17 K17
      refine AW.sq fun K18 hK18 => ?_
      refine AW.abs (p := fun H4 => WorldAt H4 d v1 0 0 (mkPlaces l ks ds) (0 + n) [] []) (hW3.same (Same.app (S := [])) (by simp)) ?_
      rintro H4 hW4
      simp only [Int.zero_add] at hW4
      refine AW.sr (by kernel_rfl) fun K19 hK19 => ?_
      simp (disch := ((try simp only [List.length_set, List.length_append, List.length_cons, List.length_nil]); omega)) only [go_sem, w_i64, w_u64, w_i32, w_u32, w_u8, Nat.min_eq_left, Nat.min_eq_right, Nat.reduceBEq, Int.reduceBNe, Int.reduceBEq, Nat.reduceBNe, Nat.reduceAdd, Nat.reduceMul, Nat.reduceSub, Nat.reduceLT, Nat.reduceLeDiff, Nat.reduceEqDiff, Int.reduceLT, Int.reduceLE, Int.reduceEq, Int.reduceToNat, Int.reduceNeg, reduceCtorEq, ↓reduceIte, hp_getL, hp_setL, hp_ne, hp_eq, hp_getS0, hp_getSk, hp_setS0, hp_setSk, confs, clks, mailsA, eventsA]
      repeat (apply And.intro; (focus first | trivial | omega | (intros; omega) | (intros; simp_all; done) | (intros; simp_all; omega)))
      refine Exists.intro _ (And.intro (fun hg => ⟨by (try simp (disch := ((try simp only [List.length_set, List.length_append, List.length_cons, List.length_nil]); omega)) only [go_sem, w_i64, w_u64, w_i32, w_u32, w_u8, Nat.min_eq_left, Nat.min_eq_right, Nat.reduceBEq, Int.reduceBNe, Int.reduceBEq, Nat.reduceBNe, Nat.reduceAdd, Nat.reduceMul, Nat.reduceSub, Nat.reduceLT, Nat.reduceLeDiff, Nat.reduceEqDiff, Int.reduceLT, Int.reduceLE, Int.reduceEq, Int.reduceToNat, Int.reduceNeg, reduceCtorEq, ↓reduceIte, hp_getL, hp_setL, hp_ne, hp_eq, hp_getS0, hp_getSk, hp_setS0, hp_setSk, confs, clks, mailsA, eventsA]); (try trivial), (c_Now hW4 (by omega))⟩) ?_)
      simp (disch := ((try simp only [List.length_set, List.length_append, List.length_cons, List.length_nil]); omega)) only [go_sem, w_i64, w_u64, w_i32, w_u32, w_u8, Nat.min_eq_left, Nat.min_eq_right, Nat.reduceBEq, Int.reduceBNe, Int.reduceBEq, Nat.reduceBNe, Nat.reduceAdd, Nat.reduceMul, Nat.reduceSub, Nat.reduceLT, Nat.reduceLeDiff, Nat.reduceEqDiff, Int.reduceLT, Int.reduceLE, Int.reduceEq, Int.reduceToNat, Int.reduceNeg, reduceCtorEq, ↓reduceIte, hp_getL, hp_setL, hp_ne, hp_eq, hp_getS0, hp_getSk, hp_setS0, hp_setSk, confs, clks, mailsA, eventsA]
      repeat (apply And.intro; (focus first | trivial | omega | (intros; omega) | (intros; simp_all; done) | (intros; simp_all; omega)))
      refine Exists.intro _ (And.intro (fun hg => ⟨by (try simp (disch := ((try simp only [List.length_set, List.length_append, List.length_cons, List.length_nil]); omega)) only [go_sem, w_i64, w_u64, w_i32, w_u32, w_u8, Nat.min_eq_left, Nat.min_eq_right, Nat.reduceBEq, Int.reduceBNe, Int.reduceBEq, Nat.reduceBNe, Nat.reduceAdd, Nat.reduceMul, Nat.reduceSub, Nat.reduceLT, Nat.reduceLeDiff, Nat.reduceEqDiff, Int.reduceLT, Int.reduceLE, Int.reduceEq, Int.reduceToNat, Int.reduceNeg, reduceCtorEq, ↓reduceIte, hp_getL, hp_setL, hp_ne, hp_eq, hp_getS0, hp_getSk, hp_setS0, hp_setSk, confs, clks, mailsA, eventsA]); (try trivial), (c_Mail hW4 (by omega) (by simp) (by simp))⟩) ?_)
      simp (disch := ((try simp only [List.length_set, List.length_append, List.length_cons, List.length_nil]); omega)) only [go_sem, w_i64, w_u64, w_i32, w_u32, w_u8, Nat.min_eq_left, Nat.min_eq_right, Nat.reduceBEq, Int.reduceBNe, Int.reduceBEq, Nat.reduceBNe, Nat.reduceAdd, Nat.reduceMul, Nat.reduceSub, Nat.reduceLT, Nat.reduceLeDiff, Nat.reduceEqDiff, Int.reduceLT, Int.reduceLE, Int.reduceEq, Int.reduceToNat, Int.reduceNeg, reduceCtorEq, ↓reduceIte, hp_getL, hp_setL, hp_ne, hp_eq, hp_getS0, hp_getSk, hp_setS0, hp_setSk, confs, clks, mailsA, eventsA]
      repeat (apply And.intro; (focus first | trivial | omega | (intros; omega) | (intros; simp_all; done) | (intros; simp_all; omega)))
      refine Exists.intro _ (And.intro (fun hg => ⟨by (try simp (disch := ((try simp only [List.length_set, List.length_append, List.length_cons, List.length_nil]); omega)) only [go_sem, w_i64, w_u64, w_i32, w_u32, w_u8, Nat.min_eq_left, Nat.min_eq_right, Nat.reduceBEq, Int.reduceBNe, Int.reduceBEq, Nat.reduceBNe, Nat.reduceAdd, Nat.reduceMul, Nat.reduceSub, Nat.reduceLT, Nat.reduceLeDiff, Nat.reduceEqDiff, Int.reduceLT, Int.reduceLE, Int.reduceEq, Int.reduceToNat, Int.reduceNeg, reduceCtorEq, ↓reduceIte, hp_getL, hp_setL, hp_ne, hp_eq, hp_getS0, hp_getSk, hp_setS0, hp_setSk, confs, clks, mailsA, eventsA]); (try trivial), (c_Log hW4 (by omega) (by simp) (by simp))⟩) ?_)
      simp (disch := ((try simp only [List.length_set, List.length_append, List.length_cons, List.length_nil]); omega)) only [go_sem, w_i64, w_u64, w_i32, w_u32, w_u8, Nat.min_eq_left, Nat.min_eq_right, Nat.reduceBEq, Int.reduceBNe, Int.reduceBEq, Nat.reduceBNe, Nat.reduceAdd, Nat.reduceMul, Nat.reduceSub, Nat.reduceLT, Nat.reduceLeDiff, Nat.reduceEqDiff, Int.reduceLT, Int.reduceLE, Int.reduceEq, Int.reduceToNat, Int.reduceNeg, reduceCtorEq, ↓reduceIte, hp_getL, hp_setL, hp_ne, hp_eq, hp_getS0, hp_getSk, hp_setS0, hp_setSk, confs, clks, mailsA, eventsA]
      repeat (apply And.intro; (focus first | trivial | omega | (intros; omega) | (intros; simp_all; done) | (intros; simp_all; omega)))
      refine hK19 _ _ ?_
      try clear hK19 K19
      refine AW.condf rfl (by simp) ?_
      refine AW.skip ?_
      simp (disch := ((try simp only [List.length_set, List.length_append, List.length_cons, List.length_nil]); omega)) only [go_sem, w_i64, w_u64, w_i32, w_u32, w_u8, Nat.min_eq_left, Nat.min_eq_right, Nat.reduceBEq, Int.reduceBNe, Int.reduceBEq, Nat.reduceBNe, Nat.reduceAdd, Nat.reduceMul, Nat.reduceSub, Nat.reduceLT, Nat.reduceLeDiff, Nat.reduceEqDiff, Int.reduceLT, Int.reduceLE, Int.reduceEq, Int.reduceToNat, Int.reduceNeg, reduceCtorEq, ↓reduceIte, hp_getL, hp_setL, hp_ne, hp_eq, hp_getS0, hp_getSk, hp_setS0, hp_setSk, confs, clks, mailsA, eventsA]
      refine hK18 _ _ ?_
      try clear hK18 K18
      refine AW.sq fun K20 hK20 => ?_
      refine AW.sr (by kernel_rfl) fun K21 hK21 => ?_
      simp (disch := ((try simp only [List.length_set, List.length_append, List.length_cons, List.length_nil]); omega)) only [go_sem, w_i64, w_u64, w_i32, w_u32, w_u8, Nat.min_eq_left, Nat.min_eq_right, Nat.reduceBEq, Int.reduceBNe, Int.reduceBEq, Nat.reduceBNe, Nat.reduceAdd, Nat.reduceMul, Nat.reduceSub, Nat.reduceLT, Nat.reduceLeDiff, Nat.reduceEqDiff, Int.reduceLT, Int.reduceLE, Int.reduceEq, Int.reduceToNat, Int.reduceNeg, reduceCtorEq, ↓reduceIte, hp_getL, hp_setL, hp_ne, hp_eq, hp_getS0, hp_getSk, hp_setS0, hp_setSk, confs, clks, mailsA, eventsA]
      repeat (apply And.intro; (focus first | trivial | omega | (intros; omega) | (intros; simp_all; done) | (intros; simp_all; omega)))
      refine hK21 _ _ ?_
      try clear hK21 K21
      refine AW.bloop (fun m r H' => ∃ i : Nat, m = l.length - i ∧ i ≤ l.length ∧ r = [(0, confs l), (2, .int .i64 n), (7, .ptr d.wid 0), (8, .nums .u64 false (wasL (mkPlaces l ks ds))), (14, .int .i64 i)] ∧ H' = H4) l.length ⟨[(0, _), (2, _), (7, _), (8, _), (14, _)], le_cons rfl (le_cons rfl (le_cons rfl (le_cons rfl (le_cons rfl le_nil)))), ?_⟩ fun n l1 G _ hI => ?_
      · exact ⟨0, by omega, by omega, rfl, rfl⟩
      obtain ⟨i, rfl, hi, rfl, rfl⟩ := hI
      refine AW.sq fun K22 hK22 => ?_
      refine AW.sr (by kernel_rfl) fun K23 hK23 => ?_
      simp (disch := ((try simp only [List.length_set, List.length_append, List.length_cons, List.length_nil]); omega)) only [go_sem, w_i64, w_u64, w_i32, w_u32, w_u8, Nat.min_eq_left, Nat.min_eq_right, Nat.reduceBEq, Int.reduceBNe, Int.reduceBEq, Nat.reduceBNe, Nat.reduceAdd, Nat.reduceMul, Nat.reduceSub, Nat.reduceLT, Nat.reduceLeDiff, Nat.reduceEqDiff, Int.reduceLT, Int.reduceLE, Int.reduceEq, Int.reduceToNat, Int.reduceNeg, reduceCtorEq, ↓reduceIte, hp_getL, hp_setL, hp_ne, hp_eq, hp_getS0, hp_getSk, hp_setS0, hp_setSk, confs, clks, mailsA, eventsA]
      repeat (apply And.intro; (focus first | trivial | omega | (intros; omega) | (intros; simp_all; done) | (intros; simp_all; omega)))
      refine hK23 _ _ ?_
      try clear hK23 K23
      refine AW.cond rfl (fun h => ?_) (fun h => ?_)
      · try simp only [decide_eq_true_eq, decide_eq_false_iff_not, beq_iff_eq, beq_eq_false_iff_ne, bne_iff_ne, bne_eq_false_iff_eq, ne_eq, Bool.and_eq_true, Bool.or_eq_true, Bool.and_eq_false_iff, Bool.or_eq_false_iff, Bool.not_eq_true', Bool.not_eq_false', Int.not_lt, Int.not_le, Decidable.not_not, Bool.not_true, Bool.not_false] at h
        have hlt : i < l.length := by omega
        have hi' : i < (mkPlaces l ks ds).length := by omega
        obtain ⟨_, hik, hr1, hr2⟩ := newOk_rate hnew hlt
        have hpr : (mkPlaces l ks ds)[i].rate = ks[i].rate := by rw [mkPlaces_at hlt hik (by omega) hi']; rfl
        rw [← hpr] at hr1 hr2
        have hcl := clock_law (start := (mkPlaces l ks ds)[i].start) hr1 hr2 hn2.1 hn2.2
        have hq := fdiv_bd hn2.1 hn2.2
        have hm1 := Int.mul_le_mul_of_nonneg_right hr1 hq.1
        have hm2 := Int.mul_le_mul_of_nonneg_right hr2 hq.1
        have hwi : (wasL (mkPlaces l ks ds)).getD i 0 = showsI 0 (mkPlaces l ks ds)[i].start (mkPlaces l ks ds)[i].rate := getD_map0 (by omega)
        refine AW.skip ?_
        simp (disch := ((try simp only [List.length_set, List.length_append, List.length_cons, List.length_nil]); omega)) only [go_sem, w_i64, w_u64, w_i32, w_u32, w_u8, Nat.min_eq_left, Nat.min_eq_right, Nat.reduceBEq, Int.reduceBNe, Int.reduceBEq, Nat.reduceBNe, Nat.reduceAdd, Nat.reduceMul, Nat.reduceSub, Nat.reduceLT, Nat.reduceLeDiff, Nat.reduceEqDiff, Int.reduceLT, Int.reduceLE, Int.reduceEq, Int.reduceToNat, Int.reduceNeg, reduceCtorEq, ↓reduceIte, hp_getL, hp_setL, hp_ne, hp_eq, hp_getS0, hp_getSk, hp_setS0, hp_setSk, confs, clks, mailsA, eventsA]
        refine hK22 _ _ ?_
        try clear hK22 K22
        refine AW.sblock fun K24 hK24 => ?_
        refine AW.sr (by kernel_rfl) fun K25 hK25 => ?_
        simp (disch := ((try simp only [List.length_set, List.length_append, List.length_cons, List.length_nil]); omega)) only [go_sem, w_i64, w_u64, w_i32, w_u32, w_u8, Nat.min_eq_left, Nat.min_eq_right, Nat.reduceBEq, Int.reduceBNe, Int.reduceBEq, Nat.reduceBNe, Nat.reduceAdd, Nat.reduceMul, Nat.reduceSub, Nat.reduceLT, Nat.reduceLeDiff, Nat.reduceEqDiff, Int.reduceLT, Int.reduceLE, Int.reduceEq, Int.reduceToNat, Int.reduceNeg, reduceCtorEq, ↓reduceIte, hp_getL, hp_setL, hp_ne, hp_eq, hp_getS0, hp_getSk, hp_setS0, hp_setSk, confs, clks, mailsA, eventsA]
        repeat (apply And.intro; (focus first | trivial | omega | (intros; omega) | (intros; simp_all; done) | (intros; simp_all; omega)))
        refine (c_Shows hW4 (by omega) (i := i) (by omega) (by omega)).mono fun x2 H2 _ hx2 => ?_
        obtain ⟨rfl, hE2⟩ := hx2; subst H2
        simp (disch := ((try simp only [List.length_set, List.length_append, List.length_cons, List.length_nil]); omega)) only [go_sem, w_i64, w_u64, w_i32, w_u32, w_u8, Nat.min_eq_left, Nat.min_eq_right, Nat.reduceBEq, Int.reduceBNe, Int.reduceBEq, Nat.reduceBNe, Nat.reduceAdd, Nat.reduceMul, Nat.reduceSub, Nat.reduceLT, Nat.reduceLeDiff, Nat.reduceEqDiff, Int.reduceLT, Int.reduceLE, Int.reduceEq, Int.reduceToNat, Int.reduceNeg, reduceCtorEq, ↓reduceIte, hp_getL, hp_setL, hp_ne, hp_eq, hp_getS0, hp_getSk, hp_setS0, hp_setSk, confs, clks, mailsA, eventsA]
        repeat (apply And.intro; (focus first | trivial | omega | (intros; omega) | (intros; simp_all; done) | (intros; simp_all; omega)))
        refine hK25 _ _ ?_
        try clear hK25 K25
        refine AW.sr (by kernel_rfl) fun K26 hK26 => ?_
        simp (disch := ((try simp only [List.length_set, List.length_append, List.length_cons, List.length_nil]); omega)) only [go_sem, w_i64, w_u64, w_i32, w_u32, w_u8, Nat.min_eq_left, Nat.min_eq_right, Nat.reduceBEq, Int.reduceBNe, Int.reduceBEq, Nat.reduceBNe, Nat.reduceAdd, Nat.reduceMul, Nat.reduceSub, Nat.reduceLT, Nat.reduceLeDiff, Nat.reduceEqDiff, Int.reduceLT, Int.reduceLE, Int.reduceEq, Int.reduceToNat, Int.reduceNeg, reduceCtorEq, ↓reduceIte, hp_getL, hp_setL, hp_ne, hp_eq, hp_getS0, hp_getSk, hp_setS0, hp_setSk, confs, clks, mailsA, eventsA, hwi, hcl]
        repeat (apply And.intro; (focus first | trivial | omega | (intros; omega) | (intros; simp_all; done) | (intros; simp_all; omega)))
        refine hK26 _ _ ?_
        try clear hK26 K26
        refine AW.sr (by kernel_rfl) fun K27 hK27 => ?_
        simp (disch := ((try simp only [List.length_set, List.length_append, List.length_cons, List.length_nil]); omega)) only [go_sem, w_i64, w_u64, w_i32, w_u32, w_u8, Nat.min_eq_left, Nat.min_eq_right, Nat.reduceBEq, Int.reduceBNe, Int.reduceBEq, Nat.reduceBNe, Nat.reduceAdd, Nat.reduceMul, Nat.reduceSub, Nat.reduceLT, Nat.reduceLeDiff, Nat.reduceEqDiff, Int.reduceLT, Int.reduceLE, Int.reduceEq, Int.reduceToNat, Int.reduceNeg, reduceCtorEq, ↓reduceIte, hp_getL, hp_setL, hp_ne, hp_eq, hp_getS0, hp_getSk, hp_setS0, hp_setSk, confs, clks, mailsA, eventsA]
        repeat (apply And.intro; (focus first | trivial | omega | (intros; omega) | (intros; simp_all; done) | (intros; simp_all; omega)))
        refine hK27 _ _ ?_
        try clear hK27 K27
        refine AW.condf rfl (by simp only [Bool.or_eq_false_iff, decide_eq_false_iff_not]; omega) ?_
        refine AW.skip ?_
        simp (disch := ((try simp only [List.length_set, List.length_append, List.length_cons, List.length_nil]); omega)) only [go_sem, w_i64, w_u64, w_i32, w_u32, w_u8, Nat.min_eq_left, Nat.min_eq_right, Nat.reduceBEq, Int.reduceBNe, Int.reduceBEq, Nat.reduceBNe, Nat.reduceAdd, Nat.reduceMul, Nat.reduceSub, Nat.reduceLT, Nat.reduceLeDiff, Nat.reduceEqDiff, Int.reduceLT, Int.reduceLE, Int.reduceEq, Int.reduceToNat, Int.reduceNeg, reduceCtorEq, ↓reduceIte, hp_getL, hp_setL, hp_ne, hp_eq, hp_getS0, hp_getSk, hp_setS0, hp_setSk, confs, clks, mailsA, eventsA]
        refine hK24 _ _ ?_
        try clear hK24 K24
        refine AW.rg (by kernel_rfl) fun K28 hK28 => ?_
        simp (disch := ((try simp only [List.length_set, List.length_append, List.length_cons, List.length_nil]); omega)) only [go_sem, w_i64, w_u64, w_i32, w_u32, w_u8, Nat.min_eq_left, Nat.min_eq_right, Nat.reduceBEq, Int.reduceBNe, Int.reduceBEq, Nat.reduceBNe, Nat.reduceAdd, Nat.reduceMul, Nat.reduceSub, Nat.reduceLT, Nat.reduceLeDiff, Nat.reduceEqDiff, Int.reduceLT, Int.reduceLE, Int.reduceEq, Int.reduceToNat, Int.reduceNeg, reduceCtorEq, ↓reduceIte, hp_getL, hp_setL, hp_ne, hp_eq, hp_getS0, hp_getSk, hp_setS0, hp_setSk, confs, clks, mailsA, eventsA]
        repeat (apply And.intro; (focus first | trivial | omega | (intros; omega) | (intros; simp_all; done) | (intros; simp_all; omega)))
        refine hK28 _ _ ?_
        try clear hK28 K28
        simp (disch := ((try simp only [List.length_set, List.length_append, List.length_cons, List.length_nil]); omega)) only [go_sem, w_i64, w_u64, w_i32, w_u32, w_u8, Nat.min_eq_left, Nat.min_eq_right, Nat.reduceBEq, Int.reduceBNe, Int.reduceBEq, Nat.reduceBNe, Nat.reduceAdd, Nat.reduceMul, Nat.reduceSub, Nat.reduceLT, Nat.reduceLeDiff, Nat.reduceEqDiff, Int.reduceLT, Int.reduceLE, Int.reduceEq, Int.reduceToNat, Int.reduceNeg, reduceCtorEq, ↓reduceIte, hp_getL, hp_setL, hp_ne, hp_eq, hp_getS0, hp_getSk, hp_setS0, hp_setSk, confs, clks, mailsA, eventsA]
        refine ⟨l.length - (i + 1), by omega, [(0, _), (2, _), (7, _), (8, _), (14, _)], le_cons rfl (le_cons rfl (le_cons rfl (le_cons rfl (le_cons rfl le_nil)))), i + 1, rfl, by omega, ?_, rfl⟩
        (simp (disch := omega) only [go_sem, Nat.min_eq_left, Nat.min_eq_right, Nat.reduceBEq, Int.reduceBNe, Int.reduceBEq, Nat.reduceBNe, Nat.reduceAdd, Nat.reduceMul, Nat.reduceSub, Nat.reduceLT, Nat.reduceLeDiff, Nat.reduceEqDiff, Int.reduceLT, Int.reduceLE, Int.reduceEq, Int.reduceToNat, Int.reduceNeg, reduceCtorEq, ↓reduceIte, List.cons.injEq, Prod.mk.injEq, AV.int.injEq, AV.nums.injEq, AV.bool.injEq]; try omega)
      · try simp only [decide_eq_true_eq, decide_eq_false_iff_not, beq_iff_eq, beq_eq_false_iff_ne, bne_iff_ne, bne_eq_false_iff_eq, ne_eq, Bool.and_eq_true, Bool.or_eq_true, Bool.and_eq_false_iff, Bool.or_eq_false_iff, Bool.not_eq_true', Bool.not_eq_false', Int.not_lt, Int.not_le, Decidable.not_not, Bool.not_true, Bool.not_false] at h
        refine AW.exit ?_
        simp (disch := ((try simp only [List.length_set, List.length_append, List.length_cons, List.length_nil]); omega)) only [go_sem, w_i64, w_u64, w_i32, w_u32, w_u8, Nat.min_eq_left, Nat.min_eq_right, Nat.reduceBEq, Int.reduceBNe, Int.reduceBEq, Nat.reduceBNe, Nat.reduceAdd, Nat.reduceMul, Nat.reduceSub, Nat.reduceLT, Nat.reduceLeDiff, Nat.reduceEqDiff, Int.reduceLT, Int.reduceLE, Int.reduceEq, Int.reduceToNat, Int.reduceNeg, reduceCtorEq, ↓reduceIte, hp_getL, hp_setL, hp_ne, hp_eq, hp_getS0, hp_getSk, hp_setS0, hp_setSk, confs, clks, mailsA, eventsA]
        refine hK20 _ _ ?_
        try clear hK20 K20
        refine AW.sr (by kernel_rfl) fun K29 hK29 => ?_
        simp (disch := ((try simp only [List.length_set, List.length_append, List.length_cons, List.length_nil]); omega)) only [go_sem, w_i64, w_u64, w_i32, w_u32, w_u8, Nat.min_eq_left, Nat.min_eq_right, Nat.reduceBEq, Int.reduceBNe, Int.reduceBEq, Nat.reduceBNe, Nat.reduceAdd, Nat.reduceMul, Nat.reduceSub, Nat.reduceLT, Nat.reduceLeDiff, Nat.reduceEqDiff, Int.reduceLT, Int.reduceLE, Int.reduceEq, Int.reduceToNat, Int.reduceNeg, reduceCtorEq, ↓reduceIte, hp_getL, hp_setL, hp_ne, hp_eq, hp_getS0, hp_getSk, hp_setS0, hp_setSk, confs, clks, mailsA, eventsA]
        repeat (apply And.intro; (focus first | trivial | omega | (intros; omega) | (intros; simp_all; done) | (intros; simp_all; omega)))
        refine (c_alive18).mono fun x0 H0 _ hx0 => ?_
        obtain ⟨rfl, hE0⟩ := hx0; subst H0
        simp (disch := ((try simp only [List.length_set, List.length_append, List.length_cons, List.length_nil]); omega)) only [go_sem, w_i64, w_u64, w_i32, w_u32, w_u8, Nat.min_eq_left, Nat.min_eq_right, Nat.reduceBEq, Int.reduceBNe, Int.reduceBEq, Nat.reduceBNe, Nat.reduceAdd, Nat.reduceMul, Nat.reduceSub, Nat.reduceLT, Nat.reduceLeDiff, Nat.reduceEqDiff, Int.reduceLT, Int.reduceLE, Int.reduceEq, Int.reduceToNat, Int.reduceNeg, reduceCtorEq, ↓reduceIte, hp_getL, hp_setL, hp_ne, hp_eq, hp_getS0, hp_getSk, hp_setS0, hp_setSk, confs, clks, mailsA, eventsA]
        repeat (apply And.intro; (focus first | trivial | omega | (intros; omega) | (intros; simp_all; done) | (intros; simp_all; omega)))
        refine hK29 _ _ ?_
        try clear hK29 K29
        refine AW.ret ?_
        simp (disch := ((try simp only [List.length_set, List.length_append, List.length_cons, List.length_nil]); omega)) only [go_sem, w_i64, w_u64, w_i32, w_u32, w_u8, Nat.min_eq_left, Nat.min_eq_right, Nat.reduceBEq, Int.reduceBNe, Int.reduceBEq, Nat.reduceBNe, Nat.reduceAdd, Nat.reduceMul, Nat.reduceSub, Nat.reduceLT, Nat.reduceLeDiff, Nat.reduceEqDiff, Int.reduceLT, Int.reduceLE, Int.reduceEq, Int.reduceToNat, Int.reduceNeg, reduceCtorEq, ↓reduceIte, hp_getL, hp_setL, hp_ne, hp_eq, hp_getS0, hp_getSk, hp_setS0, hp_setSk, confs, clks, mailsA, eventsA]


end Go.Av
end
