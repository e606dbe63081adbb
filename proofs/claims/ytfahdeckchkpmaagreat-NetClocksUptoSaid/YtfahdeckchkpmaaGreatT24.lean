/- Proved here: NetClocksUptoSaid, the law NetClocks where what it reads is of bulk at most 1048576; this text holds a part of its proof. -/
import Derived.Test.YtfahdeckchkpmaaGreatT23
section
set_option linter.unusedVariables false
set_option linter.unusedSimpArgs false
set_option maxRecDepth 100000
set_option maxHeartbeats 4000000
namespace Go.Av
open Go.Proofs
variable {H : Heap}

def mailsA (l : List MailV) : AV := .sl false l.length (l.flatMap MailV.cells)
def eventsA (l : List EventV) : AV := .sl false l.length (l.flatMap EventV.cells)
theorem mails_at {l : List MailV} {i : Nat} (h : i < l.length) : ((l.flatMap MailV.cells).drop (i * 3)).take 3 = l[i].cells := flat_at (fun x _ => rfl) (by simp [h])
theorem mails_len {l : List MailV} : (l.flatMap MailV.cells).length = l.length * 3 := flat_len (fun x _ => rfl)
theorem events_at {l : List EventV} {i : Nat} (h : i < l.length) : ((l.flatMap EventV.cells).drop (i * 5)).take 5 = l[i].cells := flat_at (fun x _ => rfl) (by simp [h])
theorem events_len {l : List EventV} : (l.flatMap EventV.cells).length = l.length * 5 := flat_len (fun x _ => rfl)
theorem mail_snoc {l : List MailV} {i : Nat} (h : i < l.length) : (l.take (i + 1)).flatMap MailV.cells = (l.take i).flatMap MailV.cells ++ l[i].cells := by
  rw [List.take_succ_eq_append_getElem h, List.flatMap_append]; simp
theorem event_snoc {l : List EventV} {i : Nat} (h : i < l.length) : (l.take (i + 1)).flatMap EventV.cells = (l.take i).flatMap EventV.cells ++ l[i].cells := by
  rw [List.take_succ_eq_append_getElem h, List.flatMap_append]; simp
theorem mails_lts {n : Nat} : ∀ {l : List MailV}, AV.lts n (l.flatMap MailV.cells) = True
  | [] => by simp [AV.lts]
  | c :: cs => by
    have := mails_lts (n := n) (l := cs)
    simp only [List.flatMap_cons, lts_app, this, and_true]
    simp [MailV.cells, AV.lts, AV.lt]
theorem events_lts {n : Nat} : ∀ {l : List EventV}, AV.lts n (l.flatMap EventV.cells) = True
  | [] => by simp [AV.lts]
  | c :: cs => by
    have := events_lts (n := n) (l := cs)
    simp only [List.flatMap_cons, lts_app, this, and_true]
    simp [EventV.cells, AV.lts, AV.lt]
theorem c_Mail {d : WorldIds} {v1 v2 v3 : Nat} {ps : List PlaceV} {now : Int} {ms : List MailV} {ls : List EventV} (hW : WorldAt H d v1 v2 v3 ps now ms ls) (hn : 0 < ps.length) (hb : ∀ m ∈ ms, m.bytes.length ≤ 1099511627776) (hk : ms.length ≤ 4294967295) : ACalls Tryz.prog 16 [.ptr d.wid 0] H (fun x H' => x = mailsA ms ∧ H' = H) := by
  refine ACalls.drop ?_
  refine ACalls.enter (fn := Tryz.f16) (N := 31) (rs := [.tmp 2]) (by kernel_rfl) (by kernel_rfl) rfl rfl (Nat.le_of_ble_eq_true rfl) rfl ?_
  have hW0 := hW
  obtain ⟨hw, hp, hm, hl⟩ := hW
  simp only [worldCells] at hw
  have hcl := places_len (l := ps)
  have hcm := mails_len (l := ms)
  have lw := hp_lt hw
  have lm := hp_lt hm
  refine AW.sr (by kernel_rfl) fun K1 hK1 => ?_
  simp (disch := ((try simp only [List.length_set, List.length_append, List.length_cons, List.length_nil]); omega)) only [go_sem, w_i64, w_u64, w_i32, w_u32, w_u8, Nat.min_eq_left, Nat.min_eq_right, Nat.reduceBEq, Int.reduceBNe, Int.reduceBEq, Nat.reduceBNe, Nat.reduceAdd, Nat.reduceMul, Nat.reduceSub, Nat.reduceLT, Nat.reduceLeDiff, Nat.reduceEqDiff, Int.reduceLT, Int.reduceLE, Int.reduceEq, Int.reduceToNat, Int.reduceNeg, reduceCtorEq, ↓reduceIte, hp_getL, hp_setL, hp_ne, hp_eq, hp_getS0, hp_getSk, hp_setS0, hp_setSk]
  repeat (apply And.intro; (focus first | trivial | omega | (intros; omega) | (intros; simp_all; done) | (intros; simp_all; omega)))
  refine hK1 _ _ ?_
  try clear hK1 K1
  refine AW.sq fun K2 hK2 => ?_
  refine AW.sr (by kernel_rfl) fun K3 hK3 => ?_
  simp (disch := ((try simp only [List.length_set, List.length_append, List.length_cons, List.length_nil]); omega)) only [go_sem, w_i64, w_u64, w_i32, w_u32, w_u8, Nat.min_eq_left, Nat.min_eq_right, Nat.reduceBEq, Int.reduceBNe, Int.reduceBEq, Nat.reduceBNe, Nat.reduceAdd, Nat.reduceMul, Nat.reduceSub, Nat.reduceLT, Nat.reduceLeDiff, Nat.reduceEqDiff, Int.reduceLT, Int.reduceLE, Int.reduceEq, Int.reduceToNat, Int.reduceNeg, reduceCtorEq, ↓reduceIte, hp_getL, hp_setL, hp_ne, hp_eq, hp_getS0, hp_getSk, hp_setS0, hp_setSk]
  repeat (apply And.intro; (focus first | trivial | omega | (intros; omega) | (intros; simp_all; done) | (intros; simp_all; omega)))
  refine (c_wmade hW0 hn).mono fun x1 H1 _ hx1 => ?_
  obtain ⟨rfl, hE1⟩ := hx1; subst H1
  simp (disch := ((try simp only [List.length_set, List.length_append, List.length_cons, List.length_nil]); omega)) only [go_sem, w_i64, w_u64, w_i32, w_u32, w_u8, Nat.min_eq_left, Nat.min_eq_right, Nat.reduceBEq, Int.reduceBNe, Int.reduceBEq, Nat.reduceBNe, Nat.reduceAdd, Nat.reduceMul, Nat.reduceSub, Nat.reduceLT, Nat.reduceLeDiff, Nat.reduceEqDiff, Int.reduceLT, Int.reduceLE, Int.reduceEq, Int.reduceToNat, Int.reduceNeg, reduceCtorEq, ↓reduceIte, hp_getL, hp_setL, hp_ne, hp_eq, hp_getS0, hp_getSk, hp_setS0, hp_setSk]
  repeat (apply And.intro; (focus first | trivial | omega | (intros; omega) | (intros; simp_all; done) | (intros; simp_all; omega)))
  refine hK3 _ _ ?_
  try clear hK3 K3
  refine AW.condF rfl ?_
  refine AW.skip ?_
  simp (disch := ((try simp only [List.length_set, List.length_append, List.length_cons, List.length_nil]); omega)) only [go_sem, w_i64, w_u64, w_i32, w_u32, w_u8, Nat.min_eq_left, Nat.min_eq_right, Nat.reduceBEq, Int.reduceBNe, Int.reduceBEq, Nat.reduceBNe, Nat.reduceAdd, Nat.reduceMul, Nat.reduceSub, Nat.reduceLT, Nat.reduceLeDiff, Nat.reduceEqDiff, Int.reduceLT, Int.reduceLE, Int.reduceEq, Int.reduceToNat, Int.reduceNeg, reduceCtorEq, ↓reduceIte, hp_getL, hp_setL, hp_ne, hp_eq, hp_getS0, hp_getSk, hp_setS0, hp_setSk]
  refine hK2 _ _ ?_
  try clear hK2 K2
  refine AW.sr (by kernel_rfl) fun K4 hK4 => ?_
  simp (disch := ((try simp only [List.length_set, List.length_append, List.length_cons, List.length_nil]); omega)) only [go_sem, w_i64, w_u64, w_i32, w_u32, w_u8, Nat.min_eq_left, Nat.min_eq_right, Nat.reduceBEq, Int.reduceBNe, Int.reduceBEq, Nat.reduceBNe, Nat.reduceAdd, Nat.reduceMul, Nat.reduceSub, Nat.reduceLT, Nat.reduceLeDiff, Nat.reduceEqDiff, Int.reduceLT, Int.reduceLE, Int.reduceEq, Int.reduceToNat, Int.reduceNeg, reduceCtorEq, ↓reduceIte, hp_getL, hp_setL, hp_ne, hp_eq, hp_getS0, hp_getSk, hp_setS0, hp_setSk]
  repeat (apply And.intro; (focus first | trivial | omega | (intros; omega) | (intros; simp_all; done) | (intros; simp_all; omega)))
  refine hK4 _ _ ?_
  try clear hK4 K4
  refine AW.sq fun K5 hK5 => ?_
  refine AW.ownR 3 59 3 rfl ?_
  refine AW.sr (by kernel_rfl) fun K6 hK6 => ?_
  simp (disch := ((try simp only [List.length_set, List.length_append, List.length_cons, List.length_nil]); omega)) only [go_sem, w_i64, w_u64, w_i32, w_u32, w_u8, Nat.min_eq_left, Nat.min_eq_right, Nat.reduceBEq, Int.reduceBNe, Int.reduceBEq, Nat.reduceBNe, Nat.reduceAdd, Nat.reduceMul, Nat.reduceSub, Nat.reduceLT, Nat.reduceLeDiff, Nat.reduceEqDiff, Int.reduceLT, Int.reduceLE, Int.reduceEq, Int.reduceToNat, Int.reduceNeg, reduceCtorEq, ↓reduceIte, hp_getL, hp_setL, hp_ne, hp_eq, hp_getS0, hp_getSk, hp_setS0, hp_setSk, hw, hm, rowM]
  repeat (apply And.intro; (focus first | trivial | omega | (intros; omega) | (intros; simp_all; done) | (intros; simp_all; omega)))
  refine hK6 _ _ ?_
  try clear hK6 K6
  refine AW.bloop (fun n l H' => ∃ i : Nat, n = ms.length - i ∧ i ≤ ms.length ∧ l = [(3, .rref H.length i 0 i), (12, .rref d.mr v2 0 ms.length), (13, .int .i64 ms.length), (14, .int .i64 i)] ∧ H'[d.wid]? = some (.cells (worldCells d v1 v2 v3 ps now ms ls)) ∧ H'[d.mr]? = some (rowM v2 ms) ∧ H'[H.length]? = some (rowM i (ms.take i)) ∧ Same [] H H') ms.length ⟨[(3, _), (12, _), (13, _), (14, _)], le_cons rfl (le_cons rfl (le_cons rfl (le_cons rfl le_nil))), ?_⟩ fun n l1 G _ hI => ?_
  · exact ⟨0, by omega, by omega, rfl, by rw [hp_getL lw]; exact hw, by rw [hp_getL lm]; exact hm, by simp; rfl, Same.app⟩
  obtain ⟨i, rfl, hi, rfl, hwG, hmG, hR, hsm⟩ := hI; have lwG := hp_lt hwG; have lmG := hp_lt hmG; have lR := hp_lt hR; have hle := hsm.1; have hml : (ms.take i).length = i := by {rw [List.length_take]; omega}
  refine AW.sr (by kernel_rfl) fun K7 hK7 => ?_
  simp (disch := ((try simp only [List.length_set, List.length_append, List.length_cons, List.length_nil]); omega)) only [go_sem, w_i64, w_u64, w_i32, w_u32, w_u8, Nat.min_eq_left, Nat.min_eq_right, Nat.reduceBEq, Int.reduceBNe, Int.reduceBEq, Nat.reduceBNe, Nat.reduceAdd, Nat.reduceMul, Nat.reduceSub, Nat.reduceLT, Nat.reduceLeDiff, Nat.reduceEqDiff, Int.reduceLT, Int.reduceLE, Int.reduceEq, Int.reduceToNat, Int.reduceNeg, reduceCtorEq, ↓reduceIte, hp_getL, hp_setL, hp_ne, hp_eq, hp_getS0, hp_getSk, hp_setS0, hp_setSk]
  repeat (apply And.intro; (focus first | trivial | omega | (intros; omega) | (intros; simp_all; done) | (intros; simp_all; omega)))
  refine hK7 _ _ ?_
  try clear hK7 K7
  refine AW.sq fun K8 hK8 => ?_
  refine AW.cond rfl (fun h => ?_) (fun h => ?_)
  · try simp only [decide_eq_true_eq, decide_eq_false_iff_not, beq_iff_eq, beq_eq_false_iff_ne, bne_iff_ne, bne_eq_false_iff_eq, ne_eq, Bool.and_eq_true, Bool.or_eq_true, Bool.and_eq_false_iff, Bool.or_eq_false_iff, Bool.not_eq_true', Bool.not_eq_false', Int.not_lt, Int.not_le, Decidable.not_not, Bool.not_true, Bool.not_false] at h
    have hlt : i < ms.length := by omega
    have hat := mails_at hlt
    refine AW.skip ?_
    simp (disch := ((try simp only [List.length_set, List.length_append, List.length_cons, List.length_nil]); omega)) only [go_sem, w_i64, w_u64, w_i32, w_u32, w_u8, Nat.min_eq_left, Nat.min_eq_right, Nat.reduceBEq, Int.reduceBNe, Int.reduceBEq, Nat.reduceBNe, Nat.reduceAdd, Nat.reduceMul, Nat.reduceSub, Nat.reduceLT, Nat.reduceLeDiff, Nat.reduceEqDiff, Int.reduceLT, Int.reduceLE, Int.reduceEq, Int.reduceToNat, Int.reduceNeg, reduceCtorEq, ↓reduceIte, hp_getL, hp_setL, hp_ne, hp_eq, hp_getS0, hp_getSk, hp_setS0, hp_setSk]
    refine hK8 _ _ ?_
    try clear hK8 K8
    refine AW.sblock fun K9 hK9 => ?_
    refine AW.sr (by kernel_rfl) fun K10 hK10 => ?_
    simp (disch := ((try simp only [List.length_set, List.length_append, List.length_cons, List.length_nil]); omega)) only [go_sem, w_i64, w_u64, w_i32, w_u32, w_u8, Nat.min_eq_left, Nat.min_eq_right, Nat.reduceBEq, Int.reduceBNe, Int.reduceBEq, Nat.reduceBNe, Nat.reduceAdd, Nat.reduceMul, Nat.reduceSub, Nat.reduceLT, Nat.reduceLeDiff, Nat.reduceEqDiff, Int.reduceLT, Int.reduceLE, Int.reduceEq, Int.reduceToNat, Int.reduceNeg, reduceCtorEq, ↓reduceIte, hp_getL, hp_setL, hp_ne, hp_eq, hp_getS0, hp_getSk, hp_setS0, hp_setSk, hwG, hmG, rowM, hat, MailV.cells]
    repeat (apply And.intro; (focus first | trivial | omega | (intros; omega) | (intros; simp_all; done) | (intros; simp_all; omega)))
    refine hK10 _ _ ?_
    try clear hK10 K10
    refine AW.dg [10] (by kernel_rfl) (by kernel_rfl) (by kernel_rfl) fun K11 hK11 => ?_
    simp (disch := ((try simp only [List.length_set, List.length_append, List.length_cons, List.length_nil]); omega)) only [go_sem, w_i64, w_u64, w_i32, w_u32, w_u8, Nat.min_eq_left, Nat.min_eq_right, Nat.reduceBEq, Int.reduceBNe, Int.reduceBEq, Nat.reduceBNe, Nat.reduceAdd, Nat.reduceMul, Nat.reduceSub, Nat.reduceLT, Nat.reduceLeDiff, Nat.reduceEqDiff, Int.reduceLT, Int.reduceLE, Int.reduceEq, Int.reduceToNat, Int.reduceNeg, reduceCtorEq, ↓reduceIte, hp_getL, hp_setL, hp_ne, hp_eq, hp_getS0, hp_getSk, hp_setS0, hp_setSk, hR, rowM, hml, MailV.cells]
    repeat (apply And.intro; (focus first | trivial | omega | (intros; omega) | (intros; simp_all; done) | (intros; simp_all; omega)))
    refine Exists.intro _ (And.intro (c_clone_bytes (hb _ (List.getElem_mem hlt))) ?_)
    simp (disch := ((try simp only [List.length_set, List.length_append, List.length_cons, List.length_nil]); omega)) only [go_sem, w_i64, w_u64, w_i32, w_u32, w_u8, Nat.min_eq_left, Nat.min_eq_right, Nat.reduceBEq, Int.reduceBNe, Int.reduceBEq, Nat.reduceBNe, Nat.reduceAdd, Nat.reduceMul, Nat.reduceSub, Nat.reduceLT, Nat.reduceLeDiff, Nat.reduceEqDiff, Int.reduceLT, Int.reduceLE, Int.reduceEq, Int.reduceToNat, Int.reduceNeg, reduceCtorEq, ↓reduceIte, hp_getL, hp_setL, hp_ne, hp_eq, hp_getS0, hp_getSk, hp_setS0, hp_setSk, hR, rowM, hml, MailV.cells]
    repeat (apply And.intro; (focus first | trivial | omega | (intros; omega) | (intros; simp_all; done) | (intros; simp_all; omega)))
    refine hK11 _ _ ?_
    try clear hK11 K11
    simp (disch := ((try simp only [List.length_set, List.length_append, List.length_cons, List.length_nil]); omega)) only [go_sem, w_i64, w_u64, w_i32, w_u32, w_u8, Nat.min_eq_left, Nat.min_eq_right, Nat.reduceBEq, Int.reduceBNe, Int.reduceBEq, Nat.reduceBNe, Nat.reduceAdd, Nat.reduceMul, Nat.reduceSub, Nat.reduceLT, Nat.reduceLeDiff, Nat.reduceEqDiff, Int.reduceLT, Int.reduceLE, Int.reduceEq, Int.reduceToNat, Int.reduceNeg, reduceCtorEq, ↓reduceIte, hp_getL, hp_setL, hp_ne, hp_eq, hp_getS0, hp_getSk, hp_setS0, hp_setSk]
    refine hK9 _ _ ?_
    try clear hK9 K9
    refine AW.rg (by kernel_rfl) fun K12 hK12 => ?_
    simp (disch := ((try simp only [List.length_set, List.length_append, List.length_cons, List.length_nil]); omega)) only [go_sem, w_i64, w_u64, w_i32, w_u32, w_u8, Nat.min_eq_left, Nat.min_eq_right, Nat.reduceBEq, Int.reduceBNe, Int.reduceBEq, Nat.reduceBNe, Nat.reduceAdd, Nat.reduceMul, Nat.reduceSub, Nat.reduceLT, Nat.reduceLeDiff, Nat.reduceEqDiff, Int.reduceLT, Int.reduceLE, Int.reduceEq, Int.reduceToNat, Int.reduceNeg, reduceCtorEq, ↓reduceIte, hp_getL, hp_setL, hp_ne, hp_eq, hp_getS0, hp_getSk, hp_setS0, hp_setSk]
    repeat (apply And.intro; (focus first | trivial | omega | (intros; omega) | (intros; simp_all; done) | (intros; simp_all; omega)))
    refine hK12 _ _ ?_
    try clear hK12 K12
    simp (disch := ((try simp only [List.length_set, List.length_append, List.length_cons, List.length_nil]); omega)) only [go_sem, w_i64, w_u64, w_i32, w_u32, w_u8, Nat.min_eq_left, Nat.min_eq_right, Nat.reduceBEq, Int.reduceBNe, Int.reduceBEq, Nat.reduceBNe, Nat.reduceAdd, Nat.reduceMul, Nat.reduceSub, Nat.reduceLT, Nat.reduceLeDiff, Nat.reduceEqDiff, Int.reduceLT, Int.reduceLE, Int.reduceEq, Int.reduceToNat, Int.reduceNeg, reduceCtorEq, ↓reduceIte, hp_getL, hp_setL, hp_ne, hp_eq, hp_getS0, hp_getSk, hp_setS0, hp_setSk]
    refine ⟨ms.length - (i + 1), by omega, [(3, _), (12, _), (13, _), (14, _)], le_cons rfl (le_cons rfl (le_cons rfl (le_cons rfl le_nil))), i + 1, rfl, by omega, ?_, ?_, ?_, ?_, ?_⟩
    · (simp (disch := omega) only [go_sem, Nat.min_eq_left, Nat.min_eq_right, Nat.reduceBEq, Int.reduceBNe, Int.reduceBEq, Nat.reduceBNe, Nat.reduceAdd, Nat.reduceMul, Nat.reduceSub, Nat.reduceLT, Nat.reduceLeDiff, Nat.reduceEqDiff, Int.reduceLT, Int.reduceLE, Int.reduceEq, Int.reduceToNat, Int.reduceNeg, reduceCtorEq, ↓reduceIte, List.cons.injEq, Prod.mk.injEq, AV.int.injEq, AV.nums.injEq, AV.bool.injEq]; try omega)
    · rw [hp_getL (by simpa using lwG), hp_ne (by omega)]; exact hwG
    · rw [hp_getL (by simpa using lmG), hp_ne (by omega)]; exact hmG
    · rw [hp_getL (by simpa using lR), hp_eq lR, rowM, mail_snoc hlt, List.length_take, Nat.min_eq_left (by omega)]; rfl
    · exact (hsm.set (.inr (Nat.le_refl _))).push
  · try simp only [decide_eq_true_eq, decide_eq_false_iff_not, beq_iff_eq, beq_eq_false_iff_ne, bne_iff_ne, bne_eq_false_iff_eq, ne_eq, Bool.and_eq_true, Bool.or_eq_true, Bool.and_eq_false_iff, Bool.or_eq_false_iff, Bool.not_eq_true', Bool.not_eq_false', Int.not_lt, Int.not_le, Decidable.not_not, Bool.not_true, Bool.not_false] at h
    refine AW.exit ?_
    simp (disch := ((try simp only [List.length_set, List.length_append, List.length_cons, List.length_nil]); omega)) only [go_sem, w_i64, w_u64, w_i32, w_u32, w_u8, Nat.min_eq_left, Nat.min_eq_right, Nat.reduceBEq, Int.reduceBNe, Int.reduceBEq, Nat.reduceBNe, Nat.reduceAdd, Nat.reduceMul, Nat.reduceSub, Nat.reduceLT, Nat.reduceLeDiff, Nat.reduceEqDiff, Int.reduceLT, Int.reduceLE, Int.reduceEq, Int.reduceToNat, Int.reduceNeg, reduceCtorEq, ↓reduceIte, hp_getL, hp_setL, hp_ne, hp_eq, hp_getS0, hp_getSk, hp_setS0, hp_setSk]
    refine hK5 _ _ ?_
    try clear hK5 K5
    obtain rfl : i = ms.length := by omega
    rw [List.take_length] at hR
    refine AW.freezeR 3 H.length rfl hR ?_
    simp only [Nat.zero_mul, List.drop_zero]
    rw [List.take_of_length_le (by omega)]
    have hsm9 := hsm.set (i := H.length) (o := .dead) (.inr (Nat.le_refl _))
    refine AW.sr (by kernel_rfl) fun K13 hK13 => ?_
    simp (disch := ((try simp only [List.length_set, List.length_append, List.length_cons, List.length_nil]); omega)) only [go_sem, w_i64, w_u64, w_i32, w_u32, w_u8, Nat.min_eq_left, Nat.min_eq_right, Nat.reduceBEq, Int.reduceBNe, Int.reduceBEq, Nat.reduceBNe, Nat.reduceAdd, Nat.reduceMul, Nat.reduceSub, Nat.reduceLT, Nat.reduceLeDiff, Nat.reduceEqDiff, Int.reduceLT, Int.reduceLE, Int.reduceEq, Int.reduceToNat, Int.reduceNeg, reduceCtorEq, ↓reduceIte, hp_getL, hp_setL, hp_ne, hp_eq, hp_getS0, hp_getSk, hp_setS0, hp_setSk]
    repeat (apply And.intro; (focus first | trivial | omega | (intros; omega) | (intros; simp_all; done) | (intros; simp_all; omega)))
    refine hK13 _ _ ?_
    try clear hK13 K13
    refine AW.ret ?_
    simp (disch := ((try simp only [List.length_set, List.length_append, List.length_cons, List.length_nil]); omega)) only [go_sem, w_i64, w_u64, w_i32, w_u32, w_u8, Nat.min_eq_left, Nat.min_eq_right, Nat.reduceBEq, Int.reduceBNe, Int.reduceBEq, Nat.reduceBNe, Nat.reduceAdd, Nat.reduceMul, Nat.reduceSub, Nat.reduceLT, Nat.reduceLeDiff, Nat.reduceEqDiff, Int.reduceLT, Int.reduceLE, Int.reduceEq, Int.reduceToNat, Int.reduceNeg, reduceCtorEq, ↓reduceIte, hp_getL, hp_setL, hp_ne, hp_eq, hp_getS0, hp_getSk, hp_setS0, hp_setSk]
    obtain ⟨L, e⟩ := hsm9.pre
    exact ⟨L, e, by simp only [AV.lt, mails_lts], rfl⟩


theorem c_Log {d : WorldIds} {v1 v2 v3 : Nat} {ps : List PlaceV} {now : Int} {ms : List MailV} {ls : List EventV} (hW : WorldAt H d v1 v2 v3 ps now ms ls) (hn : 0 < ps.length) (hb : ∀ m ∈ ls, m.bytes.length ≤ 1099511627776) (hk : ls.length ≤ 4294967295) : ACalls Tryz.prog 17 [.ptr d.wid 0] H (fun x H' => x = eventsA ls ∧ H' = H) := by
  refine ACalls.drop ?_
  refine ACalls.enter (fn := Tryz.f17) (N := 28) (rs := [.tmp 2]) (by kernel_rfl) (by kernel_rfl) rfl rfl (Nat.le_of_ble_eq_true rfl) rfl ?_
  have hW0 := hW
  obtain ⟨hw, hp, hm, hl⟩ := hW
  simp only [worldCells] at hw
  have hcl := places_len (l := ps)
  have hcm := events_len (l := ls)
  have lw := hp_lt hw
  have lm := hp_lt hl
  refine AW.sr (by kernel_rfl) fun K1 hK1 => ?_
  simp (disch := ((try simp only [List.length_set, List.length_append, List.length_cons, List.length_nil]); omega)) only [go_sem, w_i64, w_u64, w_i32, w_u32, w_u8, Nat.min_eq_left, Nat.min_eq_right, Nat.reduceBEq, Int.reduceBNe, Int.reduceBEq, Nat.reduceBNe, Nat.reduceAdd, Nat.reduceMul, Nat.reduceSub, Nat.reduceLT, Nat.reduceLeDiff, Nat.reduceEqDiff, Int.reduceLT, Int.reduceLE, Int.reduceEq, Int.reduceToNat, Int.reduceNeg, reduceCtorEq, ↓reduceIte, hp_getL, hp_setL, hp_ne, hp_eq, hp_getS0, hp_getSk, hp_setS0, hp_setSk]
  repeat (apply And.intro; (focus first | trivial | omega | (intros; omega) | (intros; simp_all; done) | (intros; simp_all; omega)))
  refine hK1 _ _ ?_
  try clear hK1 K1
  refine AW.sq fun K2 hK2 => ?_
  refine AW.sr (by kernel_rfl) fun K3 hK3 => ?_
  simp (disch := ((try simp only [List.length_set, List.length_append, List.length_cons, List.length_nil]); omega)) only [go_sem, w_i64, w_u64, w_i32, w_u32, w_u8, Nat.min_eq_left, Nat.min_eq_right, Nat.reduceBEq, Int.reduceBNe, Int.reduceBEq, Nat.reduceBNe, Nat.reduceAdd, Nat.reduceMul, Nat.reduceSub, Nat.reduceLT, Nat.reduceLeDiff, Nat.reduceEqDiff, Int.reduceLT, Int.reduceLE, Int.reduceEq, Int.reduceToNat, Int.reduceNeg, reduceCtorEq, ↓reduceIte, hp_getL, hp_setL, hp_ne, hp_eq, hp_getS0, hp_getSk, hp_setS0, hp_setSk]
  repeat (apply And.intro; (focus first | trivial | omega | (intros; omega) | (intros; simp_all; done) | (intros; simp_all; omega)))
  refine (c_wmade hW0 hn).mono fun x1 H1 _ hx1 => ?_
  obtain ⟨rfl, hE1⟩ := hx1; subst H1
  simp (disch := ((try simp only [List.length_set, List.length_append, List.length_cons, List.length_nil]); omega)) only [go_sem, w_i64, w_u64, w_i32, w_u32, w_u8, Nat.min_eq_left, Nat.min_eq_right, Nat.reduceBEq, Int.reduceBNe, Int.reduceBEq, Nat.reduceBNe, Nat.reduceAdd, Nat.reduceMul, Nat.reduceSub, Nat.reduceLT, Nat.reduceLeDiff, Nat.reduceEqDiff, Int.reduceLT, Int.reduceLE, Int.reduceEq, Int.reduceToNat, Int.reduceNeg, reduceCtorEq, ↓reduceIte, hp_getL, hp_setL, hp_ne, hp_eq, hp_getS0, hp_getSk, hp_setS0, hp_setSk]
  repeat (apply And.intro; (focus first | trivial | omega | (intros; omega) | (intros; simp_all; done) | (intros; simp_all; omega)))
  refine hK3 _ _ ?_
  try clear hK3 K3
  refine AW.condF rfl ?_
  refine AW.skip ?_
  simp (disch := ((try simp only [List.length_set, List.length_append, List.length_cons, List.length_nil]); omega)) only [go_sem, w_i64, w_u64, w_i32, w_u32, w_u8, Nat.min_eq_left, Nat.min_eq_right, Nat.reduceBEq, Int.reduceBNe, Int.reduceBEq, Nat.reduceBNe, Nat.reduceAdd, Nat.reduceMul, Nat.reduceSub, Nat.reduceLT, Nat.reduceLeDiff, Nat.reduceEqDiff, Int.reduceLT, Int.reduceLE, Int.reduceEq, Int.reduceToNat, Int.reduceNeg, reduceCtorEq, ↓reduceIte, hp_getL, hp_setL, hp_ne, hp_eq, hp_getS0, hp_getSk, hp_setS0, hp_setSk]
  refine hK2 _ _ ?_
  try clear hK2 K2
  refine AW.sr (by kernel_rfl) fun K4 hK4 => ?_
  simp (disch := ((try simp only [List.length_set, List.length_append, List.length_cons, List.length_nil]); omega)) only [go_sem, w_i64, w_u64, w_i32, w_u32, w_u8, Nat.min_eq_left, Nat.min_eq_right, Nat.reduceBEq, Int.reduceBNe, Int.reduceBEq, Nat.reduceBNe, Nat.reduceAdd, Nat.reduceMul, Nat.reduceSub, Nat.reduceLT, Nat.reduceLeDiff, Nat.reduceEqDiff, Int.reduceLT, Int.reduceLE, Int.reduceEq, Int.reduceToNat, Int.reduceNeg, reduceCtorEq, ↓reduceIte, hp_getL, hp_setL, hp_ne, hp_eq, hp_getS0, hp_getSk, hp_setS0, hp_setSk]
  repeat (apply And.intro; (focus first | trivial | omega | (intros; omega) | (intros; simp_all; done) | (intros; simp_all; omega)))
  refine hK4 _ _ ?_
  try clear hK4 K4
  refine AW.sq fun K5 hK5 => ?_
  refine AW.ownR 3 57 5 rfl ?_
  refine AW.sr (by kernel_rfl) fun K6 hK6 => ?_
  simp (disch := ((try simp only [List.length_set, List.length_append, List.length_cons, List.length_nil]); omega)) only [go_sem, w_i64, w_u64, w_i32, w_u32, w_u8, Nat.min_eq_left, Nat.min_eq_right, Nat.reduceBEq, Int.reduceBNe, Int.reduceBEq, Nat.reduceBNe, Nat.reduceAdd, Nat.reduceMul, Nat.reduceSub, Nat.reduceLT, Nat.reduceLeDiff, Nat.reduceEqDiff, Int.reduceLT, Int.reduceLE, Int.reduceEq, Int.reduceToNat, Int.reduceNeg, reduceCtorEq, ↓reduceIte, hp_getL, hp_setL, hp_ne, hp_eq, hp_getS0, hp_getSk, hp_setS0, hp_setSk, hw, hl, rowE]
  repeat (apply And.intro; (focus first | trivial | omega | (intros; omega) | (intros; simp_all; done) | (intros; simp_all; omega)))
  refine hK6 _ _ ?_
  try clear hK6 K6
  refine AW.bloop (fun n l H' => ∃ i : Nat, n = ls.length - i ∧ i ≤ ls.length ∧ l = [(3, .rref H.length i 0 i), (12, .rref d.lr v3 0 ls.length), (13, .int .i64 ls.length), (14, .int .i64 i)] ∧ H'[d.lr]? = some (rowE v3 ls) ∧ H'[H.length]? = some (rowE i (ls.take i)) ∧ Same [] H H') ls.length ⟨[(3, _), (12, _), (13, _), (14, _)], le_cons rfl (le_cons rfl (le_cons rfl (le_cons rfl le_nil))), ?_⟩ fun n l1 G _ hI => ?_
  · exact ⟨0, by omega, by omega, rfl, by rw [hp_getL lm]; exact hl, by simp; rfl, Same.app⟩
  obtain ⟨i, rfl, hi, rfl, hmG, hR, hsm⟩ := hI; have lmG := hp_lt hmG; have lR := hp_lt hR; have hle := hsm.1; have hml : (ls.take i).length = i := by {rw [List.length_take]; omega}
  refine AW.sr (by kernel_rfl) fun K7 hK7 => ?_
  simp (disch := ((try simp only [List.length_set, List.length_append, List.length_cons, List.length_nil]); omega)) only [go_sem, w_i64, w_u64, w_i32, w_u32, w_u8, Nat.min_eq_left, Nat.min_eq_right, Nat.reduceBEq, Int.reduceBNe, Int.reduceBEq, Nat.reduceBNe, Nat.reduceAdd, Nat.reduceMul, Nat.reduceSub, Nat.reduceLT, Nat.reduceLeDiff, Nat.reduceEqDiff, Int.reduceLT, Int.reduceLE, Int.reduceEq, Int.reduceToNat, Int.reduceNeg, reduceCtorEq, ↓reduceIte, hp_getL, hp_setL, hp_ne, hp_eq, hp_getS0, hp_getSk, hp_setS0, hp_setSk]
  repeat (apply And.intro; (focus first | trivial | omega | (intros; omega) | (intros; simp_all; done) | (intros; simp_all; omega)))
  refine hK7 _ _ ?_
  try clear hK7 K7
  refine AW.sq fun K8 hK8 => ?_
  refine AW.cond rfl (fun h => ?_) (fun h => ?_)
  · try simp only [decide_eq_true_eq, decide_eq_false_iff_not, beq_iff_eq, beq_eq_false_iff_ne, bne_iff_ne, bne_eq_false_iff_eq, ne_eq, Bool.and_eq_true, Bool.or_eq_true, Bool.and_eq_false_iff, Bool.or_eq_false_iff, Bool.not_eq_true', Bool.not_eq_false', Int.not_lt, Int.not_le, Decidable.not_not, Bool.not_true, Bool.not_false] at h
    have hlt : i < ls.length := by omega
    have hat := events_at hlt
    refine AW.skip ?_
    simp (disch := ((try simp only [List.length_set, List.length_append, List.length_cons, List.length_nil]); omega)) only [go_sem, w_i64, w_u64, w_i32, w_u32, w_u8, Nat.min_eq_left, Nat.min_eq_right, Nat.reduceBEq, Int.reduceBNe, Int.reduceBEq, Nat.reduceBNe, Nat.reduceAdd, Nat.reduceMul, Nat.reduceSub, Nat.reduceLT, Nat.reduceLeDiff, Nat.reduceEqDiff, Int.reduceLT, Int.reduceLE, Int.reduceEq, Int.reduceToNat, Int.reduceNeg, reduceCtorEq, ↓reduceIte, hp_getL, hp_setL, hp_ne, hp_eq, hp_getS0, hp_getSk, hp_setS0, hp_setSk]
    refine hK8 _ _ ?_
    try clear hK8 K8
    refine AW.sblock fun K9 hK9 => ?_
    refine AW.sr (by kernel_rfl) fun K10 hK10 => ?_
    simp (disch := ((try simp only [List.length_set, List.length_append, List.length_cons, List.length_nil]); omega)) only [go_sem, w_i64, w_u64, w_i32, w_u32, w_u8, Nat.min_eq_left, Nat.min_eq_right, Nat.reduceBEq, Int.reduceBNe, Int.reduceBEq, Nat.reduceBNe, Nat.reduceAdd, Nat.reduceMul, Nat.reduceSub, Nat.reduceLT, Nat.reduceLeDiff, Nat.reduceEqDiff, Int.reduceLT, Int.reduceLE, Int.reduceEq, Int.reduceToNat, Int.reduceNeg, reduceCtorEq, ↓reduceIte, hp_getL, hp_setL, hp_ne, hp_eq, hp_getS0, hp_getSk, hp_setS0, hp_setSk, hmG, rowE, hat, EventV.cells]
    repeat (apply And.intro; (focus first | trivial | omega | (intros; omega) | (intros; simp_all; done) | (intros; simp_all; omega)))
    refine hK10 _ _ ?_
    try clear hK10 K10
    refine AW.sr (by kernel_rfl) fun K11 hK11 => ?_
    simp (disch := ((try simp only [List.length_set, List.length_append, List.length_cons, List.length_nil]); omega)) only [go_sem, w_i64, w_u64, w_i32, w_u32, w_u8, Nat.min_eq_left, Nat.min_eq_right, Nat.reduceBEq, Int.reduceBNe, Int.reduceBEq, Nat.reduceBNe, Nat.reduceAdd, Nat.reduceMul, Nat.reduceSub, Nat.reduceLT, Nat.reduceLeDiff, Nat.reduceEqDiff, Int.reduceLT, Int.reduceLE, Int.reduceEq, Int.reduceToNat, Int.reduceNeg, reduceCtorEq, ↓reduceIte, hp_getL, hp_setL, hp_ne, hp_eq, hp_getS0, hp_getSk, hp_setS0, hp_setSk, hR, rowE, hml, EventV.cells]
    repeat (apply And.intro; (focus first | trivial | omega | (intros; omega) | (intros; simp_all; done) | (intros; simp_all; omega)))
    refine (c_clone_bytes (hb _ (List.getElem_mem hlt))).mono fun x2 H2 _ hx2 => ?_
    obtain ⟨rfl, hE2⟩ := hx2; subst H2
    simp (disch := ((try simp only [List.length_set, List.length_append, List.length_cons, List.length_nil]); omega)) only [go_sem, w_i64, w_u64, w_i32, w_u32, w_u8, Nat.min_eq_left, Nat.min_eq_right, Nat.reduceBEq, Int.reduceBNe, Int.reduceBEq, Nat.reduceBNe, Nat.reduceAdd, Nat.reduceMul, Nat.reduceSub, Nat.reduceLT, Nat.reduceLeDiff, Nat.reduceEqDiff, Int.reduceLT, Int.reduceLE, Int.reduceEq, Int.reduceToNat, Int.reduceNeg, reduceCtorEq, ↓reduceIte, hp_getL, hp_setL, hp_ne, hp_eq, hp_getS0, hp_getSk, hp_setS0, hp_setSk, hR, rowE, hml, EventV.cells]
    repeat (apply And.intro; (focus first | trivial | omega | (intros; omega) | (intros; simp_all; done) | (intros; simp_all; omega)))
    refine hK11 _ _ ?_
    try clear hK11 K11
    refine AW.rg (by kernel_rfl) fun K12 hK12 => ?_
    simp (disch := ((try simp only [List.length_set, List.length_append, List.length_cons, List.length_nil]); omega)) only [go_sem, w_i64, w_u64, w_i32, w_u32, w_u8, Nat.min_eq_left, Nat.min_eq_right, Nat.reduceBEq, Int.reduceBNe, Int.reduceBEq, Nat.reduceBNe, Nat.reduceAdd, Nat.reduceMul, Nat.reduceSub, Nat.reduceLT, Nat.reduceLeDiff, Nat.reduceEqDiff, Int.reduceLT, Int.reduceLE, Int.reduceEq, Int.reduceToNat, Int.reduceNeg, reduceCtorEq, ↓reduceIte, hp_getL, hp_setL, hp_ne, hp_eq, hp_getS0, hp_getSk, hp_setS0, hp_setSk, hR, rowE, hml, EventV.cells]
    repeat (apply And.intro; (focus first | trivial | omega | (intros; omega) | (intros; simp_all; done) | (intros; simp_all; omega)))
    refine hK12 _ _ ?_
    try clear hK12 K12
    simp (disch := ((try simp only [List.length_set, List.length_append, List.length_cons, List.length_nil]); omega)) only [go_sem, w_i64, w_u64, w_i32, w_u32, w_u8, Nat.min_eq_left, Nat.min_eq_right, Nat.reduceBEq, Int.reduceBNe, Int.reduceBEq, Nat.reduceBNe, Nat.reduceAdd, Nat.reduceMul, Nat.reduceSub, Nat.reduceLT, Nat.reduceLeDiff, Nat.reduceEqDiff, Int.reduceLT, Int.reduceLE, Int.reduceEq, Int.reduceToNat, Int.reduceNeg, reduceCtorEq, ↓reduceIte, hp_getL, hp_setL, hp_ne, hp_eq, hp_getS0, hp_getSk, hp_setS0, hp_setSk]
    refine hK9 _ _ ?_
    try clear hK9 K9
    refine AW.rg (by kernel_rfl) fun K13 hK13 => ?_
    simp (disch := ((try simp only [List.length_set, List.length_append, List.length_cons, List.length_nil]); omega)) only [go_sem, w_i64, w_u64, w_i32, w_u32, w_u8, Nat.min_eq_left, Nat.min_eq_right, Nat.reduceBEq, Int.reduceBNe, Int.reduceBEq, Nat.reduceBNe, Nat.reduceAdd, Nat.reduceMul, Nat.reduceSub, Nat.reduceLT, Nat.reduceLeDiff, Nat.reduceEqDiff, Int.reduceLT, Int.reduceLE, Int.reduceEq, Int.reduceToNat, Int.reduceNeg, reduceCtorEq, ↓reduceIte, hp_getL, hp_setL, hp_ne, hp_eq, hp_getS0, hp_getSk, hp_setS0, hp_setSk]
    repeat (apply And.intro; (focus first | trivial | omega | (intros; omega) | (intros; simp_all; done) | (intros; simp_all; omega)))
    refine hK13 _ _ ?_
    try clear hK13 K13
    simp (disch := ((try simp only [List.length_set, List.length_append, List.length_cons, List.length_nil]); omega)) only [go_sem, w_i64, w_u64, w_i32, w_u32, w_u8, Nat.min_eq_left, Nat.min_eq_right, Nat.reduceBEq, Int.reduceBNe, Int.reduceBEq, Nat.reduceBNe, Nat.reduceAdd, Nat.reduceMul, Nat.reduceSub, Nat.reduceLT, Nat.reduceLeDiff, Nat.reduceEqDiff, Int.reduceLT, Int.reduceLE, Int.reduceEq, Int.reduceToNat, Int.reduceNeg, reduceCtorEq, ↓reduceIte, hp_getL, hp_setL, hp_ne, hp_eq, hp_getS0, hp_getSk, hp_setS0, hp_setSk]
    refine ⟨ls.length - (i + 1), by omega, [(3, _), (12, _), (13, _), (14, _)], le_cons rfl (le_cons rfl (le_cons rfl (le_cons rfl le_nil))), i + 1, rfl, by omega, ?_, ?_, ?_, ?_⟩
    · (simp (disch := omega) only [go_sem, Nat.min_eq_left, Nat.min_eq_right, Nat.reduceBEq, Int.reduceBNe, Int.reduceBEq, Nat.reduceBNe, Nat.reduceAdd, Nat.reduceMul, Nat.reduceSub, Nat.reduceLT, Nat.reduceLeDiff, Nat.reduceEqDiff, Int.reduceLT, Int.reduceLE, Int.reduceEq, Int.reduceToNat, Int.reduceNeg, reduceCtorEq, ↓reduceIte, List.cons.injEq, Prod.mk.injEq, AV.int.injEq, AV.nums.injEq, AV.bool.injEq]; try omega)
    · rw [hp_getL (by simpa using lmG), hp_ne (by omega)]; exact hmG
    · rw [hp_getL (by simpa using lR), hp_eq lR, rowE, event_snoc hlt, List.length_take, Nat.min_eq_left (by omega)]; rfl
    · exact (hsm.set (.inr (Nat.le_refl _))).push
  · try simp only [decide_eq_true_eq, decide_eq_false_iff_not, beq_iff_eq, beq_eq_false_iff_ne, bne_iff_ne, bne_eq_false_iff_eq, ne_eq, Bool.and_eq_true, Bool.or_eq_true, Bool.and_eq_false_iff, Bool.or_eq_false_iff, Bool.not_eq_true', Bool.not_eq_false', Int.not_lt, Int.not_le, Decidable.not_not, Bool.not_true, Bool.not_false] at h
    refine AW.exit ?_
    simp (disch := ((try simp only [List.length_set, List.length_append, List.length_cons, List.length_nil]); omega)) only [go_sem, w_i64, w_u64, w_i32, w_u32, w_u8, Nat.min_eq_left, Nat.min_eq_right, Nat.reduceBEq, Int.reduceBNe, Int.reduceBEq, Nat.reduceBNe, Nat.reduceAdd, Nat.reduceMul, Nat.reduceSub, Nat.reduceLT, Nat.reduceLeDiff, Nat.reduceEqDiff, Int.reduceLT, Int.reduceLE, Int.reduceEq, Int.reduceToNat, Int.reduceNeg, reduceCtorEq, ↓reduceIte, hp_getL, hp_setL, hp_ne, hp_eq, hp_getS0, hp_getSk, hp_setS0, hp_setSk]
    refine hK5 _ _ ?_
    try clear hK5 K5
    obtain rfl : i = ls.length := by omega
    rw [List.take_length] at hR
    refine AW.freezeR 3 H.length rfl hR ?_
    simp only [Nat.zero_mul, List.drop_zero]
    rw [List.take_of_length_le (by omega)]
    have hsm9 := hsm.set (i := H.length) (o := .dead) (.inr (Nat.le_refl _))
    refine AW.sr (by kernel_rfl) fun K14 hK14 => ?_
    simp (disch := ((try simp only [List.length_set, List.length_append, List.length_cons, List.length_nil]); omega)) only [go_sem, w_i64, w_u64, w_i32, w_u32, w_u8, Nat.min_eq_left, Nat.min_eq_right, Nat.reduceBEq, Int.reduceBNe, Int.reduceBEq, Nat.reduceBNe, Nat.reduceAdd, Nat.reduceMul, Nat.reduceSub, Nat.reduceLT, Nat.reduceLeDiff, Nat.reduceEqDiff, Int.reduceLT, Int.reduceLE, Int.reduceEq, Int.reduceToNat, Int.reduceNeg, reduceCtorEq, ↓reduceIte, hp_getL, hp_setL, hp_ne, hp_eq, hp_getS0, hp_getSk, hp_setS0, hp_setSk]
    repeat (apply And.intro; (focus first | trivial | omega | (intros; omega) | (intros; simp_all; done) | (intros; simp_all; omega)))
    refine hK14 _ _ ?_
    try clear hK14 K14
    refine AW.ret ?_
    simp (disch := ((try simp only [List.length_set, List.length_append, List.length_cons, List.length_nil]); omega)) only [go_sem, w_i64, w_u64, w_i32, w_u32, w_u8, Nat.min_eq_left, Nat.min_eq_right, Nat.reduceBEq, Int.reduceBNe, Int.reduceBEq, Nat.reduceBNe, Nat.reduceAdd, Nat.reduceMul, Nat.reduceSub, Nat.reduceLT, Nat.reduceLeDiff, Nat.reduceEqDiff, Int.reduceLT, Int.reduceLE, Int.reduceEq, Int.reduceToNat, Int.reduceNeg, reduceCtorEq, ↓reduceIte, hp_getL, hp_setL, hp_ne, hp_eq, hp_getS0, hp_getSk, hp_setS0, hp_setSk]
    obtain ⟨L, e⟩ := hsm9.pre
    exact ⟨L, e, by simp only [AV.lt, events_lts], rfl⟩


def heard0 : List AV := [.int .i64 0, .nils, .int .i64 0, .int .i64 0, .int .i64 0, .int .i64 0]
def stepTick (n : Int) : List AV := [.int .i64 1, .int .i64 0, .int .i64 0, .int .i64 n, .int .u32 0, .int .u32 0, .nils, .nils]
theorem c_netNil : ACalls Tryz.prog 54 [.nils, .nils] H (fun x H' => x = .tup [.nilp, .int .i64 1] ∧ H' = H) := by
  refine ACalls.drop (ACalls.sub (ys := [confs [], clks []]) rfl ?_ ((c_netNew2 (by simp) (by simp) (by simp)).mono fun x H' _ h => ?_))
  · intro j hj hj'
    match j, hj with
    | 0, _ => exact Sub.nilS
    | 1, _ => exact Sub.nilS
  · obtain ⟨p, e, rfl, hr⟩ := h
    rw [NewRes, if_neg (by simp [newOk])] at hr
    obtain ⟨rfl, rfl, hs⟩ := hr
    obtain ⟨L, e⟩ := hs.pre
    exact ⟨L, e, by simp [AV.lt, AV.lts], rfl, rfl⟩
theorem c_do0 {xs : List AV} (hx : xs.length = 8) : ACalls Tryz.prog 19 [.nilp, .agg xs] H (fun x H' => x = .tup [.agg heard0, .int .i64 6] ∧ H' = H) := by
  refine ACalls.drop ?_
  refine ACalls.enter (fn := Tryz.f19) (N := 93) (rs := [.cell 4 41, .tmp 5]) (by kernel_rfl) (by kernel_rfl) rfl rfl (Nat.le_of_ble_eq_true rfl) rfl ?_
  refine AW.sr (by kernel_rfl) fun K1 hK1 => ?_
  simp (disch := ((try simp only [List.length_set, List.length_append, List.length_cons, List.length_nil]); omega)) only [go_sem, w_i64, w_u64, w_i32, w_u32, w_u8, Nat.min_eq_left, Nat.min_eq_right, Nat.reduceBEq, Int.reduceBNe, Int.reduceBEq, Nat.reduceBNe, Nat.reduceAdd, Nat.reduceMul, Nat.reduceSub, Nat.reduceLT, Nat.reduceLeDiff, Nat.reduceEqDiff, Int.reduceLT, Int.reduceLE, Int.reduceEq, Int.reduceToNat, Int.reduceNeg, reduceCtorEq, ↓reduceIte, hp_getL, hp_setL, hp_ne, hp_eq, hp_getS0, hp_getSk, hp_setS0, hp_setSk]
  repeat (apply And.intro; (focus first | trivial | omega | (intros; omega) | (intros; simp_all; done) | (intros; simp_all; omega)))
  refine hK1 _ _ ?_
  try clear hK1 K1
  refine AW.sq fun K2 hK2 => ?_
  refine AW.sr (by kernel_rfl) fun K3 hK3 => ?_
  simp (disch := ((try simp only [List.length_set, List.length_append, List.length_cons, List.length_nil]); omega)) only [go_sem, w_i64, w_u64, w_i32, w_u32, w_u8, Nat.min_eq_left, Nat.min_eq_right, Nat.reduceBEq, Int.reduceBNe, Int.reduceBEq, Nat.reduceBNe, Nat.reduceAdd, Nat.reduceMul, Nat.reduceSub, Nat.reduceLT, Nat.reduceLeDiff, Nat.reduceEqDiff, Int.reduceLT, Int.reduceLE, Int.reduceEq, Int.reduceToNat, Int.reduceNeg, reduceCtorEq, ↓reduceIte, hp_getL, hp_setL, hp_ne, hp_eq, hp_getS0, hp_getSk, hp_setS0, hp_setSk]
  repeat (apply And.intro; (focus first | trivial | omega | (intros; omega) | (intros; simp_all; done) | (intros; simp_all; omega)))
  refine (c_wmade0).mono fun x1 H1 _ hx1 => ?_
  obtain ⟨rfl, hE1⟩ := hx1; subst H1
  simp (disch := ((try simp only [List.length_set, List.length_append, List.length_cons, List.length_nil]); omega)) only [go_sem, w_i64, w_u64, w_i32, w_u32, w_u8, Nat.min_eq_left, Nat.min_eq_right, Nat.reduceBEq, Int.reduceBNe, Int.reduceBEq, Nat.reduceBNe, Nat.reduceAdd, Nat.reduceMul, Nat.reduceSub, Nat.reduceLT, Nat.reduceLeDiff, Nat.reduceEqDiff, Int.reduceLT, Int.reduceLE, Int.reduceEq, Int.reduceToNat, Int.reduceNeg, reduceCtorEq, ↓reduceIte, hp_getL, hp_setL, hp_ne, hp_eq, hp_getS0, hp_getSk, hp_setS0, hp_setSk]
  repeat (apply And.intro; (focus first | trivial | omega | (intros; omega) | (intros; simp_all; done) | (intros; simp_all; omega)))
  refine hK3 _ _ ?_
  try clear hK3 K3
  refine AW.condT rfl ?_
  refine AW.sr (by kernel_rfl) fun K4 hK4 => ?_
  simp (disch := ((try simp only [List.length_set, List.length_append, List.length_cons, List.length_nil]); omega)) only [go_sem, w_i64, w_u64, w_i32, w_u32, w_u8, Nat.min_eq_left, Nat.min_eq_right, Nat.reduceBEq, Int.reduceBNe, Int.reduceBEq, Nat.reduceBNe, Nat.reduceAdd, Nat.reduceMul, Nat.reduceSub, Nat.reduceLT, Nat.reduceLeDiff, Nat.reduceEqDiff, Int.reduceLT, Int.reduceLE, Int.reduceEq, Int.reduceToNat, Int.reduceNeg, reduceCtorEq, ↓reduceIte, hp_getL, hp_setL, hp_ne, hp_eq, hp_getS0, hp_getSk, hp_setS0, hp_setSk]
  repeat (apply And.intro; (focus first | trivial | omega | (intros; omega) | (intros; simp_all; done) | (intros; simp_all; omega)))
  refine hK4 _ _ ?_
  try clear hK4 K4
  refine AW.ret ?_
  simp (disch := ((try simp only [List.length_set, List.length_append, List.length_cons, List.length_nil]); omega)) only [go_sem, w_i64, w_u64, w_i32, w_u32, w_u8, Nat.min_eq_left, Nat.min_eq_right, Nat.reduceBEq, Int.reduceBNe, Int.reduceBEq, Nat.reduceBNe, Nat.reduceAdd, Nat.reduceMul, Nat.reduceSub, Nat.reduceLT, Nat.reduceLeDiff, Nat.reduceEqDiff, Int.reduceLT, Int.reduceLE, Int.reduceEq, Int.reduceToNat, Int.reduceNeg, reduceCtorEq, ↓reduceIte, hp_getL, hp_setL, hp_ne, hp_eq, hp_getS0, hp_getSk, hp_setS0, hp_setSk]
  exact ⟨_, rfl, by simp only [AV.lt, AV.lts, and_self], rfl⟩


theorem c_doTick {d : WorldIds} {v1 v2 v3 : Nat} {ps : List PlaceV} {now : Int} {ms : List MailV} {ls : List EventV} (hW : WorldAt H d v1 v2 v3 ps now ms ls) (hn : 0 < ps.length) {n : Int} (h0 : 0 ≤ n) (h1 : n ≤ 1099511627776) (h2 : 0 ≤ now) (h3 : now + n ≤ 1152921504606846976) (hd : d.all.Nodup) : ACalls Tryz.prog 19 [.ptr d.wid 0, .agg (stepTick n)] H (fun x H' => x = .tup [.agg heard0, .int .i64 0] ∧ WorldAt H' d v1 v2 v3 ps (now + n) ms ls ∧ Same [d.wid] H H') := by
  refine ACalls.enter (fn := Tryz.f19) (N := 93) (rs := [.cell 4 41, .tmp 5]) (by kernel_rfl) (by kernel_rfl) rfl rfl (Nat.le_of_ble_eq_true rfl) rfl ?_
  have hW0 := hW
  obtain ⟨hw, hp, hm, hl⟩ := hW
  simp only [worldCells] at hw
  have hcl := places_len (l := ps)
  have lw := hp_lt hw
  unfold stepTick
  refine AW.sr (by kernel_rfl) fun K1 hK1 => ?_
  simp (disch := ((try simp only [List.length_set, List.length_append, List.length_cons, List.length_nil]); omega)) only [go_sem, w_i64, w_u64, w_i32, w_u32, w_u8, Nat.min_eq_left, Nat.min_eq_right, Nat.reduceBEq, Int.reduceBNe, Int.reduceBEq, Nat.reduceBNe, Nat.reduceAdd, Nat.reduceMul, Nat.reduceSub, Nat.reduceLT, Nat.reduceLeDiff, Nat.reduceEqDiff, Int.reduceLT, Int.reduceLE, Int.reduceEq, Int.reduceToNat, Int.reduceNeg, reduceCtorEq, ↓reduceIte, hp_getL, hp_setL, hp_ne, hp_eq, hp_getS0, hp_getSk, hp_setS0, hp_setSk, hw]
  repeat (apply And.intro; (focus first | trivial | omega | (intros; omega) | (intros; simp_all; done) | (intros; simp_all; omega)))
  refine hK1 _ _ ?_
  try clear hK1 K1
  refine AW.sq fun K2 hK2 => ?_
  refine AW.sr (by kernel_rfl) fun K3 hK3 => ?_
  simp (disch := ((try simp only [List.length_set, List.length_append, List.length_cons, List.length_nil]); omega)) only [go_sem, w_i64, w_u64, w_i32, w_u32, w_u8, Nat.min_eq_left, Nat.min_eq_right, Nat.reduceBEq, Int.reduceBNe, Int.reduceBEq, Nat.reduceBNe, Nat.reduceAdd, Nat.reduceMul, Nat.reduceSub, Nat.reduceLT, Nat.reduceLeDiff, Nat.reduceEqDiff, Int.reduceLT, Int.reduceLE, Int.reduceEq, Int.reduceToNat, Int.reduceNeg, reduceCtorEq, ↓reduceIte, hp_getL, hp_setL, hp_ne, hp_eq, hp_getS0, hp_getSk, hp_setS0, hp_setSk, hw]
  repeat (apply And.intro; (focus first | trivial | omega | (intros; omega) | (intros; simp_all; done) | (intros; simp_all; omega)))
  refine (c_wmade (hW0.same (Same.app (S := [])) (by simp)) hn).mono fun x1 H1 _ hx1 => ?_
  obtain ⟨rfl, hE1⟩ := hx1; subst H1
  simp (disch := ((try simp only [List.length_set, List.length_append, List.length_cons, List.length_nil]); omega)) only [go_sem, w_i64, w_u64, w_i32, w_u32, w_u8, Nat.min_eq_left, Nat.min_eq_right, Nat.reduceBEq, Int.reduceBNe, Int.reduceBEq, Nat.reduceBNe, Nat.reduceAdd, Nat.reduceMul, Nat.reduceSub, Nat.reduceLT, Nat.reduceLeDiff, Nat.reduceEqDiff, Int.reduceLT, Int.reduceLE, Int.reduceEq, Int.reduceToNat, Int.reduceNeg, reduceCtorEq, ↓reduceIte, hp_getL, hp_setL, hp_ne, hp_eq, hp_getS0, hp_getSk, hp_setS0, hp_setSk, hw]
  repeat (apply And.intro; (focus first | trivial | omega | (intros; omega) | (intros; simp_all; done) | (intros; simp_all; omega)))
  refine hK3 _ _ ?_
  try clear hK3 K3
  refine AW.condF rfl ?_
  refine AW.skip ?_
  simp (disch := ((try simp only [List.length_set, List.length_append, List.length_cons, List.length_nil]); omega)) only [go_sem, w_i64, w_u64, w_i32, w_u32, w_u8, Nat.min_eq_left, Nat.min_eq_right, Nat.reduceBEq, Int.reduceBNe, Int.reduceBEq, Nat.reduceBNe, Nat.reduceAdd, Nat.reduceMul, Nat.reduceSub, Nat.reduceLT, Nat.reduceLeDiff, Nat.reduceEqDiff, Int.reduceLT, Int.reduceLE, Int.reduceEq, Int.reduceToNat, Int.reduceNeg, reduceCtorEq, ↓reduceIte, hp_getL, hp_setL, hp_ne, hp_eq, hp_getS0, hp_getSk, hp_setS0, hp_setSk, hw]
  refine hK2 _ _ ?_
  try clear hK2 K2
  refine AW.sq fun K4 hK4 => ?_
  refine AW.sr (by kernel_rfl) fun K5 hK5 => ?_
  simp (disch := ((try simp only [List.length_set, List.length_append, List.length_cons, List.length_nil]); omega)) only [go_sem, w_i64, w_u64, w_i32, w_u32, w_u8, Nat.min_eq_left, Nat.min_eq_right, Nat.reduceBEq, Int.reduceBNe, Int.reduceBEq, Nat.reduceBNe, Nat.reduceAdd, Nat.reduceMul, Nat.reduceSub, Nat.reduceLT, Nat.reduceLeDiff, Nat.reduceEqDiff, Int.reduceLT, Int.reduceLE, Int.reduceEq, Int.reduceToNat, Int.reduceNeg, reduceCtorEq, ↓reduceIte, hp_getL, hp_setL, hp_ne, hp_eq, hp_getS0, hp_getSk, hp_setS0, hp_setSk, hw]
  repeat (apply And.intro; (focus first | trivial | omega | (intros; omega) | (intros; simp_all; done) | (intros; simp_all; omega)))
  refine hK5 _ _ ?_
  try clear hK5 K5
  refine AW.block ?_
  refine AW.sr (by kernel_rfl) fun K6 hK6 => ?_
  simp (disch := ((try simp only [List.length_set, List.length_append, List.length_cons, List.length_nil]); omega)) only [go_sem, w_i64, w_u64, w_i32, w_u32, w_u8, Nat.min_eq_left, Nat.min_eq_right, Nat.reduceBEq, Int.reduceBNe, Int.reduceBEq, Nat.reduceBNe, Nat.reduceAdd, Nat.reduceMul, Nat.reduceSub, Nat.reduceLT, Nat.reduceLeDiff, Nat.reduceEqDiff, Int.reduceLT, Int.reduceLE, Int.reduceEq, Int.reduceToNat, Int.reduceNeg, reduceCtorEq, ↓reduceIte, hp_getL, hp_setL, hp_ne, hp_eq, hp_getS0, hp_getSk, hp_setS0, hp_setSk, hw]
  repeat (apply And.intro; (focus first | trivial | omega | (intros; omega) | (intros; simp_all; done) | (intros; simp_all; omega)))
  refine hK6 _ _ ?_
  try clear hK6 K6
  refine AW.condT rfl ?_
  refine AW.sq fun K7 hK7 => ?_
  refine AW.sd [] (by kernel_rfl) (by kernel_rfl) (by kernel_rfl) fun K8 hK8 => ?_
  simp (disch := ((try simp only [List.length_set, List.length_append, List.length_cons, List.length_nil]); omega)) only [go_sem, w_i64, w_u64, w_i32, w_u32, w_u8, Nat.min_eq_left, Nat.min_eq_right, Nat.reduceBEq, Int.reduceBNe, Int.reduceBEq, Nat.reduceBNe, Nat.reduceAdd, Nat.reduceMul, Nat.reduceSub, Nat.reduceLT, Nat.reduceLeDiff, Nat.reduceEqDiff, Int.reduceLT, Int.reduceLE, Int.reduceEq, Int.reduceToNat, Int.reduceNeg, reduceCtorEq, ↓reduceIte, hp_getL, hp_setL, hp_ne, hp_eq, hp_getS0, hp_getSk, hp_setS0, hp_setSk, hw]
  repeat (apply And.intro; (focus first | trivial | omega | (intros; omega) | (intros; simp_all; done) | (intros; simp_all; omega)))
  refine hK8 _ _ ?_
  try clear hK8 K8
  refine AW.condf rfl (by simp; omega) ?_
  refine AW.skip ?_
  simp (disch := ((try simp only [List.length_set, List.length_append, List.length_cons, List.length_nil]); omega)) only [go_sem, w_i64, w_u64, w_i32, w_u32, w_u8, Nat.min_eq_left, Nat.min_eq_right, Nat.reduceBEq, Int.reduceBNe, Int.reduceBEq, Nat.reduceBNe, Nat.reduceAdd, Nat.reduceMul, Nat.reduceSub, Nat.reduceLT, Nat.reduceLeDiff, Nat.reduceEqDiff, Int.reduceLT, Int.reduceLE, Int.reduceEq, Int.reduceToNat, Int.reduceNeg, reduceCtorEq, ↓reduceIte, hp_getL, hp_setL, hp_ne, hp_eq, hp_getS0, hp_getSk, hp_setS0, hp_setSk, hw]
  refine hK7 _ _ ?_
  try clear hK7 K7
  refine AW.sd [9] (by kernel_rfl) (by kernel_rfl) (by kernel_rfl) fun K9 hK9 => ?_
  simp (disch := ((try simp only [List.length_set, List.length_append, List.length_cons, List.length_nil]); omega)) only [go_sem, w_i64, w_u64, w_i32, w_u32, w_u8, Nat.min_eq_left, Nat.min_eq_right, Nat.reduceBEq, Int.reduceBNe, Int.reduceBEq, Nat.reduceBNe, Nat.reduceAdd, Nat.reduceMul, Nat.reduceSub, Nat.reduceLT, Nat.reduceLeDiff, Nat.reduceEqDiff, Int.reduceLT, Int.reduceLE, Int.reduceEq, Int.reduceToNat, Int.reduceNeg, reduceCtorEq, ↓reduceIte, hp_getL, hp_setL, hp_ne, hp_eq, hp_getS0, hp_getSk, hp_setS0, hp_setSk, hw]
  repeat (apply And.intro; (focus first | trivial | omega | (intros; omega) | (intros; simp_all; done) | (intros; simp_all; omega)))
  refine hK9 _ _ ?_
  try clear hK9 K9
  refine AW.sr (by kernel_rfl) fun K10 hK10 => ?_
  simp (disch := ((try simp only [List.length_set, List.length_append, List.length_cons, List.length_nil]); omega)) only [go_sem, w_i64, w_u64, w_i32, w_u32, w_u8, Nat.min_eq_left, Nat.min_eq_right, Nat.reduceBEq, Int.reduceBNe, Int.reduceBEq, Nat.reduceBNe, Nat.reduceAdd, Nat.reduceMul, Nat.reduceSub, Nat.reduceLT, Nat.reduceLeDiff, Nat.reduceEqDiff, Int.reduceLT, Int.reduceLE, Int.reduceEq, Int.reduceToNat, Int.reduceNeg, reduceCtorEq, ↓reduceIte, hp_getL, hp_setL, hp_ne, hp_eq, hp_getS0, hp_getSk, hp_setS0, hp_setSk, hw]
  repeat (apply And.intro; (focus first | trivial | omega | (intros; omega) | (intros; simp_all; done) | (intros; simp_all; omega)))
  refine hK10 _ _ ?_
  try clear hK10 K10
  refine AW.ret ?_
  simp (disch := ((try simp only [List.length_set, List.length_append, List.length_cons, List.length_nil]); omega)) only [go_sem, w_i64, w_u64, w_i32, w_u32, w_u8, Nat.min_eq_left, Nat.min_eq_right, Nat.reduceBEq, Int.reduceBNe, Int.reduceBEq, Nat.reduceBNe, Nat.reduceAdd, Nat.reduceMul, Nat.reduceSub, Nat.reduceLT, Nat.reduceLeDiff, Nat.reduceEqDiff, Int.reduceLT, Int.reduceLE, Int.reduceEq, Int.reduceToNat, Int.reduceNeg, reduceCtorEq, ↓reduceIte, hp_getL, hp_setL, hp_ne, hp_eq, hp_getS0, hp_getSk, hp_setS0, hp_setSk, hw]
  simp [WorldIds.all] at hd
  refine ⟨rfl, ⟨?_, ?_, ?_, ?_⟩, (Same.refl.set (by simp)).push⟩
  · rw [hp_getL (by simpa using lw), hp_eq lw]; rfl
  · rw [hp_getL (by simpa using hp_lt hp), hp_ne (by omega)]; exact hp
  · rw [hp_getL (by simpa using hp_lt hm), hp_ne (by omega)]; exact hm
  · rw [hp_getL (by simpa using hp_lt hl), hp_ne (by omega)]; exact hl


theorem c_alive18 : ACalls Tryz.prog 15 [] H (fun x H' => x = .bool true ∧ H' = H) := by
  refine ACalls.drop ?_
  refine ACalls.enter (fn := Tryz.f15) (N := 57) (rs := [.tmp 0]) (by kernel_rfl) (by kernel_rfl) rfl rfl (Nat.le_of_ble_eq_true rfl) rfl ?_
  refine AW.sr (by kernel_rfl) fun K1 hK1 => ?_
  simp (disch := ((try simp only [List.length_set, List.length_append, List.length_cons, List.length_nil]); omega)) only [go_sem, w_i64, w_u64, w_i32, w_u32, w_u8, Nat.min_eq_left, Nat.min_eq_right, Nat.reduceBEq, Int.reduceBNe, Int.reduceBEq, Nat.reduceBNe, Nat.reduceAdd, Nat.reduceMul, Nat.reduceSub, Nat.reduceLT, Nat.reduceLeDiff, Nat.reduceEqDiff, Int.reduceLT, Int.reduceLE, Int.reduceEq, Int.reduceToNat, Int.reduceNeg, reduceCtorEq, ↓reduceIte, hp_getL, hp_setL, hp_ne, hp_eq, hp_getS0, hp_getSk, hp_setS0, hp_setSk]
  repeat (apply And.intro; (focus first | trivial | omega | (intros; omega) | (intros; simp_all; done) | (intros; simp_all; omega)))
  refine hK1 _ _ ?_
  try clear hK1 K1
  refine AW.sr (by kernel_rfl) fun K2 hK2 => ?_
  simp (disch := ((try simp only [List.length_set, List.length_append, List.length_cons, List.length_nil]); omega)) only [go_sem, w_i64, w_u64, w_i32, w_u32, w_u8, Nat.min_eq_left, Nat.min_eq_right, Nat.reduceBEq, Int.reduceBNe, Int.reduceBEq, Nat.reduceBNe, Nat.reduceAdd, Nat.reduceMul, Nat.reduceSub, Nat.reduceLT, Nat.reduceLeDiff, Nat.reduceEqDiff, Int.reduceLT, Int.reduceLE, Int.reduceEq, Int.reduceToNat, Int.reduceNeg, reduceCtorEq, ↓reduceIte, hp_getL, hp_setL, hp_ne, hp_eq, hp_getS0, hp_getSk, hp_setS0, hp_setSk]
  repeat (apply And.intro; (focus first | trivial | omega | (intros; omega) | (intros; simp_all; done) | (intros; simp_all; omega)))
  refine (c_netNil).mono fun x0 H0 _ hx0 => ?_
  obtain ⟨rfl, hE0⟩ := hx0; subst H0
  simp (disch := ((try simp only [List.length_set, List.length_append, List.length_cons, List.length_nil]); omega)) only [go_sem, w_i64, w_u64, w_i32, w_u32, w_u8, Nat.min_eq_left, Nat.min_eq_right, Nat.reduceBEq, Int.reduceBNe, Int.reduceBEq, Nat.reduceBNe, Nat.reduceAdd, Nat.reduceMul, Nat.reduceSub, Nat.reduceLT, Nat.reduceLeDiff, Nat.reduceEqDiff, Int.reduceLT, Int.reduceLE, Int.reduceEq, Int.reduceToNat, Int.reduceNeg, reduceCtorEq, ↓reduceIte, hp_getL, hp_setL, hp_ne, hp_eq, hp_getS0, hp_getSk, hp_setS0, hp_setSk]
  repeat (apply And.intro; (focus first | trivial | omega | (intros; omega) | (intros; simp_all; done) | (intros; simp_all; omega)))
  refine hK2 _ _ ?_
  try clear hK2 K2
  refine AW.sr (by kernel_rfl) fun K3 hK3 => ?_
  simp (disch := ((try simp only [List.length_set, List.length_append, List.length_cons, List.length_nil]); omega)) only [go_sem, w_i64, w_u64, w_i32, w_u32, w_u8, Nat.min_eq_left, Nat.min_eq_right, Nat.reduceBEq, Int.reduceBNe, Int.reduceBEq, Nat.reduceBNe, Nat.reduceAdd, Nat.reduceMul, Nat.reduceSub, Nat.reduceLT, Nat.reduceLeDiff, Nat.reduceEqDiff, Int.reduceLT, Int.reduceLE, Int.reduceEq, Int.reduceToNat, Int.reduceNeg, reduceCtorEq, ↓reduceIte, hp_getL, hp_setL, hp_ne, hp_eq, hp_getS0, hp_getSk, hp_setS0, hp_setSk]
  repeat (apply And.intro; (focus first | trivial | omega | (intros; omega) | (intros; simp_all; done) | (intros; simp_all; omega)))
  refine hK3 _ _ ?_
  try clear hK3 K3
  refine AW.sr (by kernel_rfl) fun K4 hK4 => ?_
  simp (disch := ((try simp only [List.length_set, List.length_append, List.length_cons, List.length_nil]); omega)) only [go_sem, w_i64, w_u64, w_i32, w_u32, w_u8, Nat.min_eq_left, Nat.min_eq_right, Nat.reduceBEq, Int.reduceBNe, Int.reduceBEq, Nat.reduceBNe, Nat.reduceAdd, Nat.reduceMul, Nat.reduceSub, Nat.reduceLT, Nat.reduceLeDiff, Nat.reduceEqDiff, Int.reduceLT, Int.reduceLE, Int.reduceEq, Int.reduceToNat, Int.reduceNeg, reduceCtorEq, ↓reduceIte, hp_getL, hp_setL, hp_ne, hp_eq, hp_getS0, hp_getSk, hp_setS0, hp_setSk]
  repeat (apply And.intro; (focus first | trivial | omega | (intros; omega) | (intros; simp_all; done) | (intros; simp_all; omega)))
  refine (c_do0 rfl).mono fun x2 H2 _ hx2 => ?_
  obtain ⟨rfl, hE2⟩ := hx2; subst H2
  simp (disch := ((try simp only [List.length_set, List.length_append, List.length_cons, List.length_nil]); omega)) only [go_sem, w_i64, w_u64, w_i32, w_u32, w_u8, Nat.min_eq_left, Nat.min_eq_right, Nat.reduceBEq, Int.reduceBNe, Int.reduceBEq, Nat.reduceBNe, Nat.reduceAdd, Nat.reduceMul, Nat.reduceSub, Nat.reduceLT, Nat.reduceLeDiff, Nat.reduceEqDiff, Int.reduceLT, Int.reduceLE, Int.reduceEq, Int.reduceToNat, Int.reduceNeg, reduceCtorEq, ↓reduceIte, hp_getL, hp_setL, hp_ne, hp_eq, hp_getS0, hp_getSk, hp_setS0, hp_setSk]
  repeat (apply And.intro; (focus first | trivial | omega | (intros; omega) | (intros; simp_all; done) | (intros; simp_all; omega)))
  refine hK4 _ _ ?_
  try clear hK4 K4
  refine AW.sr (by kernel_rfl) fun K5 hK5 => ?_
  simp (disch := ((try simp only [List.length_set, List.length_append, List.length_cons, List.length_nil]); omega)) only [go_sem, w_i64, w_u64, w_i32, w_u32, w_u8, Nat.min_eq_left, Nat.min_eq_right, Nat.reduceBEq, Int.reduceBNe, Int.reduceBEq, Nat.reduceBNe, Nat.reduceAdd, Nat.reduceMul, Nat.reduceSub, Nat.reduceLT, Nat.reduceLeDiff, Nat.reduceEqDiff, Int.reduceLT, Int.reduceLE, Int.reduceEq, Int.reduceToNat, Int.reduceNeg, reduceCtorEq, ↓reduceIte, hp_getL, hp_setL, hp_ne, hp_eq, hp_getS0, hp_getSk, hp_setS0, hp_setSk]
  repeat (apply And.intro; (focus first | trivial | omega | (intros; omega) | (intros; simp_all; done) | (intros; simp_all; omega)))
  refine (c_Shows0).mono fun x1 H1 _ hx1 => ?_
  obtain ⟨rfl, hE1⟩ := hx1; subst H1
  simp (disch := ((try simp only [List.length_set, List.length_append, List.length_cons, List.length_nil]); omega)) only [go_sem, w_i64, w_u64, w_i32, w_u32, w_u8, Nat.min_eq_left, Nat.min_eq_right, Nat.reduceBEq, Int.reduceBNe, Int.reduceBEq, Nat.reduceBNe, Nat.reduceAdd, Nat.reduceMul, Nat.reduceSub, Nat.reduceLT, Nat.reduceLeDiff, Nat.reduceEqDiff, Int.reduceLT, Int.reduceLE, Int.reduceEq, Int.reduceToNat, Int.reduceNeg, reduceCtorEq, ↓reduceIte, hp_getL, hp_setL, hp_ne, hp_eq, hp_getS0, hp_getSk, hp_setS0, hp_setSk]
  repeat (apply And.intro; (focus first | trivial | omega | (intros; omega) | (intros; simp_all; done) | (intros; simp_all; omega)))
  refine hK5 _ _ ?_
  try clear hK5 K5
  refine AW.sr (by kernel_rfl) fun K6 hK6 => ?_
  simp (disch := ((try simp only [List.length_set, List.length_append, List.length_cons, List.length_nil]); omega)) only [go_sem, w_i64, w_u64, w_i32, w_u32, w_u8, Nat.min_eq_left, Nat.min_eq_right, Nat.reduceBEq, Int.reduceBNe, Int.reduceBEq, Nat.reduceBNe, Nat.reduceAdd, Nat.reduceMul, Nat.reduceSub, Nat.reduceLT, Nat.reduceLeDiff, Nat.reduceEqDiff, Int.reduceLT, Int.reduceLE, Int.reduceEq, Int.reduceToNat, Int.reduceNeg, reduceCtorEq, ↓reduceIte, hp_getL, hp_setL, hp_ne, hp_eq, hp_getS0, hp_getSk, hp_setS0, hp_setSk]
  repeat (apply And.intro; (focus first | trivial | omega | (intros; omega) | (intros; simp_all; done) | (intros; simp_all; omega)))
  refine Exists.intro _ (And.intro (fun hg => ⟨by (try simp (disch := ((try simp only [List.length_set, List.length_append, List.length_cons, List.length_nil]); omega)) only [go_sem, w_i64, w_u64, w_i32, w_u32, w_u8, Nat.min_eq_left, Nat.min_eq_right, Nat.reduceBEq, Int.reduceBNe, Int.reduceBEq, Nat.reduceBNe, Nat.reduceAdd, Nat.reduceMul, Nat.reduceSub, Nat.reduceLT, Nat.reduceLeDiff, Nat.reduceEqDiff, Int.reduceLT, Int.reduceLE, Int.reduceEq, Int.reduceToNat, Int.reduceNeg, reduceCtorEq, ↓reduceIte, hp_getL, hp_setL, hp_ne, hp_eq, hp_getS0, hp_getSk, hp_setS0, hp_setSk]); (try trivial), (c_Now0)⟩) ?_)
  simp (disch := ((try simp only [List.length_set, List.length_append, List.length_cons, List.length_nil]); omega)) only [go_sem, w_i64, w_u64, w_i32, w_u32, w_u8, Nat.min_eq_left, Nat.min_eq_right, Nat.reduceBEq, Int.reduceBNe, Int.reduceBEq, Nat.reduceBNe, Nat.reduceAdd, Nat.reduceMul, Nat.reduceSub, Nat.reduceLT, Nat.reduceLeDiff, Nat.reduceEqDiff, Int.reduceLT, Int.reduceLE, Int.reduceEq, Int.reduceToNat, Int.reduceNeg, reduceCtorEq, ↓reduceIte, hp_getL, hp_setL, hp_ne, hp_eq, hp_getS0, hp_getSk, hp_setS0, hp_setSk]
  repeat (apply And.intro; (focus first | trivial | omega | (intros; omega) | (intros; simp_all; done) | (intros; simp_all; omega)))
  refine Exists.intro _ (And.intro (fun hg => ⟨by (try simp (disch := ((try simp only [List.length_set, List.length_append, List.length_cons, List.length_nil]); omega)) only [go_sem, w_i64, w_u64, w_i32, w_u32, w_u8, Nat.min_eq_left, Nat.min_eq_right, Nat.reduceBEq, Int.reduceBNe, Int.reduceBEq, Nat.reduceBNe, Nat.reduceAdd, Nat.reduceMul, Nat.reduceSub, Nat.reduceLT, Nat.reduceLeDiff, Nat.reduceEqDiff, Int.reduceLT, Int.reduceLE, Int.reduceEq, Int.reduceToNat, Int.reduceNeg, reduceCtorEq, ↓reduceIte, hp_getL, hp_setL, hp_ne, hp_eq, hp_getS0, hp_getSk, hp_setS0, hp_setSk]); (try trivial), (c_Mail0)⟩) ?_)
  simp (disch := ((try simp only [List.length_set, List.length_append, List.length_cons, List.length_nil]); omega)) only [go_sem, w_i64, w_u64, w_i32, w_u32, w_u8, Nat.min_eq_left, Nat.min_eq_right, Nat.reduceBEq, Int.reduceBNe, Int.reduceBEq, Nat.reduceBNe, Nat.reduceAdd, Nat.reduceMul, Nat.reduceSub, Nat.reduceLT, Nat.reduceLeDiff, Nat.reduceEqDiff, Int.reduceLT, Int.reduceLE, Int.reduceEq, Int.reduceToNat, Int.reduceNeg, reduceCtorEq, ↓reduceIte, hp_getL, hp_setL, hp_ne, hp_eq, hp_getS0, hp_getSk, hp_setS0, hp_setSk]
  repeat (apply And.intro; (focus first | trivial | omega | (intros; omega) | (intros; simp_all; done) | (intros; simp_all; omega)))
  refine Exists.intro _ (And.intro (fun hg => ⟨by (try simp (disch := ((try simp only [List.length_set, List.length_append, List.length_cons, List.length_nil]); omega)) only [go_sem, w_i64, w_u64, w_i32, w_u32, w_u8, Nat.min_eq_left, Nat.min_eq_right, Nat.reduceBEq, Int.reduceBNe, Int.reduceBEq, Nat.reduceBNe, Nat.reduceAdd, Nat.reduceMul, Nat.reduceSub, Nat.reduceLT, Nat.reduceLeDiff, Nat.reduceEqDiff, Int.reduceLT, Int.reduceLE, Int.reduceEq, Int.reduceToNat, Int.reduceNeg, reduceCtorEq, ↓reduceIte, hp_getL, hp_setL, hp_ne, hp_eq, hp_getS0, hp_getSk, hp_setS0, hp_setSk]); (try trivial), (c_Log0)⟩) ?_)
  simp (disch := ((try simp only [List.length_set, List.length_append, List.length_cons, List.length_nil]); omega)) only [go_sem, w_i64, w_u64, w_i32, w_u32, w_u8, Nat.min_eq_left, Nat.min_eq_right, Nat.reduceBEq, Int.reduceBNe, Int.reduceBEq, Nat.reduceBNe, Nat.reduceAdd, Nat.reduceMul, Nat.reduceSub, Nat.reduceLT, Nat.reduceLeDiff, Nat.reduceEqDiff, Int.reduceLT, Int.reduceLE, Int.reduceEq, Int.reduceToNat, Int.reduceNeg, reduceCtorEq, ↓reduceIte, hp_getL, hp_setL, hp_ne, hp_eq, hp_getS0, hp_getSk, hp_setS0, hp_setSk]
  repeat (apply And.intro; (focus first | trivial | omega | (intros; omega) | (intros; simp_all; done) | (intros; simp_all; omega)))
  refine Exists.intro _ (And.intro (fun hg => ⟨by (try simp (disch := ((try simp only [List.length_set, List.length_append, List.length_cons, List.length_nil]); omega)) only [go_sem, w_i64, w_u64, w_i32, w_u32, w_u8, Nat.min_eq_left, Nat.min_eq_right, Nat.reduceBEq, Int.reduceBNe, Int.reduceBEq, Nat.reduceBNe, Nat.reduceAdd, Nat.reduceMul, Nat.reduceSub, Nat.reduceLT, Nat.reduceLeDiff, Nat.reduceEqDiff, Int.reduceLT, Int.reduceLE, Int.reduceEq, Int.reduceToNat, Int.reduceNeg, reduceCtorEq, ↓reduceIte, hp_getL, hp_setL, hp_ne, hp_eq, hp_getS0, hp_getSk, hp_setS0, hp_setSk]); (try trivial), (c_Host0)⟩) ?_)
  simp (disch := ((try simp only [List.length_set, List.length_append, List.length_cons, List.length_nil]); omega)) only [go_sem, w_i64, w_u64, w_i32, w_u32, w_u8, Nat.min_eq_left, Nat.min_eq_right, Nat.reduceBEq, Int.reduceBNe, Int.reduceBEq, Nat.reduceBNe, Nat.reduceAdd, Nat.reduceMul, Nat.reduceSub, Nat.reduceLT, Nat.reduceLeDiff, Nat.reduceEqDiff, Int.reduceLT, Int.reduceLE, Int.reduceEq, Int.reduceToNat, Int.reduceNeg, reduceCtorEq, ↓reduceIte, hp_getL, hp_setL, hp_ne, hp_eq, hp_getS0, hp_getSk, hp_setS0, hp_setSk]
  repeat (apply And.intro; (focus first | trivial | omega | (intros; omega) | (intros; simp_all; done) | (intros; simp_all; omega)))
  refine hK6 _ _ ?_
  try clear hK6 K6
  refine AW.ret ?_
  simp (disch := ((try simp only [List.length_set, List.length_append, List.length_cons, List.length_nil]); omega)) only [go_sem, w_i64, w_u64, w_i32, w_u32, w_u8, Nat.min_eq_left, Nat.min_eq_right, Nat.reduceBEq, Int.reduceBNe, Int.reduceBEq, Nat.reduceBNe, Nat.reduceAdd, Nat.reduceMul, Nat.reduceSub, Nat.reduceLT, Nat.reduceLeDiff, Nat.reduceEqDiff, Int.reduceLT, Int.reduceLE, Int.reduceEq, Int.reduceToNat, Int.reduceNeg, reduceCtorEq, ↓reduceIte, hp_getL, hp_setL, hp_ne, hp_eq, hp_getS0, hp_getSk, hp_setS0, hp_setSk]
  exact ⟨_, rfl, trivial, rfl⟩


theorem c_played0 {l : List ConfV} {ks : List ClockV} (hc : ∀ c ∈ l, c.Fit) (hl : l.length ≤ 4294967295) (hk : ks.length ≤ 4294967295) : ACalls Tryz.prog 13 [confs l, clks ks, .nils] H (fun x H' => (x = .nilp ∧ Same [] H H') ∨ ∃ (d : WorldIds) (v1 : Nat) (ds : List HostIds), x = .ptr d.wid 0 ∧ newOk l ks = true ∧ Begun H H' l ks d v1 ds) := by
  refine ACalls.enter (fn := Tryz.f13) (N := 48) (rs := [.tmp 6]) (by kernel_rfl) (by kernel_rfl) rfl rfl (Nat.le_of_ble_eq_true rfl) rfl ?_
  have hcl := confs_len (l := l)
  refine AW.sr (by kernel_rfl) fun K1 hK1 => ?_
  simp (disch := ((try simp only [List.length_set, List.length_append, List.length_cons, List.length_nil]); omega)) only [go_sem, w_i64, w_u64, w_i32, w_u32, w_u8, Nat.min_eq_left, Nat.min_eq_right, Nat.reduceBEq, Int.reduceBNe, Int.reduceBEq, Nat.reduceBNe, Nat.reduceAdd, Nat.reduceMul, Nat.reduceSub, Nat.reduceLT, Nat.reduceLeDiff, Nat.reduceEqDiff, Int.reduceLT, Int.reduceLE, Int.reduceEq, Int.reduceToNat, Int.reduceNeg, reduceCtorEq, ↓reduceIte, hp_getL, hp_setL, hp_ne, hp_eq, hp_getS0, hp_getSk, hp_setS0, hp_setSk]
  repeat (apply And.intro; (focus first | trivial | omega | (intros; omega) | (intros; simp_all; done) | (intros; simp_all; omega)))
  refine hK1 _ _ ?_
  try clear hK1 K1
  refine AW.sq fun K2 hK2 => ?_
  refine AW.sr (by kernel_rfl) fun K3 hK3 => ?_
  simp (disch := ((try simp only [List.length_set, List.length_append, List.length_cons, List.length_nil]); omega)) only [go_sem, w_i64, w_u64, w_i32, w_u32, w_u8, Nat.min_eq_left, Nat.min_eq_right, Nat.reduceBEq, Int.reduceBNe, Int.reduceBEq, Nat.reduceBNe, Nat.reduceAdd, Nat.reduceMul, Nat.reduceSub, Nat.reduceLT, Nat.reduceLeDiff, Nat.reduceEqDiff, Int.reduceLT, Int.reduceLE, Int.reduceEq, Int.reduceToNat, Int.reduceNeg, reduceCtorEq, ↓reduceIte, hp_getL, hp_setL, hp_ne, hp_eq, hp_getS0, hp_getSk, hp_setS0, hp_setSk]
  repeat (apply And.intro; (focus first | trivial | omega | (intros; omega) | (intros; simp_all; done) | (intros; simp_all; omega)))
  refine (c_heavy18 hl (fun c h => (hc c h).lc)).mono fun x1 H1 _ hx1 => ?_
  obtain ⟨rfl, hE1⟩ := hx1; subst H1
  simp (disch := ((try simp only [List.length_set, List.length_append, List.length_cons, List.length_nil]); omega)) only [go_sem, w_i64, w_u64, w_i32, w_u32, w_u8, Nat.min_eq_left, Nat.min_eq_right, Nat.reduceBEq, Int.reduceBNe, Int.reduceBEq, Nat.reduceBNe, Nat.reduceAdd, Nat.reduceMul, Nat.reduceSub, Nat.reduceLT, Nat.reduceLeDiff, Nat.reduceEqDiff, Int.reduceLT, Int.reduceLE, Int.reduceEq, Int.reduceToNat, Int.reduceNeg, reduceCtorEq, ↓reduceIte, hp_getL, hp_setL, hp_ne, hp_eq, hp_getS0, hp_getSk, hp_setS0, hp_setSk]
  simp only [clks, confs]
  simp (disch := ((try simp only [List.length_set, List.length_append, List.length_cons, List.length_nil]); omega)) only [go_sem, w_i64, w_u64, w_i32, w_u32, w_u8, Nat.min_eq_left, Nat.min_eq_right, Nat.reduceBEq, Int.reduceBNe, Int.reduceBEq, Nat.reduceBNe, Nat.reduceAdd, Nat.reduceMul, Nat.reduceSub, Nat.reduceLT, Nat.reduceLeDiff, Nat.reduceEqDiff, Int.reduceLT, Int.reduceLE, Int.reduceEq, Int.reduceToNat, Int.reduceNeg, reduceCtorEq, ↓reduceIte, hp_getL, hp_setL, hp_ne, hp_eq, hp_getS0, hp_getSk, hp_setS0, hp_setSk]
  repeat (apply And.intro; (focus first | trivial | omega | (intros; omega) | (intros; simp_all; done) | (intros; simp_all; omega)))
  refine hK3 _ _ ?_
  try clear hK3 K3
  refine AW.cond rfl (fun h => ?_) (fun h => ?_)
  · try simp only [decide_eq_true_eq, decide_eq_false_iff_not, beq_iff_eq, beq_eq_false_iff_ne, bne_iff_ne, bne_eq_false_iff_eq, ne_eq, Bool.and_eq_true, Bool.or_eq_true, Bool.and_eq_false_iff, Bool.or_eq_false_iff, Bool.not_eq_true', Bool.not_eq_false', Int.not_lt, Int.not_le, Decidable.not_not, Bool.not_true, Bool.not_false] at h
    refine AW.sr (by kernel_rfl) fun K4 hK4 => ?_
    simp (disch := ((try simp only [List.length_set, List.length_append, List.length_cons, List.length_nil]); omega)) only [go_sem, w_i64, w_u64, w_i32, w_u32, w_u8, Nat.min_eq_left, Nat.min_eq_right, Nat.reduceBEq, Int.reduceBNe, Int.reduceBEq, Nat.reduceBNe, Nat.reduceAdd, Nat.reduceMul, Nat.reduceSub, Nat.reduceLT, Nat.reduceLeDiff, Nat.reduceEqDiff, Int.reduceLT, Int.reduceLE, Int.reduceEq, Int.reduceToNat, Int.reduceNeg, reduceCtorEq, ↓reduceIte, hp_getL, hp_setL, hp_ne, hp_eq, hp_getS0, hp_getSk, hp_setS0, hp_setSk]
    repeat (apply And.intro; (focus first | trivial | omega | (intros; omega) | (intros; simp_all; done) | (intros; simp_all; omega)))
    refine hK4 _ _ ?_
    try clear hK4 K4
    refine AW.ret ?_
    simp (disch := ((try simp only [List.length_set, List.length_append, List.length_cons, List.length_nil]); omega)) only [go_sem, w_i64, w_u64, w_i32, w_u32, w_u8, Nat.min_eq_left, Nat.min_eq_right, Nat.reduceBEq, Int.reduceBNe, Int.reduceBEq, Nat.reduceBNe, Nat.reduceAdd, Nat.reduceMul, Nat.reduceSub, Nat.reduceLT, Nat.reduceLeDiff, Nat.reduceEqDiff, Int.reduceLT, Int.reduceLE, Int.reduceEq, Int.reduceToNat, Int.reduceNeg, reduceCtorEq, ↓reduceIte, hp_getL, hp_setL, hp_ne, hp_eq, hp_getS0, hp_getSk, hp_setS0, hp_setSk]
    exact .inl Same.refl
  · try simp only [decide_eq_true_eq, decide_eq_false_iff_not, beq_iff_eq, beq_eq_false_iff_ne, bne_iff_ne, bne_eq_false_iff_eq, ne_eq, Bool.and_eq_true, Bool.or_eq_true, Bool.and_eq_false_iff, Bool.or_eq_false_iff, Bool.not_eq_true', Bool.not_eq_false', Int.not_lt, Int.not_le, Decidable.not_not, Bool.not_true, Bool.not_false] at h
    refine AW.skip ?_
    simp (disch := ((try simp only [List.length_set, List.length_append, List.length_cons, List.length_nil]); omega)) only [go_sem, w_i64, w_u64, w_i32, w_u32, w_u8, Nat.min_eq_left, Nat.min_eq_right, Nat.reduceBEq, Int.reduceBNe, Int.reduceBEq, Nat.reduceBNe, Nat.reduceAdd, Nat.reduceMul, Nat.reduceSub, Nat.reduceLT, Nat.reduceLeDiff, Nat.reduceEqDiff, Int.reduceLT, Int.reduceLE, Int.reduceEq, Int.reduceToNat, Int.reduceNeg, reduceCtorEq, ↓reduceIte, hp_getL, hp_setL, hp_ne, hp_eq, hp_getS0, hp_getSk, hp_setS0, hp_setSk]
    refine hK2 _ _ ?_
    try clear hK2 K2
    refine AW.sr (by kernel_rfl) fun K5 hK5 => ?_
    simp (disch := ((try simp only [List.length_set, List.length_append, List.length_cons, List.length_nil]); omega)) only [go_sem, w_i64, w_u64, w_i32, w_u32, w_u8, Nat.min_eq_left, Nat.min_eq_right, Nat.reduceBEq, Int.reduceBNe, Int.reduceBEq, Nat.reduceBNe, Nat.reduceAdd, Nat.reduceMul, Nat.reduceSub, Nat.reduceLT, Nat.reduceLeDiff, Nat.reduceEqDiff, Int.reduceLT, Int.reduceLE, Int.reduceEq, Int.reduceToNat, Int.reduceNeg, reduceCtorEq, ↓reduceIte, hp_getL, hp_setL, hp_ne, hp_eq, hp_getS0, hp_getSk, hp_setS0, hp_setSk]
    repeat (apply And.intro; (focus first | trivial | omega | (intros; omega) | (intros; simp_all; done) | (intros; simp_all; omega)))
    refine (c_begin hc hl hk).mono fun x2 H2 _ hx2 => ?_
    obtain ⟨p, e, rfl, hr⟩ := hx2
    simp (disch := ((try simp only [List.length_set, List.length_append, List.length_cons, List.length_nil]); omega)) only [go_sem, w_i64, w_u64, w_i32, w_u32, w_u8, Nat.min_eq_left, Nat.min_eq_right, Nat.reduceBEq, Int.reduceBNe, Int.reduceBEq, Nat.reduceBNe, Nat.reduceAdd, Nat.reduceMul, Nat.reduceSub, Nat.reduceLT, Nat.reduceLeDiff, Nat.reduceEqDiff, Int.reduceLT, Int.reduceLE, Int.reduceEq, Int.reduceToNat, Int.reduceNeg, reduceCtorEq, ↓reduceIte, hp_getL, hp_setL, hp_ne, hp_eq, hp_getS0, hp_getSk, hp_setS0, hp_setSk]
    repeat (apply And.intro; (focus first | trivial | omega | (intros; omega) | (intros; simp_all; done) | (intros; simp_all; omega)))
    refine hK5 _ _ ?_
    try clear hK5 K5
    refine AW.sq fun K6 hK6 => ?_
    refine AW.sr (by kernel_rfl) fun K7 hK7 => ?_
    simp (disch := ((try simp only [List.length_set, List.length_append, List.length_cons, List.length_nil]); omega)) only [go_sem, w_i64, w_u64, w_i32, w_u32, w_u8, Nat.min_eq_left, Nat.min_eq_right, Nat.reduceBEq, Int.reduceBNe, Int.reduceBEq, Nat.reduceBNe, Nat.reduceAdd, Nat.reduceMul, Nat.reduceSub, Nat.reduceLT, Nat.reduceLeDiff, Nat.reduceEqDiff, Int.reduceLT, Int.reduceLE, Int.reduceEq, Int.reduceToNat, Int.reduceNeg, reduceCtorEq, ↓reduceIte, hp_getL, hp_setL, hp_ne, hp_eq, hp_getS0, hp_getSk, hp_setS0, hp_setSk]
    repeat (apply And.intro; (focus first | trivial | omega | (intros; omega) | (intros; simp_all; done) | (intros; simp_all; omega)))
    refine hK7 _ _ ?_
    try clear hK7 K7
    refine AW.cond rfl (fun h => ?_) (fun h => ?_)
    · try simp only [decide_eq_true_eq, decide_eq_false_iff_not, beq_iff_eq, beq_eq_false_iff_ne, bne_iff_ne, bne_eq_false_iff_eq, ne_eq, Bool.and_eq_true, Bool.or_eq_true, Bool.and_eq_false_iff, Bool.or_eq_false_iff, Bool.not_eq_true', Bool.not_eq_false', Int.not_lt, Int.not_le, Decidable.not_not, Bool.not_true, Bool.not_false] at h
      refine AW.sr (by kernel_rfl) fun K8 hK8 => ?_
      simp (disch := ((try simp only [List.length_set, List.length_append, List.length_cons, List.length_nil]); omega)) only [go_sem, w_i64, w_u64, w_i32, w_u32, w_u8, Nat.min_eq_left, Nat.min_eq_right, Nat.reduceBEq, Int.reduceBNe, Int.reduceBEq, Nat.reduceBNe, Nat.reduceAdd, Nat.reduceMul, Nat.reduceSub, Nat.reduceLT, Nat.reduceLeDiff, Nat.reduceEqDiff, Int.reduceLT, Int.reduceLE, Int.reduceEq, Int.reduceToNat, Int.reduceNeg, reduceCtorEq, ↓reduceIte, hp_getL, hp_setL, hp_ne, hp_eq, hp_getS0, hp_getSk, hp_setS0, hp_setSk]
      repeat (apply And.intro; (focus first | trivial | omega | (intros; omega) | (intros; simp_all; done) | (intros; simp_all; omega)))
      refine hK8 _ _ ?_
      try clear hK8 K8
      refine AW.ret ?_
      simp (disch := ((try simp only [List.length_set, List.length_append, List.length_cons, List.length_nil]); omega)) only [go_sem, w_i64, w_u64, w_i32, w_u32, w_u8, Nat.min_eq_left, Nat.min_eq_right, Nat.reduceBEq, Int.reduceBNe, Int.reduceBEq, Nat.reduceBNe, Nat.reduceAdd, Nat.reduceMul, Nat.reduceSub, Nat.reduceLT, Nat.reduceLeDiff, Nat.reduceEqDiff, Int.reduceLT, Int.reduceLE, Int.reduceEq, Int.reduceToNat, Int.reduceNeg, reduceCtorEq, ↓reduceIte, hp_getL, hp_setL, hp_ne, hp_eq, hp_getS0, hp_getSk, hp_setS0, hp_setSk]
      unfold NewRes at hr
      split at hr
      · obtain ⟨_, _, _, _, he, _⟩ := hr; exact absurd he h
      · exact .inl hr.2.2
    · try simp only [decide_eq_true_eq, decide_eq_false_iff_not, beq_iff_eq, beq_eq_false_iff_ne, bne_iff_ne, bne_eq_false_iff_eq, ne_eq, Bool.and_eq_true, Bool.or_eq_true, Bool.and_eq_false_iff, Bool.or_eq_false_iff, Bool.not_eq_true', Bool.not_eq_false', Int.not_lt, Int.not_le, Decidable.not_not, Bool.not_true, Bool.not_false] at h
      refine AW.skip ?_
      simp (disch := ((try simp only [List.length_set, List.length_append, List.length_cons, List.length_nil]); omega)) only [go_sem, w_i64, w_u64, w_i32, w_u32, w_u8, Nat.min_eq_left, Nat.min_eq_right, Nat.reduceBEq, Int.reduceBNe, Int.reduceBEq, Nat.reduceBNe, Nat.reduceAdd, Nat.reduceMul, Nat.reduceSub, Nat.reduceLT, Nat.reduceLeDiff, Nat.reduceEqDiff, Int.reduceLT, Int.reduceLE, Int.reduceEq, Int.reduceToNat, Int.reduceNeg, reduceCtorEq, ↓reduceIte, hp_getL, hp_setL, hp_ne, hp_eq, hp_getS0, hp_getSk, hp_setS0, hp_setSk]
      refine hK6 _ _ ?_
      try clear hK6 K6
      refine AW.sq fun K9 hK9 => ?_
      refine AW.sr (by kernel_rfl) fun K10 hK10 => ?_
      simp (disch := ((try simp only [List.length_set, List.length_append, List.length_cons, List.length_nil]); omega)) only [go_sem, w_i64, w_u64, w_i32, w_u32, w_u8, Nat.min_eq_left, Nat.min_eq_right, Nat.reduceBEq, Int.reduceBNe, Int.reduceBEq, Nat.reduceBNe, Nat.reduceAdd, Nat.reduceMul, Nat.reduceSub, Nat.reduceLT, Nat.reduceLeDiff, Nat.reduceEqDiff, Int.reduceLT, Int.reduceLE, Int.reduceEq, Int.reduceToNat, Int.reduceNeg, reduceCtorEq, ↓reduceIte, hp_getL, hp_setL, hp_ne, hp_eq, hp_getS0, hp_getSk, hp_setS0, hp_setSk]
      repeat (apply And.intro; (focus first | trivial | omega | (intros; omega) | (intros; simp_all; done) | (intros; simp_all; omega)))
      refine hK10 _ _ ?_
      try clear hK10 K10
      refine AW.bloop (fun n l H' => l = [(2, .nils), (7, p), (9, .int .i64 0)] ∧ H' = H2) 0 ⟨[(2, _), (7, _), (9, _)], le_cons rfl (le_cons rfl (le_cons rfl le_nil)), ?_⟩ fun n l1 G _ hI => ?_
      · exact ⟨rfl, rfl⟩
      obtain ⟨rfl, rfl⟩ := hI
      refine AW.sq fun K11 hK11 => ?_
      refine AW.sr (by kernel_rfl) fun K12 hK12 => ?_
      simp (disch := ((try simp only [List.length_set, List.length_append, List.length_cons, List.length_nil]); omega)) only [go_sem, w_i64, w_u64, w_i32, w_u32, w_u8, Nat.min_eq_left, Nat.min_eq_right, Nat.reduceBEq, Int.reduceBNe, Int.reduceBEq, Nat.reduceBNe, Nat.reduceAdd, Nat.reduceMul, Nat.reduceSub, Nat.reduceLT, Nat.reduceLeDiff, Nat.reduceEqDiff, Int.reduceLT, Int.reduceLE, Int.reduceEq, Int.reduceToNat, Int.reduceNeg, reduceCtorEq, ↓reduceIte, hp_getL, hp_setL, hp_ne, hp_eq, hp_getS0, hp_getSk, hp_setS0, hp_setSk]
      repeat (apply And.intro; (focus first | trivial | omega | (intros; omega) | (intros; simp_all; done) | (intros; simp_all; omega)))
      refine hK12 _ _ ?_
      try clear hK12 K12
      refine AW.condF rfl ?_
      refine AW.exit ?_
      simp (disch := ((try simp only [List.length_set, List.length_append, List.length_cons, List.length_nil]); omega)) only [go_sem, w_i64, w_u64, w_i32, w_u32, w_u8, Nat.min_eq_left, Nat.min_eq_right, Nat.reduceBEq, Int.reduceBNe, Int.reduceBEq, Nat.reduceBNe, Nat.reduceAdd, Nat.reduceMul, Nat.reduceSub, Nat.reduceLT, Nat.reduceLeDiff, Nat.reduceEqDiff, Int.reduceLT, Int.reduceLE, Int.reduceEq, Int.reduceToNat, Int.reduceNeg, reduceCtorEq, ↓reduceIte, hp_getL, hp_setL, hp_ne, hp_eq, hp_getS0, hp_getSk, hp_setS0, hp_setSk]
      refine hK9 _ _ ?_
      try clear hK9 K9
      refine AW.sr (by kernel_rfl) fun K13 hK13 => ?_
      simp (disch := ((try simp only [List.length_set, List.length_append, List.length_cons, List.length_nil]); omega)) only [go_sem, w_i64, w_u64, w_i32, w_u32, w_u8, Nat.min_eq_left, Nat.min_eq_right, Nat.reduceBEq, Int.reduceBNe, Int.reduceBEq, Nat.reduceBNe, Nat.reduceAdd, Nat.reduceMul, Nat.reduceSub, Nat.reduceLT, Nat.reduceLeDiff, Nat.reduceEqDiff, Int.reduceLT, Int.reduceLE, Int.reduceEq, Int.reduceToNat, Int.reduceNeg, reduceCtorEq, ↓reduceIte, hp_getL, hp_setL, hp_ne, hp_eq, hp_getS0, hp_getSk, hp_setS0, hp_setSk]
      repeat (apply And.intro; (focus first | trivial | omega | (intros; omega) | (intros; simp_all; done) | (intros; simp_all; omega)))
      refine hK13 _ _ ?_
      try clear hK13 K13
      refine AW.ret ?_
      simp (disch := ((try simp only [List.length_set, List.length_append, List.length_cons, List.length_nil]); omega)) only [go_sem, w_i64, w_u64, w_i32, w_u32, w_u8, Nat.min_eq_left, Nat.min_eq_right, Nat.reduceBEq, Int.reduceBNe, Int.reduceBEq, Nat.reduceBNe, Nat.reduceAdd, Nat.reduceMul, Nat.reduceSub, Nat.reduceLT, Nat.reduceLeDiff, Nat.reduceEqDiff, Int.reduceLT, Int.reduceLE, Int.reduceEq, Int.reduceToNat, Int.reduceNeg, reduceCtorEq, ↓reduceIte, hp_getL, hp_setL, hp_ne, hp_eq, hp_getS0, hp_getSk, hp_setS0, hp_setSk]
      unfold NewRes at hr
      split at hr
      · rename_i hn
        obtain ⟨d, v1, ds, rfl, _, hB⟩ := hr
        exact .inr ⟨d, v1, ds, rfl, hn, hB⟩
      · exact absurd hr.2.1 (by omega)


end Go.Av
end
