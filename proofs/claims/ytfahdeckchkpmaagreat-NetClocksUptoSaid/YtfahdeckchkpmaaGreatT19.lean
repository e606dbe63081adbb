/- Proved here: NetClocksUptoSaid, the law NetClocks where what it reads is of bulk at most 1048576; this text holds a part of its proof. -/
import Derived.Test.YtfahdeckchkpmaaGreatT18
section
set_option linter.unusedVariables false
set_option linter.unusedSimpArgs false
set_option maxRecDepth 100000
namespace Go.Av
open Go.Proofs
variable {H : Heap}

def putAll (l : List CertV) : List CertV := l.foldl (fun a c => putL 32 a c) []
theorem putL_len {cs : List CertV} {c : CertV} (h : cs.length ≤ 32) : (putL 32 cs c).length ≤ 32 := by
  unfold putL
  split
  · exact h
  · split
    · split
      · exact h
      · simpa using h
    · split
      · exact h
      · rename_i hk; simp; omega
theorem foldl_len : ∀ {l a : List CertV}, a.length ≤ 32 → (l.foldl (fun a c => putL 32 a c) a).length ≤ 32
  | [], a, h => h
  | c :: l, a, h => foldl_len (l := l) (putL_len h)
theorem putAll_len (l : List CertV) : (putAll l).length ≤ 32 := foldl_len (by simp)
theorem putAll_succ {l : List CertV} {i : Nat} (h : i < l.length) : putAll (l.take (i + 1)) = putL 32 (putAll (l.take i)) l[i] := by
  unfold putAll
  rw [List.take_succ_eq_append_getElem h, List.foldl_append]
  rfl
theorem StoreAt.new {sid mid rid : Nat} (h1 : H[sid]? = some (.cells [.int .i64 32, .mref mid, .rref rid 0 0 0])) (h2 : H[mid]? = some (.map 0 [])) (h3 : H[rid]? = some (rowC 0 [])) (n1 : sid ≠ mid) (n2 : sid ≠ rid) (n3 : mid ≠ rid) : StoreAt H sid mid rid 32 [] :=
  ⟨⟨0, h1, h3⟩, ⟨0, [], h2, KeysOk.nil⟩, n1, n2, n3⟩

theorem c_fill {hid : Nat} {c : ConfV} {sd s0 p0 : AV} (hh : H[hid]? = some (.cells (c.cells ++ [sd, s0, p0]))) (hc : c.Ok) (hl : c.certs.length ≤ 4294967295) : ACalls Tryz.prog 68 [.ptr hid 0] H (fun x H' => x = .tup [] ∧ H'[hid]? = some (.cells (c.cells ++ [sd, .ptr (H.length + 1) 0, p0])) ∧ StoreAt H' (H.length + 1) H.length (H.length + 2) 32 (putAll c.certs) ∧ Same [hid] H H') := by
  refine ACalls.enter (fn := Tryz.f68) (N := 28) (rs := []) (by kernel_rfl) (by kernel_rfl) rfl rfl (Nat.le_of_ble_eq_true rfl) rfl ?_
  have hl0 := hp_lt hh
  have hcl := certs_len (l := c.certs)
  simp only [ConfV.cells] at hh
  refine AW.sr (by kernel_rfl) fun K1 hK1 => ?_
  simp (disch := ((try simp only [List.length_set, List.length_append, List.length_cons, List.length_nil]); omega)) only [go_sem, w_i64, w_u64, w_i32, w_u32, w_u8, Nat.min_eq_left, Nat.min_eq_right, Nat.reduceBEq, Int.reduceBNe, Int.reduceBEq, Nat.reduceBNe, Nat.reduceAdd, Nat.reduceMul, Nat.reduceSub, Nat.reduceLT, Nat.reduceLeDiff, Nat.reduceEqDiff, Int.reduceLT, Int.reduceLE, Int.reduceEq, Int.reduceToNat, Int.reduceNeg, reduceCtorEq, ↓reduceIte, hp_getL, hp_setL, hp_ne, hp_eq, hp_getS0, hp_getSk, hp_setS0, hp_setSk, hh, certs, strs]
  repeat (apply And.intro; (focus first | trivial | omega | (intros; omega) | (intros; simp_all; done) | (intros; simp_all; omega)))
  refine (c_trailNew).mono fun x1 H1 _ hx1 => ?_
  rw [if_neg (by omega)] at hx1
  obtain ⟨rfl, rfl⟩ := hx1
  simp (disch := ((try simp only [List.length_set, List.length_append, List.length_cons, List.length_nil]); omega)) only [go_sem, w_i64, w_u64, w_i32, w_u32, w_u8, Nat.min_eq_left, Nat.min_eq_right, Nat.reduceBEq, Int.reduceBNe, Int.reduceBEq, Nat.reduceBNe, Nat.reduceAdd, Nat.reduceMul, Nat.reduceSub, Nat.reduceLT, Nat.reduceLeDiff, Nat.reduceEqDiff, Int.reduceLT, Int.reduceLE, Int.reduceEq, Int.reduceToNat, Int.reduceNeg, reduceCtorEq, ↓reduceIte, hp_getL, hp_setL, hp_ne, hp_eq, hp_getS0, hp_getSk, hp_setS0, hp_setSk, hh, certs, strs]
  repeat (apply And.intro; (focus first | trivial | omega | (intros; omega) | (intros; simp_all; done) | (intros; simp_all; omega)))
  refine hK1 _ _ ?_
  try clear hK1 K1
  refine AW.sr (by kernel_rfl) fun K2 hK2 => ?_
  simp (disch := ((try simp only [List.length_set, List.length_append, List.length_cons, List.length_nil]); omega)) only [go_sem, w_i64, w_u64, w_i32, w_u32, w_u8, Nat.min_eq_left, Nat.min_eq_right, Nat.reduceBEq, Int.reduceBNe, Int.reduceBEq, Nat.reduceBNe, Nat.reduceAdd, Nat.reduceMul, Nat.reduceSub, Nat.reduceLT, Nat.reduceLeDiff, Nat.reduceEqDiff, Int.reduceLT, Int.reduceLE, Int.reduceEq, Int.reduceToNat, Int.reduceNeg, reduceCtorEq, ↓reduceIte, hp_getL, hp_setL, hp_ne, hp_eq, hp_getS0, hp_getSk, hp_setS0, hp_setSk, hh, certs, strs]
  repeat (apply And.intro; (focus first | trivial | omega | (intros; omega) | (intros; simp_all; done) | (intros; simp_all; omega)))
  refine hK2 _ _ ?_
  try clear hK2 K2
  refine AW.bloop (fun n l H' => ∃ i : Nat, n = c.certs.length - i ∧ i ≤ c.certs.length ∧ l = [(0, .ptr hid 0), (15, certs c.certs), (16, .int .i64 c.certs.length), (17, .int .i64 i)] ∧ H'[hid]? = some (.cells (c.cells ++ [sd, .ptr (H.length + 1) 0, p0])) ∧ StoreAt H' (H.length + 1) H.length (H.length + 2) 32 (putAll (c.certs.take i)) ∧ Same [hid] H H') c.certs.length ⟨[(0, _), (15, _), (16, _), (17, _)], le_cons rfl (le_cons rfl (le_cons rfl (le_cons rfl le_nil))), ?_⟩ fun n l1 G _ hI => ?_
  · exact ⟨0, by omega, by omega, rfl, by rw [hp_getL (by simpa using hl0), hp_eq hl0]; rfl, StoreAt.new (by simp [List.getElem?_append_right]) (by simp [List.getElem?_append_right]) (by simp [List.getElem?_append_right]) (by omega) (by omega) (by omega), (Same.refl.set (by simp)).push⟩
  obtain ⟨i, rfl, hi, rfl, hA, hS, hsm⟩ := hI
  have la := hp_lt hA
  have hle := hsm.1
  simp only [ConfV.cells] at hA
  refine AW.sr (by kernel_rfl) fun K3 hK3 => ?_
  simp (disch := ((try simp only [List.length_set, List.length_append, List.length_cons, List.length_nil]); omega)) only [go_sem, w_i64, w_u64, w_i32, w_u32, w_u8, Nat.min_eq_left, Nat.min_eq_right, Nat.reduceBEq, Int.reduceBNe, Int.reduceBEq, Nat.reduceBNe, Nat.reduceAdd, Nat.reduceMul, Nat.reduceSub, Nat.reduceLT, Nat.reduceLeDiff, Nat.reduceEqDiff, Int.reduceLT, Int.reduceLE, Int.reduceEq, Int.reduceToNat, Int.reduceNeg, reduceCtorEq, ↓reduceIte, hp_getL, hp_setL, hp_ne, hp_eq, hp_getS0, hp_getSk, hp_setS0, hp_setSk, hh, certs, strs]
  repeat (apply And.intro; (focus first | trivial | omega | (intros; omega) | (intros; simp_all; done) | (intros; simp_all; omega)))
  refine hK3 _ _ ?_
  try clear hK3 K3
  refine AW.sq fun K4 hK4 => ?_
  refine AW.cond rfl (fun h => ?_) (fun h => ?_)
  · try simp only [decide_eq_true_eq, decide_eq_false_iff_not, beq_iff_eq, beq_eq_false_iff_ne, bne_iff_ne, bne_eq_false_iff_eq, ne_eq, Bool.and_eq_true, Bool.or_eq_true, Bool.and_eq_false_iff, Bool.or_eq_false_iff, Bool.not_eq_true', Bool.not_eq_false', Int.not_lt, Int.not_le, Decidable.not_not, Bool.not_true, Bool.not_false] at h
    have hlt : i < c.certs.length := by omega
    refine AW.skip ?_
    simp (disch := ((try simp only [List.length_set, List.length_append, List.length_cons, List.length_nil]); omega)) only [go_sem, w_i64, w_u64, w_i32, w_u32, w_u8, Nat.min_eq_left, Nat.min_eq_right, Nat.reduceBEq, Int.reduceBNe, Int.reduceBEq, Nat.reduceBNe, Nat.reduceAdd, Nat.reduceMul, Nat.reduceSub, Nat.reduceLT, Nat.reduceLeDiff, Nat.reduceEqDiff, Int.reduceLT, Int.reduceLE, Int.reduceEq, Int.reduceToNat, Int.reduceNeg, reduceCtorEq, ↓reduceIte, hp_getL, hp_setL, hp_ne, hp_eq, hp_getS0, hp_getSk, hp_setS0, hp_setSk, hh, certs, strs]
    refine hK4 _ _ ?_
    try clear hK4 K4
    refine AW.sblock fun K5 hK5 => ?_
    refine AW.sr (by kernel_rfl) fun K6 hK6 => ?_
    simp (disch := ((try simp only [List.length_set, List.length_append, List.length_cons, List.length_nil]); omega)) only [go_sem, w_i64, w_u64, w_i32, w_u32, w_u8, Nat.min_eq_left, Nat.min_eq_right, Nat.reduceBEq, Int.reduceBNe, Int.reduceBEq, Nat.reduceBNe, Nat.reduceAdd, Nat.reduceMul, Nat.reduceSub, Nat.reduceLT, Nat.reduceLeDiff, Nat.reduceEqDiff, Int.reduceLT, Int.reduceLE, Int.reduceEq, Int.reduceToNat, Int.reduceNeg, reduceCtorEq, ↓reduceIte, hp_getL, hp_setL, hp_ne, hp_eq, hp_getS0, hp_getSk, hp_setS0, hp_setSk, hh, certs, strs]
    try simp only [certs_at hlt, List.take_take, Nat.min_self, CertV.cells]
    try simp (disch := ((try simp only [List.length_set, List.length_append, List.length_cons, List.length_nil]); omega)) only [go_sem, w_i64, w_u64, w_i32, w_u32, w_u8, Nat.min_eq_left, Nat.min_eq_right, Nat.reduceBEq, Int.reduceBNe, Int.reduceBEq, Nat.reduceBNe, Nat.reduceAdd, Nat.reduceMul, Nat.reduceSub, Nat.reduceLT, Nat.reduceLeDiff, Nat.reduceEqDiff, Int.reduceLT, Int.reduceLE, Int.reduceEq, Int.reduceToNat, Int.reduceNeg, reduceCtorEq, ↓reduceIte, hp_getL, hp_setL, hp_ne, hp_eq, hp_getS0, hp_getSk, hp_setS0, hp_setSk, hh, certs, strs]
    repeat (apply And.intro; (focus first | trivial | omega | (intros; omega) | (intros; simp_all; done) | (intros; simp_all; omega)))
    refine hK6 _ _ ?_
    try clear hK6 K6
    refine AW.dg [5] (by kernel_rfl) (by kernel_rfl) (by kernel_rfl) fun K7 hK7 => ?_
    simp (disch := ((try simp only [List.length_set, List.length_append, List.length_cons, List.length_nil]); omega)) only [go_sem, w_i64, w_u64, w_i32, w_u32, w_u8, Nat.min_eq_left, Nat.min_eq_right, Nat.reduceBEq, Int.reduceBNe, Int.reduceBEq, Nat.reduceBNe, Nat.reduceAdd, Nat.reduceMul, Nat.reduceSub, Nat.reduceLT, Nat.reduceLeDiff, Nat.reduceEqDiff, Int.reduceLT, Int.reduceLE, Int.reduceEq, Int.reduceToNat, Int.reduceNeg, reduceCtorEq, ↓reduceIte, hp_getL, hp_setL, hp_ne, hp_eq, hp_getS0, hp_getSk, hp_setS0, hp_setSk, hh, certs, strs, hA]
    repeat (apply And.intro; (focus first | trivial | omega | (intros; omega) | (intros; simp_all; done) | (intros; simp_all; omega)))
    refine (c_put (hS.same (Same.app (S := [])) (by simp) (by simp) (by simp)) (hc.certs _ (List.getElem_mem hlt)) (by have := putAll_len (c.certs.take i); omega)).mono fun x5 H5 _ hx5 => ?_
    obtain ⟨rfl, hS2, hsm2⟩ := hx5
    simp (disch := ((try simp only [List.length_set, List.length_append, List.length_cons, List.length_nil]); omega)) only [go_sem, w_i64, w_u64, w_i32, w_u32, w_u8, Nat.min_eq_left, Nat.min_eq_right, Nat.reduceBEq, Int.reduceBNe, Int.reduceBEq, Nat.reduceBNe, Nat.reduceAdd, Nat.reduceMul, Nat.reduceSub, Nat.reduceLT, Nat.reduceLeDiff, Nat.reduceEqDiff, Int.reduceLT, Int.reduceLE, Int.reduceEq, Int.reduceToNat, Int.reduceNeg, reduceCtorEq, ↓reduceIte, hp_getL, hp_setL, hp_ne, hp_eq, hp_getS0, hp_getSk, hp_setS0, hp_setSk, hh, certs, strs, hA]
    repeat (apply And.intro; (focus first | trivial | omega | (intros; omega) | (intros; simp_all; done) | (intros; simp_all; omega)))
    refine hK7 _ _ ?_
    try clear hK7 K7
    simp (disch := ((try simp only [List.length_set, List.length_append, List.length_cons, List.length_nil]); omega)) only [go_sem, w_i64, w_u64, w_i32, w_u32, w_u8, Nat.min_eq_left, Nat.min_eq_right, Nat.reduceBEq, Int.reduceBNe, Int.reduceBEq, Nat.reduceBNe, Nat.reduceAdd, Nat.reduceMul, Nat.reduceSub, Nat.reduceLT, Nat.reduceLeDiff, Nat.reduceEqDiff, Int.reduceLT, Int.reduceLE, Int.reduceEq, Int.reduceToNat, Int.reduceNeg, reduceCtorEq, ↓reduceIte, hp_getL, hp_setL, hp_ne, hp_eq, hp_getS0, hp_getSk, hp_setS0, hp_setSk, hh, certs, strs]
    refine hK5 _ _ ?_
    try clear hK5 K5
    refine AW.rg (by kernel_rfl) fun K8 hK8 => ?_
    simp (disch := ((try simp only [List.length_set, List.length_append, List.length_cons, List.length_nil]); omega)) only [go_sem, w_i64, w_u64, w_i32, w_u32, w_u8, Nat.min_eq_left, Nat.min_eq_right, Nat.reduceBEq, Int.reduceBNe, Int.reduceBEq, Nat.reduceBNe, Nat.reduceAdd, Nat.reduceMul, Nat.reduceSub, Nat.reduceLT, Nat.reduceLeDiff, Nat.reduceEqDiff, Int.reduceLT, Int.reduceLE, Int.reduceEq, Int.reduceToNat, Int.reduceNeg, reduceCtorEq, ↓reduceIte, hp_getL, hp_setL, hp_ne, hp_eq, hp_getS0, hp_getSk, hp_setS0, hp_setSk, hh, certs, strs]
    repeat (apply And.intro; (focus first | trivial | omega | (intros; omega) | (intros; simp_all; done) | (intros; simp_all; omega)))
    refine hK8 _ _ ?_
    try clear hK8 K8
    simp (disch := ((try simp only [List.length_set, List.length_append, List.length_cons, List.length_nil]); omega)) only [go_sem, w_i64, w_u64, w_i32, w_u32, w_u8, Nat.min_eq_left, Nat.min_eq_right, Nat.reduceBEq, Int.reduceBNe, Int.reduceBEq, Nat.reduceBNe, Nat.reduceAdd, Nat.reduceMul, Nat.reduceSub, Nat.reduceLT, Nat.reduceLeDiff, Nat.reduceEqDiff, Int.reduceLT, Int.reduceLE, Int.reduceEq, Int.reduceToNat, Int.reduceNeg, reduceCtorEq, ↓reduceIte, hp_getL, hp_setL, hp_ne, hp_eq, hp_getS0, hp_getSk, hp_setS0, hp_setSk, hh, certs, strs]
    refine ⟨c.certs.length - (i + 1), by omega, [(0, _), (15, _), (16, _), (17, _)], le_cons rfl (le_cons rfl (le_cons rfl (le_cons rfl le_nil))), i + 1, rfl, by omega, ?_, ?_, ?_, ?_⟩
    · (simp (disch := omega) only [go_sem, Nat.min_eq_left, Nat.min_eq_right, Nat.reduceBEq, Int.reduceBNe, Int.reduceBEq, Nat.reduceBNe, Nat.reduceAdd, Nat.reduceMul, Nat.reduceSub, Nat.reduceLT, Nat.reduceLeDiff, Nat.reduceEqDiff, Int.reduceLT, Int.reduceLE, Int.reduceEq, Int.reduceToNat, Int.reduceNeg, reduceCtorEq, ↓reduceIte, List.cons.injEq, Prod.mk.injEq, AV.int.injEq, AV.nums.injEq, AV.bool.injEq]; try omega)
    · exact hsm2.get (by rw [hp_getL la]; exact hA) (by simp; omega)
    · rw [putAll_succ hlt]; exact hS2
    · exact hsm.trans' ((Same.app (S := [H.length + 1, H.length, H.length + 2])).trans' hsm2 (fun j hj => .inl hj)) (fun j hj => .inr (by simp at hj; omega))
  · try simp only [decide_eq_true_eq, decide_eq_false_iff_not, beq_iff_eq, beq_eq_false_iff_ne, bne_iff_ne, bne_eq_false_iff_eq, ne_eq, Bool.and_eq_true, Bool.or_eq_true, Bool.and_eq_false_iff, Bool.or_eq_false_iff, Bool.not_eq_true', Bool.not_eq_false', Int.not_lt, Int.not_le, Decidable.not_not, Bool.not_true, Bool.not_false] at h
    refine AW.exit ?_
    simp (disch := ((try simp only [List.length_set, List.length_append, List.length_cons, List.length_nil]); omega)) only [go_sem, w_i64, w_u64, w_i32, w_u32, w_u8, Nat.min_eq_left, Nat.min_eq_right, Nat.reduceBEq, Int.reduceBNe, Int.reduceBEq, Nat.reduceBNe, Nat.reduceAdd, Nat.reduceMul, Nat.reduceSub, Nat.reduceLT, Nat.reduceLeDiff, Nat.reduceEqDiff, Int.reduceLT, Int.reduceLE, Int.reduceEq, Int.reduceToNat, Int.reduceNeg, reduceCtorEq, ↓reduceIte, hp_getL, hp_setL, hp_ne, hp_eq, hp_getS0, hp_getSk, hp_setS0, hp_setSk, hh, certs, strs]
    obtain rfl : i = c.certs.length := by omega
    rw [List.take_length] at hS
    exact ⟨hA, hS, hsm⟩


/-- a host's objects: hid the host, sid, mid, rid its store's, qid the row of its associations -/
structure HostIds where
  hid : Nat
  sid : Nat
  mid : Nat
  rid : Nat
  qid : Nat
def hostCells (c : ConfV) (sd : Int) (d : HostIds) (ver n : Nat) : List AV := c.cells ++ [.int .u32 sd, .ptr d.sid 0, .rref d.qid ver 0 n]
structure FreshHost (H : Heap) (d : HostIds) (c : ConfV) : Prop where
  host : H[d.hid]? = some (.cells (hostCells c c.seed d 0 0))
  peers : H[d.qid]? = some (.row 0 156 1 0 [])
  store : StoreAt H d.sid d.mid d.rid 32 (putAll c.certs)
def HostIds.all (d : HostIds) : List Nat := [d.hid, d.sid, d.mid, d.rid, d.qid]
theorem FreshHost.same {S : List Nat} {H H' : Heap} {d : HostIds} {c : ConfV} (h : FreshHost H d c) (k : Same S H H') (hs : ∀ i ∈ d.all, i ∉ S) : FreshHost H' d c :=
  ⟨k.get h.host (hs _ (by simp [HostIds.all])), k.get h.peers (hs _ (by simp [HostIds.all])), h.store.same k (hs _ (by simp [HostIds.all])) (hs _ (by simp [HostIds.all])) (hs _ (by simp [HostIds.all]))⟩
/-- how large a configuration may be -/
structure ConfV.Fit (c : ConfV) : Prop where
  ok : c.Ok
  lc : c.certs.length ≤ 4294967295
  ln : c.names.length ≤ 4294967295

theorem c_hostNew {c : ConfV} (hc : c.Fit) : ACalls Tryz.prog 27 [.agg c.cells] H (fun x H' => if mayB c then ∃ d : HostIds, x = .tup [.ptr d.hid 0, .int .i64 0] ∧ FreshHost H' d c ∧ (∀ i ∈ d.all, H.length ≤ i) ∧ d.all.Nodup ∧ Same [] H H' else x = .tup [.nilp, .int .i64 1] ∧ Same [] H H') := by
  refine ACalls.enter (fn := Tryz.f27) (N := 17) (rs := [.tmp 2, .tmp 3]) (by kernel_rfl) (by kernel_rfl) rfl rfl (Nat.le_of_ble_eq_true rfl) rfl ?_
  simp only [ConfV.cells]
  refine AW.sr (by kernel_rfl) fun K1 hK1 => ?_
  simp (disch := ((try simp only [List.length_set, List.length_append, List.length_cons, List.length_nil]); omega)) only [go_sem, w_i64, w_u64, w_i32, w_u32, w_u8, Nat.min_eq_left, Nat.min_eq_right, Nat.reduceBEq, Int.reduceBNe, Int.reduceBEq, Nat.reduceBNe, Nat.reduceAdd, Nat.reduceMul, Nat.reduceSub, Nat.reduceLT, Nat.reduceLeDiff, Nat.reduceEqDiff, Int.reduceLT, Int.reduceLE, Int.reduceEq, Int.reduceToNat, Int.reduceNeg, reduceCtorEq, ↓reduceIte, hp_getL, hp_setL, hp_ne, hp_eq, hp_getS0, hp_getSk, hp_setS0, hp_setSk, ConfV.cells]
  repeat (apply And.intro; (focus first | trivial | omega | (intros; omega) | (intros; simp_all; done) | (intros; simp_all; omega)))
  refine hK1 _ _ ?_
  try clear hK1 K1
  refine AW.sq fun K2 hK2 => ?_
  refine AW.sr (by kernel_rfl) fun K3 hK3 => ?_
  simp (disch := ((try simp only [List.length_set, List.length_append, List.length_cons, List.length_nil]); omega)) only [go_sem, w_i64, w_u64, w_i32, w_u32, w_u8, Nat.min_eq_left, Nat.min_eq_right, Nat.reduceBEq, Int.reduceBNe, Int.reduceBEq, Nat.reduceBNe, Nat.reduceAdd, Nat.reduceMul, Nat.reduceSub, Nat.reduceLT, Nat.reduceLeDiff, Nat.reduceEqDiff, Int.reduceLT, Int.reduceLE, Int.reduceEq, Int.reduceToNat, Int.reduceNeg, reduceCtorEq, ↓reduceIte, hp_getL, hp_setL, hp_ne, hp_eq, hp_getS0, hp_getSk, hp_setS0, hp_setSk, ConfV.cells]
  repeat (apply And.intro; (focus first | trivial | omega | (intros; omega) | (intros; simp_all; done) | (intros; simp_all; omega)))
  refine (c_may hc.ok).mono fun x1 H1 _ hx1 => ?_
  obtain ⟨rfl, hE1⟩ := hx1; subst H1
  simp (disch := ((try simp only [List.length_set, List.length_append, List.length_cons, List.length_nil]); omega)) only [go_sem, w_i64, w_u64, w_i32, w_u32, w_u8, Nat.min_eq_left, Nat.min_eq_right, Nat.reduceBEq, Int.reduceBNe, Int.reduceBEq, Nat.reduceBNe, Nat.reduceAdd, Nat.reduceMul, Nat.reduceSub, Nat.reduceLT, Nat.reduceLeDiff, Nat.reduceEqDiff, Int.reduceLT, Int.reduceLE, Int.reduceEq, Int.reduceToNat, Int.reduceNeg, reduceCtorEq, ↓reduceIte, hp_getL, hp_setL, hp_ne, hp_eq, hp_getS0, hp_getSk, hp_setS0, hp_setSk, ConfV.cells]
  repeat (apply And.intro; (focus first | trivial | omega | (intros; omega) | (intros; simp_all; done) | (intros; simp_all; omega)))
  refine hK3 _ _ ?_
  try clear hK3 K3
  refine AW.cond rfl (fun h => ?_) (fun h => ?_)
  · try simp only [decide_eq_true_eq, decide_eq_false_iff_not, beq_iff_eq, beq_eq_false_iff_ne, bne_iff_ne, bne_eq_false_iff_eq, ne_eq, Bool.and_eq_true, Bool.or_eq_true, Bool.and_eq_false_iff, Bool.or_eq_false_iff, Bool.not_eq_true', Bool.not_eq_false', Int.not_lt, Int.not_le, Decidable.not_not, Bool.not_true, Bool.not_false] at h
    refine AW.sr (by kernel_rfl) fun K4 hK4 => ?_
    simp (disch := ((try simp only [List.length_set, List.length_append, List.length_cons, List.length_nil]); omega)) only [go_sem, w_i64, w_u64, w_i32, w_u32, w_u8, Nat.min_eq_left, Nat.min_eq_right, Nat.reduceBEq, Int.reduceBNe, Int.reduceBEq, Nat.reduceBNe, Nat.reduceAdd, Nat.reduceMul, Nat.reduceSub, Nat.reduceLT, Nat.reduceLeDiff, Nat.reduceEqDiff, Int.reduceLT, Int.reduceLE, Int.reduceEq, Int.reduceToNat, Int.reduceNeg, reduceCtorEq, ↓reduceIte, hp_getL, hp_setL, hp_ne, hp_eq, hp_getS0, hp_getSk, hp_setS0, hp_setSk, ConfV.cells]
    repeat (apply And.intro; (focus first | trivial | omega | (intros; omega) | (intros; simp_all; done) | (intros; simp_all; omega)))
    refine hK4 _ _ ?_
    try clear hK4 K4
    refine AW.ret ?_
    simp (disch := ((try simp only [List.length_set, List.length_append, List.length_cons, List.length_nil]); omega)) only [go_sem, w_i64, w_u64, w_i32, w_u32, w_u8, Nat.min_eq_left, Nat.min_eq_right, Nat.reduceBEq, Int.reduceBNe, Int.reduceBEq, Nat.reduceBNe, Nat.reduceAdd, Nat.reduceMul, Nat.reduceSub, Nat.reduceLT, Nat.reduceLeDiff, Nat.reduceEqDiff, Int.reduceLT, Int.reduceLE, Int.reduceEq, Int.reduceToNat, Int.reduceNeg, reduceCtorEq, ↓reduceIte, hp_getL, hp_setL, hp_ne, hp_eq, hp_getS0, hp_getSk, hp_setS0, hp_setSk, ConfV.cells]
    rw [if_neg (by simp [h])]; exact Same.app
  · try simp only [decide_eq_true_eq, decide_eq_false_iff_not, beq_iff_eq, beq_eq_false_iff_ne, bne_iff_ne, bne_eq_false_iff_eq, ne_eq, Bool.and_eq_true, Bool.or_eq_true, Bool.and_eq_false_iff, Bool.or_eq_false_iff, Bool.not_eq_true', Bool.not_eq_false', Int.not_lt, Int.not_le, Decidable.not_not, Bool.not_true, Bool.not_false] at h
    refine AW.skip ?_
    simp (disch := ((try simp only [List.length_set, List.length_append, List.length_cons, List.length_nil]); omega)) only [go_sem, w_i64, w_u64, w_i32, w_u32, w_u8, Nat.min_eq_left, Nat.min_eq_right, Nat.reduceBEq, Int.reduceBNe, Int.reduceBEq, Nat.reduceBNe, Nat.reduceAdd, Nat.reduceMul, Nat.reduceSub, Nat.reduceLT, Nat.reduceLeDiff, Nat.reduceEqDiff, Int.reduceLT, Int.reduceLE, Int.reduceEq, Int.reduceToNat, Int.reduceNeg, reduceCtorEq, ↓reduceIte, hp_getL, hp_setL, hp_ne, hp_eq, hp_getS0, hp_getSk, hp_setS0, hp_setSk, ConfV.cells]
    refine hK2 _ _ ?_
    try clear hK2 K2
    refine AW.sd [5] (by kernel_rfl) (by kernel_rfl) (by kernel_rfl) fun K5 hK5 => ?_
    simp (disch := ((try simp only [List.length_set, List.length_append, List.length_cons, List.length_nil]); omega)) only [go_sem, w_i64, w_u64, w_i32, w_u32, w_u8, Nat.min_eq_left, Nat.min_eq_right, Nat.reduceBEq, Int.reduceBNe, Int.reduceBEq, Nat.reduceBNe, Nat.reduceAdd, Nat.reduceMul, Nat.reduceSub, Nat.reduceLT, Nat.reduceLeDiff, Nat.reduceEqDiff, Int.reduceLT, Int.reduceLE, Int.reduceEq, Int.reduceToNat, Int.reduceNeg, reduceCtorEq, ↓reduceIte, hp_getL, hp_setL, hp_ne, hp_eq, hp_getS0, hp_getSk, hp_setS0, hp_setSk, ConfV.cells]
    repeat (apply And.intro; (focus first | trivial | omega | (intros; omega) | (intros; simp_all; done) | (intros; simp_all; omega)))
    refine Exists.intro _ (And.intro (c_hcopied hc.ok hc.lc hc.ln) ?_)
    simp (disch := ((try simp only [List.length_set, List.length_append, List.length_cons, List.length_nil]); omega)) only [go_sem, w_i64, w_u64, w_i32, w_u32, w_u8, Nat.min_eq_left, Nat.min_eq_right, Nat.reduceBEq, Int.reduceBNe, Int.reduceBEq, Nat.reduceBNe, Nat.reduceAdd, Nat.reduceMul, Nat.reduceSub, Nat.reduceLT, Nat.reduceLeDiff, Nat.reduceEqDiff, Int.reduceLT, Int.reduceLE, Int.reduceEq, Int.reduceToNat, Int.reduceNeg, reduceCtorEq, ↓reduceIte, hp_getL, hp_setL, hp_ne, hp_eq, hp_getS0, hp_getSk, hp_setS0, hp_setSk, ConfV.cells]
    repeat (apply And.intro; (focus first | trivial | omega | (intros; omega) | (intros; simp_all; done) | (intros; simp_all; omega)))
    refine hK5 _ _ ?_
    try clear hK5 K5
    refine AW.ownCR (H.length + 1) 17 156 1 (by simp (disch := ((try simp only [List.length_set, List.length_append, List.length_cons, List.length_nil]); omega)) only [go_sem, w_i64, w_u64, w_i32, w_u32, w_u8, Nat.min_eq_left, Nat.min_eq_right, Nat.reduceBEq, Int.reduceBNe, Int.reduceBEq, Nat.reduceBNe, Nat.reduceAdd, Nat.reduceMul, Nat.reduceSub, Nat.reduceLT, Nat.reduceLeDiff, Nat.reduceEqDiff, Int.reduceLT, Int.reduceLE, Int.reduceEq, Int.reduceToNat, Int.reduceNeg, reduceCtorEq, ↓reduceIte, hp_getL, hp_setL, hp_ne, hp_eq, hp_getS0, hp_getSk, hp_setS0, hp_setSk]; rfl) rfl ?_
    refine AW.abs (p := fun H1 => H1[H.length + 1]? = some (.cells (c.cells ++ [.int .u32 c.seed, .nilp, .rref (H.length + 2) 0 0 0])) ∧ H1[H.length + 2]? = some (.row 0 156 1 0 []) ∧ Same [] H H1 ∧ H1.length = H.length + 3) ⟨?_, ?_, ?_, ?_⟩ ?_
    · simp (disch := ((try simp only [List.length_set, List.length_append, List.length_cons, List.length_nil]); omega)) only [go_sem, w_i64, w_u64, w_i32, w_u32, w_u8, Nat.min_eq_left, Nat.min_eq_right, Nat.reduceBEq, Int.reduceBNe, Int.reduceBEq, Nat.reduceBNe, Nat.reduceAdd, Nat.reduceMul, Nat.reduceSub, Nat.reduceLT, Nat.reduceLeDiff, Nat.reduceEqDiff, Int.reduceLT, Int.reduceLE, Int.reduceEq, Int.reduceToNat, Int.reduceNeg, reduceCtorEq, ↓reduceIte, hp_getL, hp_setL, hp_ne, hp_eq, hp_getS0, hp_getSk, hp_setS0, hp_setSk]; rfl
    · simp (disch := ((try simp only [List.length_set, List.length_append, List.length_cons, List.length_nil]); omega)) only [go_sem, w_i64, w_u64, w_i32, w_u32, w_u8, Nat.min_eq_left, Nat.min_eq_right, Nat.reduceBEq, Int.reduceBNe, Int.reduceBEq, Nat.reduceBNe, Nat.reduceAdd, Nat.reduceMul, Nat.reduceSub, Nat.reduceLT, Nat.reduceLeDiff, Nat.reduceEqDiff, Int.reduceLT, Int.reduceLE, Int.reduceEq, Int.reduceToNat, Int.reduceNeg, reduceCtorEq, ↓reduceIte, hp_getL, hp_setL, hp_ne, hp_eq, hp_getS0, hp_getSk, hp_setS0, hp_setSk]
    · simp (disch := ((try simp only [List.length_set, List.length_append, List.length_cons, List.length_nil]); omega)) only [go_sem, w_i64, w_u64, w_i32, w_u32, w_u8, Nat.min_eq_left, Nat.min_eq_right, Nat.reduceBEq, Int.reduceBNe, Int.reduceBEq, Nat.reduceBNe, Nat.reduceAdd, Nat.reduceMul, Nat.reduceSub, Nat.reduceLT, Nat.reduceLeDiff, Nat.reduceEqDiff, Int.reduceLT, Int.reduceLE, Int.reduceEq, Int.reduceToNat, Int.reduceNeg, reduceCtorEq, ↓reduceIte, hp_getL, hp_setL, hp_ne, hp_eq, hp_getS0, hp_getSk, hp_setS0, hp_setSk]; exact Same.app
    · simp (disch := ((try simp only [List.length_set, List.length_append, List.length_cons, List.length_nil]); omega)) only [go_sem, w_i64, w_u64, w_i32, w_u32, w_u8, Nat.min_eq_left, Nat.min_eq_right, Nat.reduceBEq, Int.reduceBNe, Int.reduceBEq, Nat.reduceBNe, Nat.reduceAdd, Nat.reduceMul, Nat.reduceSub, Nat.reduceLT, Nat.reduceLeDiff, Nat.reduceEqDiff, Int.reduceLT, Int.reduceLE, Int.reduceEq, Int.reduceToNat, Int.reduceNeg, reduceCtorEq, ↓reduceIte, hp_getL, hp_setL, hp_ne, hp_eq, hp_getS0, hp_getSk, hp_setS0, hp_setSk]
    rintro W1 ⟨hh, hq, hsm0, hlen⟩
    refine AW.sr (by kernel_rfl) fun K6 hK6 => ?_
    simp (disch := ((try simp only [List.length_set, List.length_append, List.length_cons, List.length_nil]); omega)) only [go_sem, w_i64, w_u64, w_i32, w_u32, w_u8, Nat.min_eq_left, Nat.min_eq_right, Nat.reduceBEq, Int.reduceBNe, Int.reduceBEq, Nat.reduceBNe, Nat.reduceAdd, Nat.reduceMul, Nat.reduceSub, Nat.reduceLT, Nat.reduceLeDiff, Nat.reduceEqDiff, Int.reduceLT, Int.reduceLE, Int.reduceEq, Int.reduceToNat, Int.reduceNeg, reduceCtorEq, ↓reduceIte, hp_getL, hp_setL, hp_ne, hp_eq, hp_getS0, hp_getSk, hp_setS0, hp_setSk, ConfV.cells]
    repeat (apply And.intro; (focus first | trivial | omega | (intros; omega) | (intros; simp_all; done) | (intros; simp_all; omega)))
    refine (c_fill hh hc.ok hc.lc).mono fun x1 H1 _ hx1 => ?_
    obtain ⟨rfl, hh2, hS, hsm⟩ := hx1
    simp (disch := ((try simp only [List.length_set, List.length_append, List.length_cons, List.length_nil]); omega)) only [go_sem, w_i64, w_u64, w_i32, w_u32, w_u8, Nat.min_eq_left, Nat.min_eq_right, Nat.reduceBEq, Int.reduceBNe, Int.reduceBEq, Nat.reduceBNe, Nat.reduceAdd, Nat.reduceMul, Nat.reduceSub, Nat.reduceLT, Nat.reduceLeDiff, Nat.reduceEqDiff, Int.reduceLT, Int.reduceLE, Int.reduceEq, Int.reduceToNat, Int.reduceNeg, reduceCtorEq, ↓reduceIte, hp_getL, hp_setL, hp_ne, hp_eq, hp_getS0, hp_getSk, hp_setS0, hp_setSk, ConfV.cells]
    repeat (apply And.intro; (focus first | trivial | omega | (intros; omega) | (intros; simp_all; done) | (intros; simp_all; omega)))
    refine hK6 _ _ ?_
    try clear hK6 K6
    refine AW.sr (by kernel_rfl) fun K7 hK7 => ?_
    simp (disch := ((try simp only [List.length_set, List.length_append, List.length_cons, List.length_nil]); omega)) only [go_sem, w_i64, w_u64, w_i32, w_u32, w_u8, Nat.min_eq_left, Nat.min_eq_right, Nat.reduceBEq, Int.reduceBNe, Int.reduceBEq, Nat.reduceBNe, Nat.reduceAdd, Nat.reduceMul, Nat.reduceSub, Nat.reduceLT, Nat.reduceLeDiff, Nat.reduceEqDiff, Int.reduceLT, Int.reduceLE, Int.reduceEq, Int.reduceToNat, Int.reduceNeg, reduceCtorEq, ↓reduceIte, hp_getL, hp_setL, hp_ne, hp_eq, hp_getS0, hp_getSk, hp_setS0, hp_setSk, ConfV.cells]
    repeat (apply And.intro; (focus first | trivial | omega | (intros; omega) | (intros; simp_all; done) | (intros; simp_all; omega)))
    refine hK7 _ _ ?_
    try clear hK7 K7
    refine AW.ret ?_
    simp (disch := ((try simp only [List.length_set, List.length_append, List.length_cons, List.length_nil]); omega)) only [go_sem, w_i64, w_u64, w_i32, w_u32, w_u8, Nat.min_eq_left, Nat.min_eq_right, Nat.reduceBEq, Int.reduceBNe, Int.reduceBEq, Nat.reduceBNe, Nat.reduceAdd, Nat.reduceMul, Nat.reduceSub, Nat.reduceLT, Nat.reduceLeDiff, Nat.reduceEqDiff, Int.reduceLT, Int.reduceLE, Int.reduceEq, Int.reduceToNat, Int.reduceNeg, reduceCtorEq, ↓reduceIte, hp_getL, hp_setL, hp_ne, hp_eq, hp_getS0, hp_getSk, hp_setS0, hp_setSk, ConfV.cells]
    rw [if_pos (by simpa using h)]
    refine ⟨⟨H.length + 1, W1.length + 1, W1.length, W1.length + 2, H.length + 2⟩, rfl, ⟨hh2, hsm.get hq (by simp), hS⟩, ?_, ?_, ?_⟩
    · intro i hi
      simp [HostIds.all] at hi
      omega
    · simp [HostIds.all]; omega
    · exact hsm0.trans' hsm (fun i hi => .inr (by simp at hi; omega))


end Go.Av
end
