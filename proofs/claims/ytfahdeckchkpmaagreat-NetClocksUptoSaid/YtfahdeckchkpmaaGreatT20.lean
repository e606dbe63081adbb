/- Proved here: NetClocksUptoSaid, the law NetClocks where what it reads is of bulk at most 1048576; this text holds a part of its proof. -/
import Derived.Test.YtfahdeckchkpmaaGreatT19
section
set_option linter.unusedVariables false
set_option linter.unusedSimpArgs false
set_option maxRecDepth 100000
set_option maxHeartbeats 4000000
namespace Go.Av
open Go.Proofs
variable {H : Heap}

structure PlaceV where
  addr : Int
  name : ByteArray
  start : Int
  rate : Int
  hid : Nat
structure MailV where
  src : Int
  dst : Int
  bytes : List Int
structure EventV where
  kind : Int
  host : Int
  peer : Int
  time : Int
  bytes : List Int
def PlaceV.cells (p : PlaceV) : List AV := [.int .u32 p.addr, .str p.name, .int .u64 p.start, .int .i64 p.rate, .ptr p.hid 0]
def MailV.cells (m : MailV) : List AV := [.int .u32 m.src, .int .u32 m.dst, .nums .u8 false m.bytes]
def EventV.cells (x : EventV) : List AV := [.int .i64 x.kind, .int .u32 x.host, .int .u32 x.peer, .int .i64 x.time, .nums .u8 false x.bytes]
structure WorldIds where
  wid : Nat
  pr : Nat
  mr : Nat
  lr : Nat
def WorldIds.all (d : WorldIds) : List Nat := [d.wid, d.pr, d.mr, d.lr]
def rowP (v : Nat) (ps : List PlaceV) : Obj := .row v 142 5 ps.length (ps.flatMap PlaceV.cells)
def rowM (v : Nat) (ms : List MailV) : Obj := .row v 59 3 ms.length (ms.flatMap MailV.cells)
def rowE (v : Nat) (ls : List EventV) : Obj := .row v 57 5 ls.length (ls.flatMap EventV.cells)
def worldCells (d : WorldIds) (v1 v2 v3 : Nat) (ps : List PlaceV) (now : Int) (ms : List MailV) (ls : List EventV) : List AV := [.rref d.pr v1 0 ps.length, .int .i64 now, .rref d.mr v2 0 ms.length, .rref d.lr v3 0 ls.length]
structure WorldAt (H : Heap) (d : WorldIds) (v1 v2 v3 : Nat) (ps : List PlaceV) (now : Int) (ms : List MailV) (ls : List EventV) : Prop where
  world : H[d.wid]? = some (.cells (worldCells d v1 v2 v3 ps now ms ls))
  places : H[d.pr]? = some (rowP v1 ps)
  mail : H[d.mr]? = some (rowM v2 ms)
  log : H[d.lr]? = some (rowE v3 ls)
theorem WorldAt.same {S : List Nat} {H H' : Heap} {d : WorldIds} {v1 v2 v3 : Nat} {ps : List PlaceV} {now : Int} {ms : List MailV} {ls : List EventV} (h : WorldAt H d v1 v2 v3 ps now ms ls) (k : Same S H H') (hs : ∀ i ∈ d.all, i ∉ S) : WorldAt H' d v1 v2 v3 ps now ms ls :=
  ⟨k.get h.world (hs _ (by simp [WorldIds.all])), k.get h.places (hs _ (by simp [WorldIds.all])), k.get h.mail (hs _ (by simp [WorldIds.all])), k.get h.log (hs _ (by simp [WorldIds.all]))⟩
theorem places_at {l : List PlaceV} {i : Nat} (h : i < l.length) : ((l.flatMap PlaceV.cells).drop (i * 5)).take 5 = l[i].cells := flat_at (fun x _ => rfl) (by simp [h])
theorem places_len {l : List PlaceV} : (l.flatMap PlaceV.cells).length = l.length * 5 := flat_len (fun x _ => rfl)
theorem places_fld {l : List PlaceV} {k j : Nat} (hk : k < l.length) (hj : j < 5) : (l.flatMap PlaceV.cells).getD (k * 5 + j) .junk = l[k].cells.getD j .junk := flat_getD (f := PlaceV.cells) (fun x => rfl) hk hj
def atI (ps : List PlaceV) (a : Int) : Option Nat := ps.findIdx? fun p => p.addr == a
def atA (pr v : Nat) (ps : List PlaceV) (a : Int) : AV := match atI ps a with | some k => .eptr pr v (k * 5) | none => .nilp
theorem atI_some {ps : List PlaceV} {a : Int} {i : Nat} (hi : i < ps.length) (h : ps[i].addr = a) (hn : ∀ j (h : j < i) (h' : j < ps.length), ps[j].addr ≠ a) : atI ps a = some i := by
  unfold atI
  rw [List.findIdx?_eq_some_iff_getElem]
  exact ⟨hi, by simp [h], fun j hj => by simpa using hn j hj (by omega)⟩
theorem atI_none {ps : List PlaceV} {a : Int} (hn : ∀ j (h' : j < ps.length), ps[j].addr ≠ a) : atI ps a = none := by
  unfold atI
  rw [List.findIdx?_eq_none_iff]
  intro x hx
  obtain ⟨j, hj, rfl⟩ := List.getElem_of_mem hx
  simpa using hn j hj

theorem c_at {wid pr v : Nat} {ps : List PlaceV} {r1 r2 r3 : AV} {a : Int} (hw : H[wid]? = some (.cells [.rref pr v 0 ps.length, r1, r2, r3])) (hp : H[pr]? = some (rowP v ps)) (hn : ps.length ≤ 4294967295) : ACalls Tryz.prog 106 [.ptr wid 0, .int .u32 a] H (fun x H' => x = atA pr v ps a ∧ H' = H) := by
  refine ACalls.enter (fn := Tryz.f106) (N := 31) (rs := [.tmp 4]) (by kernel_rfl) (by kernel_rfl) rfl rfl (Nat.le_of_ble_eq_true rfl) rfl ?_
  have hcl := places_len (l := ps)
  refine AW.sr (by kernel_rfl) fun K1 hK1 => ?_
  simp (disch := omega) only [go_sem, w_i64, w_u64, w_i32, w_u32, w_u8, Nat.min_eq_left, Nat.min_eq_right, Nat.reduceBEq, Int.reduceBNe, Int.reduceBEq, Nat.reduceBNe, Nat.reduceAdd, Nat.reduceMul, Nat.reduceSub, Nat.reduceLT, Nat.reduceLeDiff, Nat.reduceEqDiff, Int.reduceLT, Int.reduceLE, Int.reduceEq, Int.reduceToNat, Int.reduceNeg, reduceCtorEq, ↓reduceIte, hw, hp, rowP]
  repeat (apply And.intro; (focus first | trivial | omega | (intros; omega) | (intros; simp_all; done) | (intros; simp_all; omega)))
  refine hK1 _ _ ?_
  try clear hK1 K1
  refine AW.sq fun K2 hK2 => ?_
  refine AW.sr (by kernel_rfl) fun K3 hK3 => ?_
  simp (disch := omega) only [go_sem, w_i64, w_u64, w_i32, w_u32, w_u8, Nat.min_eq_left, Nat.min_eq_right, Nat.reduceBEq, Int.reduceBNe, Int.reduceBEq, Nat.reduceBNe, Nat.reduceAdd, Nat.reduceMul, Nat.reduceSub, Nat.reduceLT, Nat.reduceLeDiff, Nat.reduceEqDiff, Int.reduceLT, Int.reduceLE, Int.reduceEq, Int.reduceToNat, Int.reduceNeg, reduceCtorEq, ↓reduceIte, hw, hp, rowP]
  repeat (apply And.intro; (focus first | trivial | omega | (intros; omega) | (intros; simp_all; done) | (intros; simp_all; omega)))
  refine hK3 _ _ ?_
  try clear hK3 K3
  refine AW.bloop (fun n l H' => ∃ i : Nat, n = ps.length - i ∧ i ≤ ps.length ∧ (∀ j (h : j < i) (h' : j < ps.length), ps[j].addr ≠ a) ∧ l = [(0, .ptr wid 0), (1, .int .u32 a), (10, .int .i64 ps.length), (11, .int .i64 i)] ∧ H = H') ps.length ⟨[(0, _), (1, _), (10, _), (11, _)], le_cons rfl (le_cons rfl (le_cons rfl (le_cons rfl le_nil))), ?_⟩ fun n l1 G _ hI => ?_
  · exact ⟨0, by omega, by omega, fun j hj => by omega, rfl, rfl⟩
  obtain ⟨i, rfl, hi, hall, rfl, rfl⟩ := hI
  refine AW.sr (by kernel_rfl) fun K4 hK4 => ?_
  simp (disch := omega) only [go_sem, w_i64, w_u64, w_i32, w_u32, w_u8, Nat.min_eq_left, Nat.min_eq_right, Nat.reduceBEq, Int.reduceBNe, Int.reduceBEq, Nat.reduceBNe, Nat.reduceAdd, Nat.reduceMul, Nat.reduceSub, Nat.reduceLT, Nat.reduceLeDiff, Nat.reduceEqDiff, Int.reduceLT, Int.reduceLE, Int.reduceEq, Int.reduceToNat, Int.reduceNeg, reduceCtorEq, ↓reduceIte, hw, hp, rowP]
  repeat (apply And.intro; (focus first | trivial | omega | (intros; omega) | (intros; simp_all; done) | (intros; simp_all; omega)))
  refine hK4 _ _ ?_
  try clear hK4 K4
  refine AW.sq fun K5 hK5 => ?_
  refine AW.cond rfl (fun h => ?_) (fun h => ?_)
  · try simp only [decide_eq_true_eq, decide_eq_false_iff_not, beq_iff_eq, beq_eq_false_iff_ne, bne_iff_ne, bne_eq_false_iff_eq, ne_eq, Bool.and_eq_true, Bool.or_eq_true, Bool.and_eq_false_iff, Bool.or_eq_false_iff, Bool.not_eq_true', Bool.not_eq_false', Int.not_lt, Int.not_le, Decidable.not_not, Bool.not_true, Bool.not_false] at h
    have hlt : i < ps.length := by omega
    have hf := places_fld hlt (j := 0) (by omega)
    simp only [PlaceV.cells, Nat.add_zero, List.getD_cons_zero] at hf
    refine AW.skip ?_
    simp (disch := omega) only [go_sem, w_i64, w_u64, w_i32, w_u32, w_u8, Nat.min_eq_left, Nat.min_eq_right, Nat.reduceBEq, Int.reduceBNe, Int.reduceBEq, Nat.reduceBNe, Nat.reduceAdd, Nat.reduceMul, Nat.reduceSub, Nat.reduceLT, Nat.reduceLeDiff, Nat.reduceEqDiff, Int.reduceLT, Int.reduceLE, Int.reduceEq, Int.reduceToNat, Int.reduceNeg, reduceCtorEq, ↓reduceIte, hw, hp, rowP]
    refine hK5 _ _ ?_
    try clear hK5 K5
    refine AW.sblock fun K6 hK6 => ?_
    refine AW.sr (by kernel_rfl) fun K7 hK7 => ?_
    simp (disch := omega) only [go_sem, w_i64, w_u64, w_i32, w_u32, w_u8, Nat.min_eq_left, Nat.min_eq_right, Nat.reduceBEq, Int.reduceBNe, Int.reduceBEq, Nat.reduceBNe, Nat.reduceAdd, Nat.reduceMul, Nat.reduceSub, Nat.reduceLT, Nat.reduceLeDiff, Nat.reduceEqDiff, Int.reduceLT, Int.reduceLE, Int.reduceEq, Int.reduceToNat, Int.reduceNeg, reduceCtorEq, ↓reduceIte, hw, hp, rowP]
    repeat (apply And.intro; (focus first | trivial | omega | (intros; omega) | (intros; simp_all; done) | (intros; simp_all; omega)))
    refine hK7 _ _ ?_
    try clear hK7 K7
    refine AW.sr (by kernel_rfl) fun K8 hK8 => ?_
    simp (disch := omega) only [go_sem, w_i64, w_u64, w_i32, w_u32, w_u8, Nat.min_eq_left, Nat.min_eq_right, Nat.reduceBEq, Int.reduceBNe, Int.reduceBEq, Nat.reduceBNe, Nat.reduceAdd, Nat.reduceMul, Nat.reduceSub, Nat.reduceLT, Nat.reduceLeDiff, Nat.reduceEqDiff, Int.reduceLT, Int.reduceLE, Int.reduceEq, Int.reduceToNat, Int.reduceNeg, reduceCtorEq, ↓reduceIte, hw, hp, rowP, hf]
    repeat (apply And.intro; (focus first | trivial | omega | (intros; omega) | (intros; simp_all; done) | (intros; simp_all; omega)))
    refine hK8 _ _ ?_
    try clear hK8 K8
    refine AW.cond rfl (fun h => ?_) (fun h => ?_)
    · try simp only [decide_eq_true_eq, decide_eq_false_iff_not, beq_iff_eq, beq_eq_false_iff_ne, bne_iff_ne, bne_eq_false_iff_eq, ne_eq, Bool.and_eq_true, Bool.or_eq_true, Bool.and_eq_false_iff, Bool.or_eq_false_iff, Bool.not_eq_true', Bool.not_eq_false', Int.not_lt, Int.not_le, Decidable.not_not, Bool.not_true, Bool.not_false] at h
      refine AW.sr (by kernel_rfl) fun K9 hK9 => ?_
      simp (disch := omega) only [go_sem, w_i64, w_u64, w_i32, w_u32, w_u8, Nat.min_eq_left, Nat.min_eq_right, Nat.reduceBEq, Int.reduceBNe, Int.reduceBEq, Nat.reduceBNe, Nat.reduceAdd, Nat.reduceMul, Nat.reduceSub, Nat.reduceLT, Nat.reduceLeDiff, Nat.reduceEqDiff, Int.reduceLT, Int.reduceLE, Int.reduceEq, Int.reduceToNat, Int.reduceNeg, reduceCtorEq, ↓reduceIte, hw, hp, rowP]
      repeat (apply And.intro; (focus first | trivial | omega | (intros; omega) | (intros; simp_all; done) | (intros; simp_all; omega)))
      refine hK9 _ _ ?_
      try clear hK9 K9
      refine AW.ret ?_
      simp (disch := omega) only [go_sem, w_i64, w_u64, w_i32, w_u32, w_u8, Nat.min_eq_left, Nat.min_eq_right, Nat.reduceBEq, Int.reduceBNe, Int.reduceBEq, Nat.reduceBNe, Nat.reduceAdd, Nat.reduceMul, Nat.reduceSub, Nat.reduceLT, Nat.reduceLeDiff, Nat.reduceEqDiff, Int.reduceLT, Int.reduceLE, Int.reduceEq, Int.reduceToNat, Int.reduceNeg, reduceCtorEq, ↓reduceIte, hw, hp, rowP]
      simp only [atA, atI_some hlt h hall]
    · try simp only [decide_eq_true_eq, decide_eq_false_iff_not, beq_iff_eq, beq_eq_false_iff_ne, bne_iff_ne, bne_eq_false_iff_eq, ne_eq, Bool.and_eq_true, Bool.or_eq_true, Bool.and_eq_false_iff, Bool.or_eq_false_iff, Bool.not_eq_true', Bool.not_eq_false', Int.not_lt, Int.not_le, Decidable.not_not, Bool.not_true, Bool.not_false] at h
      refine AW.skip ?_
      simp (disch := omega) only [go_sem, w_i64, w_u64, w_i32, w_u32, w_u8, Nat.min_eq_left, Nat.min_eq_right, Nat.reduceBEq, Int.reduceBNe, Int.reduceBEq, Nat.reduceBNe, Nat.reduceAdd, Nat.reduceMul, Nat.reduceSub, Nat.reduceLT, Nat.reduceLeDiff, Nat.reduceEqDiff, Int.reduceLT, Int.reduceLE, Int.reduceEq, Int.reduceToNat, Int.reduceNeg, reduceCtorEq, ↓reduceIte, hw, hp, rowP]
      refine hK6 _ _ ?_
      try clear hK6 K6
      refine AW.rg (by kernel_rfl) fun K10 hK10 => ?_
      simp (disch := omega) only [go_sem, w_i64, w_u64, w_i32, w_u32, w_u8, Nat.min_eq_left, Nat.min_eq_right, Nat.reduceBEq, Int.reduceBNe, Int.reduceBEq, Nat.reduceBNe, Nat.reduceAdd, Nat.reduceMul, Nat.reduceSub, Nat.reduceLT, Nat.reduceLeDiff, Nat.reduceEqDiff, Int.reduceLT, Int.reduceLE, Int.reduceEq, Int.reduceToNat, Int.reduceNeg, reduceCtorEq, ↓reduceIte, hw, hp, rowP]
      repeat (apply And.intro; (focus first | trivial | omega | (intros; omega) | (intros; simp_all; done) | (intros; simp_all; omega)))
      refine hK10 _ _ ?_
      try clear hK10 K10
      simp (disch := omega) only [go_sem, w_i64, w_u64, w_i32, w_u32, w_u8, Nat.min_eq_left, Nat.min_eq_right, Nat.reduceBEq, Int.reduceBNe, Int.reduceBEq, Nat.reduceBNe, Nat.reduceAdd, Nat.reduceMul, Nat.reduceSub, Nat.reduceLT, Nat.reduceLeDiff, Nat.reduceEqDiff, Int.reduceLT, Int.reduceLE, Int.reduceEq, Int.reduceToNat, Int.reduceNeg, reduceCtorEq, ↓reduceIte, hw, hp, rowP]
      refine ⟨ps.length - (i + 1), by omega, [(0, _), (1, _), (10, _), (11, _)], le_cons rfl (le_cons rfl (le_cons rfl (le_cons rfl le_nil))), i + 1, rfl, by omega, fun j hj h' => ?_, ?_, rfl⟩
      · rcases Nat.lt_or_ge j i with h1 | h1
        · exact hall j h1 h'
        · have : j = i := by omega
          subst this
          exact h
      · (simp (disch := omega) only [go_sem, Nat.min_eq_left, Nat.min_eq_right, Nat.reduceBEq, Int.reduceBNe, Int.reduceBEq, Nat.reduceBNe, Nat.reduceAdd, Nat.reduceMul, Nat.reduceSub, Nat.reduceLT, Nat.reduceLeDiff, Nat.reduceEqDiff, Int.reduceLT, Int.reduceLE, Int.reduceEq, Int.reduceToNat, Int.reduceNeg, reduceCtorEq, ↓reduceIte, List.cons.injEq, Prod.mk.injEq, AV.int.injEq, AV.nums.injEq, AV.bool.injEq]; try omega)
  · try simp only [decide_eq_true_eq, decide_eq_false_iff_not, beq_iff_eq, beq_eq_false_iff_ne, bne_iff_ne, bne_eq_false_iff_eq, ne_eq, Bool.and_eq_true, Bool.or_eq_true, Bool.and_eq_false_iff, Bool.or_eq_false_iff, Bool.not_eq_true', Bool.not_eq_false', Int.not_lt, Int.not_le, Decidable.not_not, Bool.not_true, Bool.not_false] at h
    refine AW.exit ?_
    simp (disch := omega) only [go_sem, w_i64, w_u64, w_i32, w_u32, w_u8, Nat.min_eq_left, Nat.min_eq_right, Nat.reduceBEq, Int.reduceBNe, Int.reduceBEq, Nat.reduceBNe, Nat.reduceAdd, Nat.reduceMul, Nat.reduceSub, Nat.reduceLT, Nat.reduceLeDiff, Nat.reduceEqDiff, Int.reduceLT, Int.reduceLE, Int.reduceEq, Int.reduceToNat, Int.reduceNeg, reduceCtorEq, ↓reduceIte, hw, hp, rowP]
    refine hK2 _ _ ?_
    try clear hK2 K2
    refine AW.sr (by kernel_rfl) fun K11 hK11 => ?_
    simp (disch := omega) only [go_sem, w_i64, w_u64, w_i32, w_u32, w_u8, Nat.min_eq_left, Nat.min_eq_right, Nat.reduceBEq, Int.reduceBNe, Int.reduceBEq, Nat.reduceBNe, Nat.reduceAdd, Nat.reduceMul, Nat.reduceSub, Nat.reduceLT, Nat.reduceLeDiff, Nat.reduceEqDiff, Int.reduceLT, Int.reduceLE, Int.reduceEq, Int.reduceToNat, Int.reduceNeg, reduceCtorEq, ↓reduceIte, hw, hp, rowP]
    repeat (apply And.intro; (focus first | trivial | omega | (intros; omega) | (intros; simp_all; done) | (intros; simp_all; omega)))
    refine hK11 _ _ ?_
    try clear hK11 K11
    refine AW.ret ?_
    simp (disch := omega) only [go_sem, w_i64, w_u64, w_i32, w_u32, w_u8, Nat.min_eq_left, Nat.min_eq_right, Nat.reduceBEq, Int.reduceBNe, Int.reduceBEq, Nat.reduceBNe, Nat.reduceAdd, Nat.reduceMul, Nat.reduceSub, Nat.reduceLT, Nat.reduceLeDiff, Nat.reduceEqDiff, Int.reduceLT, Int.reduceLE, Int.reduceEq, Int.reduceToNat, Int.reduceNeg, reduceCtorEq, ↓reduceIte, hw, hp, rowP]
    simp only [atA, atI_none (fun j hj => hall j (by omega) hj)]


structure ClockV where
  start : Int
  rate : Int
def ClockV.cells (k : ClockV) : List AV := [.int .u64 k.start, .int .i64 k.rate]
def clks (l : List ClockV) : AV := .sl false l.length (l.flatMap ClockV.cells)
def confs (l : List ConfV) : AV := .sl false l.length (l.flatMap ConfV.cells)
theorem confs_at {l : List ConfV} {i : Nat} (h : i < l.length) : ((l.flatMap ConfV.cells).drop (i * 15)).take 15 = l[i].cells := flat_at (fun x _ => rfl) (by simp [h])
theorem confs_len {l : List ConfV} : (l.flatMap ConfV.cells).length = l.length * 15 := flat_len (fun x _ => rfl)
theorem clks_at {l : List ClockV} {i : Nat} (h : i < l.length) : ((l.flatMap ClockV.cells).drop (i * 2)).take 2 = l[i].cells := flat_at (fun x _ => rfl) (by simp [h])
theorem clks_len {l : List ClockV} : (l.flatMap ClockV.cells).length = l.length * 2 := flat_len (fun x _ => rfl)
theorem clks_fld {l : List ClockV} {k j : Nat} (hk : k < l.length) (hj : j < 2) : (l.flatMap ClockV.cells).getD (k * 2 + j) .junk = l[k].cells.getD j .junk := flat_getD (f := ClockV.cells) (fun x => rfl) hk hj
def mkPlace (c : ConfV) (k : ClockV) (d : HostIds) : PlaceV := ⟨c.addr, c.name, k.start, k.rate, d.hid⟩
def mkPlaces : List ConfV → List ClockV → List HostIds → List PlaceV
  | c :: cs, k :: ks, d :: ds => mkPlace c k d :: mkPlaces cs ks ds
  | _, _, _ => []
/-- may a host stand behind those ahead of it? -/
def hostOk (before : List ConfV) (c : ConfV) (k : ClockV) : Bool := mayB c && (decide (-16 ≤ k.rate) && (decide (k.rate ≤ 16) && !before.any fun b => b.addr == c.addr))
def newOk (l : List ConfV) (ks : List ClockV) : Bool := decide (1 ≤ l.length) && (decide (l.length ≤ 16) && (decide (l.length = ks.length) && (List.range l.length).all fun i => match l[i]?, ks[i]? with | some c, some k => hostOk (l.take i) c k | _, _ => false))

theorem not_newOk {l : List ConfV} {ks : List ClockV} {i : Nat} (h : i < l.length ∧ i < ks.length) (hb : hostOk (l.take i) l[i] ks[i] = false) : ¬ newOk l ks = true := by
  intro hn
  simp only [newOk, Bool.and_eq_true, List.all_eq_true, List.mem_range] at hn
  have := hn.2.2.2 i h.1
  rw [List.getElem?_eq_getElem h.1, List.getElem?_eq_getElem h.2] at this
  simp only [hb] at this
  cases this
structure NewInv (H0 H : Heap) (l : List ConfV) (ks : List ClockV) (i : Nat) (d : WorldIds) (v : Nat) (ds : List HostIds) : Prop where
  len : ds.length = i
  world : WorldAt H d v 0 0 (mkPlaces (l.take i) ks ds) 0 [] []
  hosts : ∀ j (h : j < l.length) (h' : j < ds.length), FreshHost H ds[j] l[j]
  nodup : (d.all ++ ds.flatMap HostIds.all).Nodup
  new : ∀ i ∈ d.all ++ ds.flatMap HostIds.all, H0.length ≤ i
  same : Same [] H0 H
  ok : ∀ j (h : j < l.length) (h' : j < ks.length), j < i → hostOk (l.take j) l[j] ks[j] = true
theorem mkPlaces_snoc : ∀ {l : List ConfV} {ks : List ClockV} {ds : List HostIds} {i : Nat} (h : i < l.length) (h' : i < ks.length) {hd : HostIds}, ds.length = i → mkPlaces (l.take (i + 1)) ks (ds ++ [hd]) = mkPlaces (l.take i) ks ds ++ [mkPlace l[i] ks[i] hd]
  | [], ks, ds, i, h, _, hd, _ => by simp at h
  | c :: l, [], ds, i, _, h, hd, _ => by simp at h
  | c :: l, k :: ks, [], i, h, h', hd, e => by
    simp at e
    subst e
    cases l <;> simp [mkPlaces]
  | c :: l, k :: ks, d :: ds, i, h, h', hd, e => by
    obtain ⟨i, rfl⟩ : ∃ j, i = j + 1 := ⟨i - 1, by simp at e; omega⟩
    have := mkPlaces_snoc (l := l) (ks := ks) (ds := ds) (i := i) (by simpa using h) (by simpa using h') (hd := hd) (by simpa using e)
    simp [mkPlaces, this]
theorem FreshHost.lt {H : Heap} {d : HostIds} {c : ConfV} (h : FreshHost H d c) : ∀ i ∈ d.all, i < H.length := by
  intro i hi
  obtain ⟨v, s1, s2⟩ := h.store.row
  obtain ⟨ck, kvs, s3, _⟩ := h.store.map
  simp only [HostIds.all, List.mem_cons, List.not_mem_nil, or_false] at hi
  rcases hi with rfl | rfl | rfl | rfl | rfl
  · exact hp_lt h.host
  · exact hp_lt s1
  · exact hp_lt s3
  · exact hp_lt s2
  · exact hp_lt h.peers
theorem WorldAt.lt {H : Heap} {d : WorldIds} {v1 v2 v3 : Nat} {ps : List PlaceV} {now : Int} {ms : List MailV} {ls : List EventV} (h : WorldAt H d v1 v2 v3 ps now ms ls) : ∀ i ∈ d.all, i < H.length := by
  intro i hi
  simp only [WorldIds.all, List.mem_cons, List.not_mem_nil, or_false] at hi
  rcases hi with rfl | rfl | rfl | rfl
  · exact hp_lt h.world
  · exact hp_lt h.places
  · exact hp_lt h.mail
  · exact hp_lt h.log
theorem wids_ne {d : WorldIds} {l : List Nat} (h : (d.all ++ l).Nodup) : d.wid ≠ d.pr ∧ d.wid ≠ d.mr ∧ d.wid ≠ d.lr ∧ d.pr ≠ d.mr ∧ d.pr ≠ d.lr ∧ d.mr ≠ d.lr := by
  have := (List.nodup_append.1 h).1
  simp [WorldIds.all] at this
  omega
theorem NewInv.step {H0 G H1 H2 : Heap} {l : List ConfV} {ks : List ClockV} {i : Nat} {d : WorldIds} {v : Nat} {ds : List HostIds} {hd : HostIds} (hI : NewInv H0 G l ks i d v ds) (hlt : i < l.length ∧ i < ks.length) (hsm : Same [] G H1) (hF : FreshHost H1 hd l[i]) (hnew : ∀ j ∈ hd.all, G.length ≤ j) (hnod : hd.all.Nodup)
    (hok : hostOk (l.take i) l[i] ks[i] = true) (hw : H2[d.wid]? = some (.cells (worldCells d (v + 1) 0 0 (mkPlaces (l.take i) ks ds ++ [mkPlace l[i] ks[i] hd]) 0 [] []))) (hp : H2[d.pr]? = some (rowP (v + 1) (mkPlaces (l.take i) ks ds ++ [mkPlace l[i] ks[i] hd]))) (hsm2 : Same [d.wid, d.pr] H1 H2) :
    NewInv H0 H2 l ks (i + 1) d (v + 1) (ds ++ [hd]) := by
  have hlen := hI.len
  have nd := wids_ne hI.nodup
  have wlt := hI.world.lt
  have wid1 : d.wid ∈ d.all := by simp [WorldIds.all]
  have pr1 : d.pr ∈ d.all := by simp [WorldIds.all]
  have hdis := (List.nodup_append.1 hI.nodup).2.2
  have old : ∀ j, j < ds.length → ∀ x ∈ (ds.flatMap HostIds.all), x < G.length := fun j hj x hx => by
    obtain ⟨y, hy, hxy⟩ := List.mem_flatMap.1 hx
    obtain ⟨k, hk, rfl⟩ := List.getElem_of_mem hy
    exact (hI.hosts k (by omega) hk).lt x hxy
  have old' : ∀ x ∈ (ds.flatMap HostIds.all), x < G.length := fun x hx => by
    rcases Nat.eq_zero_or_pos ds.length with h0 | h0
    · rw [List.eq_nil_of_length_eq_zero h0] at hx; simp at hx
    · exact old 0 h0 x hx
  refine ⟨by simp [hlen], ?_, ?_, ?_, ?_, ?_, ?_⟩
  · rw [mkPlaces_snoc hlt.1 hlt.2 hlen]
    exact ⟨hw, hp, hsm2.get (hsm.get hI.world.mail (by simp)) (by simp; omega), hsm2.get (hsm.get hI.world.log (by simp)) (by simp; omega)⟩
  · intro j h h'
    by_cases hj : j < ds.length
    · rw [List.getElem_append_left hj]
      refine ((hI.hosts j h hj).same hsm (by simp)).same hsm2 fun x hx hm => ?_
      have hmem : x ∈ ds.flatMap HostIds.all := List.mem_flatMap.2 ⟨_, List.getElem_mem hj, hx⟩
      simp at hm
      rcases hm with rfl | rfl
      · exact hdis _ wid1 _ hmem rfl
      · exact hdis _ pr1 _ hmem rfl
    · have : j = i := by simp at h'; omega
      subst this
      rw [List.getElem_append_right (by omega)]
      simp only [hlen, Nat.sub_self, List.getElem_cons_zero]
      refine hF.same hsm2 fun x hx hm => ?_
      have h1 := hnew x hx
      simp at hm
      rcases hm with rfl | rfl
      · have := wlt _ wid1; omega
      · have := wlt _ pr1; omega
  · rw [List.flatMap_append, ← List.append_assoc]
    simp only [List.flatMap_cons, List.flatMap_nil, List.append_nil]
    refine List.nodup_append.2 ⟨hI.nodup, hnod, fun a ha b hb => ?_⟩
    have h1 := hnew b hb
    rcases List.mem_append.1 ha with h | h
    · have := wlt a h; omega
    · have := old' a h; omega
  · intro x hx
    rw [List.flatMap_append, ← List.append_assoc, List.mem_append] at hx
    rcases hx with hx | hx
    · exact hI.new x hx
    · simp at hx
      have := hnew x hx
      have := hI.same.1
      omega
  · refine hI.same.trans' (Same.trans' (S := [d.wid, d.pr]) (hsm.mono (by simp)) hsm2 (fun j hj => .inl hj)) (fun j hj => ?_)
    · simp at hj
      rcases hj with rfl | rfl
      · exact .inr (hI.new _ (List.mem_append_left _ wid1))
      · exact .inr (hI.new _ (List.mem_append_left _ pr1))
  · intro j h h' hj
    rcases Nat.lt_or_ge j i with h1 | h1
    · exact hI.ok j h h' h1
    · have : j = i := by omega
      subst this
      exact hok
theorem NewInv.newOk {H0 G : Heap} {l : List ConfV} {ks : List ClockV} {d : WorldIds} {v : Nat} {ds : List HostIds} (hI : NewInv H0 G l ks l.length d v ds) (hle : 1 ≤ l.length ∧ l.length ≤ 16 ∧ l.length = ks.length) : Go.Av.newOk l ks = true := by
  simp only [Go.Av.newOk, Bool.and_eq_true, decide_eq_true_eq, List.all_eq_true, List.mem_range]
  refine ⟨hle.1, hle.2.1, hle.2.2, fun i hi => ?_⟩
  rw [List.getElem?_eq_getElem hi, List.getElem?_eq_getElem (by omega)]
  exact hI.ok i hi (by omega) hi
theorem mkPlaces_len : ∀ {l : List ConfV} {ks : List ClockV} {ds : List HostIds}, l.length ≤ ks.length → ds.length = l.length → (mkPlaces l ks ds).length = l.length
  | [], ks, ds, _, _ => by cases ks <;> cases ds <;> rfl
  | c :: l, k :: ks, d :: ds, h1, h2 => by simp [mkPlaces, mkPlaces_len (l := l) (ks := ks) (ds := ds) (by simpa using h1) (by simpa using h2)]
  | c :: l, [], _, h, _ => by simp at h
  | c :: l, k :: ks, [], _, h => by simp at h
theorem mkPlaces_any : ∀ {l : List ConfV} {ks : List ClockV} {ds : List HostIds} {a : Int}, l.length ≤ ks.length → ds.length = l.length → (atI (mkPlaces l ks ds) a).isSome = l.any fun b => b.addr == a
  | [], ks, ds, a, _, _ => by cases ks <;> cases ds <;> rfl
  | c :: l, k :: ks, d :: ds, a, h1, h2 => by
    have := mkPlaces_any (l := l) (ks := ks) (ds := ds) (a := a) (by simpa using h1) (by simpa using h2)
    unfold atI at this ⊢
    simp only [mkPlaces, mkPlace, List.findIdx?_cons, List.any_cons]
    rw [← this]
    cases hq : (c.addr == a) <;> simp
  | c :: l, [], _, _, h, _ => by simp at h
  | c :: l, k :: ks, [], _, _, h => by simp at h
theorem c_netNew {l : List ConfV} {ks : List ClockV} (hc : ∀ c ∈ l, c.Fit) (hl : l.length ≤ 4294967295) (hk : ks.length ≤ 4294967295) : ACalls Tryz.prog 54 [confs l, clks ks] H (fun x H' => if newOk l ks then ∃ (d : WorldIds) (v1 : Nat) (ds : List HostIds), ds.length = l.length ∧ x = .tup [.ptr d.wid 0, .int .i64 0] ∧ WorldAt H' d v1 0 0 (mkPlaces l ks ds) 0 [] [] ∧ (∀ i (h : i < l.length) (h' : i < ds.length), FreshHost H' ds[i] l[i]) ∧ (d.all ++ ds.flatMap HostIds.all).Nodup ∧ (∀ i ∈ d.all ++ ds.flatMap HostIds.all, H.length ≤ i) ∧ Same [] H H' else x = .tup [.nilp, .int .i64 1] ∧ Same [] H H') := by
  refine ACalls.enter (fn := Tryz.f54) (N := 86) (rs := [.tmp 4, .tmp 5]) (by kernel_rfl) (by kernel_rfl) rfl rfl (Nat.le_of_ble_eq_true rfl) rfl ?_
  unfold confs clks
  refine AW.lenS 0 rfl fun _ => ?_
  refine AW.lenS 1 rfl fun _ => ?_
  have hcl := confs_len (l := l)
  have hkl := clks_len (l := ks)
  refine AW.sr (by kernel_rfl) fun K1 hK1 => ?_
  simp (disch := ((try simp only [List.length_set, List.length_append, List.length_cons, List.length_nil]); omega)) only [go_sem, w_i64, w_u64, w_i32, w_u32, w_u8, Nat.min_eq_left, Nat.min_eq_right, Nat.reduceBEq, Int.reduceBNe, Int.reduceBEq, Nat.reduceBNe, Nat.reduceAdd, Nat.reduceMul, Nat.reduceSub, Nat.reduceLT, Nat.reduceLeDiff, Nat.reduceEqDiff, Int.reduceLT, Int.reduceLE, Int.reduceEq, Int.reduceToNat, Int.reduceNeg, reduceCtorEq, ↓reduceIte, hp_getL, hp_setL, hp_ne, hp_eq, hp_getS0, hp_getSk, hp_setS0, hp_setSk]
  repeat (apply And.intro; (focus first | trivial | omega | (intros; omega) | (intros; simp_all; done) | (intros; simp_all; omega)))
  refine hK1 _ _ ?_
  try clear hK1 K1
  refine AW.sq fun K2 hK2 => ?_
  refine AW.sr (by kernel_rfl) fun K3 hK3 => ?_
  simp (disch := ((try simp only [List.length_set, List.length_append, List.length_cons, List.length_nil]); omega)) only [go_sem, w_i64, w_u64, w_i32, w_u32, w_u8, Nat.min_eq_left, Nat.min_eq_right, Nat.reduceBEq, Int.reduceBNe, Int.reduceBEq, Nat.reduceBNe, Nat.reduceAdd, Nat.reduceMul, Nat.reduceSub, Nat.reduceLT, Nat.reduceLeDiff, Nat.reduceEqDiff, Int.reduceLT, Int.reduceLE, Int.reduceEq, Int.reduceToNat, Int.reduceNeg, reduceCtorEq, ↓reduceIte, hp_getL, hp_setL, hp_ne, hp_eq, hp_getS0, hp_getSk, hp_setS0, hp_setSk]
  repeat (apply And.intro; (focus first | trivial | omega | (intros; omega) | (intros; simp_all; done) | (intros; simp_all; omega)))
  refine hK3 _ _ ?_
  try clear hK3 K3
  refine AW.cond rfl (fun h => ?_) (fun h => ?_)
  · try simp only [decide_eq_true_eq, decide_eq_false_iff_not, beq_iff_eq, beq_eq_false_iff_ne, bne_iff_ne, bne_eq_false_iff_eq, ne_eq, Bool.and_eq_true, Bool.or_eq_true, Bool.and_eq_false_iff, Bool.or_eq_false_iff, Bool.not_eq_true', Bool.not_eq_false', Int.not_lt, Int.not_le, Decidable.not_not, Bool.not_true, Bool.not_false] at h
    refine AW.sr (by kernel_rfl) fun K4 hK4 => ?_
    simp (disch := ((try simp only [List.length_set, List.length_append, List.length_cons, List.length_nil]); omega)) only [go_sem, w_i64, w_u64, w_i32, w_u32, w_u8, Nat.min_eq_left, Nat.min_eq_right, Nat.reduceBEq, Int.reduceBNe, Int.reduceBEq, Nat.reduceBNe, Nat.reduceAdd, Nat.reduceMul, Nat.reduceSub, Nat.reduceLT, Nat.reduceLeDiff, Nat.reduceEqDiff, Int.reduceLT, Int.reduceLE, Int.reduceEq, Int.reduceToNat, Int.reduceNeg, reduceCtorEq, ↓reduceIte, hp_getL, hp_setL, hp_ne, hp_eq, hp_getS0, hp_getSk, hp_setS0, hp_setSk]
    repeat (apply And.intro; (focus first | trivial | omega | (intros; omega) | (intros; simp_all; done) | (intros; simp_all; omega)))
    refine hK4 _ _ ?_
    try clear hK4 K4
    refine AW.ret ?_
    simp (disch := ((try simp only [List.length_set, List.length_append, List.length_cons, List.length_nil]); omega)) only [go_sem, w_i64, w_u64, w_i32, w_u32, w_u8, Nat.min_eq_left, Nat.min_eq_right, Nat.reduceBEq, Int.reduceBNe, Int.reduceBEq, Nat.reduceBNe, Nat.reduceAdd, Nat.reduceMul, Nat.reduceSub, Nat.reduceLT, Nat.reduceLeDiff, Nat.reduceEqDiff, Int.reduceLT, Int.reduceLE, Int.reduceEq, Int.reduceToNat, Int.reduceNeg, reduceCtorEq, ↓reduceIte, hp_getL, hp_setL, hp_ne, hp_eq, hp_getS0, hp_getSk, hp_setS0, hp_setSk]
    rw [if_neg (by simp only [newOk, Bool.and_eq_true, decide_eq_true_eq]; omega)]; exact Same.refl
  · try simp only [decide_eq_true_eq, decide_eq_false_iff_not, beq_iff_eq, beq_eq_false_iff_ne, bne_iff_ne, bne_eq_false_iff_eq, ne_eq, Bool.and_eq_true, Bool.or_eq_true, Bool.and_eq_false_iff, Bool.or_eq_false_iff, Bool.not_eq_true', Bool.not_eq_false', Int.not_lt, Int.not_le, Decidable.not_not, Bool.not_true, Bool.not_false] at h
    refine AW.skip ?_
    simp (disch := ((try simp only [List.length_set, List.length_append, List.length_cons, List.length_nil]); omega)) only [go_sem, w_i64, w_u64, w_i32, w_u32, w_u8, Nat.min_eq_left, Nat.min_eq_right, Nat.reduceBEq, Int.reduceBNe, Int.reduceBEq, Nat.reduceBNe, Nat.reduceAdd, Nat.reduceMul, Nat.reduceSub, Nat.reduceLT, Nat.reduceLeDiff, Nat.reduceEqDiff, Int.reduceLT, Int.reduceLE, Int.reduceEq, Int.reduceToNat, Int.reduceNeg, reduceCtorEq, ↓reduceIte, hp_getL, hp_setL, hp_ne, hp_eq, hp_getS0, hp_getSk, hp_setS0, hp_setSk]
    refine hK2 _ _ ?_
    try clear hK2 K2
    refine AW.sr (by kernel_rfl) fun K5 hK5 => ?_
    simp (disch := ((try simp only [List.length_set, List.length_append, List.length_cons, List.length_nil]); omega)) only [go_sem, w_i64, w_u64, w_i32, w_u32, w_u8, Nat.min_eq_left, Nat.min_eq_right, Nat.reduceBEq, Int.reduceBNe, Int.reduceBEq, Nat.reduceBNe, Nat.reduceAdd, Nat.reduceMul, Nat.reduceSub, Nat.reduceLT, Nat.reduceLeDiff, Nat.reduceEqDiff, Int.reduceLT, Int.reduceLE, Int.reduceEq, Int.reduceToNat, Int.reduceNeg, reduceCtorEq, ↓reduceIte, hp_getL, hp_setL, hp_ne, hp_eq, hp_getS0, hp_getSk, hp_setS0, hp_setSk]
    repeat (apply And.intro; (focus first | trivial | omega | (intros; omega) | (intros; simp_all; done) | (intros; simp_all; omega)))
    refine hK5 _ _ ?_
    try clear hK5 K5
    refine AW.sq fun K6 hK6 => ?_
    have hle : 1 ≤ l.length ∧ l.length ≤ 16 ∧ l.length = ks.length := by omega
    refine AW.ownCR H.length 0 142 5 (by simp (disch := ((try simp only [List.length_set, List.length_append, List.length_cons, List.length_nil]); omega)) only [go_sem, w_i64, w_u64, w_i32, w_u32, w_u8, Nat.min_eq_left, Nat.min_eq_right, Nat.reduceBEq, Int.reduceBNe, Int.reduceBEq, Nat.reduceBNe, Nat.reduceAdd, Nat.reduceMul, Nat.reduceSub, Nat.reduceLT, Nat.reduceLeDiff, Nat.reduceEqDiff, Int.reduceLT, Int.reduceLE, Int.reduceEq, Int.reduceToNat, Int.reduceNeg, reduceCtorEq, ↓reduceIte, hp_getL, hp_setL, hp_ne, hp_eq, hp_getS0, hp_getSk, hp_setS0, hp_setSk]; rfl) rfl ?_
    simp (disch := ((try simp only [List.length_set, List.length_append, List.length_cons, List.length_nil]); omega)) only [go_sem, w_i64, w_u64, w_i32, w_u32, w_u8, Nat.min_eq_left, Nat.min_eq_right, Nat.reduceBEq, Int.reduceBNe, Int.reduceBEq, Nat.reduceBNe, Nat.reduceAdd, Nat.reduceMul, Nat.reduceSub, Nat.reduceLT, Nat.reduceLeDiff, Nat.reduceEqDiff, Int.reduceLT, Int.reduceLE, Int.reduceEq, Int.reduceToNat, Int.reduceNeg, reduceCtorEq, ↓reduceIte, hp_getL, hp_setL, hp_ne, hp_eq, hp_getS0, hp_getSk, hp_setS0, hp_setSk]
    refine AW.ownCR H.length 2 59 3 (by simp (disch := ((try simp only [List.length_set, List.length_append, List.length_cons, List.length_nil]); omega)) only [go_sem, w_i64, w_u64, w_i32, w_u32, w_u8, Nat.min_eq_left, Nat.min_eq_right, Nat.reduceBEq, Int.reduceBNe, Int.reduceBEq, Nat.reduceBNe, Nat.reduceAdd, Nat.reduceMul, Nat.reduceSub, Nat.reduceLT, Nat.reduceLeDiff, Nat.reduceEqDiff, Int.reduceLT, Int.reduceLE, Int.reduceEq, Int.reduceToNat, Int.reduceNeg, reduceCtorEq, ↓reduceIte, hp_getL, hp_setL, hp_ne, hp_eq, hp_getS0, hp_getSk, hp_setS0, hp_setSk]; rfl) rfl ?_
    simp (disch := ((try simp only [List.length_set, List.length_append, List.length_cons, List.length_nil]); omega)) only [go_sem, w_i64, w_u64, w_i32, w_u32, w_u8, Nat.min_eq_left, Nat.min_eq_right, Nat.reduceBEq, Int.reduceBNe, Int.reduceBEq, Nat.reduceBNe, Nat.reduceAdd, Nat.reduceMul, Nat.reduceSub, Nat.reduceLT, Nat.reduceLeDiff, Nat.reduceEqDiff, Int.reduceLT, Int.reduceLE, Int.reduceEq, Int.reduceToNat, Int.reduceNeg, reduceCtorEq, ↓reduceIte, hp_getL, hp_setL, hp_ne, hp_eq, hp_getS0, hp_getSk, hp_setS0, hp_setSk]
    refine AW.ownCR H.length 3 57 5 (by simp (disch := ((try simp only [List.length_set, List.length_append, List.length_cons, List.length_nil]); omega)) only [go_sem, w_i64, w_u64, w_i32, w_u32, w_u8, Nat.min_eq_left, Nat.min_eq_right, Nat.reduceBEq, Int.reduceBNe, Int.reduceBEq, Nat.reduceBNe, Nat.reduceAdd, Nat.reduceMul, Nat.reduceSub, Nat.reduceLT, Nat.reduceLeDiff, Nat.reduceEqDiff, Int.reduceLT, Int.reduceLE, Int.reduceEq, Int.reduceToNat, Int.reduceNeg, reduceCtorEq, ↓reduceIte, hp_getL, hp_setL, hp_ne, hp_eq, hp_getS0, hp_getSk, hp_setS0, hp_setSk]; rfl) rfl ?_
    simp (disch := ((try simp only [List.length_set, List.length_append, List.length_cons, List.length_nil]); omega)) only [go_sem, w_i64, w_u64, w_i32, w_u32, w_u8, Nat.min_eq_left, Nat.min_eq_right, Nat.reduceBEq, Int.reduceBNe, Int.reduceBEq, Nat.reduceBNe, Nat.reduceAdd, Nat.reduceMul, Nat.reduceSub, Nat.reduceLT, Nat.reduceLeDiff, Nat.reduceEqDiff, Int.reduceLT, Int.reduceLE, Int.reduceEq, Int.reduceToNat, Int.reduceNeg, reduceCtorEq, ↓reduceIte, hp_getL, hp_setL, hp_ne, hp_eq, hp_getS0, hp_getSk, hp_setS0, hp_setSk]
    refine AW.sr (by kernel_rfl) fun K7 hK7 => ?_
    simp (disch := ((try simp only [List.length_set, List.length_append, List.length_cons, List.length_nil]); omega)) only [go_sem, w_i64, w_u64, w_i32, w_u32, w_u8, Nat.min_eq_left, Nat.min_eq_right, Nat.reduceBEq, Int.reduceBNe, Int.reduceBEq, Nat.reduceBNe, Nat.reduceAdd, Nat.reduceMul, Nat.reduceSub, Nat.reduceLT, Nat.reduceLeDiff, Nat.reduceEqDiff, Int.reduceLT, Int.reduceLE, Int.reduceEq, Int.reduceToNat, Int.reduceNeg, reduceCtorEq, ↓reduceIte, hp_getL, hp_setL, hp_ne, hp_eq, hp_getS0, hp_getSk, hp_setS0, hp_setSk]
    repeat (apply And.intro; (focus first | trivial | omega | (intros; omega) | (intros; simp_all; done) | (intros; simp_all; omega)))
    refine hK7 _ _ ?_
    try clear hK7 K7
    refine AW.bloop (fun n r H' => ∃ (i : Nat) (d : WorldIds) (v : Nat) (ds : List HostIds), n = l.length - i ∧ i ≤ l.length ∧ r = [(1, clks ks), (6, .ptr d.wid 0), (28, confs l), (29, .int .i64 l.length), (30, .int .i64 i)] ∧ NewInv H H' l ks i d v ds) l.length ⟨[(1, _), (6, _), (28, _), (29, _), (30, _)], le_cons rfl (le_cons rfl (le_cons rfl (le_cons rfl (le_cons rfl le_nil)))), ?_⟩ fun n l1 G _ hI => ?_
    · refine ⟨0, ⟨H.length, H.length + 1, H.length + 2, H.length + 3⟩, 0, [], by omega, by omega, rfl, ⟨rfl, ⟨by simp (disch := ((try simp only [List.length_set, List.length_append, List.length_cons, List.length_nil]); omega)) only [go_sem, w_i64, w_u64, w_i32, w_u32, w_u8, Nat.min_eq_left, Nat.min_eq_right, Nat.reduceBEq, Int.reduceBNe, Int.reduceBEq, Nat.reduceBNe, Nat.reduceAdd, Nat.reduceMul, Nat.reduceSub, Nat.reduceLT, Nat.reduceLeDiff, Nat.reduceEqDiff, Int.reduceLT, Int.reduceLE, Int.reduceEq, Int.reduceToNat, Int.reduceNeg, reduceCtorEq, ↓reduceIte, hp_getL, hp_setL, hp_ne, hp_eq, hp_getS0, hp_getSk, hp_setS0, hp_setSk]; rfl, by simp (disch := ((try simp only [List.length_set, List.length_append, List.length_cons, List.length_nil]); omega)) only [go_sem, w_i64, w_u64, w_i32, w_u32, w_u8, Nat.min_eq_left, Nat.min_eq_right, Nat.reduceBEq, Int.reduceBNe, Int.reduceBEq, Nat.reduceBNe, Nat.reduceAdd, Nat.reduceMul, Nat.reduceSub, Nat.reduceLT, Nat.reduceLeDiff, Nat.reduceEqDiff, Int.reduceLT, Int.reduceLE, Int.reduceEq, Int.reduceToNat, Int.reduceNeg, reduceCtorEq, ↓reduceIte, hp_getL, hp_setL, hp_ne, hp_eq, hp_getS0, hp_getSk, hp_setS0, hp_setSk]; rfl, by simp (disch := ((try simp only [List.length_set, List.length_append, List.length_cons, List.length_nil]); omega)) only [go_sem, w_i64, w_u64, w_i32, w_u32, w_u8, Nat.min_eq_left, Nat.min_eq_right, Nat.reduceBEq, Int.reduceBNe, Int.reduceBEq, Nat.reduceBNe, Nat.reduceAdd, Nat.reduceMul, Nat.reduceSub, Nat.reduceLT, Nat.reduceLeDiff, Nat.reduceEqDiff, Int.reduceLT, Int.reduceLE, Int.reduceEq, Int.reduceToNat, Int.reduceNeg, reduceCtorEq, ↓reduceIte, hp_getL, hp_setL, hp_ne, hp_eq, hp_getS0, hp_getSk, hp_setS0, hp_setSk]; rfl, by simp (disch := ((try simp only [List.length_set, List.length_append, List.length_cons, List.length_nil]); omega)) only [go_sem, w_i64, w_u64, w_i32, w_u32, w_u8, Nat.min_eq_left, Nat.min_eq_right, Nat.reduceBEq, Int.reduceBNe, Int.reduceBEq, Nat.reduceBNe, Nat.reduceAdd, Nat.reduceMul, Nat.reduceSub, Nat.reduceLT, Nat.reduceLeDiff, Nat.reduceEqDiff, Int.reduceLT, Int.reduceLE, Int.reduceEq, Int.reduceToNat, Int.reduceNeg, reduceCtorEq, ↓reduceIte, hp_getL, hp_setL, hp_ne, hp_eq, hp_getS0, hp_getSk, hp_setS0, hp_setSk]; rfl⟩, fun j h h' => absurd h' (Nat.not_lt_zero _), by simp [WorldIds.all], by simp [WorldIds.all], ?_, fun j _ _ h => by omega⟩⟩
      exact Same.app
    obtain ⟨i, d, v, ds, rfl, hi, rfl, hI⟩ := hI; unfold confs clks
    refine AW.sr (by kernel_rfl) fun K8 hK8 => ?_
    simp (disch := ((try simp only [List.length_set, List.length_append, List.length_cons, List.length_nil]); omega)) only [go_sem, w_i64, w_u64, w_i32, w_u32, w_u8, Nat.min_eq_left, Nat.min_eq_right, Nat.reduceBEq, Int.reduceBNe, Int.reduceBEq, Nat.reduceBNe, Nat.reduceAdd, Nat.reduceMul, Nat.reduceSub, Nat.reduceLT, Nat.reduceLeDiff, Nat.reduceEqDiff, Int.reduceLT, Int.reduceLE, Int.reduceEq, Int.reduceToNat, Int.reduceNeg, reduceCtorEq, ↓reduceIte, hp_getL, hp_setL, hp_ne, hp_eq, hp_getS0, hp_getSk, hp_setS0, hp_setSk]
    repeat (apply And.intro; (focus first | trivial | omega | (intros; omega) | (intros; simp_all; done) | (intros; simp_all; omega)))
    refine hK8 _ _ ?_
    try clear hK8 K8
    refine AW.sq fun K9 hK9 => ?_
    refine AW.cond rfl (fun h => ?_) (fun h => ?_)
    · try simp only [decide_eq_true_eq, decide_eq_false_iff_not, beq_iff_eq, beq_eq_false_iff_ne, bne_iff_ne, bne_eq_false_iff_eq, ne_eq, Bool.and_eq_true, Bool.or_eq_true, Bool.and_eq_false_iff, Bool.or_eq_false_iff, Bool.not_eq_true', Bool.not_eq_false', Int.not_lt, Int.not_le, Decidable.not_not, Bool.not_true, Bool.not_false] at h
      have hlt : i < l.length := by omega
      have hlt' : i < l.length ∧ i < ks.length := by omega
      have hkk := clks_at hlt'.2
      simp only [ClockV.cells] at hkk
      refine AW.skip ?_
      simp (disch := ((try simp only [List.length_set, List.length_append, List.length_cons, List.length_nil]); omega)) only [go_sem, w_i64, w_u64, w_i32, w_u32, w_u8, Nat.min_eq_left, Nat.min_eq_right, Nat.reduceBEq, Int.reduceBNe, Int.reduceBEq, Nat.reduceBNe, Nat.reduceAdd, Nat.reduceMul, Nat.reduceSub, Nat.reduceLT, Nat.reduceLeDiff, Nat.reduceEqDiff, Int.reduceLT, Int.reduceLE, Int.reduceEq, Int.reduceToNat, Int.reduceNeg, reduceCtorEq, ↓reduceIte, hp_getL, hp_setL, hp_ne, hp_eq, hp_getS0, hp_getSk, hp_setS0, hp_setSk]
      refine hK9 _ _ ?_
      try clear hK9 K9
      refine AW.sblock fun K10 hK10 => ?_
      refine AW.sr (by kernel_rfl) fun K11 hK11 => ?_
      simp (disch := ((try simp only [List.length_set, List.length_append, List.length_cons, List.length_nil]); omega)) only [go_sem, w_i64, w_u64, w_i32, w_u32, w_u8, Nat.min_eq_left, Nat.min_eq_right, Nat.reduceBEq, Int.reduceBNe, Int.reduceBEq, Nat.reduceBNe, Nat.reduceAdd, Nat.reduceMul, Nat.reduceSub, Nat.reduceLT, Nat.reduceLeDiff, Nat.reduceEqDiff, Int.reduceLT, Int.reduceLE, Int.reduceEq, Int.reduceToNat, Int.reduceNeg, reduceCtorEq, ↓reduceIte, hp_getL, hp_setL, hp_ne, hp_eq, hp_getS0, hp_getSk, hp_setS0, hp_setSk]
      try simp only [confs_at hlt, List.take_take, Nat.min_self, ConfV.cells]
      try simp (disch := ((try simp only [List.length_set, List.length_append, List.length_cons, List.length_nil]); omega)) only [go_sem, w_i64, w_u64, w_i32, w_u32, w_u8, Nat.min_eq_left, Nat.min_eq_right, Nat.reduceBEq, Int.reduceBNe, Int.reduceBEq, Nat.reduceBNe, Nat.reduceAdd, Nat.reduceMul, Nat.reduceSub, Nat.reduceLT, Nat.reduceLeDiff, Nat.reduceEqDiff, Int.reduceLT, Int.reduceLE, Int.reduceEq, Int.reduceToNat, Int.reduceNeg, reduceCtorEq, ↓reduceIte, hp_getL, hp_setL, hp_ne, hp_eq, hp_getS0, hp_getSk, hp_setS0, hp_setSk]
      try simp only [confs_at hlt, List.take_take, Nat.min_self, ConfV.cells]
      try simp (disch := ((try simp only [List.length_set, List.length_append, List.length_cons, List.length_nil]); omega)) only [go_sem, w_i64, w_u64, w_i32, w_u32, w_u8, Nat.min_eq_left, Nat.min_eq_right, Nat.reduceBEq, Int.reduceBNe, Int.reduceBEq, Nat.reduceBNe, Nat.reduceAdd, Nat.reduceMul, Nat.reduceSub, Nat.reduceLT, Nat.reduceLeDiff, Nat.reduceEqDiff, Int.reduceLT, Int.reduceLE, Int.reduceEq, Int.reduceToNat, Int.reduceNeg, reduceCtorEq, ↓reduceIte, hp_getL, hp_setL, hp_ne, hp_eq, hp_getS0, hp_getSk, hp_setS0, hp_setSk]
      repeat (apply And.intro; (focus first | trivial | omega | (intros; omega) | (intros; simp_all; done) | (intros; simp_all; omega)))
      refine hK11 _ _ ?_
      try clear hK11 K11
      rcases hmay : mayB l[i] with _ | _
      · refine AW.sr (by kernel_rfl) fun K12 hK12 => ?_
        simp (disch := ((try simp only [List.length_set, List.length_append, List.length_cons, List.length_nil]); omega)) only [go_sem, w_i64, w_u64, w_i32, w_u32, w_u8, Nat.min_eq_left, Nat.min_eq_right, Nat.reduceBEq, Int.reduceBNe, Int.reduceBEq, Nat.reduceBNe, Nat.reduceAdd, Nat.reduceMul, Nat.reduceSub, Nat.reduceLT, Nat.reduceLeDiff, Nat.reduceEqDiff, Int.reduceLT, Int.reduceLE, Int.reduceEq, Int.reduceToNat, Int.reduceNeg, reduceCtorEq, ↓reduceIte, hp_getL, hp_setL, hp_ne, hp_eq, hp_getS0, hp_getSk, hp_setS0, hp_setSk]
        repeat (apply And.intro; (focus first | trivial | omega | (intros; omega) | (intros; simp_all; done) | (intros; simp_all; omega)))
        refine (c_hostNew (hc _ (List.getElem_mem hlt))).mono fun x1 H1 _ hx1 => ?_
        rw [if_neg (by simp [hmay])] at hx1
        obtain ⟨rfl, hs1⟩ := hx1
        simp (disch := ((try simp only [List.length_set, List.length_append, List.length_cons, List.length_nil]); omega)) only [go_sem, w_i64, w_u64, w_i32, w_u32, w_u8, Nat.min_eq_left, Nat.min_eq_right, Nat.reduceBEq, Int.reduceBNe, Int.reduceBEq, Nat.reduceBNe, Nat.reduceAdd, Nat.reduceMul, Nat.reduceSub, Nat.reduceLT, Nat.reduceLeDiff, Nat.reduceEqDiff, Int.reduceLT, Int.reduceLE, Int.reduceEq, Int.reduceToNat, Int.reduceNeg, reduceCtorEq, ↓reduceIte, hp_getL, hp_setL, hp_ne, hp_eq, hp_getS0, hp_getSk, hp_setS0, hp_setSk]
        repeat (apply And.intro; (focus first | trivial | omega | (intros; omega) | (intros; simp_all; done) | (intros; simp_all; omega)))
        refine hK12 _ _ ?_
        try clear hK12 K12
        refine AW.sq fun K13 hK13 => ?_
        refine AW.sr (by kernel_rfl) fun K14 hK14 => ?_
        simp (disch := ((try simp only [List.length_set, List.length_append, List.length_cons, List.length_nil]); omega)) only [go_sem, w_i64, w_u64, w_i32, w_u32, w_u8, Nat.min_eq_left, Nat.min_eq_right, Nat.reduceBEq, Int.reduceBNe, Int.reduceBEq, Nat.reduceBNe, Nat.reduceAdd, Nat.reduceMul, Nat.reduceSub, Nat.reduceLT, Nat.reduceLeDiff, Nat.reduceEqDiff, Int.reduceLT, Int.reduceLE, Int.reduceEq, Int.reduceToNat, Int.reduceNeg, reduceCtorEq, ↓reduceIte, hp_getL, hp_setL, hp_ne, hp_eq, hp_getS0, hp_getSk, hp_setS0, hp_setSk, hkk]
        repeat (apply And.intro; (focus first | trivial | omega | (intros; omega) | (intros; simp_all; done) | (intros; simp_all; omega)))
        refine ⟨.junk, ?_⟩
        simp (disch := ((try simp only [List.length_set, List.length_append, List.length_cons, List.length_nil]); omega)) only [go_sem, w_i64, w_u64, w_i32, w_u32, w_u8, Nat.min_eq_left, Nat.min_eq_right, Nat.reduceBEq, Int.reduceBNe, Int.reduceBEq, Nat.reduceBNe, Nat.reduceAdd, Nat.reduceMul, Nat.reduceSub, Nat.reduceLT, Nat.reduceLeDiff, Nat.reduceEqDiff, Int.reduceLT, Int.reduceLE, Int.reduceEq, Int.reduceToNat, Int.reduceNeg, reduceCtorEq, ↓reduceIte, hp_getL, hp_setL, hp_ne, hp_eq, hp_getS0, hp_getSk, hp_setS0, hp_setSk, hkk]
        repeat (apply And.intro; (focus first | trivial | omega | (intros; omega) | (intros; simp_all; done) | (intros; simp_all; omega)))
        refine hK14 _ _ ?_
        try clear hK14 K14
        refine AW.condT rfl ?_
        refine AW.sr (by kernel_rfl) fun K15 hK15 => ?_
        simp (disch := ((try simp only [List.length_set, List.length_append, List.length_cons, List.length_nil]); omega)) only [go_sem, w_i64, w_u64, w_i32, w_u32, w_u8, Nat.min_eq_left, Nat.min_eq_right, Nat.reduceBEq, Int.reduceBNe, Int.reduceBEq, Nat.reduceBNe, Nat.reduceAdd, Nat.reduceMul, Nat.reduceSub, Nat.reduceLT, Nat.reduceLeDiff, Nat.reduceEqDiff, Int.reduceLT, Int.reduceLE, Int.reduceEq, Int.reduceToNat, Int.reduceNeg, reduceCtorEq, ↓reduceIte, hp_getL, hp_setL, hp_ne, hp_eq, hp_getS0, hp_getSk, hp_setS0, hp_setSk]
        repeat (apply And.intro; (focus first | trivial | omega | (intros; omega) | (intros; simp_all; done) | (intros; simp_all; omega)))
        refine hK15 _ _ ?_
        try clear hK15 K15
        refine AW.ret ?_
        simp (disch := ((try simp only [List.length_set, List.length_append, List.length_cons, List.length_nil]); omega)) only [go_sem, w_i64, w_u64, w_i32, w_u32, w_u8, Nat.min_eq_left, Nat.min_eq_right, Nat.reduceBEq, Int.reduceBNe, Int.reduceBEq, Nat.reduceBNe, Nat.reduceAdd, Nat.reduceMul, Nat.reduceSub, Nat.reduceLT, Nat.reduceLeDiff, Nat.reduceEqDiff, Int.reduceLT, Int.reduceLE, Int.reduceEq, Int.reduceToNat, Int.reduceNeg, reduceCtorEq, ↓reduceIte, hp_getL, hp_setL, hp_ne, hp_eq, hp_getS0, hp_getSk, hp_setS0, hp_setSk]
        rw [if_neg (not_newOk hlt' (by simp [hostOk, hmay]))]
        exact ((hI.same.trans Same.app).trans hs1)
      refine AW.sr (by kernel_rfl) fun K12 hK12 => ?_
      simp (disch := ((try simp only [List.length_set, List.length_append, List.length_cons, List.length_nil]); omega)) only [go_sem, w_i64, w_u64, w_i32, w_u32, w_u8, Nat.min_eq_left, Nat.min_eq_right, Nat.reduceBEq, Int.reduceBNe, Int.reduceBEq, Nat.reduceBNe, Nat.reduceAdd, Nat.reduceMul, Nat.reduceSub, Nat.reduceLT, Nat.reduceLeDiff, Nat.reduceEqDiff, Int.reduceLT, Int.reduceLE, Int.reduceEq, Int.reduceToNat, Int.reduceNeg, reduceCtorEq, ↓reduceIte, hp_getL, hp_setL, hp_ne, hp_eq, hp_getS0, hp_getSk, hp_setS0, hp_setSk]
      repeat (apply And.intro; (focus first | trivial | omega | (intros; omega) | (intros; simp_all; done) | (intros; simp_all; omega)))
      refine (c_hostNew (hc _ (List.getElem_mem hlt))).mono fun x1 H1 _ hx1 => ?_
      rw [if_pos hmay] at hx1
      obtain ⟨hd, rfl, hF, hnew, hnod, hsm⟩ := hx1
      simp (disch := ((try simp only [List.length_set, List.length_append, List.length_cons, List.length_nil]); omega)) only [go_sem, w_i64, w_u64, w_i32, w_u32, w_u8, Nat.min_eq_left, Nat.min_eq_right, Nat.reduceBEq, Int.reduceBNe, Int.reduceBEq, Nat.reduceBNe, Nat.reduceAdd, Nat.reduceMul, Nat.reduceSub, Nat.reduceLT, Nat.reduceLeDiff, Nat.reduceEqDiff, Int.reduceLT, Int.reduceLE, Int.reduceEq, Int.reduceToNat, Int.reduceNeg, reduceCtorEq, ↓reduceIte, hp_getL, hp_setL, hp_ne, hp_eq, hp_getS0, hp_getSk, hp_setS0, hp_setSk]
      have hW2 := (hI.world.same (Same.app (S := []) (L := [.cells l[i].cells])) (by simp)).same hsm (by simp)
      obtain ⟨hw2, hp2, hm2, hl2⟩ := hW2
      simp only [worldCells] at hw2
      have nd := wids_ne hI.nodup
      have lw1 := hp_lt hw2
      have lw2 := hp_lt hp2
      have hml : (mkPlaces (l.take i) ks ds).length ≤ 4294967295 := by rw [mkPlaces_len (by rw [List.length_take]; omega) (by rw [hI.len, List.length_take]; omega), List.length_take]; omega
      have hany := mkPlaces_any (l := l.take i) (ks := ks) (ds := ds) (a := l[i].addr) (by rw [List.length_take]; omega) (by rw [hI.len, List.length_take]; omega)
      have hb8 : H1[G.length]? = some (.cells l[i].cells) := hsm.get (by simp; rfl) (by simp)
      simp only [ConfV.cells] at hb8
      repeat (apply And.intro; (focus first | trivial | omega | (intros; omega) | (intros; simp_all; done) | (intros; simp_all; omega)))
      refine hK12 _ _ ?_
      try clear hK12 K12
      refine AW.sq fun K13 hK13 => ?_
      rcases hat : atI (mkPlaces (l.take i) ks ds) l[i].addr with _ | k
      rotate_left
      · have hsome : ((l.take i).any fun b => b.addr == l[i].addr) = true := by rw [← hany, hat]; rfl
        refine AW.sr (by kernel_rfl) fun K14 hK14 => ?_
        simp (disch := ((try simp only [List.length_set, List.length_append, List.length_cons, List.length_nil]); omega)) only [go_sem, w_i64, w_u64, w_i32, w_u32, w_u8, Nat.min_eq_left, Nat.min_eq_right, Nat.reduceBEq, Int.reduceBNe, Int.reduceBEq, Nat.reduceBNe, Nat.reduceAdd, Nat.reduceMul, Nat.reduceSub, Nat.reduceLT, Nat.reduceLeDiff, Nat.reduceEqDiff, Int.reduceLT, Int.reduceLE, Int.reduceEq, Int.reduceToNat, Int.reduceNeg, reduceCtorEq, ↓reduceIte, hp_getL, hp_setL, hp_ne, hp_eq, hp_getS0, hp_getSk, hp_setS0, hp_setSk, hkk, hp2, rowP, hb8]
        repeat (apply And.intro; (focus first | trivial | omega | (intros; omega) | (intros; simp_all; done) | (intros; simp_all; omega)))
        refine Exists.intro _ (And.intro (fun hg => ⟨by (try simp (disch := ((try simp only [List.length_set, List.length_append, List.length_cons, List.length_nil]); omega)) only [go_sem, w_i64, w_u64, w_i32, w_u32, w_u8, Nat.min_eq_left, Nat.min_eq_right, Nat.reduceBEq, Int.reduceBNe, Int.reduceBEq, Nat.reduceBNe, Nat.reduceAdd, Nat.reduceMul, Nat.reduceSub, Nat.reduceLT, Nat.reduceLeDiff, Nat.reduceEqDiff, Int.reduceLT, Int.reduceLE, Int.reduceEq, Int.reduceToNat, Int.reduceNeg, reduceCtorEq, ↓reduceIte, hp_getL, hp_setL, hp_ne, hp_eq, hp_getS0, hp_getSk, hp_setS0, hp_setSk]); (try trivial), ((c_at (a := l[i].addr) hw2 hp2 hml).mono fun x H' _ h => by simpa only [atA, hat] using h)⟩) ?_)
        simp (disch := ((try simp only [List.length_set, List.length_append, List.length_cons, List.length_nil]); omega)) only [go_sem, w_i64, w_u64, w_i32, w_u32, w_u8, Nat.min_eq_left, Nat.min_eq_right, Nat.reduceBEq, Int.reduceBNe, Int.reduceBEq, Nat.reduceBNe, Nat.reduceAdd, Nat.reduceMul, Nat.reduceSub, Nat.reduceLT, Nat.reduceLeDiff, Nat.reduceEqDiff, Int.reduceLT, Int.reduceLE, Int.reduceEq, Int.reduceToNat, Int.reduceNeg, reduceCtorEq, ↓reduceIte, hp_getL, hp_setL, hp_ne, hp_eq, hp_getS0, hp_getSk, hp_setS0, hp_setSk, hkk, hp2, rowP, hb8]
        repeat (apply And.intro; (focus first | trivial | omega | (intros; omega) | (intros; simp_all; done) | (intros; simp_all; omega)))
        refine hK14 _ _ ?_
        try clear hK14 K14
        refine AW.cond rfl (fun h => ?_) (fun h => ?_)
        · refine AW.sr (by kernel_rfl) fun K15 hK15 => ?_
          simp (disch := ((try simp only [List.length_set, List.length_append, List.length_cons, List.length_nil]); omega)) only [go_sem, w_i64, w_u64, w_i32, w_u32, w_u8, Nat.min_eq_left, Nat.min_eq_right, Nat.reduceBEq, Int.reduceBNe, Int.reduceBEq, Nat.reduceBNe, Nat.reduceAdd, Nat.reduceMul, Nat.reduceSub, Nat.reduceLT, Nat.reduceLeDiff, Nat.reduceEqDiff, Int.reduceLT, Int.reduceLE, Int.reduceEq, Int.reduceToNat, Int.reduceNeg, reduceCtorEq, ↓reduceIte, hp_getL, hp_setL, hp_ne, hp_eq, hp_getS0, hp_getSk, hp_setS0, hp_setSk]
          repeat (apply And.intro; (focus first | trivial | omega | (intros; omega) | (intros; simp_all; done) | (intros; simp_all; omega)))
          refine hK15 _ _ ?_
          try clear hK15 K15
          refine AW.ret ?_
          simp (disch := ((try simp only [List.length_set, List.length_append, List.length_cons, List.length_nil]); omega)) only [go_sem, w_i64, w_u64, w_i32, w_u32, w_u8, Nat.min_eq_left, Nat.min_eq_right, Nat.reduceBEq, Int.reduceBNe, Int.reduceBEq, Nat.reduceBNe, Nat.reduceAdd, Nat.reduceMul, Nat.reduceSub, Nat.reduceLT, Nat.reduceLeDiff, Nat.reduceEqDiff, Int.reduceLT, Int.reduceLE, Int.reduceEq, Int.reduceToNat, Int.reduceNeg, reduceCtorEq, ↓reduceIte, hp_getL, hp_setL, hp_ne, hp_eq, hp_getS0, hp_getSk, hp_setS0, hp_setSk]
          rw [if_neg (not_newOk hlt' (by simp [hostOk, hsome]))]
          exact (hI.same.trans Same.app).trans hsm
        · exfalso
          revert h
          cases decide (ks[i].rate < -16) <;> cases decide (16 < ks[i].rate) <;> simp
      refine AW.sr (by kernel_rfl) fun K14 hK14 => ?_
      simp (disch := ((try simp only [List.length_set, List.length_append, List.length_cons, List.length_nil]); omega)) only [go_sem, w_i64, w_u64, w_i32, w_u32, w_u8, Nat.min_eq_left, Nat.min_eq_right, Nat.reduceBEq, Int.reduceBNe, Int.reduceBEq, Nat.reduceBNe, Nat.reduceAdd, Nat.reduceMul, Nat.reduceSub, Nat.reduceLT, Nat.reduceLeDiff, Nat.reduceEqDiff, Int.reduceLT, Int.reduceLE, Int.reduceEq, Int.reduceToNat, Int.reduceNeg, reduceCtorEq, ↓reduceIte, hp_getL, hp_setL, hp_ne, hp_eq, hp_getS0, hp_getSk, hp_setS0, hp_setSk, hkk, hp2, rowP, hb8]
      repeat (apply And.intro; (focus first | trivial | omega | (intros; omega) | (intros; simp_all; done) | (intros; simp_all; omega)))
      refine Exists.intro _ (And.intro (fun hg => ⟨by (try simp (disch := ((try simp only [List.length_set, List.length_append, List.length_cons, List.length_nil]); omega)) only [go_sem, w_i64, w_u64, w_i32, w_u32, w_u8, Nat.min_eq_left, Nat.min_eq_right, Nat.reduceBEq, Int.reduceBNe, Int.reduceBEq, Nat.reduceBNe, Nat.reduceAdd, Nat.reduceMul, Nat.reduceSub, Nat.reduceLT, Nat.reduceLeDiff, Nat.reduceEqDiff, Int.reduceLT, Int.reduceLE, Int.reduceEq, Int.reduceToNat, Int.reduceNeg, reduceCtorEq, ↓reduceIte, hp_getL, hp_setL, hp_ne, hp_eq, hp_getS0, hp_getSk, hp_setS0, hp_setSk]); (try trivial), ((c_at (a := l[i].addr) hw2 hp2 hml).mono fun x H' _ h => by simpa only [atA, hat] using h)⟩) ?_)
      simp (disch := ((try simp only [List.length_set, List.length_append, List.length_cons, List.length_nil]); omega)) only [go_sem, w_i64, w_u64, w_i32, w_u32, w_u8, Nat.min_eq_left, Nat.min_eq_right, Nat.reduceBEq, Int.reduceBNe, Int.reduceBEq, Nat.reduceBNe, Nat.reduceAdd, Nat.reduceMul, Nat.reduceSub, Nat.reduceLT, Nat.reduceLeDiff, Nat.reduceEqDiff, Int.reduceLT, Int.reduceLE, Int.reduceEq, Int.reduceToNat, Int.reduceNeg, reduceCtorEq, ↓reduceIte, hp_getL, hp_setL, hp_ne, hp_eq, hp_getS0, hp_getSk, hp_setS0, hp_setSk, hkk, hp2, rowP, hb8]
      repeat (apply And.intro; (focus first | trivial | omega | (intros; omega) | (intros; simp_all; done) | (intros; simp_all; omega)))
      refine hK14 _ _ ?_
      try clear hK14 K14
      refine AW.cond rfl (fun h => ?_) (fun h => ?_)
      · try simp only [decide_eq_true_eq, decide_eq_false_iff_not, beq_iff_eq, beq_eq_false_iff_ne, bne_iff_ne, bne_eq_false_iff_eq, ne_eq, Bool.and_eq_true, Bool.or_eq_true, Bool.and_eq_false_iff, Bool.or_eq_false_iff, Bool.not_eq_true', Bool.not_eq_false', Int.not_lt, Int.not_le, Decidable.not_not, Bool.not_true, Bool.not_false] at h
        refine AW.sr (by kernel_rfl) fun K15 hK15 => ?_
        simp (disch := ((try simp only [List.length_set, List.length_append, List.length_cons, List.length_nil]); omega)) only [go_sem, w_i64, w_u64, w_i32, w_u32, w_u8, Nat.min_eq_left, Nat.min_eq_right, Nat.reduceBEq, Int.reduceBNe, Int.reduceBEq, Nat.reduceBNe, Nat.reduceAdd, Nat.reduceMul, Nat.reduceSub, Nat.reduceLT, Nat.reduceLeDiff, Nat.reduceEqDiff, Int.reduceLT, Int.reduceLE, Int.reduceEq, Int.reduceToNat, Int.reduceNeg, reduceCtorEq, ↓reduceIte, hp_getL, hp_setL, hp_ne, hp_eq, hp_getS0, hp_getSk, hp_setS0, hp_setSk]
        repeat (apply And.intro; (focus first | trivial | omega | (intros; omega) | (intros; simp_all; done) | (intros; simp_all; omega)))
        refine hK15 _ _ ?_
        try clear hK15 K15
        refine AW.ret ?_
        simp (disch := ((try simp only [List.length_set, List.length_append, List.length_cons, List.length_nil]); omega)) only [go_sem, w_i64, w_u64, w_i32, w_u32, w_u8, Nat.min_eq_left, Nat.min_eq_right, Nat.reduceBEq, Int.reduceBNe, Int.reduceBEq, Nat.reduceBNe, Nat.reduceAdd, Nat.reduceMul, Nat.reduceSub, Nat.reduceLT, Nat.reduceLeDiff, Nat.reduceEqDiff, Int.reduceLT, Int.reduceLE, Int.reduceEq, Int.reduceToNat, Int.reduceNeg, reduceCtorEq, ↓reduceIte, hp_getL, hp_setL, hp_ne, hp_eq, hp_getS0, hp_getSk, hp_setS0, hp_setSk]
        rw [if_neg (not_newOk hlt' (by
          rcases h with h | h
          · have h1 : decide (-16 ≤ ks[i].rate) = false := by simpa using h
            simp [hostOk, h1]
          · have h1 : decide (ks[i].rate ≤ 16) = false := by simpa using h
            simp [hostOk, h1]))]
        exact (hI.same.trans Same.app).trans hsm
      · try simp only [decide_eq_true_eq, decide_eq_false_iff_not, beq_iff_eq, beq_eq_false_iff_ne, bne_iff_ne, bne_eq_false_iff_eq, ne_eq, Bool.and_eq_true, Bool.or_eq_true, Bool.and_eq_false_iff, Bool.or_eq_false_iff, Bool.not_eq_true', Bool.not_eq_false', Int.not_lt, Int.not_le, Decidable.not_not, Bool.not_true, Bool.not_false] at h
        refine AW.skip ?_
        simp (disch := ((try simp only [List.length_set, List.length_append, List.length_cons, List.length_nil]); omega)) only [go_sem, w_i64, w_u64, w_i32, w_u32, w_u8, Nat.min_eq_left, Nat.min_eq_right, Nat.reduceBEq, Int.reduceBNe, Int.reduceBEq, Nat.reduceBNe, Nat.reduceAdd, Nat.reduceMul, Nat.reduceSub, Nat.reduceLT, Nat.reduceLeDiff, Nat.reduceEqDiff, Int.reduceLT, Int.reduceLE, Int.reduceEq, Int.reduceToNat, Int.reduceNeg, reduceCtorEq, ↓reduceIte, hp_getL, hp_setL, hp_ne, hp_eq, hp_getS0, hp_getSk, hp_setS0, hp_setSk]
        refine hK13 _ _ ?_
        try clear hK13 K13
        refine AW.dg [16, 19] (by kernel_rfl) (by kernel_rfl) (by kernel_rfl) fun K16 hK16 => ?_
        simp (disch := ((try simp only [List.length_set, List.length_append, List.length_cons, List.length_nil]); omega)) only [go_sem, w_i64, w_u64, w_i32, w_u32, w_u8, Nat.min_eq_left, Nat.min_eq_right, Nat.reduceBEq, Int.reduceBNe, Int.reduceBEq, Nat.reduceBNe, Nat.reduceAdd, Nat.reduceMul, Nat.reduceSub, Nat.reduceLT, Nat.reduceLeDiff, Nat.reduceEqDiff, Int.reduceLT, Int.reduceLE, Int.reduceEq, Int.reduceToNat, Int.reduceNeg, reduceCtorEq, ↓reduceIte, hp_getL, hp_setL, hp_ne, hp_eq, hp_getS0, hp_getSk, hp_setS0, hp_setSk, hkk, hb8, hw2, hp2, rowP]
        repeat (apply And.intro; (focus first | trivial | omega | (intros; omega) | (intros; simp_all; done) | (intros; simp_all; omega)))
        refine hK16 _ _ ?_
        try clear hK16 K16
        simp (disch := ((try simp only [List.length_set, List.length_append, List.length_cons, List.length_nil]); omega)) only [go_sem, w_i64, w_u64, w_i32, w_u32, w_u8, Nat.min_eq_left, Nat.min_eq_right, Nat.reduceBEq, Int.reduceBNe, Int.reduceBEq, Nat.reduceBNe, Nat.reduceAdd, Nat.reduceMul, Nat.reduceSub, Nat.reduceLT, Nat.reduceLeDiff, Nat.reduceEqDiff, Int.reduceLT, Int.reduceLE, Int.reduceEq, Int.reduceToNat, Int.reduceNeg, reduceCtorEq, ↓reduceIte, hp_getL, hp_setL, hp_ne, hp_eq, hp_getS0, hp_getSk, hp_setS0, hp_setSk]
        refine hK10 _ _ ?_
        try clear hK10 K10
        refine AW.rg (by kernel_rfl) fun K17 hK17 => ?_
        simp (disch := ((try simp only [List.length_set, List.length_append, List.length_cons, List.length_nil]); omega)) only [go_sem, w_i64, w_u64, w_i32, w_u32, w_u8, Nat.min_eq_left, Nat.min_eq_right, Nat.reduceBEq, Int.reduceBNe, Int.reduceBEq, Nat.reduceBNe, Nat.reduceAdd, Nat.reduceMul, Nat.reduceSub, Nat.reduceLT, Nat.reduceLeDiff, Nat.reduceEqDiff, Int.reduceLT, Int.reduceLE, Int.reduceEq, Int.reduceToNat, Int.reduceNeg, reduceCtorEq, ↓reduceIte, hp_getL, hp_setL, hp_ne, hp_eq, hp_getS0, hp_getSk, hp_setS0, hp_setSk]
        repeat (apply And.intro; (focus first | trivial | omega | (intros; omega) | (intros; simp_all; done) | (intros; simp_all; omega)))
        refine hK17 _ _ ?_
        try clear hK17 K17
        simp (disch := ((try simp only [List.length_set, List.length_append, List.length_cons, List.length_nil]); omega)) only [go_sem, w_i64, w_u64, w_i32, w_u32, w_u8, Nat.min_eq_left, Nat.min_eq_right, Nat.reduceBEq, Int.reduceBNe, Int.reduceBEq, Nat.reduceBNe, Nat.reduceAdd, Nat.reduceMul, Nat.reduceSub, Nat.reduceLT, Nat.reduceLeDiff, Nat.reduceEqDiff, Int.reduceLT, Int.reduceLE, Int.reduceEq, Int.reduceToNat, Int.reduceNeg, reduceCtorEq, ↓reduceIte, hp_getL, hp_setL, hp_ne, hp_eq, hp_getS0, hp_getSk, hp_setS0, hp_setSk]
        have hno : ((l.take i).any fun b => b.addr == l[i].addr) = false := by rw [← hany, hat]; rfl
        refine ⟨l.length - (i + 1), by omega, [(1, _), (6, _), (28, _), (29, _), (30, _)], le_cons rfl (le_cons rfl (le_cons rfl (le_cons rfl (le_cons rfl le_nil)))), i + 1, d, v + 1, ds ++ [hd], rfl, by omega, ?_, hI.step hlt' ((Same.app (S := [])).trans hsm) hF (fun j hj => by have := hnew j hj; simp at this; omega) hnod (by simp [hostOk, hmay, hno]; omega) ?_ ?_ ((Same.refl.set (by simp)).set (by simp))⟩
        · (simp (disch := omega) only [go_sem, Nat.min_eq_left, Nat.min_eq_right, Nat.reduceBEq, Int.reduceBNe, Int.reduceBEq, Nat.reduceBNe, Nat.reduceAdd, Nat.reduceMul, Nat.reduceSub, Nat.reduceLT, Nat.reduceLeDiff, Nat.reduceEqDiff, Int.reduceLT, Int.reduceLE, Int.reduceEq, Int.reduceToNat, Int.reduceNeg, reduceCtorEq, ↓reduceIte, List.cons.injEq, Prod.mk.injEq, AV.int.injEq, AV.nums.injEq, AV.bool.injEq]; try omega)
        · rw [hp_eq (by simpa using lw1)]; simp [worldCells]
        · rw [hp_ne nd.1, hp_eq lw2]; simp [rowP, mkPlace, PlaceV.cells]
    · try simp only [decide_eq_true_eq, decide_eq_false_iff_not, beq_iff_eq, beq_eq_false_iff_ne, bne_iff_ne, bne_eq_false_iff_eq, ne_eq, Bool.and_eq_true, Bool.or_eq_true, Bool.and_eq_false_iff, Bool.or_eq_false_iff, Bool.not_eq_true', Bool.not_eq_false', Int.not_lt, Int.not_le, Decidable.not_not, Bool.not_true, Bool.not_false] at h
      refine AW.exit ?_
      simp (disch := ((try simp only [List.length_set, List.length_append, List.length_cons, List.length_nil]); omega)) only [go_sem, w_i64, w_u64, w_i32, w_u32, w_u8, Nat.min_eq_left, Nat.min_eq_right, Nat.reduceBEq, Int.reduceBNe, Int.reduceBEq, Nat.reduceBNe, Nat.reduceAdd, Nat.reduceMul, Nat.reduceSub, Nat.reduceLT, Nat.reduceLeDiff, Nat.reduceEqDiff, Int.reduceLT, Int.reduceLE, Int.reduceEq, Int.reduceToNat, Int.reduceNeg, reduceCtorEq, ↓reduceIte, hp_getL, hp_setL, hp_ne, hp_eq, hp_getS0, hp_getSk, hp_setS0, hp_setSk]
      refine hK6 _ _ ?_
      try clear hK6 K6
      refine AW.sr (by kernel_rfl) fun K18 hK18 => ?_
      simp (disch := ((try simp only [List.length_set, List.length_append, List.length_cons, List.length_nil]); omega)) only [go_sem, w_i64, w_u64, w_i32, w_u32, w_u8, Nat.min_eq_left, Nat.min_eq_right, Nat.reduceBEq, Int.reduceBNe, Int.reduceBEq, Nat.reduceBNe, Nat.reduceAdd, Nat.reduceMul, Nat.reduceSub, Nat.reduceLT, Nat.reduceLeDiff, Nat.reduceEqDiff, Int.reduceLT, Int.reduceLE, Int.reduceEq, Int.reduceToNat, Int.reduceNeg, reduceCtorEq, ↓reduceIte, hp_getL, hp_setL, hp_ne, hp_eq, hp_getS0, hp_getSk, hp_setS0, hp_setSk]
      repeat (apply And.intro; (focus first | trivial | omega | (intros; omega) | (intros; simp_all; done) | (intros; simp_all; omega)))
      refine hK18 _ _ ?_
      try clear hK18 K18
      refine AW.ret ?_
      simp (disch := ((try simp only [List.length_set, List.length_append, List.length_cons, List.length_nil]); omega)) only [go_sem, w_i64, w_u64, w_i32, w_u32, w_u8, Nat.min_eq_left, Nat.min_eq_right, Nat.reduceBEq, Int.reduceBNe, Int.reduceBEq, Nat.reduceBNe, Nat.reduceAdd, Nat.reduceMul, Nat.reduceSub, Nat.reduceLT, Nat.reduceLeDiff, Nat.reduceEqDiff, Int.reduceLT, Int.reduceLE, Int.reduceEq, Int.reduceToNat, Int.reduceNeg, reduceCtorEq, ↓reduceIte, hp_getL, hp_setL, hp_ne, hp_eq, hp_getS0, hp_getSk, hp_setS0, hp_setSk]
      obtain rfl : i = l.length := by omega
      rw [if_pos (hI.newOk hle)]
      have hW := hI.world
      rw [List.take_length] at hW
      exact ⟨d, v, ds, hI.len, rfl, hW, hI.hosts, hI.nodup, hI.new, hI.same⟩


end Go.Av
end
