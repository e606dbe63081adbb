/- Proved here: NetClocksUptoSaid, the law NetClocks where what it reads is of bulk at most 1048576; this text holds a part of its proof. -/
import Derived.Test.YtfahdeckchkpmaaGreatT16
import Derived.Test.YtfahdeckchkpmaaGreatF
section
set_option linter.unusedVariables false
set_option linter.unusedSimpArgs false
set_option maxRecDepth 100000
namespace Go.Av
open Go.Proofs
variable {H : Heap}

def keyA (i s : ByteArray) : AV := .agg [.str i, .str s]
def idxK (cs : List CertV) (i s : ByteArray) : Option Nat := cs.findIdx? fun c => decide (i = c.issuer) && decide (s = c.subject)
def kTyped (kvs : List (Nat × AV × AV)) : Prop := (kvs.all fun p => kTy (.s2 9 9) p.2.1) = true
def KeysOk (kvs : List (Nat × AV × AV)) (cs : List CertV) : Prop := kTyped kvs ∧ ∀ i s, (findI kvs (keyA i s)).map (getM kvs) = (idxK cs i s).map fun k : Nat => AV.int .i64 (k : Int)
theorem KeysOk.nil : KeysOk [] [] := ⟨rfl, fun i s => rfl⟩

def rowC (ver : Nat) (cs : List CertV) : Obj := .row ver 102 9 cs.length (cs.flatMap CertV.cells)
structure StoreAt (H : Heap) (sid mid rid : Nat) (room : Int) (cs : List CertV) : Prop where
  row : ∃ ver, H[sid]? = some (.cells [.int .i64 room, .mref mid, .rref rid ver 0 cs.length]) ∧ H[rid]? = some (rowC ver cs)
  map : ∃ ck kvs, H[mid]? = some (.map ck kvs) ∧ KeysOk kvs cs
  n1 : sid ≠ mid
  n2 : sid ≠ rid
  n3 : mid ≠ rid
theorem StoreAt.same {S : List Nat} {H H' : Heap} {sid mid rid : Nat} {room : Int} {cs : List CertV} (h : StoreAt H sid mid rid room cs) (k : Same S H H') (h1 : sid ∉ S) (h2 : mid ∉ S) (h3 : rid ∉ S) : StoreAt H' sid mid rid room cs := by
  obtain ⟨ver, a, b⟩ := h.row
  obtain ⟨ck, kvs, c, d⟩ := h.map
  exact ⟨⟨ver, k.get a h1, k.get b h3⟩, ⟨ck, kvs, k.get c h2, d⟩, h.n1, h.n2, h.n3⟩

theorem c_trailNew {room : Int} : ACalls Tryz.prog 40 [.int .i64 room] H (fun x H' => if room < 1 ∨ 32 < room then x = .tup [.nilp, .int .i64 1] ∧ H' = H else x = .tup [.ptr (H.length + 1) 0, .int .i64 0] ∧ H' = H ++ [.map 0 [], .cells [.int .i64 room, .mref H.length, .rref (H.length + 2) 0 0 0], rowC 0 []]) := by
  refine ACalls.enter (fn := Tryz.f40) (N := 14) (rs := [.tmp 2, .tmp 3]) (by kernel_rfl) (by kernel_rfl) rfl rfl (Nat.le_of_ble_eq_true rfl) rfl ?_
  refine AW.sr (by kernel_rfl) fun K1 hK1 => ?_
  simp (disch := omega) only [go_sem, w_i64, w_u64, w_i32, w_u32, w_u8, Nat.min_eq_left, Nat.min_eq_right, Nat.reduceBEq, Int.reduceBNe, Int.reduceBEq, Nat.reduceBNe, Nat.reduceAdd, Nat.reduceMul, Nat.reduceSub, Nat.reduceLT, Nat.reduceLeDiff, Nat.reduceEqDiff, Int.reduceLT, Int.reduceLE, Int.reduceEq, Int.reduceToNat, Int.reduceNeg, reduceCtorEq, ↓reduceIte]
  repeat (apply And.intro; (focus first | trivial | omega | (intros; omega) | (intros; simp_all; done) | (intros; simp_all; omega)))
  refine hK1 _ _ ?_
  try clear hK1 K1
  refine AW.sq fun K2 hK2 => ?_
  refine AW.sr (by kernel_rfl) fun K3 hK3 => ?_
  simp (disch := omega) only [go_sem, w_i64, w_u64, w_i32, w_u32, w_u8, Nat.min_eq_left, Nat.min_eq_right, Nat.reduceBEq, Int.reduceBNe, Int.reduceBEq, Nat.reduceBNe, Nat.reduceAdd, Nat.reduceMul, Nat.reduceSub, Nat.reduceLT, Nat.reduceLeDiff, Nat.reduceEqDiff, Int.reduceLT, Int.reduceLE, Int.reduceEq, Int.reduceToNat, Int.reduceNeg, reduceCtorEq, ↓reduceIte]
  repeat (apply And.intro; (focus first | trivial | omega | (intros; omega) | (intros; simp_all; done) | (intros; simp_all; omega)))
  refine hK3 _ _ ?_
  try clear hK3 K3
  refine AW.cond rfl (fun h => ?_) (fun h => ?_)
  · try simp only [decide_eq_true_eq, decide_eq_false_iff_not, beq_iff_eq, beq_eq_false_iff_ne, bne_iff_ne, bne_eq_false_iff_eq, ne_eq, Bool.and_eq_true, Bool.or_eq_true, Bool.and_eq_false_iff, Bool.or_eq_false_iff, Bool.not_eq_true', Bool.not_eq_false', Int.not_lt, Int.not_le, Decidable.not_not, Bool.not_true, Bool.not_false] at h
    refine AW.sr (by kernel_rfl) fun K4 hK4 => ?_
    simp (disch := omega) only [go_sem, w_i64, w_u64, w_i32, w_u32, w_u8, Nat.min_eq_left, Nat.min_eq_right, Nat.reduceBEq, Int.reduceBNe, Int.reduceBEq, Nat.reduceBNe, Nat.reduceAdd, Nat.reduceMul, Nat.reduceSub, Nat.reduceLT, Nat.reduceLeDiff, Nat.reduceEqDiff, Int.reduceLT, Int.reduceLE, Int.reduceEq, Int.reduceToNat, Int.reduceNeg, reduceCtorEq, ↓reduceIte]
    repeat (apply And.intro; (focus first | trivial | omega | (intros; omega) | (intros; simp_all; done) | (intros; simp_all; omega)))
    refine hK4 _ _ ?_
    try clear hK4 K4
    refine AW.ret ?_
    simp (disch := omega) only [go_sem, w_i64, w_u64, w_i32, w_u32, w_u8, Nat.min_eq_left, Nat.min_eq_right, Nat.reduceBEq, Int.reduceBNe, Int.reduceBEq, Nat.reduceBNe, Nat.reduceAdd, Nat.reduceMul, Nat.reduceSub, Nat.reduceLT, Nat.reduceLeDiff, Nat.reduceEqDiff, Int.reduceLT, Int.reduceLE, Int.reduceEq, Int.reduceToNat, Int.reduceNeg, reduceCtorEq, ↓reduceIte]
    rw [if_pos h]; trivial
  · try simp only [decide_eq_true_eq, decide_eq_false_iff_not, beq_iff_eq, beq_eq_false_iff_ne, bne_iff_ne, bne_eq_false_iff_eq, ne_eq, Bool.and_eq_true, Bool.or_eq_true, Bool.and_eq_false_iff, Bool.or_eq_false_iff, Bool.not_eq_true', Bool.not_eq_false', Int.not_lt, Int.not_le, Decidable.not_not, Bool.not_true, Bool.not_false] at h
    refine AW.skip ?_
    simp (disch := omega) only [go_sem, w_i64, w_u64, w_i32, w_u32, w_u8, Nat.min_eq_left, Nat.min_eq_right, Nat.reduceBEq, Int.reduceBNe, Int.reduceBEq, Nat.reduceBNe, Nat.reduceAdd, Nat.reduceMul, Nat.reduceSub, Nat.reduceLT, Nat.reduceLeDiff, Nat.reduceEqDiff, Int.reduceLT, Int.reduceLE, Int.reduceEq, Int.reduceToNat, Int.reduceNeg, reduceCtorEq, ↓reduceIte]
    refine hK2 _ _ ?_
    try clear hK2 K2
    refine AW.sr (by kernel_rfl) fun K5 hK5 => ?_
    simp (disch := omega) only [go_sem, w_i64, w_u64, w_i32, w_u32, w_u8, Nat.min_eq_left, Nat.min_eq_right, Nat.reduceBEq, Int.reduceBNe, Int.reduceBEq, Nat.reduceBNe, Nat.reduceAdd, Nat.reduceMul, Nat.reduceSub, Nat.reduceLT, Nat.reduceLeDiff, Nat.reduceEqDiff, Int.reduceLT, Int.reduceLE, Int.reduceEq, Int.reduceToNat, Int.reduceNeg, reduceCtorEq, ↓reduceIte]
    repeat (apply And.intro; (focus first | trivial | omega | (intros; omega) | (intros; simp_all; done) | (intros; simp_all; omega)))
    refine hK5 _ _ ?_
    try clear hK5 K5
    refine AW.ownCR (H.length + 1) 2 102 9 (by simp (disch := omega) only [go_sem, w_i64, w_u64, w_i32, w_u32, w_u8, Nat.min_eq_left, Nat.min_eq_right, Nat.reduceBEq, Int.reduceBNe, Int.reduceBEq, Nat.reduceBNe, Nat.reduceAdd, Nat.reduceMul, Nat.reduceSub, Nat.reduceLT, Nat.reduceLeDiff, Nat.reduceEqDiff, Int.reduceLT, Int.reduceLE, Int.reduceEq, Int.reduceToNat, Int.reduceNeg, reduceCtorEq, ↓reduceIte]; try rfl) rfl ?_
    simp (disch := omega) only [go_sem, w_i64, w_u64, w_i32, w_u32, w_u8, Nat.min_eq_left, Nat.min_eq_right, Nat.reduceBEq, Int.reduceBNe, Int.reduceBEq, Nat.reduceBNe, Nat.reduceAdd, Nat.reduceMul, Nat.reduceSub, Nat.reduceLT, Nat.reduceLeDiff, Nat.reduceEqDiff, Int.reduceLT, Int.reduceLE, Int.reduceEq, Int.reduceToNat, Int.reduceNeg, reduceCtorEq, ↓reduceIte]
    refine AW.ret ?_
    simp (disch := omega) only [go_sem, w_i64, w_u64, w_i32, w_u32, w_u8, Nat.min_eq_left, Nat.min_eq_right, Nat.reduceBEq, Int.reduceBNe, Int.reduceBEq, Nat.reduceBNe, Nat.reduceAdd, Nat.reduceMul, Nat.reduceSub, Nat.reduceLT, Nat.reduceLeDiff, Nat.reduceEqDiff, Int.reduceLT, Int.reduceLE, Int.reduceEq, Int.reduceToNat, Int.reduceNeg, reduceCtorEq, ↓reduceIte]
    rw [if_neg (by omega)]; rfl


def putE (room : Int) (cs : List CertV) (c : CertV) : Int :=
  if certBad c then 80 else match idxK cs c.issuer c.subject with
  | some k => if c.since < (cs.getD k c).since then 1 else 0
  | none => if room ≤ (cs.length : Int) then 5 else 0
def putL (room : Int) (cs : List CertV) (c : CertV) : List CertV :=
  if certBad c then cs else match idxK cs c.issuer c.subject with
  | some k => if c.since < (cs.getD k c).since then cs else cs.set k c
  | none => if room ≤ (cs.length : Int) then cs else cs ++ [c]
def ixI (cs : List CertV) (i s : ByteArray) : Int := match idxK cs i s with | some k => (k : Int) | none => 0
theorem look_key {kvs : List (Nat × AV × AV)} {cs : List CertV} (h : KeysOk kvs cs) (i s : ByteArray) : lookV kvs (.agg [.str i, .str s]) (.int .i64 0) true = .tup [.int .i64 (ixI cs i s), .bool (idxK cs i s).isSome] := by
  have hk := h.2 i s
  unfold lookV ixI
  unfold keyA at hk
  cases hf : findI kvs (.agg [.str i, .str s]) <;> cases hx : idxK cs i s <;> simp [hf, hx] at hk ⊢
  exact hk
theorem kOk_key {kvs : List (Nat × AV × AV)} (h : kTyped kvs) (i s : ByteArray) : kOk Tryz.prog 182 (.agg [.str i, .str s]) kvs = True := by
  simp only [kOk, kk182, eq_iff_iff, iff_true]
  exact ⟨rfl, h⟩
theorem idxK_some {cs : List CertV} {i s : ByteArray} {k : Nat} (h : idxK cs i s = some k) : ∃ hk : k < cs.length, cs[k].issuer = i ∧ cs[k].subject = s := by
  unfold idxK at h
  rw [List.findIdx?_eq_some_iff_getElem] at h
  obtain ⟨hk, h1, _⟩ := h
  simp at h1
  exact ⟨hk, h1.1.symm, h1.2.symm⟩
theorem idxK_set {cs : List CertV} {k : Nat} {c : CertV} (hk : k < cs.length) (h1 : cs[k].issuer = c.issuer) (h2 : cs[k].subject = c.subject) (i s : ByteArray) : idxK (cs.set k c) i s = idxK cs i s := by
  unfold idxK
  induction cs generalizing k with
  | nil => rfl
  | cons x cs ih =>
    cases k with
    | zero =>
      simp only [List.getElem_cons_zero] at h1 h2
      simp only [List.set_cons_zero, List.findIdx?_cons, h1, h2]
    | succ k =>
      simp only [List.set_cons_succ, List.findIdx?_cons]
      rw [ih (by simpa using hk) (by simpa using h1) (by simpa using h2)]
theorem KeysOk.set {kvs : List (Nat × AV × AV)} {cs : List CertV} {k : Nat} {c : CertV} (h : KeysOk kvs cs) (hk : k < cs.length) (h1 : cs[k].issuer = c.issuer) (h2 : cs[k].subject = c.subject) : KeysOk kvs (cs.set k c) :=
  ⟨h.1, fun i s => by rw [idxK_set hk h1 h2]; exact h.2 i s⟩
theorem findI_app {kvs : List (Nat × AV × AV)} {p : Nat × AV × AV} {x : AV} : findI (kvs ++ [p]) x = (findI kvs x).or (if keq x p.2.1 then some kvs.length else none) := by
  unfold findI
  rw [List.findIdx?_append]
  cases hq : keq x p.2.1 <;> simp [hq]
theorem idxK_app {cs : List CertV} {c : CertV} {i s : ByteArray} : idxK (cs ++ [c]) i s = (idxK cs i s).or (if decide (i = c.issuer) && decide (s = c.subject) then some cs.length else none) := by
  unfold idxK
  rw [List.findIdx?_append]
  cases hq : (decide (i = c.issuer) && decide (s = c.subject)) <;> simp [hq]
theorem KeysOk.push {kvs : List (Nat × AV × AV)} {cs : List CertV} {c : CertV} {ck : Nat} (h : KeysOk kvs cs) : KeysOk (kvs ++ [(ck, .agg [.str c.issuer, .str c.subject], .int .i64 cs.length)]) (cs ++ [c]) := by
  refine ⟨?_, fun i s => ?_⟩
  · have := h.1
    unfold kTyped at this ⊢
    rw [List.all_append, this]
    simp [kTy]
  · have hk := h.2 i s
    rw [findI_app, idxK_app]
    have e : keq (keyA i s) (.agg [.str c.issuer, .str c.subject]) = (decide (i = c.issuer) && decide (s = c.subject)) := rfl
    simp only [e]
    cases hf : findI kvs (keyA i s) with
    | some j =>
      obtain ⟨_, p, _⟩ : ∃ p0 p, kvs[j]? = some p ∧ p0 = p := by
        unfold findI at hf
        rw [List.findIdx?_eq_some_iff_getElem] at hf
        exact ⟨_, _, List.getElem?_eq_getElem hf.1, rfl⟩
      rename_i hp
      have hj := (List.getElem?_eq_some_iff.1 hp.1).1
      cases hx : idxK cs i s with
      | none => rw [hf, hx] at hk; simp at hk
      | some k =>
        rw [hf, hx] at hk
        simp only [Option.map_some, Option.some.injEq, Option.some_or] at hk ⊢
        rw [← hk]
        simp [getM, List.getElem?_append_left hj]
    | none =>
      cases hx : idxK cs i s with
      | some k => rw [hf, hx] at hk; simp at hk
      | none =>
        cases hq : (decide (i = c.issuer) && decide (s = c.subject)) <;> simp [getM]
theorem fld {cs : List CertV} {k j : Nat} (hk : k < cs.length) (hj : j < 9) : (cs.flatMap CertV.cells).getD (k * 9 + j) .junk = cs[k].cells.getD j .junk := flat_getD (f := CertV.cells) (fun x => rfl) hk hj
theorem fset2 {cs : List CertV} {k : Nat} {c : CertV} (hk : k < cs.length) : (cs.flatMap CertV.cells).take (k * 9) ++ (c.cells ++ (cs.flatMap CertV.cells).drop (k * 9 + 9)) = (cs.set k c).flatMap CertV.cells := by
  rw [← List.append_assoc]; exact flat_set (f := CertV.cells) (fun x => rfl) hk
theorem cells_length (c : CertV) : c.cells.length = 9 := rfl
theorem fset {cs : List CertV} {k : Nat} {c : CertV} (hk : k < cs.length) : spliceA (cs.flatMap CertV.cells) (k * 9) c.cells = (cs.set k c).flatMap CertV.cells := flat_set (f := CertV.cells) (fun x => rfl) hk
theorem c_put {sid mid rid : Nat} {room : Int} {cs : List CertV} {c : CertV} (hS : StoreAt H sid mid rid room cs) (hc : c.Ok) (hn : cs.length ≤ 4294967295) : ACalls Tryz.prog 41 [.ptr sid 0, .agg c.cells] H (fun x H' => x = .int .i64 (putE room cs c) ∧ StoreAt H' sid mid rid room (putL room cs c) ∧ Same [sid, mid, rid] H H') := by
  refine ACalls.enter (fn := Tryz.f41) (N := 82) (rs := [.tmp 4]) (by kernel_rfl) (by kernel_rfl) rfl rfl (Nat.le_of_ble_eq_true rfl) rfl ?_
  obtain ⟨ver, hs, hr⟩ := hS.row
  obtain ⟨ck, kvs, hm, hK⟩ := hS.map
  have n1 := hS.n1
  have n2 := hS.n2
  have n3 := hS.n3
  have l1 := hp_lt hs
  have l2 := hp_lt hm
  have l3 := hp_lt hr
  have hcl := certs_len (l := cs)
  have hlook := look_key hK c.issuer c.subject
  have hko := kOk_key hK.1 c.issuer c.subject
  simp only [CertV.cells]
  refine AW.sr (by kernel_rfl) fun K1 hK1 => ?_
  simp (disch := omega) only [go_sem, w_i64, w_u64, w_i32, w_u32, w_u8, Nat.min_eq_left, Nat.min_eq_right, Nat.reduceBEq, Int.reduceBNe, Int.reduceBEq, Nat.reduceBNe, Nat.reduceAdd, Nat.reduceMul, Nat.reduceSub, Nat.reduceLT, Nat.reduceLeDiff, Nat.reduceEqDiff, Int.reduceLT, Int.reduceLE, Int.reduceEq, Int.reduceToNat, Int.reduceNeg, reduceCtorEq, ↓reduceIte, hp_getL, hp_setL, hs, hm, hr, rowC, hlook, hko]
  repeat (apply And.intro; (focus first | trivial | omega | (intros; omega) | (intros; simp_all; done) | (intros; simp_all; omega)))
  refine hK1 _ _ ?_
  try clear hK1 K1
  refine AW.sq fun K2 hK2 => ?_
  refine AW.sr (by kernel_rfl) fun K3 hK3 => ?_
  simp (disch := omega) only [go_sem, w_i64, w_u64, w_i32, w_u32, w_u8, Nat.min_eq_left, Nat.min_eq_right, Nat.reduceBEq, Int.reduceBNe, Int.reduceBEq, Nat.reduceBNe, Nat.reduceAdd, Nat.reduceMul, Nat.reduceSub, Nat.reduceLT, Nat.reduceLeDiff, Nat.reduceEqDiff, Int.reduceLT, Int.reduceLE, Int.reduceEq, Int.reduceToNat, Int.reduceNeg, reduceCtorEq, ↓reduceIte, hp_getL, hp_setL, hs, hm, hr, rowC, hlook, hko]
  repeat (apply And.intro; (focus first | trivial | omega | (intros; omega) | (intros; simp_all; done) | (intros; simp_all; omega)))
  refine (c_smade (q := .rref rid ver 0 cs.length) (r := .int .i64 room) (id := sid) (mid := mid) (by simp (disch := omega) only [go_sem, w_i64, w_u64, w_i32, w_u32, w_u8, Nat.min_eq_left, Nat.min_eq_right, Nat.reduceBEq, Int.reduceBNe, Int.reduceBEq, Nat.reduceBNe, Nat.reduceAdd, Nat.reduceMul, Nat.reduceSub, Nat.reduceLT, Nat.reduceLeDiff, Nat.reduceEqDiff, Int.reduceLT, Int.reduceLE, Int.reduceEq, Int.reduceToNat, Int.reduceNeg, reduceCtorEq, ↓reduceIte, hp_getL, hs]) ⟨ck, kvs, by simp (disch := omega) only [go_sem, w_i64, w_u64, w_i32, w_u32, w_u8, Nat.min_eq_left, Nat.min_eq_right, Nat.reduceBEq, Int.reduceBNe, Int.reduceBEq, Nat.reduceBNe, Nat.reduceAdd, Nat.reduceMul, Nat.reduceSub, Nat.reduceLT, Nat.reduceLeDiff, Nat.reduceEqDiff, Int.reduceLT, Int.reduceLE, Int.reduceEq, Int.reduceToNat, Int.reduceNeg, reduceCtorEq, ↓reduceIte, hp_getL, hm]⟩).mono fun x1 H1 _ hx1 => ?_
  obtain ⟨rfl, hE1⟩ := hx1; subst H1
  simp (disch := omega) only [go_sem, w_i64, w_u64, w_i32, w_u32, w_u8, Nat.min_eq_left, Nat.min_eq_right, Nat.reduceBEq, Int.reduceBNe, Int.reduceBEq, Nat.reduceBNe, Nat.reduceAdd, Nat.reduceMul, Nat.reduceSub, Nat.reduceLT, Nat.reduceLeDiff, Nat.reduceEqDiff, Int.reduceLT, Int.reduceLE, Int.reduceEq, Int.reduceToNat, Int.reduceNeg, reduceCtorEq, ↓reduceIte, hp_getL, hp_setL, hs, hm, hr, rowC, hlook, hko]
  repeat (apply And.intro; (focus first | trivial | omega | (intros; omega) | (intros; simp_all; done) | (intros; simp_all; omega)))
  refine hK3 _ _ ?_
  try clear hK3 K3
  refine AW.condF rfl ?_
  refine AW.skip ?_
  simp (disch := omega) only [go_sem, w_i64, w_u64, w_i32, w_u32, w_u8, Nat.min_eq_left, Nat.min_eq_right, Nat.reduceBEq, Int.reduceBNe, Int.reduceBEq, Nat.reduceBNe, Nat.reduceAdd, Nat.reduceMul, Nat.reduceSub, Nat.reduceLT, Nat.reduceLeDiff, Nat.reduceEqDiff, Int.reduceLT, Int.reduceLE, Int.reduceEq, Int.reduceToNat, Int.reduceNeg, reduceCtorEq, ↓reduceIte, hp_getL, hp_setL, hs, hm, hr, rowC, hlook, hko]
  refine hK2 _ _ ?_
  try clear hK2 K2
  refine AW.sq fun K4 hK4 => ?_
  refine AW.sr (by kernel_rfl) fun K5 hK5 => ?_
  simp (disch := omega) only [go_sem, w_i64, w_u64, w_i32, w_u32, w_u8, Nat.min_eq_left, Nat.min_eq_right, Nat.reduceBEq, Int.reduceBNe, Int.reduceBEq, Nat.reduceBNe, Nat.reduceAdd, Nat.reduceMul, Nat.reduceSub, Nat.reduceLT, Nat.reduceLeDiff, Nat.reduceEqDiff, Int.reduceLT, Int.reduceLE, Int.reduceEq, Int.reduceToNat, Int.reduceNeg, reduceCtorEq, ↓reduceIte, hp_getL, hp_setL, hs, hm, hr, rowC, hlook, hko]
  repeat (apply And.intro; (focus first | trivial | omega | (intros; omega) | (intros; simp_all; done) | (intros; simp_all; omega)))
  refine (c_certRight hc).mono fun x1 H1 _ hx1 => ?_
  obtain ⟨rfl, hE1⟩ := hx1; subst H1
  simp (disch := omega) only [go_sem, w_i64, w_u64, w_i32, w_u32, w_u8, Nat.min_eq_left, Nat.min_eq_right, Nat.reduceBEq, Int.reduceBNe, Int.reduceBEq, Nat.reduceBNe, Nat.reduceAdd, Nat.reduceMul, Nat.reduceSub, Nat.reduceLT, Nat.reduceLeDiff, Nat.reduceEqDiff, Int.reduceLT, Int.reduceLE, Int.reduceEq, Int.reduceToNat, Int.reduceNeg, reduceCtorEq, ↓reduceIte, hp_getL, hp_setL, hs, hm, hr, rowC, hlook, hko]
  repeat (apply And.intro; (focus first | trivial | omega | (intros; omega) | (intros; simp_all; done) | (intros; simp_all; omega)))
  refine hK5 _ _ ?_
  try clear hK5 K5
  refine AW.sr (by kernel_rfl) fun K6 hK6 => ?_
  simp (disch := omega) only [go_sem, w_i64, w_u64, w_i32, w_u32, w_u8, Nat.min_eq_left, Nat.min_eq_right, Nat.reduceBEq, Int.reduceBNe, Int.reduceBEq, Nat.reduceBNe, Nat.reduceAdd, Nat.reduceMul, Nat.reduceSub, Nat.reduceLT, Nat.reduceLeDiff, Nat.reduceEqDiff, Int.reduceLT, Int.reduceLE, Int.reduceEq, Int.reduceToNat, Int.reduceNeg, reduceCtorEq, ↓reduceIte, hp_getL, hp_setL, hs, hm, hr, rowC, hlook, hko]
  repeat (apply And.intro; (focus first | trivial | omega | (intros; omega) | (intros; simp_all; done) | (intros; simp_all; omega)))
  refine hK6 _ _ ?_
  try clear hK6 K6
  refine AW.cond rfl (fun h => ?_) (fun h => ?_)
  · try simp only [decide_eq_true_eq, decide_eq_false_iff_not, beq_iff_eq, beq_eq_false_iff_ne, bne_iff_ne, bne_eq_false_iff_eq, ne_eq, Bool.and_eq_true, Bool.or_eq_true, Bool.and_eq_false_iff, Bool.or_eq_false_iff, Bool.not_eq_true', Bool.not_eq_false', Int.not_lt, Int.not_le, Decidable.not_not, Bool.not_true, Bool.not_false] at h
    refine AW.sr (by kernel_rfl) fun K7 hK7 => ?_
    simp (disch := omega) only [go_sem, w_i64, w_u64, w_i32, w_u32, w_u8, Nat.min_eq_left, Nat.min_eq_right, Nat.reduceBEq, Int.reduceBNe, Int.reduceBEq, Nat.reduceBNe, Nat.reduceAdd, Nat.reduceMul, Nat.reduceSub, Nat.reduceLT, Nat.reduceLeDiff, Nat.reduceEqDiff, Int.reduceLT, Int.reduceLE, Int.reduceEq, Int.reduceToNat, Int.reduceNeg, reduceCtorEq, ↓reduceIte, hp_getL, hp_setL, hs, hm, hr, rowC, hlook, hko]
    repeat (apply And.intro; (focus first | trivial | omega | (intros; omega) | (intros; simp_all; done) | (intros; simp_all; omega)))
    refine hK7 _ _ ?_
    try clear hK7 K7
    refine AW.ret ?_
    simp (disch := omega) only [go_sem, w_i64, w_u64, w_i32, w_u32, w_u8, Nat.min_eq_left, Nat.min_eq_right, Nat.reduceBEq, Int.reduceBNe, Int.reduceBEq, Nat.reduceBNe, Nat.reduceAdd, Nat.reduceMul, Nat.reduceSub, Nat.reduceLT, Nat.reduceLeDiff, Nat.reduceEqDiff, Int.reduceLT, Int.reduceLE, Int.reduceEq, Int.reduceToNat, Int.reduceNeg, reduceCtorEq, ↓reduceIte, hp_getL, hp_setL, hs, hm, hr, rowC, hlook, hko]
    have hb : certBad c = true := by
      cases hb : certBad c with
      | true => rfl
      | false => rw [hb] at h; simp at h
    simp only [putE, putL, hb, if_true]
    exact ⟨trivial, hS.same (Same.app (S := [])) (by simp) (by simp) (by simp), Same.app⟩
  · try simp only [decide_eq_true_eq, decide_eq_false_iff_not, beq_iff_eq, beq_eq_false_iff_ne, bne_iff_ne, bne_eq_false_iff_eq, ne_eq, Bool.and_eq_true, Bool.or_eq_true, Bool.and_eq_false_iff, Bool.or_eq_false_iff, Bool.not_eq_true', Bool.not_eq_false', Int.not_lt, Int.not_le, Decidable.not_not, Bool.not_true, Bool.not_false] at h
    have hb : certBad c = false := by
      cases hb : certBad c with
      | false => rfl
      | true => rw [hb] at h; simp at h
    refine AW.skip ?_
    simp (disch := omega) only [go_sem, w_i64, w_u64, w_i32, w_u32, w_u8, Nat.min_eq_left, Nat.min_eq_right, Nat.reduceBEq, Int.reduceBNe, Int.reduceBEq, Nat.reduceBNe, Nat.reduceAdd, Nat.reduceMul, Nat.reduceSub, Nat.reduceLT, Nat.reduceLeDiff, Nat.reduceEqDiff, Int.reduceLT, Int.reduceLE, Int.reduceEq, Int.reduceToNat, Int.reduceNeg, reduceCtorEq, ↓reduceIte, hp_getL, hp_setL, hs, hm, hr, rowC, hlook, hko]
    refine hK4 _ _ ?_
    try clear hK4 K4
    refine AW.sr (by kernel_rfl) fun K8 hK8 => ?_
    simp (disch := omega) only [go_sem, w_i64, w_u64, w_i32, w_u32, w_u8, Nat.min_eq_left, Nat.min_eq_right, Nat.reduceBEq, Int.reduceBNe, Int.reduceBEq, Nat.reduceBNe, Nat.reduceAdd, Nat.reduceMul, Nat.reduceSub, Nat.reduceLT, Nat.reduceLeDiff, Nat.reduceEqDiff, Int.reduceLT, Int.reduceLE, Int.reduceEq, Int.reduceToNat, Int.reduceNeg, reduceCtorEq, ↓reduceIte, hp_getL, hp_setL, hs, hm, hr, rowC, hlook, hko]
    repeat (apply And.intro; (focus first | trivial | omega | (intros; omega) | (intros; simp_all; done) | (intros; simp_all; omega)))
    refine hK8 _ _ ?_
    try clear hK8 K8
    refine AW.sq fun K9 hK9 => ?_
    refine AW.sd [] (by kernel_rfl) (by kernel_rfl) (by kernel_rfl) fun K10 hK10 => ?_
    simp (disch := omega) only [go_sem, w_i64, w_u64, w_i32, w_u32, w_u8, Nat.min_eq_left, Nat.min_eq_right, Nat.reduceBEq, Int.reduceBNe, Int.reduceBEq, Nat.reduceBNe, Nat.reduceAdd, Nat.reduceMul, Nat.reduceSub, Nat.reduceLT, Nat.reduceLeDiff, Nat.reduceEqDiff, Int.reduceLT, Int.reduceLE, Int.reduceEq, Int.reduceToNat, Int.reduceNeg, reduceCtorEq, ↓reduceIte, hp_getL, hp_setL, hs, hm, hr, rowC, hlook, hko]
    repeat (apply And.intro; (focus first | trivial | omega | (intros; omega) | (intros; simp_all; done) | (intros; simp_all; omega)))
    refine hK10 _ _ ?_
    try clear hK10 K10
    refine AW.sr (by kernel_rfl) fun K11 hK11 => ?_
    simp (disch := omega) only [go_sem, w_i64, w_u64, w_i32, w_u32, w_u8, Nat.min_eq_left, Nat.min_eq_right, Nat.reduceBEq, Int.reduceBNe, Int.reduceBEq, Nat.reduceBNe, Nat.reduceAdd, Nat.reduceMul, Nat.reduceSub, Nat.reduceLT, Nat.reduceLeDiff, Nat.reduceEqDiff, Int.reduceLT, Int.reduceLE, Int.reduceEq, Int.reduceToNat, Int.reduceNeg, reduceCtorEq, ↓reduceIte, hp_getL, hp_setL, hs, hm, hr, rowC, hlook, hko]
    repeat (apply And.intro; (focus first | trivial | omega | (intros; omega) | (intros; simp_all; done) | (intros; simp_all; omega)))
    refine hK11 _ _ ?_
    try clear hK11 K11
    refine AW.cond rfl (fun h => ?_) (fun h => ?_)
    · try simp only [decide_eq_true_eq, decide_eq_false_iff_not, beq_iff_eq, beq_eq_false_iff_ne, bne_iff_ne, bne_eq_false_iff_eq, ne_eq, Bool.and_eq_true, Bool.or_eq_true, Bool.and_eq_false_iff, Bool.or_eq_false_iff, Bool.not_eq_true', Bool.not_eq_false', Int.not_lt, Int.not_le, Decidable.not_not, Bool.not_true, Bool.not_false] at h
      obtain ⟨k, hix⟩ := Option.isSome_iff_exists.1 h
      obtain ⟨hk, e1, e2⟩ := idxK_some hix
      have ei : ixI cs c.issuer c.subject = (k : Int) := by simp [ixI, hix]
      have hf3 : (cs.flatMap CertV.cells).getD (k * 9 + 3) .junk = .int .u32 cs[k].since := fld hk (by omega)
      simp only [ei]
      refine AW.sq fun K12 hK12 => ?_
      refine AW.sd [] (by kernel_rfl) (by kernel_rfl) (by kernel_rfl) fun K13 hK13 => ?_
      simp (disch := omega) only [go_sem, w_i64, w_u64, w_i32, w_u32, w_u8, Nat.min_eq_left, Nat.min_eq_right, Nat.reduceBEq, Int.reduceBNe, Int.reduceBEq, Nat.reduceBNe, Nat.reduceAdd, Nat.reduceMul, Nat.reduceSub, Nat.reduceLT, Nat.reduceLeDiff, Nat.reduceEqDiff, Int.reduceLT, Int.reduceLE, Int.reduceEq, Int.reduceToNat, Int.reduceNeg, reduceCtorEq, ↓reduceIte, hp_getL, hp_setL, hs, hm, hr, rowC, hlook, hko]
      simp only [Int.toNat_natCast, hf3]
      simp (disch := omega) only [go_sem, w_i64, w_u64, w_i32, w_u32, w_u8, Nat.min_eq_left, Nat.min_eq_right, Nat.reduceBEq, Int.reduceBNe, Int.reduceBEq, Nat.reduceBNe, Nat.reduceAdd, Nat.reduceMul, Nat.reduceSub, Nat.reduceLT, Nat.reduceLeDiff, Nat.reduceEqDiff, Int.reduceLT, Int.reduceLE, Int.reduceEq, Int.reduceToNat, Int.reduceNeg, reduceCtorEq, ↓reduceIte, hp_getL, hp_setL, hs, hm, hr, rowC, hlook, hko]
      repeat (apply And.intro; (focus first | trivial | omega | (intros; omega) | (intros; simp_all; done) | (intros; simp_all; omega)))
      refine hK13 _ _ ?_
      try clear hK13 K13
      refine AW.cond rfl (fun h => ?_) (fun h => ?_)
      · try simp only [decide_eq_true_eq, decide_eq_false_iff_not, beq_iff_eq, beq_eq_false_iff_ne, bne_iff_ne, bne_eq_false_iff_eq, ne_eq, Bool.and_eq_true, Bool.or_eq_true, Bool.and_eq_false_iff, Bool.or_eq_false_iff, Bool.not_eq_true', Bool.not_eq_false', Int.not_lt, Int.not_le, Decidable.not_not, Bool.not_true, Bool.not_false] at h
        refine AW.sr (by kernel_rfl) fun K14 hK14 => ?_
        simp (disch := omega) only [go_sem, w_i64, w_u64, w_i32, w_u32, w_u8, Nat.min_eq_left, Nat.min_eq_right, Nat.reduceBEq, Int.reduceBNe, Int.reduceBEq, Nat.reduceBNe, Nat.reduceAdd, Nat.reduceMul, Nat.reduceSub, Nat.reduceLT, Nat.reduceLeDiff, Nat.reduceEqDiff, Int.reduceLT, Int.reduceLE, Int.reduceEq, Int.reduceToNat, Int.reduceNeg, reduceCtorEq, ↓reduceIte, hp_getL, hp_setL, hs, hm, hr, rowC, hlook, hko]
        repeat (apply And.intro; (focus first | trivial | omega | (intros; omega) | (intros; simp_all; done) | (intros; simp_all; omega)))
        refine hK14 _ _ ?_
        try clear hK14 K14
        refine AW.ret ?_
        simp (disch := omega) only [go_sem, w_i64, w_u64, w_i32, w_u32, w_u8, Nat.min_eq_left, Nat.min_eq_right, Nat.reduceBEq, Int.reduceBNe, Int.reduceBEq, Nat.reduceBNe, Nat.reduceAdd, Nat.reduceMul, Nat.reduceSub, Nat.reduceLT, Nat.reduceLeDiff, Nat.reduceEqDiff, Int.reduceLT, Int.reduceLE, Int.reduceEq, Int.reduceToNat, Int.reduceNeg, reduceCtorEq, ↓reduceIte, hp_getL, hp_setL, hs, hm, hr, rowC, hlook, hko]
        simp only [putE, putL, hb, Bool.false_eq_true, if_false, hix, List.getD_eq_getElem?_getD, List.getElem?_eq_getElem hk, Option.getD_some]
        rw [if_pos h, if_pos h]
        exact ⟨rfl, hS.same (Same.app (S := [])) (by simp) (by simp) (by simp), Same.app⟩
      · try simp only [decide_eq_true_eq, decide_eq_false_iff_not, beq_iff_eq, beq_eq_false_iff_ne, bne_iff_ne, bne_eq_false_iff_eq, ne_eq, Bool.and_eq_true, Bool.or_eq_true, Bool.and_eq_false_iff, Bool.or_eq_false_iff, Bool.not_eq_true', Bool.not_eq_false', Int.not_lt, Int.not_le, Decidable.not_not, Bool.not_true, Bool.not_false] at h
        refine AW.skip ?_
        simp (disch := omega) only [go_sem, w_i64, w_u64, w_i32, w_u32, w_u8, Nat.min_eq_left, Nat.min_eq_right, Nat.reduceBEq, Int.reduceBNe, Int.reduceBEq, Nat.reduceBNe, Nat.reduceAdd, Nat.reduceMul, Nat.reduceSub, Nat.reduceLT, Nat.reduceLeDiff, Nat.reduceEqDiff, Int.reduceLT, Int.reduceLE, Int.reduceEq, Int.reduceToNat, Int.reduceNeg, reduceCtorEq, ↓reduceIte, hp_getL, hp_setL, hs, hm, hr, rowC, hlook, hko]
        refine hK12 _ _ ?_
        try clear hK12 K12
        refine AW.sd [8] (by kernel_rfl) (by kernel_rfl) (by kernel_rfl) fun K15 hK15 => ?_
        simp (disch := omega) only [go_sem, w_i64, w_u64, w_i32, w_u32, w_u8, Nat.min_eq_left, Nat.min_eq_right, Nat.reduceBEq, Int.reduceBNe, Int.reduceBEq, Nat.reduceBNe, Nat.reduceAdd, Nat.reduceMul, Nat.reduceSub, Nat.reduceLT, Nat.reduceLeDiff, Nat.reduceEqDiff, Int.reduceLT, Int.reduceLE, Int.reduceEq, Int.reduceToNat, Int.reduceNeg, reduceCtorEq, ↓reduceIte, hp_getL, hp_setL, hs, hm, hr, rowC, hlook, hko]
        repeat (apply And.intro; (focus first | trivial | omega | (intros; omega) | (intros; simp_all; done) | (intros; simp_all; omega)))
        refine Exists.intro _ (And.intro (c_tcopied hc) ?_)
        simp (disch := omega) only [go_sem, w_i64, w_u64, w_i32, w_u32, w_u8, Nat.min_eq_left, Nat.min_eq_right, Nat.reduceBEq, Int.reduceBNe, Int.reduceBEq, Nat.reduceBNe, Nat.reduceAdd, Nat.reduceMul, Nat.reduceSub, Nat.reduceLT, Nat.reduceLeDiff, Nat.reduceEqDiff, Int.reduceLT, Int.reduceLE, Int.reduceEq, Int.reduceToNat, Int.reduceNeg, reduceCtorEq, ↓reduceIte, hp_getL, hp_setL, hs, hm, hr, rowC, hlook, hko]
        repeat (apply And.intro; (focus first | trivial | omega | (intros; omega) | (intros; simp_all; done) | (intros; simp_all; omega)))
        refine hK15 _ _ ?_
        try clear hK15 K15
        refine AW.sr (by kernel_rfl) fun K16 hK16 => ?_
        simp (disch := omega) only [go_sem, w_i64, w_u64, w_i32, w_u32, w_u8, Nat.min_eq_left, Nat.min_eq_right, Nat.reduceBEq, Int.reduceBNe, Int.reduceBEq, Nat.reduceBNe, Nat.reduceAdd, Nat.reduceMul, Nat.reduceSub, Nat.reduceLT, Nat.reduceLeDiff, Nat.reduceEqDiff, Int.reduceLT, Int.reduceLE, Int.reduceEq, Int.reduceToNat, Int.reduceNeg, reduceCtorEq, ↓reduceIte, hp_getL, hp_setL, hs, hm, hr, rowC, hlook, hko]
        repeat (apply And.intro; (focus first | trivial | omega | (intros; omega) | (intros; simp_all; done) | (intros; simp_all; omega)))
        refine hK16 _ _ ?_
        try clear hK16 K16
        refine AW.ret ?_
        simp (disch := omega) only [go_sem, w_i64, w_u64, w_i32, w_u32, w_u8, Nat.min_eq_left, Nat.min_eq_right, Nat.reduceBEq, Int.reduceBNe, Int.reduceBEq, Nat.reduceBNe, Nat.reduceAdd, Nat.reduceMul, Nat.reduceSub, Nat.reduceLT, Nat.reduceLeDiff, Nat.reduceEqDiff, Int.reduceLT, Int.reduceLE, Int.reduceEq, Int.reduceToNat, Int.reduceNeg, reduceCtorEq, ↓reduceIte, hp_getL, hp_setL, hs, hm, hr, rowC, hlook, hko]
        simp only [putE, putL, hb, Bool.false_eq_true, if_false, hix, List.getD_eq_getElem?_getD, List.getElem?_eq_getElem hk, Option.getD_some]
        rw [if_neg (by omega), if_neg (by omega), fset2 hk]
        refine ⟨rfl, ⟨⟨ver, ?_, ?_⟩, ⟨ck, kvs, ?_, hK.set hk e1 e2⟩, n1, n2, n3⟩, (Same.refl.set (by simp)).push⟩
        · rw [hp_getL (by simpa using l1), hp_ne (Ne.symm n2), List.length_set]; exact hs
        · rw [hp_getL (by simpa using l3), hp_eq l3, rowC, List.length_set]
        · rw [hp_getL (by simpa using l2), hp_ne (Ne.symm n3)]; exact hm
    · try simp only [decide_eq_true_eq, decide_eq_false_iff_not, beq_iff_eq, beq_eq_false_iff_ne, bne_iff_ne, bne_eq_false_iff_eq, ne_eq, Bool.and_eq_true, Bool.or_eq_true, Bool.and_eq_false_iff, Bool.or_eq_false_iff, Bool.not_eq_true', Bool.not_eq_false', Int.not_lt, Int.not_le, Decidable.not_not, Bool.not_true, Bool.not_false] at h
      have hin : idxK cs c.issuer c.subject = none := by simpa using h
      refine AW.skip ?_
      simp (disch := omega) only [go_sem, w_i64, w_u64, w_i32, w_u32, w_u8, Nat.min_eq_left, Nat.min_eq_right, Nat.reduceBEq, Int.reduceBNe, Int.reduceBEq, Nat.reduceBNe, Nat.reduceAdd, Nat.reduceMul, Nat.reduceSub, Nat.reduceLT, Nat.reduceLeDiff, Nat.reduceEqDiff, Int.reduceLT, Int.reduceLE, Int.reduceEq, Int.reduceToNat, Int.reduceNeg, reduceCtorEq, ↓reduceIte, hp_getL, hp_setL, hs, hm, hr, rowC, hlook, hko]
      refine hK9 _ _ ?_
      try clear hK9 K9
      refine AW.sq fun K17 hK17 => ?_
      refine AW.sd [] (by kernel_rfl) (by kernel_rfl) (by kernel_rfl) fun K18 hK18 => ?_
      simp (disch := omega) only [go_sem, w_i64, w_u64, w_i32, w_u32, w_u8, Nat.min_eq_left, Nat.min_eq_right, Nat.reduceBEq, Int.reduceBNe, Int.reduceBEq, Nat.reduceBNe, Nat.reduceAdd, Nat.reduceMul, Nat.reduceSub, Nat.reduceLT, Nat.reduceLeDiff, Nat.reduceEqDiff, Int.reduceLT, Int.reduceLE, Int.reduceEq, Int.reduceToNat, Int.reduceNeg, reduceCtorEq, ↓reduceIte, hp_getL, hp_setL, hs, hm, hr, rowC, hlook, hko]
      repeat (apply And.intro; (focus first | trivial | omega | (intros; omega) | (intros; simp_all; done) | (intros; simp_all; omega)))
      refine hK18 _ _ ?_
      try clear hK18 K18
      refine AW.cond rfl (fun h => ?_) (fun h => ?_)
      · try simp only [decide_eq_true_eq, decide_eq_false_iff_not, beq_iff_eq, beq_eq_false_iff_ne, bne_iff_ne, bne_eq_false_iff_eq, ne_eq, Bool.and_eq_true, Bool.or_eq_true, Bool.and_eq_false_iff, Bool.or_eq_false_iff, Bool.not_eq_true', Bool.not_eq_false', Int.not_lt, Int.not_le, Decidable.not_not, Bool.not_true, Bool.not_false] at h
        refine AW.sr (by kernel_rfl) fun K19 hK19 => ?_
        simp (disch := omega) only [go_sem, w_i64, w_u64, w_i32, w_u32, w_u8, Nat.min_eq_left, Nat.min_eq_right, Nat.reduceBEq, Int.reduceBNe, Int.reduceBEq, Nat.reduceBNe, Nat.reduceAdd, Nat.reduceMul, Nat.reduceSub, Nat.reduceLT, Nat.reduceLeDiff, Nat.reduceEqDiff, Int.reduceLT, Int.reduceLE, Int.reduceEq, Int.reduceToNat, Int.reduceNeg, reduceCtorEq, ↓reduceIte, hp_getL, hp_setL, hs, hm, hr, rowC, hlook, hko]
        repeat (apply And.intro; (focus first | trivial | omega | (intros; omega) | (intros; simp_all; done) | (intros; simp_all; omega)))
        refine hK19 _ _ ?_
        try clear hK19 K19
        refine AW.ret ?_
        simp (disch := omega) only [go_sem, w_i64, w_u64, w_i32, w_u32, w_u8, Nat.min_eq_left, Nat.min_eq_right, Nat.reduceBEq, Int.reduceBNe, Int.reduceBEq, Nat.reduceBNe, Nat.reduceAdd, Nat.reduceMul, Nat.reduceSub, Nat.reduceLT, Nat.reduceLeDiff, Nat.reduceEqDiff, Int.reduceLT, Int.reduceLE, Int.reduceEq, Int.reduceToNat, Int.reduceNeg, reduceCtorEq, ↓reduceIte, hp_getL, hp_setL, hs, hm, hr, rowC, hlook, hko]
        simp only [putE, putL, hb, Bool.false_eq_true, if_false, hin]
        rw [if_pos h, if_pos h]
        exact ⟨rfl, hS.same (Same.app (S := [])) (by simp) (by simp) (by simp), Same.app⟩
      · try simp only [decide_eq_true_eq, decide_eq_false_iff_not, beq_iff_eq, beq_eq_false_iff_ne, bne_iff_ne, bne_eq_false_iff_eq, ne_eq, Bool.and_eq_true, Bool.or_eq_true, Bool.and_eq_false_iff, Bool.or_eq_false_iff, Bool.not_eq_true', Bool.not_eq_false', Int.not_lt, Int.not_le, Decidable.not_not, Bool.not_true, Bool.not_false] at h
        refine AW.skip ?_
        simp (disch := omega) only [go_sem, w_i64, w_u64, w_i32, w_u32, w_u8, Nat.min_eq_left, Nat.min_eq_right, Nat.reduceBEq, Int.reduceBNe, Int.reduceBEq, Nat.reduceBNe, Nat.reduceAdd, Nat.reduceMul, Nat.reduceSub, Nat.reduceLT, Nat.reduceLeDiff, Nat.reduceEqDiff, Int.reduceLT, Int.reduceLE, Int.reduceEq, Int.reduceToNat, Int.reduceNeg, reduceCtorEq, ↓reduceIte, hp_getL, hp_setL, hs, hm, hr, rowC, hlook, hko]
        refine hK17 _ _ ?_
        try clear hK17 K17
        refine AW.sd [10] (by kernel_rfl) (by kernel_rfl) (by kernel_rfl) fun K20 hK20 => ?_
        simp (disch := omega) only [go_sem, w_i64, w_u64, w_i32, w_u32, w_u8, Nat.min_eq_left, Nat.min_eq_right, Nat.reduceBEq, Int.reduceBNe, Int.reduceBEq, Nat.reduceBNe, Nat.reduceAdd, Nat.reduceMul, Nat.reduceSub, Nat.reduceLT, Nat.reduceLeDiff, Nat.reduceEqDiff, Int.reduceLT, Int.reduceLE, Int.reduceEq, Int.reduceToNat, Int.reduceNeg, reduceCtorEq, ↓reduceIte, hp_getL, hp_setL, hs, hm, hr, rowC, hlook, hko]
        repeat (apply And.intro; (focus first | trivial | omega | (intros; omega) | (intros; simp_all; done) | (intros; simp_all; omega)))
        refine hK20 _ _ ?_
        try clear hK20 K20
        refine AW.abs (p := fun H1 => H1[sid]? = some (.cells [.int .i64 room, .mref mid, .rref rid ver 0 cs.length]) ∧ H1[rid]? = some (rowC ver cs) ∧ H1[mid]? = some (updM ck kvs (.agg [.str c.issuer, .str c.subject]) (.int .i64 cs.length)) ∧ H1[H.length]? = some (.cells c.cells) ∧ Same [mid] H H1) ⟨by rw [hp_getL (by simpa using l1), hp_ne (Ne.symm n1)]; exact hs, by rw [hp_getL (by simpa using l3), hp_ne n3]; exact hr, by rw [hp_getL (by simpa using l2), hp_eq l2], by rw [List.getElem?_append_right (by simp)]; simp; rfl, (Same.refl.set (by simp)).push⟩ ?_
        rintro H1 ⟨hs1, hr1, hm1, hb1, hsm⟩
        have l4 := hp_lt hs1
        have l5 := hp_lt hr1
        simp only [CertV.cells] at hb1
        refine AW.sd [8, 11] (by kernel_rfl) (by kernel_rfl) (by kernel_rfl) fun K21 hK21 => ?_
        simp (disch := omega) only [go_sem, w_i64, w_u64, w_i32, w_u32, w_u8, Nat.min_eq_left, Nat.min_eq_right, Nat.reduceBEq, Int.reduceBNe, Int.reduceBEq, Nat.reduceBNe, Nat.reduceAdd, Nat.reduceMul, Nat.reduceSub, Nat.reduceLT, Nat.reduceLeDiff, Nat.reduceEqDiff, Int.reduceLT, Int.reduceLE, Int.reduceEq, Int.reduceToNat, Int.reduceNeg, reduceCtorEq, ↓reduceIte, hp_getL, hp_setL, hs, hm, hr, rowC, hlook, hko, hs1, hr1, hb1, hp_ne, hp_eq]
        repeat (apply And.intro; (focus first | trivial | omega | (intros; omega) | (intros; simp_all; done) | (intros; simp_all; omega)))
        refine Exists.intro _ (And.intro (c_tcopied hc) ?_)
        simp (disch := omega) only [go_sem, w_i64, w_u64, w_i32, w_u32, w_u8, Nat.min_eq_left, Nat.min_eq_right, Nat.reduceBEq, Int.reduceBNe, Int.reduceBEq, Nat.reduceBNe, Nat.reduceAdd, Nat.reduceMul, Nat.reduceSub, Nat.reduceLT, Nat.reduceLeDiff, Nat.reduceEqDiff, Int.reduceLT, Int.reduceLE, Int.reduceEq, Int.reduceToNat, Int.reduceNeg, reduceCtorEq, ↓reduceIte, hp_getL, hp_setL, hs, hm, hr, rowC, hlook, hko, hs1, hr1, hb1, hp_ne, hp_eq]
        repeat (apply And.intro; (focus first | trivial | omega | (intros; omega) | (intros; simp_all; done) | (intros; simp_all; omega)))
        refine hK21 _ _ ?_
        try clear hK21 K21
        refine AW.sr (by kernel_rfl) fun K22 hK22 => ?_
        simp (disch := omega) only [go_sem, w_i64, w_u64, w_i32, w_u32, w_u8, Nat.min_eq_left, Nat.min_eq_right, Nat.reduceBEq, Int.reduceBNe, Int.reduceBEq, Nat.reduceBNe, Nat.reduceAdd, Nat.reduceMul, Nat.reduceSub, Nat.reduceLT, Nat.reduceLeDiff, Nat.reduceEqDiff, Int.reduceLT, Int.reduceLE, Int.reduceEq, Int.reduceToNat, Int.reduceNeg, reduceCtorEq, ↓reduceIte, hp_getL, hp_setL, hs, hm, hr, rowC, hlook, hko]
        repeat (apply And.intro; (focus first | trivial | omega | (intros; omega) | (intros; simp_all; done) | (intros; simp_all; omega)))
        refine hK22 _ _ ?_
        try clear hK22 K22
        refine AW.ret ?_
        simp (disch := omega) only [go_sem, w_i64, w_u64, w_i32, w_u32, w_u8, Nat.min_eq_left, Nat.min_eq_right, Nat.reduceBEq, Int.reduceBNe, Int.reduceBEq, Nat.reduceBNe, Nat.reduceAdd, Nat.reduceMul, Nat.reduceSub, Nat.reduceLT, Nat.reduceLeDiff, Nat.reduceEqDiff, Int.reduceLT, Int.reduceLE, Int.reduceEq, Int.reduceToNat, Int.reduceNeg, reduceCtorEq, ↓reduceIte, hp_getL, hp_setL, hs, hm, hr, rowC, hlook, hko]
        simp only [putE, putL, hb, Bool.false_eq_true, if_false, hin]
        rw [if_neg (by omega), if_neg (by omega)]
        have hu : updM ck kvs (.agg [.str c.issuer, .str c.subject]) (.int .i64 cs.length) = .map (ck + 1) (kvs ++ [(ck, .agg [.str c.issuer, .str c.subject], .int .i64 cs.length)]) := by
          have hk := hK.2 c.issuer c.subject
          unfold keyA at hk
          rw [hin] at hk
          cases hf : findI kvs (.agg [.str c.issuer, .str c.subject]) with
          | none => simp [updM, hf]
          | some j => rw [hf] at hk; simp at hk
        rw [hu] at hm1
        refine ⟨rfl, ⟨⟨ver + 1, ?_, ?_⟩, ⟨ck + 1, kvs ++ [(ck, .agg [.str c.issuer, .str c.subject], .int .i64 cs.length)], ?_, hK.push⟩, n1, n2, n3⟩, ((hsm.mono (by simp)).set (by simp)).set (by simp)⟩
        · rw [hp_eq (by simpa using l4), List.length_append]; rfl
        · rw [hp_ne n2, hp_eq l5, rowC, List.flatMap_append, List.length_append]; simp
        · rw [hp_ne n1, hp_ne (Ne.symm n3)]; exact hm1


end Go.Av
end
