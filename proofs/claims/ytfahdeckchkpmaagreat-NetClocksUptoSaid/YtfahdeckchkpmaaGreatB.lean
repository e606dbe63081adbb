/- Proved here: NetClocksUptoSaid, the law NetClocks where what it reads is of bulk at most 1048576; this text holds a part of its proof. -/
import Derived.Test.YtfahdeckchkpmaaGreatAA
import Derived.Deep.Quiet
import Derived.Scope
import Derived.ScopeJumps
section
set_option linter.unusedVariables false
set_option linter.unusedSimpArgs false
open Go.RowKit
namespace Go.Av
variable {P : Program} {m : Hand} {H : Heap} {w : World}

theorem zeroOk {t : TypeId} (h : (tyI P t).zok = true) : ZeroOk P t := by
  intro i z hi hz v hv
  unfold tyI at h
  rw [hi] at h
  simp only [hz, List.all_eq_true] at h
  exact h v hv

theorem under_some {t : TypeId} (h : (tyI P t).kind ≠ .other) : ∃ z, P.underlying t = some z := by
  obtain ⟨d, i, hu, _⟩ := kind_under h
  exact ⟨d, hu⟩

abbrev AF := Nat → AV
def opA (F : AF) : Operand → AV
  | .tmp t => F t
  | .const v => ofV v
  | .func f => .clo f []
  | .global _ => .junk

def pickA (c a b : AV) : AV :=
  match c, a, b with
  | .bool C, .bool p, .bool q => .bool (bif C then p else q)
  | _, _, _ => .junk
def pickP (c a b : AV) : Prop :=
  match c with
  | .bool C => (C = true → a.gd = true) ∧ (C = false → b.gd = true) ∧ (match a.st, b.st with | .bool _, .bool _ => True | _, _ => False)
  | _ => False

def isKind (k : TK) (j : Nat) : Prop :=
  match k, j with
  | .str, 0 => True
  | .array _ _, 1 => True
  | .struct, 2 => True
  | _, _ => False

def mapOps (α : Operand → AV) (ps : Array (Nat × Operand)) : List (Nat × AV) := ps.toList.map fun p => (p.1, α p.2)

/-- a builtin's value -/
def bV (P : Program) (H : Heap) (b : Builtin) (ts : List TypeId) (xs : List AV) : AV :=
  match b, xs with
  | .len, [x] => .int .i64 (lenA H x)
  | .max, [.int k a, .int _ b] => .int k (max a b)
  | .min, [.int k a, .int _ b] => .int k (min a b)
  | .append, [.nils, y] => (match srcA H y with
    | some (k, cs) => (match (tyI P (elemOf' (tyI P (ts.headD 0)))).kind with | .int kd => .nums kd false (numsOf cs) | _ => .sl false k cs)
    | none => .junk)
  | .append, [.sl true n ds, y] => (match srcA H y with
    | some (k, cs) => .sl false (n + k) (ds ++ cs)
    | none => .junk)
  | .append, [.nums kd true xs, y] => (match srcA H y with
    | some (k, cs) => .nums kd false (xs ++ numsOf cs)
    | none => .junk)
  | _, _ => .junk
def apT (P : Program) (H : Heap) (t : TypeId) (n : Nat) (y : AV) (kd : Option IntKind) : Prop :=
  let eI := tyI P (elemOf' (tyI P t))
  (match (tyI P t).kind with | .slice _ => True | _ => False) ∧ 0 < eI.zero.length ∧ eI.zero.length = eI.size ∧
  (match srcA H y with
    | some (k, cs) => cs.length = k * eI.size ∧ n + k ≤ 4611686018427387903 ∧ (n + k) * eI.bytes ≤ 140737488355328 ∧ (match kd with | some kd => eI.size = 1 ∧ allInt kd cs | none => True)
    | none => False)
def bP (P : Program) (H : Heap) (b : Builtin) (ts : List TypeId) (xs : List AV) : Prop :=
  match b, xs with
  | .len, [x] => lenP (tyI P (ts.headD 0)) H x ∧ ts.length = 1
  | .max, [.int _ _, .int _ _] => True
  | .min, [.int _ _, .int _ _] => True
  | .append, [.nils, y] => apT P H (ts.headD 0) 0 y (match (tyI P (elemOf' (tyI P (ts.headD 0)))).kind with | .int kd => some kd | _ => none) ∧ ts = [ts.headD 0, ts.headD 0]
  | .append, [.sl true n ds, y] => apT P H (ts.headD 0) n y none ∧ ts = [ts.headD 0, ts.headD 0] ∧ ds.length = n * (tyI P (elemOf' (tyI P (ts.headD 0)))).size
  | .append, [.nums kd true xs, y] => apT P H (ts.headD 0) xs.length y (some kd) ∧ ts = [ts.headD 0, ts.headD 0]
  | _, _ => False

def lookK (P : Program) (tI : TI) (H : Heap) (x i : AV) (ok : Bool) : AV :=
  match x with
  | .mref id => (match H[id]? with | some (.map _ kvs) => lookV kvs i ((zA P (valT tI)).getD .junk) ok | _ => .junk)
  | _ => .junk
def lookP (P : Program) (tI : TI) (H : Heap) (x i : AV) : Prop :=
  match x with
  | .mref id => (match H[id]? with | some (.map _ kvs) => isMap tI ∧ kOk P (keyT tI) i kvs ∧ (zA P (valT tI)).isSome = true | _ => False)
  | _ => False

def qV (P : Program) (H : Heap) (α : Operand → AV) : Op → AV
  | .move x => α x
  | .assign x => α x
  | .pick c a b => pickA (α c) (α a).st (α b).st
  | .build t ps => buildA (tyI P t) (tyI P (elemOf' (tyI P t))) (mapOps α ps)
  | .buildSlice t n ps => bslA (tyI P (elemOf' (tyI P t))) n (mapOps α ps)
  | .load t a => loadV (tyI P t) H (α a)
  | .nilCheck x => α x
  | .binOp op t x y _ => binV op (α x) (α y)
  | .unOp op _ x => unV op (α x)
  | .convert s d x => convV (tyI P d) (α x)
  | .makeFunc (.func f) _ cs => .clo f (cs.toList.map α)
  | .slice t x lo hi mx => sliceV (tyI P t) (tyI P (elemOf' (tyI P t))) (α x) (lo.map α) (hi.map α) (mx.map α)
  | .fieldAddr t x f => shiftA (α x) ((tyI P t).offs.getD f 0)
  | .field t x f => (match α x with | .agg cs => ld (tyI P ((tyI P t).fts.getD f 0)) cs ((tyI P t).offs.getD f 0) | _ => .junk)
  | .indexAddr t x i => (match α i with | .int _ n => addrV (tyI P (elemOf' (tyI P t))) H (α x) n | _ => .junk)
  | .index t x i => (match α x, α i with
    | .str s, .int _ n => .int .u8 ((strB s).getD n.toNat 0)
    | .agg cs, .int _ n => ld (tyI P (elemOf' (tyI P t))) cs (n.toNat * (tyI P (elemOf' (tyI P t))).size)
    | _, _ => .junk)
  | .extract x i => (match α x with | .tup cs => cs.getD i .junk | _ => .junk)
  | .lookup t x i ok => lookK P (tyI P t) H (α x) (α i) ok
  | .call { callee := .builtin b, args, argTypes } => bV P H b argTypes.toList (args.toList.map α)
  | _ => .junk

def qP (P : Program) (H : Heap) (α : Operand → AV) : Op → Prop
  | .move _ => True
  | .assign _ => True
  | .pick c a b => pickP (α c) (α a) (α b)
  | .build t ps => buildAP (tyI P t) (tyI P (elemOf' (tyI P t))) (mapOps α ps) ∧ (tyI P t).zok = true
  | .buildSlice t n ps => bslP (tyI P t) (tyI P (elemOf' (tyI P t))) n (mapOps α ps) ∧ (tyI P (elemOf' (tyI P t))).zok = true
  | .load t a => loadP (tyI P t) H (α a)
  | .nilCheck x => (match α x with
    | .ptr id _ => alive H id
    | .eptr id ver _ => (match rowOf H id ver with | some _ => True | none => False)
    | .ip _ => True
    | _ => False)
  | .binOp op t x y _ => binP (tyI P t) H op (α x) (α y)
  | .unOp op _ x => unP op (α x)
  | .convert s d x => convP P (tyI P s) (tyI P d) (α x) ∧ (tyI P s).kind ≠ .other
  | .makeFunc (.func _) fs cs => fs = #[] ∧ ∀ x ∈ cs.toList, (α x).scal = true
  | .slice t x lo hi mx => sliceP P (tyI P t) H (α x) (lo.map α) (hi.map α) (mx.map α)
  | .fieldAddr t x f => isKind (tyI P t).kind 2 ∧ f < (tyI P t).offs.length ∧ 0 < (tyI P ((tyI P t).fts.getD f 0)).size ∧ shiftP H (α x) ((tyI P t).offs.getD f 0)
  | .field t x f => isKind (tyI P t).kind 2 ∧ f < (tyI P t).offs.length ∧ (tyI P ((tyI P t).fts.getD f 0)).kind ≠ .other ∧ ((tyI P ((tyI P t).fts.getD f 0)).kind.isAgg = false → (tyI P ((tyI P t).fts.getD f 0)).size = 1) ∧
      (match α x with | .agg cs => (tyI P t).offs.getD f 0 + (tyI P ((tyI P t).fts.getD f 0)).size ≤ cs.length | _ => False)
  | .indexAddr t x i => (match α i with | .int _ n => 0 < (tyI P (elemOf' (tyI P t))).size ∧ addrP (tyI P t) (tyI P (elemOf' (tyI P t))) H (α x) n | _ => False)
  | .index t x i => (match α x, α i with
    | .str s, .int _ n => isKind (tyI P t).kind 0 ∧ 0 ≤ n ∧ n < s.size
    | .agg cs, .int _ n => (match (tyI P t).kind with | .array N e => 0 ≤ n ∧ n < N ∧ (tyI P e).kind ≠ .other ∧ ((tyI P e).kind.isAgg = false → (tyI P e).size = 1) ∧ n.toNat * (tyI P e).size + (tyI P e).size ≤ cs.length | _ => False)
    | _, _ => False)
  | .extract x i => (match α x with | .tup cs => i < cs.length | _ => False)
  | .lookup t x i ok => lookP P (tyI P t) H (α x) (α i)
  | .call { callee := .builtin b, args, argTypes } => bP P H b argTypes.toList (args.toList.map α)
  | _ => False

theorem kind2 {t : TypeId} (h : isKind (tyI P t).kind 2) : (tyI P t).kind = .struct := by
  revert h; unfold isKind; cases (tyI P t).kind <;> simp
theorem kind0 {t : TypeId} (h : isKind (tyI P t).kind 0) : (tyI P t).kind = .str := by
  revert h; unfold isKind; cases (tyI P t).kind <;> simp

theorem VR.whn_st {x : AV} {v : Value} (h : VR m H w x v) (hg : x.gd = true) : VR m H w x.st v := by
  cases h with
  | whn g y v h0 h => exact h hg
  | _ => (first | constructor | skip) <;> assumption

theorem q_val {s : Sem Value} {x : AV} (h : QS P m H w s x) : ∃ v w', (do pure (Next.value (← s)) : Sem Next).run P w = .ok (.value v) w' ∧ VR m H w' x v ∧ Rel m H w' ∧ Ext m H w m H w' := by
  obtain ⟨v, w', h1, h2⟩ := h
  exact ⟨v, w', by simp [h1], h2⟩

end Go.Av
end

section
set_option linter.unusedVariables false
set_option linter.unusedSimpArgs false
open Go.RowKit
namespace Go.Av
variable {P : Program} {m : Hand} {H : Heap} {w : World}

theorem eqGuard_ok {op : BinOp} {t : TypeId} {x y : Operand} {u v : Value} (h1 : ∀ cs ds, u = .agg cs → v ≠ .agg ds) (h2 : u ≠ .nilIface) : (eqGuard op t x y u v).run P w = .ok () w := by
  have key : ∀ b : Bool, (eqGuard op t x y u v).run P w = (eqGuard op t x y u v).run P w := fun _ => rfl
  cases u with
  | nilIface => exact absurd rfl h2
  | agg cs =>
    cases v with
    | agg ds => exact absurd rfl (h1 _ _ rfl)
    | _ => cases op <;> rfl
  | _ => cases op <;> cases v <;> rfl

theorem VR.noagg {x : AV} {v : Value} (h : VR m H w x v) (hx : match x with | .int _ _ | .str _ | .bool _ | .nilp | .nilm | .nils | .ptr _ _ | .nums _ _ _ | .sl _ _ _ | .mref _ => True | _ => False) : v.oneCell' = true ∧ v ≠ .nilIface ∨ x.scal = true ∧ ∃ id o, x = .ptr id o ∨ x = .mref id := by
  cases h <;> simp_all [Value.oneCell', AV.scal]

theorem binP_shape {tI : TI} {op : BinOp} {x y : AV} {u v : Value} (R : Rel m H w) (hx : VR m H w x u) (hp : binP tI H op x y) : (∀ cs, u ≠ .agg cs) ∧ u ≠ .nilIface := by
  unfold binP at hp
  split at hp
  · cases hx; simp
  · cases hx; simp
  · cases hx; simp
  · cases hx; simp
  · obtain ⟨_, ha, _⟩ := hp
    obtain ⟨cs, hc⟩ := alive_sig ha
    obtain ⟨b, c, T, _, rfl, _⟩ := hx.ptr_val R hc
    simp
  · cases hx; simp
  · cases hx; simp
  · cases hx; simp
  · cases hx; simp
  · cases hx; simp
  · rename_i id ver i
    obtain ⟨_, ha, _⟩ := hp
    cases hrow : rowOf H id ver with
    | none => rw [hrow] at ha; exact ha.elim
    | some p =>
      cases hx with
      | eptr _ _ _ _ ho' hl hle h =>
        obtain ⟨b, c, _, rfl⟩ := h p.1 p.2 (VR.row_val R hrow)
        simp
  · cases hx; simp
  · obtain ⟨_, ha, _⟩ := hp
    split at ha
    · rename_i ck kvs hid
      obtain ⟨r, es, hm, _⟩ := R.obj _ _ hid
      cases hx with
      | mref _ _ ho' hl h =>
        have := h (sg_some hid)
        rw [hm] at this
        subst this
        simp
    · exact ha.elim
  · exact hp.elim

theorem src_of {t : TypeId} {n : Nat} {y : AV} {kd : Option IntKind} (h : apT P H t n y kd) : ∃ k cs, srcA H y = some (k, cs) ∧ (tyI P t).kind = .slice (elemOf' (tyI P t)) ∧ 0 < (tyI P (elemOf' (tyI P t))).zero.length ∧ (tyI P (elemOf' (tyI P t))).zero.length = (tyI P (elemOf' (tyI P t))).size ∧
    cs.length = k * (tyI P (elemOf' (tyI P t))).size ∧ n + k ≤ 4611686018427387903 ∧ (n + k) * (tyI P (elemOf' (tyI P t))).bytes ≤ 140737488355328 ∧ (∀ kd', kd = some kd' → (tyI P (elemOf' (tyI P t))).size = 1 ∧ allInt kd' cs) := by
  obtain ⟨h1, h2, h3, h4⟩ := h
  have hk : (tyI P t).kind = .slice (elemOf' (tyI P t)) := by
    cases hq : (tyI P t).kind <;> rw [hq] at h1 <;> first | exact h1.elim | simp [elemOf', hq]
  cases hs : srcA H y with
  | none => rw [hs] at h4; exact h4.elim
  | some p =>
    obtain ⟨k, cs⟩ := p
    rw [hs] at h4
    exact ⟨k, cs, rfl, hk, h2, h3, h4.1, h4.2.1, h4.2.2.1, fun kd' e => by have := h4.2.2.2; rw [e] at this; exact this⟩

theorem q_builtin {b : Builtin} {ts : Array TypeId} {ty : TypeId} {cb : Array Bool} {xs : List AV} {vs : List Value} (R : Rel m H w) (hl : xs.length = vs.length) (hv : ∀ j (h : j < xs.length) (h' : j < vs.length), VR m H w xs[j] vs[j]) (hp : bP P H b ts.toList xs) :
    ∃ v w', (builtin b ts ty cb vs.toArray).run P w = .ok (.value v) w' ∧ VR m H w' (bV P H b ts.toList xs) v ∧ Rel m H w' ∧ Ext m H w m H w' := by
  have one : ∀ x, xs = [x] → ∃ v, vs = [v] ∧ VR m H w x v := by
    rintro x rfl
    match vs, hl with
    | [v], _ => exact ⟨v, rfl, by simpa using hv 0 (by simp) (by simp)⟩
  have two : ∀ x y, xs = [x, y] → ∃ u v, vs = [u, v] ∧ VR m H w x u ∧ VR m H w y v := by
    rintro x y rfl
    match vs, hl with
    | [u, v], _ => exact ⟨u, v, rfl, by simpa using hv 0 (by simp) (by simp), by simpa using hv 1 (by simp) (by simp)⟩
  unfold bP at hp
  split at hp
  · rename_i x
    obtain ⟨v, rfl, h⟩ := one x rfl
    obtain ⟨hp, hlen⟩ := hp
    obtain ⟨t, ht⟩ : ∃ t, ts = #[t] := by
      match hts : ts.toList, hlen with
      | [t], _ => exact ⟨t, by apply Array.ext'; simp [hts]⟩
    subst ht
    exact q_val (q_len R h (by simpa using hp))
  · obtain ⟨u, v, rfl, h1, h2⟩ := two _ _ rfl
    cases h1; cases h2
    exact q_val (q_max (t := #[]) R)
  · obtain ⟨u, v, rfl, h1, h2⟩ := two _ _ rfl
    cases h1; cases h2
    exact q_val (q_min R)
  · rename_i y
    obtain ⟨u, v, rfl, h1, h2⟩ := two _ _ rfl
    obtain ⟨hp, hts⟩ := hp
    generalize ht : ts.toList.headD 0 = t at *
    have hts' : ts = #[t, t] := by apply Array.ext'; simpa using hts
    subst hts'
    obtain ⟨k, cs, hs, hk, a1, a2, a3, a4, a5, a6⟩ := src_of hp
    have main := q_appendT (ty := ty) R h1 h2 (.inl ⟨rfl, rfl, rfl⟩) hs hk a1 a2 rfl (by simp) a3 a4 a5
    have e : bV P H .append [t, t] [.nils, y] = (match (tyI P (elemOf' (tyI P t))).kind with | .int kd => .nums kd false (numsOf cs) | _ => .sl false k cs) := by
      simp [bV, hs]
      first | done | rfl
    show ∃ v w', _ ∧ VR m H w' (bV P H .append [t, t] [.nils, y]) v ∧ _ ∧ _
    rw [e]
    refine q_val ?_
    obtain ⟨v', w', r1, r2, r3⟩ := main
    refine ⟨v', w', r1, ?_, r3⟩
    rw [Nat.zero_add, List.nil_append] at r2
    cases hq : (tyI P (elemOf' (tyI P t))).kind <;> simp only [] <;> try exact r2
    rename_i kd
    obtain ⟨s1, hall⟩ := a6 kd (by rw [hq])
    refine sl_nums ?_
    rw [← allInt_spec hall, numsOf_length]
    rw [s1, Nat.mul_one] at a3
    rw [a3]
    exact r2
  · rename_i n ds y
    obtain ⟨u, v, rfl, h1, h2⟩ := two _ _ rfl
    obtain ⟨hp, hts, hdl⟩ := hp
    generalize ht : ts.toList.headD 0 = t at *
    have hts' : ts = #[t, t] := by apply Array.ext'; simpa using hts
    subst hts'
    obtain ⟨k, cs, hs, hk, a1, a2, a3, a4, a5, a6⟩ := src_of hp
    have main := q_appendT (ty := ty) R h1 h2 (.inr rfl) hs hk a1 a2 rfl hdl a3 a4 a5
    have e : bV P H .append [t, t] [.sl true n ds, y] = .sl false (n + k) (ds ++ cs) := by simp [bV, hs]
    show ∃ v w', _ ∧ VR m H w' (bV P H .append [t, t] [.sl true n ds, y]) v ∧ _ ∧ _
    rw [e]
    exact q_val main
  · rename_i kd xs' y
    obtain ⟨u, v, rfl, h1, h2⟩ := two _ _ rfl
    obtain ⟨hp, hts⟩ := hp
    generalize ht : ts.toList.headD 0 = t at *
    have hts' : ts = #[t, t] := by apply Array.ext'; simpa using hts
    subst hts'
    obtain ⟨k, cs, hs, hk, a1, a2, a3, a4, a5, a6⟩ := src_of hp
    obtain ⟨s1, hall⟩ := a6 kd rfl
    have main := q_appendT (ty := ty) R (nums_sl h1) h2 (.inr rfl) hs hk a1 a2 rfl (by simp [s1]) a3 a4 a5
    have e : bV P H .append [t, t] [.nums kd true xs', y] = .nums kd false (xs' ++ numsOf cs) := by simp [bV, hs]
    show ∃ v w', _ ∧ VR m H w' (bV P H .append [t, t] [.nums kd true xs', y]) v ∧ _ ∧ _
    rw [e]
    refine q_val ?_
    obtain ⟨v', w', r1, r2, r3⟩ := main
    refine ⟨v', w', r1, sl_nums ?_, r3⟩
    rw [List.map_append, ← allInt_spec hall, List.length_append, numsOf_length]
    rw [s1, Nat.mul_one] at a3
    rw [a3]
    exact r2
  · exact hp.elim

theorem mapOps_spec {α : Operand → AV} {ρ : Operand → Value} {ps : Array (Nat × Operand)} (hv : ∀ p ∈ ps.toList, VR m H w (α p.2) (ρ p.2)) :
    (ps.map fun (p : Nat × Operand) => (p.1, ρ p.2)).size = (mapOps α ps).length ∧ ∀ j (h : j < (mapOps α ps).length) (h' : j < (ps.map fun (p : Nat × Operand) => (p.1, ρ p.2)).toList.length), (ps.map fun (p : Nat × Operand) => (p.1, ρ p.2)).toList[j].1 = (mapOps α ps)[j].1 ∧ VR m H w (mapOps α ps)[j].2 (ps.map fun (p : Nat × Operand) => (p.1, ρ p.2)).toList[j].2 := by
  refine ⟨by simp [mapOps], fun j h h' => ?_⟩
  have hj : j < ps.size := by simpa [mapOps] using h
  have := hv ps[j] (by simp)
  simpa [mapOps] using this

theorem qsound {α : Operand → AV} {ρ : Operand → Value} {o : Oper} (R : Rel m H w) (hv : ∀ y ∈ o.op.operands, VR m H w (α y) (ρ y)) (hp : qP P H α o.op) :
    ∃ v w', (execOp ρ o).run P w = .ok (.value v) w' ∧ VR m H w' (qV P H α o.op) v ∧ Rel m H w' ∧ Ext m H w m H w' := by
  obtain ⟨dst, op, type, pos, after, guard⟩ := o
  simp only at hv hp ⊢
  cases op <;> simp only [qP] at hp <;> try exact hp.elim
  case move x => exact ⟨ρ x, w, rfl, hv x (by simp [Op.operands]), R, Ext.refl _ _ _⟩
  case assign x => exact ⟨ρ x, w, rfl, hv x (by simp [Op.operands]), R, Ext.refl _ _ _⟩
  case pick c a b =>
    have hc := hv c (by simp [Op.operands])
    have ha := hv a (by simp [Op.operands])
    have hb := hv b (by simp [Op.operands])
    unfold pickP at hp
    split at hp
    · rename_i C hC
      rw [hC] at hc
      obtain ⟨h1, h2, h3⟩ := hp
      generalize hra : ρ a = ra at *
      generalize hrb : ρ b = rb at *
      generalize hrc : ρ c = rc at *
      cases hc
      split at h3
      · rename_i p q ep eq
        refine ⟨if C then ra else rb, w, ?_, ?_, R, Ext.refl _ _ _⟩
        · simp [execOp, hra, hrb, hrc, asBool]
        · simp only [qV, pickA, hC, ep, eq]
          cases C with
          | true => have := ha.whn_st (h1 rfl); rw [ep] at this; cases this; simp; constructor
          | false => have := hb.whn_st (h2 rfl); rw [eq] at this; cases this; simp; constructor
      · exact h3.elim
    · exact hp.elim
  case build t ps =>
    obtain ⟨s1, s2⟩ := mapOps_spec (m := m) (H := H) (w := w) (α := α) (ρ := ρ) (ps := ps) (fun p hp' => hv p.2 (by simp [Op.operands]; exact ⟨p.1, by simpa using hp'⟩))
    exact q_val (q_build R (zeroOk hp.2) s1 s2 hp.1)
  case buildSlice t n ps =>
    obtain ⟨s1, s2⟩ := mapOps_spec (m := m) (H := H) (w := w) (α := α) (ρ := ρ) (ps := ps) (fun p hp' => hv p.2 (by simp [Op.operands]; exact ⟨p.1, by simpa using hp'⟩))
    exact q_val (q_buildSlice R (zeroOk hp.2) s1 s2 hp.1)
  case load t a => exact q_val (q_load R (hv a (by simp [Op.operands])) hp)
  case nilCheck x =>
    have hx := hv x (by simp [Op.operands])
    refine ⟨ρ x, w, ?_, hx, R, Ext.refl _ _ _⟩
    generalize hr : ρ x = u at *
    have main : ∃ a, u = .pointer (some a) := by
      split at hp
      · rename_i id off hxe
        rw [hxe] at hx
        obtain ⟨cs, hc⟩ := alive_sig hp
        obtain ⟨b, c, T, _, e, _⟩ := hx.ptr_val R hc
        exact ⟨_, e⟩
      · rename_i id ver i hxe
        rw [hxe] at hx
        cases hrow : rowOf H id ver with
        | none => rw [hrow] at hp; exact hp.elim
        | some p =>
          cases hx with
          | eptr _ _ _ _ ho hl hle h =>
            obtain ⟨b, c, _, e⟩ := h p.1 p.2 (VR.row_val R hrow)
            exact ⟨_, e⟩
      · rename_i cs hxe
        rw [hxe] at hx
        cases hx
        exact ⟨_, rfl⟩
      · exact hp.elim
    obtain ⟨a, rfl⟩ := main
    simp [execOp, hr]
  case binOp op t x y yt =>
    have hx := hv x (by simp [Op.operands])
    have hy := hv y (by simp [Op.operands])
    obtain ⟨h1, h2⟩ := binP_shape (v := ρ y) R hx hp
    have hg := eqGuard_ok (P := P) (w := w) (op := op) (t := t) (x := x) (y := y) (u := ρ x) (v := ρ y) (fun cs _ h => absurd h (h1 cs)) h2
    obtain ⟨v, w', r1, r2⟩ := q_binOp (P := P) (t := t) (op := op) R hx hy hp
    exact ⟨v, w', by simp [execOp, hg, r1], r2⟩
  case unOp op t x => exact q_val (q_unOp R (hv x (by simp [Op.operands])) hp)
  case convert s d x => exact q_val (q_convert R (hv x (by simp [Op.operands])) (under_some hp.2) hp.1)
  case makeFunc fn fs cs =>
    cases fn <;> simp only [] at hp <;> try exact hp.elim
    rename_i f
    obtain ⟨rfl, hs⟩ := hp
    refine ⟨.func (.func f) #[] (cs.map ρ), w, by simp [execOp, Instr.makeFunc], ?_, R, Ext.refl _ _ _⟩
    simp only [qV]
    refine .clo _ _ _ (by simp) fun j hj => ?_
    have hj' : j < cs.size := by simpa using hj
    simp [Array.getD, hj']
    exact hv _ (by simp [Op.operands])
  case slice t x lo hi mx =>
    refine q_val (q_slice R (hv x (by simp [Op.operands])) ?_ ?_ ?_ ?_ ?_ ?_ hp)
    · intro y hy
      obtain ⟨z, hz, rfl⟩ := Option.map_eq_some_iff.1 hy
      exact ⟨ρ z, by simp [hz], hv z (by simp [Op.operands, hz])⟩
    · intro h; simp at h; simp [h]
    · intro y hy
      obtain ⟨z, hz, rfl⟩ := Option.map_eq_some_iff.1 hy
      exact ⟨ρ z, by simp [hz], hv z (by simp [Op.operands, hz])⟩
    · intro h; simp at h; simp [h]
    · intro y hy
      obtain ⟨z, hz, rfl⟩ := Option.map_eq_some_iff.1 hy
      exact ⟨ρ z, by simp [hz], hv z (by simp [Op.operands, hz])⟩
    · intro h; simp at h; simp [h]
  case fieldAddr t x f => exact q_val (q_fieldAt R (hv x (by simp [Op.operands])) (kind2 hp.1) hp.2.1 hp.2.2.1 hp.2.2.2)
  case field t x f =>
    obtain ⟨h1, h2, h3, h4, h5⟩ := hp
    cases hxe : α x <;> rw [hxe] at h5 <;> try exact h5.elim
    rename_i cs
    have := q_field (P := P) (t := t) (f := f) R (hv x (by simp [Op.operands])) hxe (kind2 h1) h2 h3 h4 h5
    simp only [qV, hxe]
    exact q_val this
  case indexAddr t x i =>
    cases hie : α i <;> rw [hie] at hp <;> try exact hp.elim
    rename_i k n
    have hi := hv i (by simp [Op.operands])
    rw [hie] at hi
    simp only [qV, hie]
    exact q_val (q_addr R (hv x (by simp [Op.operands])) hi hp.1 hp.2)
  case index t x i =>
    have hi := hv i (by simp [Op.operands])
    have hx := hv x (by simp [Op.operands])
    cases hxe : α x <;> cases hie : α i <;> rw [hxe, hie] at hp <;> try exact hp.elim
    · rename_i s k n
      rw [hxe] at hx; rw [hie] at hi
      simp only [qV, hxe, hie]
      exact q_val (q_index R hx hi rfl rfl (kind0 hp.1) hp.2.1 hp.2.2)
    · rename_i cs k n
      rw [hxe] at hx; rw [hie] at hi
      simp only [qV, hxe, hie]
      simp only [] at hp
      split at hp
      · rename_i N e hk
        obtain ⟨h0, h1, h2, h3, h4⟩ := hp
        have he : elemOf' (tyI P t) = e := by simp [elemOf', hk]
        rw [he]
        exact q_val (q_indexAgg R hx hi rfl rfl hk h0 h1 h2 h3 h4)
      · exact hp.elim
  case lookup t x i ok =>
    have hi := hv i (by simp [Op.operands])
    have hx := hv x (by simp [Op.operands])
    unfold lookP at hp
    split at hp
    · rename_i id hxe
      split at hp
      · rename_i ck kvs hid
        obtain ⟨h1, h2, h3⟩ := hp
        obtain ⟨z, hz⟩ := Option.isSome_iff_exists.1 h3
        rw [hxe] at hx
        have := q_lookup (P := P) (t := t) (ok := ok) R hx hi h1 hid h2 hz
        simp only [qV, lookK, hxe, hid, hz, Option.getD_some]
        exact q_val this
      · exact hp.elim
    · exact hp.elim
  case extract x i =>
    have hx := hv x (by simp [Op.operands])
    cases hxe : α x <;> rw [hxe] at hp <;> try exact hp.elim
    rename_i cs
    simp only [qV, hxe]
    exact q_val (q_extract R hx hxe hp)
  case call c =>
    obtain ⟨callee, args, argTypes⟩ := c
    cases callee <;> simp only [] at hp <;> try exact hp.elim
    rename_i b
    have := q_builtin (P := P) (b := b) (ts := argTypes) (ty := type) (cb := args.map fun | .const _ => true | _ => false) (xs := args.toList.map α) (vs := args.toList.map ρ) R (by simp) (fun j h h' => by
      simp only [List.getElem_map]
      exact hv _ (by simp [Op.operands, Call.operands])) hp
    obtain ⟨v, w', r1, r2⟩ := this
    refine ⟨v, w', ?_, r2⟩
    have e : (args.toList.map ρ).toArray = args.map ρ := by apply Array.ext'; simp
    rw [e] at r1
    simp [execOp, resolve, invoke]
    exact r1

end Go.Av
end

section
set_option linter.unusedVariables false
set_option linter.unusedSimpArgs false
open Go.RowKit
namespace Go.Av
variable {P : Program} {m : Hand} {H : Heap} {w : World}

abbrev Fr := List (Nat × AV)
def lk : Fr → Nat → AV
  | [], _ => .junk
  | (k, x) :: l, t => bif Nat.beq k t then x else lk l t
def pt (l : Fr) (d : Option Tmp) (x : AV) : Fr := match d with | none => l | some d => (d, x) :: l

/-- what a step comes to, K being what is asked of its value and of the heap -/
def Out (m : Hand) (H : Heap) (w : World) (K : AV → Heap → Prop) (v : Value) (w' : World) : Prop :=
  ∃ m' x H', K x H' ∧ VR m' H' w' x v ∧ Rel m' H' w' ∧ Ext m H w m' H' w'
def OpS (P : Program) (m : Hand) (H : Heap) (w : World) (K : AV → Heap → Prop) : Result Next → Prop
  | .ok (.value v) w' => Out m H w K v w'
  | .ok .skip w' => Out m H w K undef w'
  | .ok (.enter f args) w' => Calls P f args w' fun e w'' => ∃ v, e = .returned v ∧ Out m H w K v w''
  | _ => False

theorem Out.mono {K K' : AV → Heap → Prop} {v : Value} {w' : World} (h : Out m H w K v w') (hk : ∀ x H', H.length ≤ H'.length → K x H' → K' x H') : Out m H w K' v w' :=
  let ⟨m', x, H', h1, h2, h3, h4⟩ := h
  ⟨m', x, H', hk _ _ h4.len h1, h2, h3, h4⟩
theorem OpS.mono {K K' : AV → Heap → Prop} {r : Result Next} (h : OpS P m H w K r) (hk : ∀ x H', H.length ≤ H'.length → K x H' → K' x H') : OpS P m H w K' r := by
  unfold OpS at *
  split at h
  · exact h.mono hk
  · exact h.mono hk
  · exact h.mono fun e w' ⟨v, hv, ho⟩ => ⟨v, hv, ho.mono hk⟩
  · exact False.elim h

/-- the contract of a call -/
def ACalls (P : Program) (f : FuncId) (xs : List AV) (H : Heap) (R : AV → Heap → Prop) : Prop :=
  ∀ m w (vs : Array Value), Rel m H w → vs.size = xs.length → (∀ j (h : j < xs.length), VR m H w xs[j] (vs.getD j undef)) → OpS P m H w R ((callFunc f vs).run P w)

theorem ACalls.mono {f : FuncId} {xs : List AV} {R R' : AV → Heap → Prop} (h : ACalls P f xs H R) (hr : ∀ x H', H.length ≤ H'.length → R x H' → R' x H') : ACalls P f xs H R' :=
  fun m w vs hR hl hv => (h m w vs hR hl hv).mono hr

def callQ (P : Program) (f : FuncId) (xs : List AV) (H : Heap) (K : AV → Heap → Prop) : Prop :=
  ∃ x, ACalls P f xs H (fun y H' => y = x ∧ H' = H) ∧ K x H

def storeK (tI : TI) (H : Heap) (a x : AV) (K : AV → Heap → Prop) : Prop :=
  tI.kind ≠ .other ∧
  match a with
  | .ptr id off => (match H[id]? with
    | some (.cells cs) => x.clOk = true ∧ tI.size = x.cl.length ∧ off + x.cl.length ≤ cs.length ∧ K .junk (H.set id (.cells (spliceA cs off x.cl)))
    | _ => False)
  | .eptr id ver i => (match H[id]? with
    | some (.row v e sz n cs) => v = ver ∧ x.clOk = true ∧ tI.size = x.cl.length ∧ i + x.cl.length ≤ cs.length ∧ K .junk (H.set id (.row v e sz n (spliceA cs i x.cl)))
    | some (.nrow v e k xs) => (match x with | .int k' a => v = ver ∧ k' = k ∧ tI.size = 1 ∧ i < xs.length ∧ K .junk (H.set id (.nrow v e k (xs.set i a))) | _ => False)
    | _ => False)
  | _ => False

def appK (P : Program) (H : Heap) (ts : List TypeId) (x y : AV) (K : AV → Heap → Prop) : Prop :=
  match x with
  | .rref id ver off n => (match H[id]?, srcA H y with
    | some o, some (k, cs) => off = 0 ∧ ts = [ts.headD 0, ts.headD 0] ∧ appP (tyI P (ts.headD 0)) (tyI P (elemOf' (tyI P (ts.headD 0)))) (elemOf' (tyI P (ts.headD 0))) o ver n k cs ∧ K (.rref id (ver + 1) 0 (n + k)) (H.set id (appObj o k cs))
    | _, _ => False)
  | x => bP P H .append ts [x, y] ∧ K (bV P H .append ts [x, y]) H

def delK (P : Program) (H : Heap) (ts : List TypeId) (a x : AV) (K : AV → Heap → Prop) : Prop :=
  match a with
  | .mref id => (match H[id]? with
    | some (.map ck kvs) => ts.length = 2 ∧ isMap (tyI P (ts.headD 0)) ∧ kOk P (keyT (tyI P (ts.headD 0))) x kvs ∧ K (.tup []) (H.set id (delM ck kvs x))
    | _ => False)
  | _ => False
def mupK (P : Program) (tI : TI) (H : Heap) (a x y : AV) (K : AV → Heap → Prop) : Prop :=
  match a with
  | .mref id => (match H[id]? with
    | some (.map ck kvs) => isMap tI ∧ kOk P (keyT tI) x kvs ∧ K .junk (H.set id (updM ck kvs x y))
    | _ => False)
  | _ => False
def entK (P : Program) (tI : TI) (H : Heap) (a x : AV) (K : AV → Heap → Prop) : Prop :=
  match a with
  | .mref id => (match H[id]? with
    | some (.map ck kvs) => isMap tI ∧ kOk P (keyT tI) x kvs ∧ (zA P (valT tI)).isSome = true ∧ K (entV ck kvs x ((zA P (valT tI)).getD .junk)) (H.set id (entM ck kvs x ((zA P (valT tI)).getD .junk)))
    | _ => False)
  | _ => False
def enstK (H : Heap) (a s y : AV) (K : AV → Heap → Prop) : Prop :=
  match a, s with
  | .mref id, .int _ n => (match H[id]? with
    | some (.map ck kvs) => (match bornI kvs n with
      | some i => K .junk (H.set id (.map ck (kvs.modify i fun p => (p.1, p.2.1, y))))
      | none => False)
    | _ => False)
  | _, _ => False

def bK (P : Program) (H : Heap) (b : Builtin) (ts : List TypeId) (xs : List AV) (K : AV → Heap → Prop) : Prop :=
  match b, xs with
  | .append, [x, y] => appK P H ts x y K
  | .delete, [a, x] => delK P H ts a x K
  | b, xs => bP P H b ts xs ∧ K (bV P H b ts xs) H

def isNeq : BinOp → Bool
  | .neq => true
  | _ => false
/-- comparing with nil: an empty slice may be nil or not -/
def binK (P : Program) (H : Heap) (op : BinOp) (t : TypeId) (x y : AV) (K : AV → Heap → Prop) : Prop :=
  match x, y with
  | .nums _ _ xs, .nils => ((op = .eql ∨ op = .neq) ∧ match (tyI P t).kind with | .slice _ => True | _ => False) ∧ ∀ b, (0 < xs.length → b = isNeq op) → K (.bool b) H
  | .sl _ _ cs, .nils => ((op = .eql ∨ op = .neq) ∧ match (tyI P t).kind with | .slice _ => True | _ => False) ∧ ∀ b, (0 < cs.length → b = isNeq op) → K (.bool b) H
  | x, y => binP (tyI P t) H op x y ∧ K (binV op x y) H

def cloK (c : AV) (K : FuncId → List AV → Prop) : Prop := match c with | .clo f cs => K f cs | _ => False

/-- an operation with or without an effect -/
def opK (P : Program) (H : Heap) (α : Operand → AV) (op : Op) (K : AV → Heap → Prop) : Prop :=
  match op with
  | .alloc t => (0 < (tyI P t).zero.length ∧ (tyI P t).zok = true) ∧ K (.ptr H.length 0) (H ++ [.cells (tyI P t).zero])
  | .box t x => (α x).clOk = true ∧ K (.ptr H.length 0) (H ++ [.cells (α x).cl])
  | .store t a x => storeK (tyI P t) H (α a) (α x) K
  | .makeSlice t l c => (match α l, α c with
    | .int _ n, .int _ n' => (0 ≤ n ∧ n' = n ∧ mkP (tyI P t) (tyI P (elemOf' (tyI P t))) n.toNat ∧ (tyI P (elemOf' (tyI P t))).zok = true) ∧ K (.rref H.length 0 0 n.toNat) (H ++ [mkRow (tyI P (elemOf' (tyI P t))) (elemOf' (tyI P t)) n.toNat])
    | _, _ => False)
  | .binOp op t x y _ => binK P H op t (α x) (α y) K
  | .makeMap t none => K (.mref H.length) (H ++ [.map 0 []])
  | .mapUpdate t a x y => mupK P (tyI P t) H (α a) (α x) (α y) K
  | .mapEntry t a x => entK P (tyI P t) H (α a) (α x) K
  | .entryStore t a s y => enstK H (α a) (α s) (α y) K
  | .call { callee := .value f, args, .. } => cloK (α f) fun g cs => ACalls P g (args.toList.map α ++ cs) H K
  | .call { callee := .builtin b, args, argTypes } => bK P H b argTypes.toList (args.toList.map α) K
  | op => qP P H α op ∧ K (qV P H α op) H

/-- an operation that leaves all objects alone -/
def opQ (P : Program) (H : Heap) (α : Operand → AV) (op : Op) (K : AV → Heap → Prop) : Prop :=
  match op with
  | .call { callee := .value f, args, .. } => cloK (α f) fun g cs => callQ P g (args.toList.map α ++ cs) H K
  | op => qP P H α op ∧ K (qV P H α op) H

theorem Out.of_q {K : AV → Heap → Prop} {x : AV} {v : Value} {w' : World} (hK : K x H) (h : VR m H w' x v ∧ Rel m H w' ∧ Ext m H w m H w') : Out m H w K v w' :=
  ⟨m, x, H, hK, h.1, h.2.1, h.2.2⟩
theorem OpS.of_q {K : AV → Heap → Prop} {α : Operand → AV} {ρ : Operand → Value} {o : Oper} (R : Rel m H w) (hv : ∀ y ∈ o.op.operands, VR m H w (α y) (ρ y)) (hp : qP P H α o.op) (hK : K (qV P H α o.op) H) : OpS P m H w K ((execOp ρ o).run P w) := by
  obtain ⟨v, w', h1, h2⟩ := qsound R hv hp
  rw [h1]
  exact Out.of_q hK h2
theorem OpS.of_e {K : AV → Heap → Prop} {x : AV} {H' : Heap} {s : Sem Value} (h : ES P m H w s x H') (hK : K x H') : OpS P m H w K ((do pure (Next.value (← s)) : Sem Next).run P w) := by
  obtain ⟨v, w', m', h1, h2, h3, h4⟩ := h
  have : (do pure (Next.value (← s)) : Sem Next).run P w = .ok (.value v) w' := by simp [h1]
  rw [this]
  exact ⟨m', x, H', hK, h2, h3, h4⟩
theorem OpS.of_u {K : AV → Heap → Prop} {H' : Heap} {s : Sem Unit} (h : ∃ w' m', s.run P w = .ok () w' ∧ Rel m' H' w' ∧ Ext m H w m' H' w') (hK : K .junk H') : OpS P m H w K ((do s; pure .skip : Sem Next).run P w) := by
  obtain ⟨w', m', h1, h2, h3⟩ := h
  have : (do s; pure .skip : Sem Next).run P w = .ok .skip w' := by simp [h1]
  rw [this]
  exact ⟨m', .junk, H', hK, .junk _, h2, h3⟩

theorem storeK_sound {t : TypeId} {a x : AV} {u v : Value} {K : AV → Heap → Prop} (R : Rel m H w) (ha : VR m H w a u) (hx : VR m H w x v) (h : storeK (tyI P t) H a x K) : OpS P m H w K ((do Instr.storeAt t u v; pure .skip : Sem Next).run P w) := by
  obtain ⟨hk, h⟩ := h
  split at h
  · split at h
    · rename_i cs hc
      obtain ⟨h1, h2, h3, h4⟩ := h
      exact .of_u (e_store_ptr R ha hx h1 hc h2 hk h3) h4
    · exact h.elim
  · split at h
    · rename_i v' e sz n cs hc
      obtain ⟨rfl, h1, h2, h3, h4⟩ := h
      exact .of_u (e_store_row R ha hx h1 hc h2 hk h3) h4
    · rename_i v' e k xs hc
      split at h
      · obtain ⟨rfl, rfl, h2, h3, h4⟩ := h
        exact .of_u (e_store_nrow R ha hx hc h2 hk h3) h4
      · exact h.elim
    · exact h.elim
  · exact h.elim

theorem run_call_value {ρ : Operand → Value} {o : Oper} {f : Operand} {args : Array Operand} {ts : Array TypeId} {g : FuncId} {cs : Array Value} (ho : o.op = .call { callee := .value f, args := args, argTypes := ts }) (hf : ρ f = .func (.func g) #[] cs) :
    execOp ρ o = callFunc g (args.map ρ ++ cs) := by
  obtain ⟨dst, op, type, pos, after, guard⟩ := o
  simp only at ho
  subst ho
  simp [execOp, resolve, Deferred.ofValue, hf, invoke]

theorem call_sound {α : Operand → AV} {ρ : Operand → Value} {o : Oper} {f : Operand} {args : Array Operand} {ts : Array TypeId} (ho : o.op = .call { callee := .value f, args := args, argTypes := ts }) (R : Rel m H w) (hv : ∀ y ∈ o.op.operands, VR m H w (α y) (ρ y)) {K : AV → Heap → Prop}
    (h : cloK (α f) fun g cs => ACalls P g (args.toList.map α ++ cs) H K) : OpS P m H w K ((execOp ρ o).run P w) := by
  rw [ho] at hv
  have hf := hv f (by simp [Op.operands, Call.operands])
  unfold cloK at h
  split at h
  · rename_i g cs hc
    rw [hc] at hf
    generalize hr : ρ f = rf at hf
    cases hf with
    | clo _ _ vs hl hvv =>
      rw [run_call_value ho hr]
      refine h m w _ R (by simp [hl]) fun j hj => ?_
      by_cases hja : j < args.size
      · have e1 : (args.toList.map α ++ cs)[j] = α args[j] := by
          rw [List.getElem_append_left (by simpa using hja)]; simp
        have e2 : (args.map ρ ++ vs).getD j undef = ρ args[j] := by
          simp [Array.getD, Array.getElem_append, hja]
          omega
        rw [e1, e2]
        exact hv _ (by simp [Op.operands, Call.operands])
      · have hj' : j - args.size < cs.length := by simp at hj; omega
        have e1 : (args.toList.map α ++ cs)[j] = cs[j - args.size] := by
          rw [List.getElem_append_right (by simpa using hja)]; simp
        have e2 : (args.map ρ ++ vs).getD j undef = vs.getD (j - args.size) undef := by
          have hj2 : j - args.size < vs.size := by omega
          have hj3 : j < args.size + vs.size := by omega
          simp [Array.getD, Array.getElem_append, hja, hj2, hj3]
        rw [e1, e2]
        exact hvv _ hj'
  · exact h.elim

theorem bin_op_sound {α : Operand → AV} {ρ : Operand → Value} {o : Oper} {op : BinOp} {t yt : TypeId} {x y : Operand} {K : AV → Heap → Prop} (ho : o.op = .binOp op t x y yt) (R : Rel m H w) (hv : ∀ y ∈ o.op.operands, VR m H w (α y) (ρ y)) (h : binK P H op t (α x) (α y) K) : OpS P m H w K ((execOp ρ o).run P w) := by
  have main : ∀ (u : Value), ρ x = u → (∃ a n c, u = .slice a n c) → ρ y = .slice none 0 0 → (op = .eql ∨ op = .neq) → (match (tyI P t).kind with | .slice _ => True | _ => False) → (∀ b, (∀ a n c, u = .slice a n c → b = (isNeq op == a.isSome)) → K (.bool b) H) → OpS P m H w K ((execOp ρ o).run P w) := by
    rintro u hu ⟨a, n, c, rfl⟩ hy hop hk hK
    obtain ⟨e, hk'⟩ : ∃ e, (tyI P t).kind = .slice e := by revert hk; cases (tyI P t).kind <;> simp
    have hun := run_underlying (kind_slice hk') w
    have heq : ∀ d, (Op.equalIn (d + 1) t (.slice a n c) (.slice none 0 0)).run P w = .ok a.isNone w := fun d => by
      cases a <;> simp [Op.equalIn, hun]
    obtain ⟨e1, e2⟩ := run_eql heq (by simp) (by simp) (by simp) (by simp)
    have hg := eqGuard_ok (P := P) (w := w) (op := op) (t := t) (x := x) (y := y) (u := .slice a n c) (v := .slice none 0 0) (by simp) (by simp)
    obtain ⟨dst, op', type, pos, after, guard⟩ := o
    simp only at ho; subst ho
    have hrun : ∃ b, (execOp ρ ⟨dst, .binOp op t x y yt, type, pos, after, guard⟩).run P w = .ok (.value (.bool b)) w ∧ b = (isNeq op == a.isSome) := by
      rcases hop with rfl | rfl
      · exact ⟨a.isNone, by simp [execOp, hu, hy, hg, e1], by cases a <;> rfl⟩
      · exact ⟨!a.isNone, by simp [execOp, hu, hy, hg, e2], by cases a <;> rfl⟩
    obtain ⟨b, hb, hb2⟩ := hrun
    rw [hb]
    exact ⟨m, _, H, hK b (fun a' n' c' e => by cases e; exact hb2), .bool b, R, Ext.refl _ _ _⟩
  have hx := hv x (by rw [ho]; simp [Op.operands])
  have hy := hv y (by rw [ho]; simp [Op.operands])
  unfold binK at h
  split at h
  · rename_i k tt xs e1 e2
    rw [e1] at hx; rw [e2] at hy
    generalize hr : ρ x = u at hx
    generalize hr2 : ρ y = u2 at hy
    cases hy
    cases hx with
    | nums _ _ _ a c hn hc hm ht hh =>
      refine main _ hr ⟨_, _, _, rfl⟩ hr2 h.1.1 h.1.2 fun b hb => h.2 b fun hl => ?_
      have := hb _ _ _ rfl
      rcases hh with rfl | ⟨bb, oo, rfl, _⟩
      · simp at hl
      · rw [this]; simp
  · rename_i tt n cs e1 e2
    rw [e1] at hx; rw [e2] at hy
    generalize hr : ρ x = u at hx
    generalize hr2 : ρ y = u2 at hy
    cases hy
    cases hx with
    | sl _ _ _ a c cv hn hc hm ht hh hv' h1 =>
      refine main _ hr ⟨_, _, _, rfl⟩ hr2 h.1.1 h.1.2 fun b hb => h.2 b fun hl => ?_
      have := hb _ _ _ rfl
      rcases hh with rfl | ⟨bb, oo, rfl, _⟩
      · simp at hl
      · rw [this]; simp
  · refine OpS.of_q R hv ?_ ?_
    · rw [ho]; simp only [qP]; exact h.1
    · rw [ho]; simp only [qV]; exact h.2

theorem opK_sound {α : Operand → AV} {ρ : Operand → Value} {o : Oper} {K : AV → Heap → Prop} (R : Rel m H w) (hv : ∀ y ∈ o.op.operands, VR m H w (α y) (ρ y)) (h : opK P H α o.op K) : OpS P m H w K ((execOp ρ o).run P w) := by
  unfold opK at h
  split at h
  · rename_i t ht
    obtain ⟨dst, op, type, pos, after, guard⟩ := o
    simp only at ht; subst ht
    exact .of_e (e_alloc R (zeroOk h.1.2) h.1.1) h.2
  · rename_i t x ht
    obtain ⟨dst, op, type, pos, after, guard⟩ := o
    simp only at ht; subst ht
    exact .of_e (e_box R (hv x (by simp [Op.operands])) h.1) h.2
  · rename_i t a x ht
    obtain ⟨dst, op, type, pos, after, guard⟩ := o
    simp only at ht; subst ht
    exact storeK_sound R (hv a (by simp [Op.operands])) (hv x (by simp [Op.operands])) h
  · rename_i t l c ht
    obtain ⟨dst, op, type, pos, after, guard⟩ := o
    simp only at ht; subst ht
    have hl := hv l (by simp [Op.operands])
    have hc := hv c (by simp [Op.operands])
    split at h
    · rename_i k n k' n' e1 e2
      obtain ⟨⟨h0, rfl, h1, h2⟩, h3⟩ := h
      rw [e1] at hl; rw [e2] at hc
      have := e_make (P := P) (t := t) (n := n'.toNat) (kl := k) (kc := k') R (zeroOk h2) h1
      have en : ((n'.toNat : Nat) : Int) = n' := by omega
      rw [en] at this
      generalize hr1 : ρ l = r1 at hl
      generalize hr2 : ρ c = r2 at hc
      cases hl; cases hc
      simp only [execOp, hr1, hr2]
      exact .of_e this h3
    · exact h.elim
  · rename_i op t x y yt ht
    exact bin_op_sound ht R hv h
  · rename_i t ht
    obtain ⟨dst, op, type, pos, after, guard⟩ := o
    simp only at ht; subst ht
    exact .of_e (e_makeMap R) h
  · rename_i t a x y ht
    obtain ⟨dst, op, type, pos, after, guard⟩ := o
    simp only at ht; subst ht
    unfold mupK at h
    split at h
    · rename_i id hae
      split at h
      · rename_i ck kvs hid
        obtain ⟨h1, h2, h3⟩ := h
        have ha := hv a (by simp [Op.operands])
        rw [hae] at ha
        exact .of_u (e_mapUpdate (t := t) R ha (hv x (by simp [Op.operands])) (hv y (by simp [Op.operands])) h1 hid h2) h3
      · exact h.elim
    · exact h.elim
  · rename_i t a x ht
    obtain ⟨dst, op, type, pos, after, guard⟩ := o
    simp only at ht; subst ht
    unfold entK at h
    split at h
    · rename_i id hae
      split at h
      · rename_i ck kvs hid
        obtain ⟨h1, h2, h3, h4⟩ := h
        obtain ⟨z, hz⟩ := Option.isSome_iff_exists.1 h3
        have ha := hv a (by simp [Op.operands])
        rw [hae] at ha
        rw [hz] at h4
        exact .of_e (e_mapEntry (t := t) R ha (hv x (by simp [Op.operands])) h1 hid h2 hz) h4
      · exact h.elim
    · exact h.elim
  · rename_i t a s y ht
    obtain ⟨dst, op, type, pos, after, guard⟩ := o
    simp only at ht; subst ht
    unfold enstK at h
    split at h
    · rename_i id ks n hae hse
      split at h
      · rename_i ck kvs hid
        split at h
        · rename_i i hi
          have ha := hv a (by simp [Op.operands])
          have hs := hv s (by simp [Op.operands])
          rw [hae] at ha
          rw [hse] at hs
          exact .of_u (e_entryStore (t := t) R ha hs (hv y (by simp [Op.operands])) hid hi) h
        · exact h.elim
      · exact h.elim
    · exact h.elim
  · rename_i f args ts ht
    exact call_sound ht R hv h
  · rename_i b args ts ht
    unfold bK at h
    split at h
    · rename_i x y hxy
      unfold appK at h
      split at h
      · rename_i id ver off n
        split at h
        · rename_i ob k cs hid hs
          obtain ⟨rfl, hts, h1, h2⟩ := h
          obtain ⟨dst, op, type, pos, after, guard⟩ := o
          simp only at ht; subst ht
          obtain ⟨ax, ay, rfl⟩ : ∃ a b, args = #[a, b] := by
            have hl : args.toList.length = 2 := by have := congrArg List.length hxy; simpa using this
            match hq : args.toList, hl with
            | [a, b], _ => exact ⟨a, b, by apply Array.ext'; simp [hq]⟩
          simp only [List.map_cons, List.map_nil, List.cons.injEq, and_true] at hxy
          have hx := hv ax (by simp [Op.operands, Call.operands])
          have hy := hv ay (by simp [Op.operands, Call.operands])
          rw [hxy.1] at hx; rw [hxy.2] at hy
          generalize htt : ts.toList.headD 0 = t at *
          have hts' : ts = #[t, t] := by apply Array.ext'; simpa using hts
          subst hts'
          have := e_append (ty := type) R hx hy hid hs h1
          have := OpS.of_e (P := P) (K := K) this h2
          simpa [execOp, resolve, invoke, builtin] using this
        · exact h.elim
      · refine OpS.of_q R hv ?_ ?_
        · rw [ht]; simp only [qP]; rw [hxy]; exact h.1
        · rw [ht]; simp only [qV]; rw [hxy]; exact h.2
    · rename_i x y hxy
      unfold delK at h
      split at h
      · rename_i id
        split at h
        · rename_i ck kvs hid
          obtain ⟨hts, h1, h2, h3⟩ := h
          obtain ⟨dst, op, type, pos, after, guard⟩ := o
          simp only at ht; subst ht
          obtain ⟨ax, ay, rfl⟩ : ∃ a b, args = #[a, b] := by
            have hl : args.toList.length = 2 := by have := congrArg List.length hxy; simpa using this
            match hq : args.toList, hl with
            | [a, b], _ => exact ⟨a, b, by apply Array.ext'; simp [hq]⟩
          obtain ⟨t1, t2, rfl⟩ : ∃ a b, ts = #[a, b] := by
            match hq : ts.toList, hts with
            | [a, b], _ => exact ⟨a, b, by apply Array.ext'; simp [hq]⟩
          simp only [List.map_cons, List.map_nil, List.cons.injEq, and_true] at hxy
          have hx := hv ax (by simp [Op.operands, Call.operands])
          have hy := hv ay (by simp [Op.operands, Call.operands])
          rw [hxy.1] at hx; rw [hxy.2] at hy
          have := OpS.of_e (P := P) (K := K) (e_delete (P := P) (t := t1) (k2 := t2) (ty := type) R hx hy h1 hid h2) h3
          simpa [execOp, resolve, invoke, builtin] using this
        · exact h.elim
      · exact h.elim
    · refine OpS.of_q R hv ?_ ?_
      · rw [ht]; simp only [qP]; exact h.1
      · rw [ht]; simp only [qV]; exact h.2
  · exact OpS.of_q R hv h.1 h.2

end Go.Av
end

section
set_option linter.unusedVariables false
set_option linter.unusedSimpArgs false
open Go.RowKit
namespace Go.Av
variable {P : Program} {m : Hand} {H : Heap} {w : World}

def up (F : AF) (d : Option Tmp) (x : AV) : AF := match d with | none => F | some d => fun t => if d = t then x else F t
theorem lk_pt (l : Fr) (d : Option Tmp) (x : AV) : lk (pt l d x) = up (lk l) d x := by
  cases d with
  | none => rfl
  | some d =>
    funext t
    simp only [pt, up, lk]
    by_cases h : d = t
    · subst h; simp
    · have : Nat.beq d t = false := Bool.eq_false_iff.2 fun e => h (Nat.eq_of_beq_eq_true e)
      simp [h, this]

structure FRel (m : Hand) (H : Heap) (w : World) (N : Nat) (F : AF) (a : Act) : Prop where
  size : a.tmps.size = N
  defers : a.defers = []
  val : ∀ t, VR m H w (F t) (a.tmps.getD t undef)

theorem FRel.ext {m' : Hand} {H' : Heap} {w' : World} {N : Nat} {F : AF} {a : Act} (h : FRel m H w N F a) (E : Ext m H w m' H' w') : FRel m' H' w' N F a :=
  ⟨h.size, h.defers, fun t => (h.val t).ext E⟩
theorem FRel.put {N : Nat} {F : AF} {a : Act} {d : Option Tmp} {x : AV} {v : Value} (h : FRel m H w N F a) (hd : ∀ t, d = some t → t < N) (hv : VR m H w x v) : FRel m H w N (up F d x) (a.put d v) := by
  cases d with
  | none => exact h
  | some d =>
    refine ⟨by simp [Act.put, h.size], h.defers, fun t => ?_⟩
    have hd' : d < a.tmps.size := by rw [h.size]; exact hd d rfl
    simp only [up, Act.put]
    by_cases e : d = t
    · subst e
      simp [Array.getD, hd']
      exact hv
    · have := h.val t
      simp only [if_neg e]
      have e2 : (a.tmps.setIfInBounds d v).getD t undef = a.tmps.getD t undef := by
        simp [Array.getElem?_setIfInBounds_ne e]
      rw [e2]; exact this
theorem FRel.eval {N : Nat} {F : AF} {a : Act} (h : FRel m H w N F a) (y : Operand) : VR m H w (opA F y) (a.eval y) := by
  cases y with
  | tmp t => exact h.val t
  | const v => exact ofV_VR _ _ _ v
  | global g => exact .junk _
  | func f => exact .clo f [] #[] rfl (fun j hj => absurd hj (Nat.not_lt_zero _))

/-! ### one operation -/
def stA (α : Operand → AV) : Operand → AV := fun y => (α y).st
def gdAll (α : Operand → AV) : List Operand → Prop
  | [] => True
  | y :: l => (α y).gd = true ∧ gdAll α l
/-- a guarded call: one value, and the objects stay -/
def callG (P : Program) (H : Heap) (G : Bool) (gd : Prop) (c : AV) (xs : List AV) (K : AV → Heap → Prop) : Prop :=
  ∃ x, (G = true → gd ∧ cloK c fun g cs => ACalls P g (xs ++ cs) H fun y H' => y = x ∧ H' = H) ∧ K (.whn G x) H
def gK (P : Program) (H : Heap) (α : Operand → AV) (op : Op) (G : Bool) (K : AV → Heap → Prop) : Prop :=
  match op with
  | .call { callee := .value f, args, .. } => callG P H G (gdAll α op.operands.toList) (α f).st (args.toList.map (stA α)) K
  | op => (G = true → gdAll α op.operands.toList ∧ qP P H (stA α) op) ∧ K (.whn G (qV P H (stA α) op)) H
def guardK (P : Program) (H : Heap) (α : Operand → AV) (c : AV) (want : Bool) (op : Op) (K : AV → Heap → Prop) : Prop :=
  match c with
  | .bool b => gK P H α op (b == want) K
  | .whn g (.bool b) => gK P H α op (g && b == want) K
  | _ => False
def gsrc (ds : List (Option Tmp)) (g : Nat) (F : AF) : AV := match ds.getD g none with | some d => F d | none => .junk
def stepK (P : Program) (q : Bool) (ds : List (Option Tmp)) (o : Oper) (F : AF) (H : Heap) (K : AV → Heap → Prop) : Prop :=
  match o.guard with
  | none => bif q then opQ P H (opA F) o.op K else opK P H (opA F) o.op K
  | some (g, want) => guardK P H (opA F) (gsrc ds g F) want o.op K

theorem gdAll_iff {α : Operand → AV} : ∀ {l : List Operand}, gdAll α l ↔ ∀ y ∈ l, (α y).gd = true
  | [] => by simp [gdAll]
  | x :: l => by simp [gdAll, gdAll_iff (l := l)]

/-- what the machine does at an operation -/
def Did (P : Program) (ops : Array Oper) (o : Oper) (m : Hand) (H : Heap) (w : World) (a : Act) (K : AV → Heap → Prop) : Prop :=
  (Region.wanted o (yielded ops a.tmps) = true ∧ OpS P m H w K ((execOp a.eval o).run P w)) ∨
  (Region.wanted o (yielded ops a.tmps) = false ∧ ∃ x, K x H ∧ VR m H w x undef)

theorem opQ_opK {α : Operand → AV} {op : Op} {K : AV → Heap → Prop} (h : opQ P H α op K) : ∀ m w (ρ : Operand → Value) (o : Oper), o.op = op → Rel m H w → (∀ y ∈ o.op.operands, VR m H w (α y) (ρ y)) → OpS P m H w K ((execOp ρ o).run P w) := by
  rintro m w ρ o rfl R hv
  unfold opQ at h
  split at h
  · rename_i f args ts ht
    refine call_sound ht R hv ?_
    unfold cloK at h ⊢
    split at h
    · obtain ⟨x, h1, h2⟩ := h
      exact h1.mono fun y H' _ e => by obtain ⟨rfl, rfl⟩ := e; exact h2
    · exact h.elim
  · exact OpS.of_q R hv h.1 h.2

theorem gK_did {ops : Array Oper} {o : Oper} {N : Nat} {F : AF} {a : Act} {G : Bool} {K : AV → Heap → Prop} (R : Rel m H w) (FR : FRel m H w N F a) (hw : Region.wanted o (yielded ops a.tmps) = G) (h : gK P H (opA F) o.op G K) : Did P ops o m H w a K := by
  unfold gK at h
  split at h
  · rename_i f args ts ht
    obtain ⟨x, h1, h2⟩ := h
    cases G with
    | false => exact .inr ⟨hw, _, h2, .whn _ _ _ (fun _ => rfl) (fun h => by simp at h)⟩
    | true =>
      obtain ⟨g1, g2⟩ := h1 rfl
      refine .inl ⟨hw, ?_⟩
      have hv : ∀ y ∈ o.op.operands, VR m H w (stA (opA F) y) (a.eval y) := fun y hy => by
        exact (FR.eval y).whn_st (gdAll_iff.1 g1 y (by simpa using hy))
      have := call_sound (α := stA (opA F)) ht R hv g2
      have key : ∀ v w', Out m H w (fun y H' => y = x ∧ H' = H) v w' → Out m H w K v w' := by
        rintro v w' ⟨m', y, H', ⟨rfl, rfl⟩, k1, k2, k3⟩
        exact ⟨m', _, _, h2, .whn _ _ _ (fun h => by simp at h) (fun _ => k1), k2, k3⟩
      generalize (execOp a.eval o).run P w = r at this
      unfold OpS at this ⊢
      split at this
      · exact key _ _ this
      · exact key _ _ this
      · exact this.mono fun e w' ⟨v, hv, ho⟩ => ⟨v, hv, key _ _ ho⟩
      · exact this.elim
  · obtain ⟨h1, h2⟩ := h
    cases G with
    | false => exact .inr ⟨hw, _, h2, .whn _ _ _ (fun _ => rfl) (fun h => by simp at h)⟩
    | true =>
      obtain ⟨g1, g2⟩ := h1 rfl
      refine .inl ⟨hw, ?_⟩
      have hv : ∀ y ∈ o.op.operands, VR m H w (stA (opA F) y) (a.eval y) := fun y hy => (FR.eval y).whn_st (gdAll_iff.1 g1 y (by simpa using hy))
      obtain ⟨v, w', r1, r2, r3, r4⟩ := qsound R hv g2
      rw [r1]
      exact ⟨m, _, H, h2, .whn _ _ _ (fun h => by simp at h) (fun _ => r2), r3, r4⟩

theorem bind_dst (ops : Array Oper) (g : Nat) : (ops.toList.map (·.dst)).getD g none = (ops[g]?).bind (·.dst) := by
  rw [List.getD, List.getElem?_map, Array.getElem?_toList]
  cases ops[g]? <;> rfl

theorem VR.bool_inv {b : Bool} {v : Value} (h : VR m H w (.bool b) v) : v = .bool b := by cases h; rfl

theorem stepK_did {q : Bool} {ops : Array Oper} {o : Oper} {N : Nat} {F : AF} {a : Act} {K : AV → Heap → Prop} (R : Rel m H w) (FR : FRel m H w N F a) (h : stepK P q (ops.toList.map (·.dst)) o F H K) : Did P ops o m H w a K := by
  unfold stepK at h
  split at h
  · rename_i hg
    refine .inl ⟨by simp [Region.wanted, hg], ?_⟩
    have hv : ∀ y ∈ o.op.operands, VR m H w (opA F y) (a.eval y) := fun y _ => FR.eval y
    cases q with
    | true => exact opQ_opK h m w _ o rfl R hv
    | false => exact opK_sound R hv h
  · rename_i g want hg
    unfold gsrc at h
    rw [bind_dst] at h
    have hwd : Region.wanted o (yielded ops a.tmps) = (yielded ops a.tmps g == some want) := by simp [Region.wanted, hg]
    cases hd : (ops[g]?).bind (·.dst) with
    | none => rw [hd] at h; exact h.elim
    | some d =>
      rw [hd] at h
      dsimp only at h
      have hF := FR.val d
      have key : ∀ v, a.tmps.getD d undef = v → v ≠ undef → a.tmps[d]? = some v := fun v hv hne => by
        cases ht : a.tmps[d]? with
        | none => simp [Array.getD_eq_getD_getElem?, ht] at hv; exact absurd hv.symm hne
        | some u => simp [Array.getD_eq_getD_getElem?, ht] at hv; rw [hv]
      have key0 : a.tmps.getD d undef = undef → yielded ops a.tmps g = none := fun hv => by
        unfold yielded
        rw [hd, Option.bind_some]
        cases ht : a.tmps[d]? with
        | none => rfl
        | some u => simp [Array.getD_eq_getD_getElem?, ht] at hv; rw [hv]; rfl
      have key1 : ∀ b, a.tmps.getD d undef = .bool b → yielded ops a.tmps g = some b := fun b hv => by
        unfold yielded
        rw [hd, Option.bind_some, key _ hv (by simp [undef])]
      unfold guardK at h
      split at h
      · rename_i b hb
        rw [hb] at hF
        have hy := key1 b hF.bool_inv
        refine gK_did R FR ?_ h
        rw [hwd, hy]
        cases b <;> cases want <;> rfl
      · rename_i gg b hb
        rw [hb] at hF
        refine gK_did R FR ?_ h
        rw [hwd]
        generalize hvv : a.tmps.getD d undef = vv at hF
        cases hF with
        | whn _ _ _ h0 h1 =>
          cases gg with
          | false =>
            rw [key0 (by rw [hvv]; exact h0 rfl)]
            rfl
          | true =>
            rw [key1 b (by rw [hvv]; exact (h1 rfl).bool_inv)]
            cases b <;> cases want <;> rfl
      · exact h.elim

/-! ### regions in the order of the text -/
def opsK (P : Program) (ds : List (Option Tmp)) : List Oper → (Fr → Heap → Prop) → Fr → Heap → Prop
  | [], K, l, H => K l H
  | o :: os, K, l, H => stepK P false ds o (lk l) H fun x H' => opsK P ds os K (pt l o.dst x) H'
def contK (P : Program) (ds : List (Option Tmp)) (os : List Oper) (K : Fr → Heap → Prop) (d : Option Tmp) (l : Fr) : AV → Heap → Prop :=
  fun x H' => opsK P ds os K (pt l d x) H'
theorem opsK_nil {ds : List (Option Tmp)} {K : Fr → Heap → Prop} {l : Fr} : opsK P ds [] K l H = K l H := rfl
theorem opsK_cons {ds : List (Option Tmp)} {o : Oper} {os : List Oper} {K : Fr → Heap → Prop} {l : Fr} : opsK P ds (o :: os) K l H = stepK P false ds o (lk l) H (contK P ds os K o.dst l) := rfl
theorem contK_eq {ds : List (Option Tmp)} {os : List Oper} {K : Fr → Heap → Prop} {d : Option Tmp} {l : Fr} {x : AV} : contK P ds os K d l x H = opsK P ds os K (pt l d x) H := rfl

/-- on from an operation -/
theorem Did.wpOp {ops : Array Oper} {o : Oper} {i : Nat} {N : Nat} {F : AF} {a : Act} {K : AV → Heap → Prop} {K' : Act → World → Prop} {Q : Exit → Act → World → Prop} (ho : ops[i]? = some o) (R : Rel m H w) (FR : FRel m H w N F a) (hN : ∀ t, o.dst = some t → t < N) (h : Did P ops o m H w a K)
    (hk : ∀ m' x H' a' w', K x H' → Rel m' H' w' → Ext m H w m' H' w' → FRel m' H' w' N (up F o.dst x) a' → K' a' w') : wpOp P ops Q i K' a w := by
  unfold Go.wpOp
  rw [ho]
  have out : ∀ v w', Out m H w K v w' → K' (a.put o.dst v) w' := fun v w' ⟨m', x, H', h1, h2, h3, h4⟩ =>
    hk m' x H' _ w' h1 h3 h4 ((FR.ext h4).put hN h2)
  rcases h with ⟨h1, h2⟩ | ⟨h1, x, h2, h3⟩
  · simp only [h1, if_true]
    left
    unfold Oper.wp
    generalize (execOp a.eval o).run P w = r at h2
    unfold OpS at h2
    split at h2
    · exact out _ _ h2
    · exact out _ _ h2
    · refine h2.mono ?_
      rintro e w'' ⟨v, rfl, ho'⟩
      exact out _ _ ho'
    · exact h2.elim
  · simp only [h1]
    exact hk m x H _ w h2 R (Ext.refl _ _ _) (FR.put hN h3)

def dstOk (N : Nat) (ops : List Oper) : Bool := ops.all fun o => match o.dst with | some d => Nat.blt d N | none => true
theorem dstOk_spec {N : Nat} {ops : List Oper} (h : dstOk N ops = true) : ∀ o ∈ ops, ∀ t, o.dst = some t → t < N := fun o ho t ht => by
  have := List.all_eq_true.1 h o ho
  rw [ht] at this
  simpa [Nat.blt_eq] using this

theorem opsK_wp {ops : Array Oper} {N : Nat} {K : Fr → Heap → Prop} {Q : Exit → Act → World → Prop} {m0 : Hand} {H0 : Heap} {w0 : World} (hN : dstOk N ops.toList = true) (hQ : ∀ m' H' w' l' a', K l' H' → Rel m' H' w' → FRel m' H' w' N (lk l') a' → Ext m0 H0 w0 m' H' w' → Q .normal a' w') :
    ∀ (os : List Oper) (i : Nat), ops.toList.drop i = os → ∀ m H w l a, Rel m H w → FRel m H w N (lk l) a → Ext m0 H0 w0 m H w → opsK P (ops.toList.map (·.dst)) os K l H → wpOps P ops Q (List.range' i os.length) a w
  | [], i, _, m, H, w, l, a, R, FR, E, h => hQ m H w l a h R FR E
  | o :: os, i, hd, m, H, w, l, a, R, FR, E, h => by
    rw [List.length_cons, List.range'_succ, wpOps_cons]
    have ho : ops.toList[i]? = some o := by
      have := congrArg (fun l => l[0]?) hd
      simpa using this
    have hmem : o ∈ ops.toList := List.mem_of_getElem? ho
    refine Did.wpOp (by simpa using ho) R FR (dstOk_spec hN o hmem) (stepK_did R FR h) ?_
    intro m' x H' a' w' hK R' E' FR'
    refine opsK_wp hN hQ os (i + 1) ?_ m' H' w' (pt l o.dst x) a' R' (by rw [lk_pt]; exact FR') (E.trans E') hK
    have := congrArg List.tail hd
    simpa using this

end Go.Av
end

section
set_option linter.unusedVariables false
set_option linter.unusedSimpArgs false
open Go.RowKit
namespace Go.Av
variable {P : Program} {m : Hand} {H : Heap} {w : World}

/-! ### regions that draw their order -/
def opsD (P : Program) (ds : List (Option Tmp)) (es : List Nat) : Nat → List Oper → (Fr → Heap → Prop) → Fr → Heap → Prop
  | _, [], K, l, H => K l H
  | i, o :: os, K, l, H => stepK P (!es.contains i) ds o (lk l) H fun x H' => opsD P ds es (i + 1) os K (pt l o.dst x) H'
def contD (P : Program) (ds : List (Option Tmp)) (es : List Nat) (i : Nat) (os : List Oper) (K : Fr → Heap → Prop) (d : Option Tmp) (l : Fr) : AV → Heap → Prop :=
  fun x H' => opsD P ds es i os K (pt l d x) H'
theorem opsD_nil {ds : List (Option Tmp)} {es : List Nat} {i : Nat} {K : Fr → Heap → Prop} {l : Fr} : opsD P ds es i [] K l H = K l H := rfl
theorem opsD_cons {ds : List (Option Tmp)} {es : List Nat} {i : Nat} {o : Oper} {os : List Oper} {K : Fr → Heap → Prop} {l : Fr} : opsD P ds es i (o :: os) K l H = stepK P (!es.contains i) ds o (lk l) H (contD P ds es (i + 1) os K o.dst l) := rfl
theorem contD_eq {ds : List (Option Tmp)} {es : List Nat} {i : Nat} {os : List Oper} {K : Fr → Heap → Prop} {d : Option Tmp} {l : Fr} {x : AV} : contD P ds es i os K d l x H = opsD P ds es i os K (pt l d x) H := rfl

/-- whatever order is picked, over objects only -/
def aAny (P : Program) (ops : Array Oper) (es : List Nat) (K : AF → Heap → Prop) : Nat → Array Bool → AF → Heap → Prop
  | 0, listed, F, H => Region.ready .any ops listed = [] ∧ K F H
  | fuel + 1, listed, F, H => (Region.ready .any ops listed = [] → K F H) ∧ ∀ i ∈ Region.ready .any ops listed, ∀ o, ops[i]? = some o →
      stepK P (!es.contains i) (ops.toList.map (·.dst)) o F H fun x H' => aAny P ops es K fuel (listed.setIfInBounds i true) (up F o.dst x) H'

theorem aAny_wp {ops : Array Oper} {es : List Nat} {N : Nat} {K : AF → Heap → Prop} {Q : Exit → Act → World → Prop} {m0 : Hand} {H0 : Heap} {w0 : World} (hN : dstOk N ops.toList = true) (hQ : ∀ m' H' w' F' a', K F' H' → Rel m' H' w' → FRel m' H' w' N F' a' → Ext m0 H0 w0 m' H' w' → Q .normal a' w') :
    ∀ (fuel : Nat) (listed : Array Bool) m H w F a, Rel m H w → FRel m H w N F a → Ext m0 H0 w0 m H w → aAny P ops es K fuel listed F H → wpAny P .any ops Q fuel listed a w
  | 0, listed, m, H, w, F, a, R, FR, E, h => ⟨h.1, hQ m H w F a h.2 R FR E⟩
  | fuel + 1, listed, m, H, w, F, a, R, FR, E, h => ⟨fun h0 => hQ m H w F a (h.1 h0) R FR E, fun i hi => by
      cases ho : ops[i]? with
      | none =>
        obtain ⟨_, o, ho', _⟩ := mem_ready.1 hi
        rw [ho] at ho'; cases ho'
      | some o =>
        have hmem : o ∈ ops.toList := by simpa using Array.mem_of_getElem? ho
        refine Did.wpOp ho R FR (dstOk_spec hN o hmem) (stepK_did R FR (h.2 i hi o ho)) ?_
        intro m' x H' a' w' hK R' E' FR'
        exact aAny_wp hN hQ fuel _ m' H' w' _ a' R' FR' (E.trans E') hK⟩

/-! what a quiet operation yields -/
def Yl (P : Program) (ds : List (Option Tmp)) (o : Oper) (F : AF) (H : Heap) (x : AV) : Prop := ∀ K : AV → Heap → Prop, K x H → stepK P true ds o F H K

theorem gK_yl {α : Operand → AV} {op : Op} {G : Bool} {K : AV → Heap → Prop} (h : gK P H α op G K) : ∃ x, (∀ K : AV → Heap → Prop, K x H → gK P H α op G K) ∧ K x H := by
  unfold gK at *
  split at h
  · obtain ⟨x, h1, h2⟩ := h
    exact ⟨_, fun K hK => ⟨x, h1, hK⟩, h2⟩
  · exact ⟨_, fun K hK => ⟨h.1, hK⟩, h.2⟩

theorem stepK_yl {ds : List (Option Tmp)} {o : Oper} {F : AF} {K : AV → Heap → Prop} (h : stepK P true ds o F H K) : ∃ x, Yl P ds o F H x ∧ K x H := by
  unfold stepK at h
  unfold Yl stepK
  split at h
  · rename_i hg
    simp only [cond_true] at h ⊢
    unfold opQ at h ⊢
    split at h
    · rename_i f args ts ht
      unfold cloK at h ⊢
      split at h
      · rename_i g cs hc
        obtain ⟨x, h1, h2⟩ := h
        exact ⟨x, fun K hK => ⟨x, h1, hK⟩, h2⟩
      · exact h.elim
    · rename_i hne
      exact ⟨_, fun K hK => ⟨h.1, hK⟩, h.2⟩
  · rename_i g want hg
    unfold guardK at h ⊢
    split at h
    · exact gK_yl h
    · exact gK_yl h
    · exact h.elim

/-! it looks at its own operands only -/
theorem mapOps_congr {α β : Operand → AV} {ps : Array (Nat × Operand)} (h : ∀ y ∈ (ps.toList.map (·.2)).toArray, α y = β y) : mapOps α ps = mapOps β ps := by
  unfold mapOps
  refine List.map_congr_left fun p hp => ?_
  rw [h p.2 (by simp; exact ⟨p.1, by simpa using hp⟩)]

theorem argmap_congr {α β : Operand → AV} {args : Array Operand} (h : ∀ y ∈ args, α y = β y) : args.toList.map α = args.toList.map β :=
  List.map_congr_left fun y hy => h y (by simpa using hy)

theorem qPV_congr {α β : Operand → AV} {op : Op} (h : ∀ y ∈ op.operands, α y = β y) : qP P H α op = qP P H β op ∧ qV P H α op = qV P H β op := by
  cases op <;> simp only [Op.operands] at h
  case build t ps => simp only [qP, qV, mapOps_congr h, and_self]
  case buildSlice t n ps => simp only [qP, qV, mapOps_congr h, and_self]
  case makeFunc fn fs cs =>
    have h2 : ∀ y ∈ cs, α y = β y := fun y hy => h y (by simp [hy])
    cases fn <;> simp only [qP, qV, and_self]
    refine ⟨?_, by rw [argmap_congr h2]⟩
    have : (∀ x ∈ cs.toList, (α x).scal = true) = (∀ x ∈ cs.toList, (β x).scal = true) := by
      apply propext
      constructor
      · intro k x hx; rw [← h2 x (by simpa using hx)]; exact k x hx
      · intro k x hx; rw [h2 x (by simpa using hx)]; exact k x hx
    rw [this]
  case call c =>
    obtain ⟨callee, args, ts⟩ := c
    have h2 : ∀ y ∈ args, α y = β y := fun y hy => h y (by simp [Call.operands, hy])
    cases callee <;> simp only [qP, qV, argmap_congr h2, and_self]
  case slice t x lo hi mx =>
    have h1 : α x = β x := h x (by simp)
    have h2 : lo.map α = lo.map β := by cases lo <;> simp_all
    have h3 : hi.map α = hi.map β := by cases hi <;> simp_all
    have h4 : mx.map α = mx.map β := by cases mx <;> simp_all
    simp only [qP, qV, h1, h2, h3, h4, and_self]
  all_goals first
    | (simp only [qP, qV, and_self]; done)
    | (simp at h; simp only [qP, qV, h, and_self]; done)
    | skip

theorem opK_congr {α β : Operand → AV} {op : Op} {K : AV → Heap → Prop} (h : ∀ y ∈ op.operands, α y = β y) : opK P H α op K = opK P H β op K := by
  have hq := qPV_congr (P := P) (H := H) h
  cases op <;> simp only [Op.operands] at h
  case makeMap t r => cases r <;> simp only [opK, hq]
  case call c =>
    obtain ⟨callee, args, ts⟩ := c
    have h2 : ∀ y ∈ args, α y = β y := fun y hy => h y (by simp [Call.operands, hy])
    cases callee with
    | value f =>
      have h1 : α f = β f := h f (by simp [Call.operands])
      simp only [opK, h1, argmap_congr h2]
    | builtin b => simp only [opK, argmap_congr h2]
    | invoke r m => simp only [opK, hq]
  all_goals first
    | (simp at h; simp only [opK, h]; done)
    | (simp at h; obtain ⟨h1, h2, h3⟩ := h; simp only [opK, h1, h2, h3]; done)
    | (simp only [opK, hq]; done)
    | skip

theorem opQ_congr {α β : Operand → AV} {op : Op} {K : AV → Heap → Prop} (h : ∀ y ∈ op.operands, α y = β y) : opQ P H α op K = opQ P H β op K := by
  unfold opQ
  split
  · rename_i f args ts
    have h2 : ∀ y ∈ args, α y = β y := fun y hy => h y (by simp [Op.operands, Call.operands, hy])
    have h1 : α f = β f := h f (by simp [Op.operands, Call.operands])
    rw [h1, argmap_congr h2]
  · obtain ⟨e1, e2⟩ := qPV_congr (P := P) (H := H) h
    rw [e1, e2]

theorem gK_congr {α β : Operand → AV} {op : Op} {G : Bool} {K : AV → Heap → Prop} (h : ∀ y ∈ op.operands, α y = β y) : gK P H α op G K = gK P H β op G K := by
  have h1 : gdAll α op.operands.toList = gdAll β op.operands.toList := by
    apply propext
    rw [gdAll_iff, gdAll_iff]
    constructor
    · intro k y hy; rw [← h y (by simpa using hy)]; exact k y hy
    · intro k y hy; rw [h y (by simpa using hy)]; exact k y hy
  obtain ⟨e1, e2⟩ := qPV_congr (P := P) (H := H) (α := stA α) (β := stA β) (op := op) (fun y hy => by simp only [stA, h y hy])
  unfold gK
  split
  · rename_i f args ts
    have h3 : α f = β f := h f (by simp [Op.operands, Call.operands])
    have h2 : args.toList.map (stA α) = args.toList.map (stA β) := List.map_congr_left fun y hy => by
      have : y ∈ args := by simpa using hy
      simp only [stA, h y (by simp [Op.operands, Call.operands, this])]
    rw [h1, h2, h3]
  · rw [h1, e1, e2]

theorem stepQ_congr {q : Bool} {ops : Array Oper} {o : Oper} {F F' : AF} {K : AV → Heap → Prop} (h : ∀ t ∈ o.looksAt ops, F t = F' t) : stepK P q (ops.toList.map (·.dst)) o F H K = stepK P q (ops.toList.map (·.dst)) o F' H K := by
  have hop : ∀ y ∈ o.op.operands, opA F y = opA F' y := fun y hy => by
    cases y with
    | tmp t => exact h t (by
        unfold Oper.looksAt
        exact List.mem_append_left _ (List.mem_filterMap.2 ⟨.tmp t, by simpa using hy, rfl⟩))
    | _ => rfl
  unfold stepK
  split
  · cases q with
    | true => exact opQ_congr hop
    | false => exact opK_congr hop
  · rename_i g want hg
    have hs : gsrc (ops.toList.map (·.dst)) g F = gsrc (ops.toList.map (·.dst)) g F' := by
      unfold gsrc
      rw [bind_dst]
      cases hd : (ops[g]?).bind (·.dst) with
      | none => rfl
      | some d => exact h d (by simp [Oper.looksAt, hg, hd])
    have hg2 : ∀ G, gK P H (opA F) o.op G K = gK P H (opA F') o.op G K := fun G => gK_congr hop
    unfold guardK
    rw [hs]
    split <;> simp only [hg2]

/-- it looks at no object -/
def Op.heapless : Op → Bool
  | .move _ | .pick _ _ _ | .extract _ _ | .build _ _ | .buildSlice _ _ _ => true
  | _ => false
def freeAt (ops : Array Oper) (i : Nat) : Bool := match ops[i]? with | some o => Op.heapless o.op && o.guard.isNone | none => false
theorem heapless_yl {ds : List (Option Tmp)} {o : Oper} {F : AF} {H H' : Heap} {v : AV} (ho : Op.heapless o.op = true) (hg : o.guard = none) (h : Yl P ds o F H v) : Yl P ds o F H' v := by
  have h1 := h (fun x _ => x = v) rfl
  intro K hK
  unfold stepK at h1 ⊢
  rw [hg] at h1 ⊢
  simp only [cond_true] at h1 ⊢
  cases hop : o.op <;> simp only [hop] at ho h1 ⊢ <;> simp [Op.heapless] at ho
  all_goals (simp only [opQ, qP, qV] at h1 ⊢; first | (obtain ⟨k1, k2⟩ := h1; subst k2; exact ⟨k1, hK⟩) | skip)

/-! what comes ahead of what -/
def ancs : List Oper → List (List Nat) → List (List Nat)
  | [], acc => acc
  | o :: os, acc => ancs os (acc ++ [((o.after.toList.filter (Region.binds .any)).flatMap fun e => e.on :: acc.getD e.on []).eraseDups])
/-- every operation of es has a fixed place beside every other operation -/
def cmpOk (ops : Array Oper) (es : List Nat) : Bool :=
  let A := ancs ops.toList []
  es.all fun j => (List.range ops.size).all fun i => i == j || (A.getD j []).contains i || (A.getD i []).contains j || (Nat.blt i j && (!es.contains i && freeAt ops i))

def Closed (ops : Array Oper) (listed : Array Bool) : Prop := ∀ j o, ops[j]? = some o → listed.getD j false = true → ∀ e ∈ o.after, Region.binds .any e = true → listed.getD e.on false = true

theorem ancs_spec {ops : Array Oper} {listed : Array Bool} (hc : Closed ops listed) : ∀ (os : List Oper) (acc : List (List Nat)), ops.toList.drop acc.length = os →
    (∀ j i, listed.getD j false = true → i ∈ acc.getD j [] → listed.getD i false = true) →
    (∀ j o, j < acc.length → ops[j]? = some o → (∀ e ∈ o.after, Region.binds .any e = true → listed.getD e.on false = true) → ∀ i ∈ acc.getD j [], listed.getD i false = true) →
    ∀ j o, ops[j]? = some o → (∀ e ∈ o.after, Region.binds .any e = true → listed.getD e.on false = true) → ∀ i ∈ (ancs os acc).getD j [], listed.getD i false = true
  | [], acc, hd, h1, h2, j, o, ho, hall, i, hi => by
    have hlt : j < ops.size := (Array.getElem?_eq_some_iff.1 ho).1
    have hl : ops.size ≤ acc.length := by simpa using hd
    exact h2 j o (by omega) ho hall i hi
  | o' :: os, acc, hd, h1, h2, j, o, ho, hall, i, hi => by
    have ho' : ops[acc.length]? = some o' := by
      have := congrArg (fun l => l[0]?) hd
      simpa using this
    have hnew : (∀ e ∈ o'.after, Region.binds .any e = true → listed.getD e.on false = true) → ∀ i ∈ ((o'.after.toList.filter (Region.binds .any)).flatMap fun e => e.on :: acc.getD e.on []).eraseDups, listed.getD i false = true := by
      intro hall i hi
      rw [List.mem_eraseDups, List.mem_flatMap] at hi
      obtain ⟨e, he, hi⟩ := hi
      rw [List.mem_filter] at he
      have hon := hall e (by simpa using he.1) he.2
      rcases List.mem_cons.1 hi with rfl | hi
      · exact hon
      · exact h1 e.on i hon hi
    have getlt : ∀ (x : List Nat) j, j < acc.length → (acc ++ [x]).getD j [] = acc.getD j [] := fun x j hj => by
      simp [List.getD, List.getElem?_append_left hj]
    have geteq : ∀ (x : List Nat), (acc ++ [x]).getD acc.length [] = x := fun x => by simp [List.getD]
    have getgt : ∀ (x : List Nat) j, acc.length < j → (acc ++ [x]).getD j [] = [] := fun x j hj => by
      simp [List.getD, List.getElem?_eq_none (show (acc ++ [x]).length ≤ j by simp; omega)]
    refine ancs_spec hc os _ ?_ ?_ ?_ j o ho hall i hi
    · have := congrArg List.tail hd
      simpa using this
    · intro j i hj hi
      rcases Nat.lt_trichotomy j acc.length with h | h | h
      · rw [getlt _ j h] at hi; exact h1 j i hj hi
      · subst h; rw [geteq] at hi
        exact hnew (hc _ o' ho' hj) i hi
      · rw [getgt _ j h] at hi; cases hi
    · intro j o hj ho hall i hi
      rcases Nat.lt_or_ge j acc.length with h | h
      · rw [getlt _ j h] at hi; exact h2 j o h ho hall i hi
      · have : j = acc.length := by simp at hj; omega
        subst this
        rw [geteq] at hi
        have : o = o' := by rw [ho] at ho'; simpa using ho'
        subst this
        exact hnew hall i hi

theorem ready_unlisted {ops : Array Oper} {listed : Array Bool} {i : Nat} (h : i ∈ Region.ready .any ops listed) : listed.getD i false = false := by
  have h0 := (mem_ready.1 h).1
  rcases Nat.lt_or_ge i listed.size with h' | h'
  · simp [h'] at h0 ⊢; exact h0
  · simp [h'] at h0

/-- an operation of es comes up alone -/
theorem alone {ops : Array Oper} {listed : Array Bool} {es : List Nat} (hc : Closed ops listed) (hcmp : cmpOk ops es = true) {i j : Nat} (hi : i ∈ Region.ready .any ops listed) (hj : j ∈ Region.ready .any ops listed) (hes : j ∈ es) : i = j ∨ (i < j ∧ ∃ o, ops[i]? = some o ∧ Op.heapless o.op = true ∧ o.guard = none) := by
  obtain ⟨_, oi, hoi, hai⟩ := mem_ready.1 hi
  obtain ⟨_, oj, hoj, haj⟩ := mem_ready.1 hj
  have hlt : i < ops.size := (Array.getElem?_eq_some_iff.1 hoi).1
  have key := ancs_spec hc ops.toList [] (by simp) (fun j i _ h => by simp at h) (fun j o h => by simp at h)
  unfold cmpOk at hcmp
  have h1 := List.all_eq_true.1 (List.all_eq_true.1 hcmp j hes) i (List.mem_range.2 hlt)
  simp only [Bool.or_eq_true, Bool.and_eq_true, beq_iff_eq, List.contains_iff_mem] at h1
  rcases h1 with ((h | h) | h) | h
  · exact .inl h
  · have := key j oj hoj haj i h
    rw [ready_unlisted hi] at this; cases this
  · have := key i oi hoi hai j h
    rw [ready_unlisted hj] at this; cases this
  · have h3 := h.2.2
    unfold freeAt at h3
    rw [hoi] at h3
    simp only [Bool.and_eq_true, Option.isNone_iff_eq_none] at h3
    exact .inr ⟨by simpa [Nat.blt_eq] using h.1, oi, hoi, h3.1, h3.2⟩

theorem Closed.take {ops : Array Oper} {listed : Array Bool} (hc : Closed ops listed) {i : Nat} (hi : i ∈ Region.ready .any ops listed) : Closed ops (listed.setIfInBounds i true) := by
  intro j o ho hl e he hb
  by_cases hij : i = j
  · subst hij
    obtain ⟨_, oi, hoi, hai⟩ := mem_ready.1 hi
    rw [ho] at hoi
    cases hoi
    exact getD_set_true (hai e he hb)
  · rw [getD_set_ne false hij] at hl
    exact getD_set_true (hc j o ho hl e he hb)

theorem opQ_mono {α : Operand → AV} {op : Op} {K K' : AV → Heap → Prop} (hk : ∀ x H', K x H' → K' x H') (h : opQ P H α op K) : opQ P H α op K' := by
  unfold opQ cloK at *
  split at h
  · split at h
    · obtain ⟨x, h1, h2⟩ := h; exact ⟨x, h1, hk _ _ h2⟩
    · exact h.elim
  · exact ⟨h.1, hk _ _ h.2⟩

theorem storeK_mono {tI : TI} {a x : AV} {K K' : AV → Heap → Prop} (hk : ∀ x H', K x H' → K' x H') (h : storeK tI H a x K) : storeK tI H a x K' := by
  unfold storeK at *
  obtain ⟨h1, h⟩ := h
  refine ⟨h1, ?_⟩
  split at h
  · split at h
    · exact ⟨h.1, h.2.1, h.2.2.1, hk _ _ h.2.2.2⟩
    · exact h.elim
  · split at h
    · exact ⟨h.1, h.2.1, h.2.2.1, h.2.2.2.1, hk _ _ h.2.2.2.2⟩
    · split at h
      · exact ⟨h.1, h.2.1, h.2.2.1, h.2.2.2.1, hk _ _ h.2.2.2.2⟩
      · exact h.elim
    · exact h.elim
  · exact h.elim

theorem bK_mono {b : Builtin} {ts : List TypeId} {xs : List AV} {K K' : AV → Heap → Prop} (hk : ∀ x H', K x H' → K' x H') (h : bK P H b ts xs K) : bK P H b ts xs K' := by
  unfold bK appK delK at *
  split at h
  · split at h
    · split at h
      · exact ⟨h.1, h.2.1, h.2.2.1, hk _ _ h.2.2.2⟩
      · exact h.elim
    · exact ⟨h.1, hk _ _ h.2⟩
  · split at h
    · split at h
      · exact ⟨h.1, h.2.1, h.2.2.1, hk _ _ h.2.2.2⟩
      · exact h.elim
    · exact h.elim
  · exact ⟨h.1, hk _ _ h.2⟩

theorem opK_mono {α : Operand → AV} {op : Op} {K K' : AV → Heap → Prop} (hk : ∀ x H', K x H' → K' x H') (h : opK P H α op K) : opK P H α op K' := by
  unfold opK at *
  split at h
  · exact ⟨h.1, hk _ _ h.2⟩
  · exact ⟨h.1, hk _ _ h.2⟩
  · exact storeK_mono hk h
  · split at h
    · exact ⟨h.1, hk _ _ h.2⟩
    · exact h.elim
  · unfold binK at *
    split at h
    · exact ⟨h.1, fun b hb => hk _ _ (h.2 b hb)⟩
    · exact ⟨h.1, fun b hb => hk _ _ (h.2 b hb)⟩
    · exact ⟨h.1, hk _ _ h.2⟩
  · exact hk _ _ h
  · unfold mupK at *
    split at h
    · split at h
      · exact ⟨h.1, h.2.1, hk _ _ h.2.2⟩
      · exact h.elim
    · exact h.elim
  · unfold entK at *
    split at h
    · split at h
      · exact ⟨h.1, h.2.1, h.2.2.1, hk _ _ h.2.2.2⟩
      · exact h.elim
    · exact h.elim
  · unfold enstK at *
    split at h
    · split at h
      · split at h
        · exact hk _ _ h
        · exact h.elim
      · exact h.elim
    · exact h.elim
  · unfold cloK at *
    split at h
    · exact h.mono fun x H' _ hx => hk x H' hx
    · exact h.elim
  · exact bK_mono hk h
  · exact ⟨h.1, hk _ _ h.2⟩

theorem gK_mono {α : Operand → AV} {op : Op} {G : Bool} {K K' : AV → Heap → Prop} (hk : ∀ x H', K x H' → K' x H') (h : gK P H α op G K) : gK P H α op G K' := by
  unfold gK at *
  split at h
  · obtain ⟨x, h1, h2⟩ := h; exact ⟨x, h1, hk _ _ h2⟩
  · exact ⟨h.1, hk _ _ h.2⟩
theorem guardK_mono {α : Operand → AV} {op : Op} {c : AV} {want : Bool} {K K' : AV → Heap → Prop} (hk : ∀ x H', K x H' → K' x H') (h : guardK P H α c want op K) : guardK P H α c want op K' := by
  unfold guardK at *
  split at h
  · exact gK_mono hk h
  · exact gK_mono hk h
  · exact h.elim

theorem stepK_mono {q : Bool} {ds : List (Option Tmp)} {o : Oper} {F : AF} {K K' : AV → Heap → Prop} (hk : ∀ x H', K x H' → K' x H') (h : stepK P q ds o F H K) : stepK P q ds o F H K' := by
  unfold stepK at *
  split at h
  · cases q with
    | true => exact opQ_mono hk h
    | false => exact opK_mono hk h
  · exact guardK_mono hk h

theorem up_comm (F : AF) {d e : Option Tmp} (x y : AV) (h : ∀ t, d = some t → e ≠ some t) : up (up F d x) e y = up (up F e y) d x := by
  cases d with
  | none => rfl
  | some d =>
    cases e with
    | none => rfl
    | some e =>
      have hne : d ≠ e := fun he => h d rfl (by rw [he])
      funext t
      simp only [up]
      by_cases h1 : d = t <;> by_cases h2 : e = t <;> simp [h1, h2]
      exact absurd (h1.trans h2.symm) hne

theorem up_other {F : AF} {d : Option Tmp} {x : AV} {t : Nat} (h : d ≠ some t) : up F d x t = F t := by
  cases d with
  | none => rfl
  | some d => simp only [up]; exact if_neg fun e => h (by rw [e])

theorem aAny_first {ops : Array Oper} {es : List Nat} {K : AF → Heap → Prop} {i : Nat} {oi : Oper} (hi : ops[i]? = some oi) (hcmp : cmpOk ops es = true) (hes : i ∉ es) :
    ∀ (fuel : Nat) (listed : Array Bool) (F : AF) (H : Heap) (v : AV), Closed ops listed →
      (∀ j oj, ops[j]? = some oj → j ≠ i → listed.getD j true = false → (∀ e ∈ oj.after, Region.binds .any e = true → e.on ≠ i) → oi.apart ops oj = true) →
      i ∈ Region.ready .any ops listed → Yl P (ops.toList.map (·.dst)) oi F H v →
      aAny P ops es K fuel (listed.setIfInBounds i true) (up F oi.dst v) H → aAny P ops es K (fuel + 1) listed F H := by
  have hq : (!es.contains i) = true := by simpa using hes
  intro fuel
  induction fuel with
  | zero =>
    intro listed F H v hc _ hr hy hh
    refine ⟨fun h => (by rw [h] at hr; cases hr), fun j hj o ho => ?_⟩
    by_cases hji : j = i
    · subst hji
      rw [hi] at ho; cases ho
      rw [hq]
      exact hy _ hh
    · have := ready_mono hj hji
      rw [hh.1] at this
      cases this
  | succ fuel ih =>
    intro listed F H v hc hfree hr hy hh
    refine ⟨fun h => (by rw [h] at hr; cases hr), fun j hj oj hoj => ?_⟩
    by_cases hji : j = i
    · subst hji
      rw [hi] at hoj; cases hoj
      rw [hq]
      exact hy _ hh
    · have h1 := hh.2 j (ready_mono hj hji) oj hoj
      obtain ⟨hjun, oj', hoj', hall⟩ := mem_ready.1 hj
      rw [hoj] at hoj'; cases hoj'
      have hnot : ∀ e ∈ oj.after, Region.binds .any e = true → e.on ≠ i := fun e he hb heq => by
        have h1 := hall e he hb
        rw [heq, ready_unlisted hr] at h1
        cases h1
      obtain ⟨a1, a2, a3⟩ := Oper.apart_spec (hfree j oj hoj hji hjun hnot)
      rw [stepQ_congr (F' := F) (fun t ht => up_other fun e => a1 t e ht)] at h1
      have hfree' : ∀ k ok, ops[k]? = some ok → k ≠ i → (listed.setIfInBounds j true).getD k true = false →
          (∀ e ∈ ok.after, Region.binds .any e = true → e.on ≠ i) → oi.apart ops ok = true := fun k ok hk hki hun hno => by
        refine hfree k ok hk hki ?_ hno
        by_cases hjk : j = k
        · subst hjk; exact hjun
        · rw [getD_set_ne true hjk] at hun; exact hun
      have go : ∀ u H', Yl P (ops.toList.map (·.dst)) oi F H' v → aAny P ops es K fuel ((listed.setIfInBounds i true).setIfInBounds j true) (up (up F oi.dst v) oj.dst u) H' → aAny P ops es K (fuel + 1) (listed.setIfInBounds j true) (up F oj.dst u) H' := by
        intro u H' hy' hK
        refine ih (listed.setIfInBounds j true) (up F oj.dst u) H' v (hc.take hj) hfree' (ready_mono hr (Ne.symm hji)) ?_ ?_
        · intro K hK
          rw [stepQ_congr (F' := F) (fun t ht => up_other fun e => a3 t e ht)]
          exact hy' K hK
        · rw [Array.setIfInBounds_comm _ _ hji, up_comm _ _ _ (fun t ht h => a2 t h ht)]
          exact hK
      by_cases hje : j ∈ es
      · rcases alone hc hcmp hr hj hje with h | ⟨_, o, ho, h3, h4⟩
        · exact absurd h.symm hji
        · rw [hi] at ho; cases ho
          exact stepK_mono (fun x H' hx => go x H' (heapless_yl h3 h4 hy) hx) h1
      · have hqj : (!es.contains j) = true := by simpa using hje
        rw [hqj] at h1 ⊢
        obtain ⟨u, hu, hK⟩ := stepK_yl h1
        exact hu _ (go u H hy hK)

theorem aAny_lex {ops : Array Oper} {es : List Nat} {K : Fr → Heap → Prop} (hcmp : cmpOk ops es = true) : ∀ (os : List Oper) (k : Nat) (listed : Array Bool) (l : Fr) (H : Heap), Closed ops listed → (∀ j, j < k → listed.getD j true = true) → (∀ j, os[j]? = ops[k + j]?) →
    Region.lexFrom .any ops os.length k listed = true → opsD P (ops.toList.map (·.dst)) es k os K l H → aAny P ops es (fun F H => ∃ l, lk l = F ∧ K l H) os.length listed (lk l) H
  | [], _, _, l, H, _, _, _, hB, h => ⟨by simpa [Region.lexFrom] using hB, l, rfl, h⟩
  | o :: os, k, listed, l, H, hc, hlow, hl, hB, h => by
    have h0 : ops[k]? = some o := by simpa using (hl 0).symm
    simp only [List.length_cons, Region.lexFrom, Bool.and_eq_true] at hB
    obtain ⟨⟨hr, hf⟩, hB'⟩ := hB
    have hr' : k ∈ Region.ready .any ops listed := by simpa using hr
    have hl' : ∀ j, os[j]? = ops[k + 1 + j]? := fun j => by have := hl (j + 1); simpa [Nat.add_assoc, Nat.add_comm 1 j] using this
    have hlow' : ∀ j, j < k + 1 → (listed.setIfInBounds k true).getD j true = true := fun j hj => by
      by_cases e : k = j
      · subst e
        rcases Nat.lt_or_ge k listed.size with h' | h'
        · simp [h']
        · simp [h']
      · rw [getD_set_ne true e]; exact hlow j (by omega)
    by_cases hk : k ∈ es
    · have hq : (!es.contains k) = false := by simpa using hk
      refine ⟨fun h => (by rw [h] at hr'; cases hr'), fun i hi oi hoi => ?_⟩
      have e : i = k := by
        rcases alone hc hcmp hi hr' hk with h | ⟨h, _⟩
        · exact h
        · have h1 := hlow i h
          obtain ⟨h2, _⟩ := mem_ready.1 hi
          rw [h1] at h2; cases h2
      subst e
      rw [h0] at hoi; cases hoi
      change stepK P (!es.contains i) _ o (lk l) H _ at h
      refine stepK_mono (fun x H' hx => ?_) h
      rw [← lk_pt]
      exact aAny_lex hcmp os (i + 1) _ (pt l o.dst x) H' (hc.take hr') hlow' hl' hB' hx
    · have hq : (!es.contains k) = true := by simpa using hk
      change stepK P (!es.contains k) _ o (lk l) H _ at h
      rw [hq] at h
      obtain ⟨v, hy, hK⟩ := stepK_yl h
      refine aAny_first h0 hcmp hk os.length listed (lk l) H v hc (Region.free_spec h0 hf) hr' hy ?_
      rw [← lk_pt]
      exact aAny_lex hcmp os (k + 1) _ (pt l o.dst v) H (hc.take hr') hlow' hl' hB' hK

def drawOk (ops : Array Oper) (es : List Nat) : Bool := Region.lexB .any ops && cmpOk ops es

theorem opsD_any {ops : Array Oper} {es : List Nat} {K : Fr → Heap → Prop} {l : Fr} (hd : drawOk ops es = true) (h : opsD P (ops.toList.map (·.dst)) es 0 ops.toList K l H) : aAny P ops es (fun F H => ∃ l, lk l = F ∧ K l H) ops.size (Array.replicate ops.size false) (lk l) H := by
  simp only [drawOk, Region.lexB, Bool.and_eq_true] at hd
  obtain ⟨⟨_, h1⟩, h2⟩ := hd
  have := aAny_lex (P := P) (K := K) h2 ops.toList 0 (Array.replicate ops.size false) l H (fun j o _ hl => by
    exfalso
    by_cases hj : j < ops.size
    · simp [hj] at hl
    · simp [hj] at hl) (fun j hj => absurd hj (Nat.not_lt_zero _)) (by simp) (by simpa using h1) h
  simpa using this

end Go.Av
end

section
set_option linter.unusedVariables false
set_option linter.unusedSimpArgs false
open Go.RowKit
namespace Go.Av
variable {P : Program} {m : Hand} {H : Heap} {w : World}

def le (l0 l : Fr) : Prop := ∀ t, lk l0 t = .junk ∨ lk l0 t = lk l t
theorem le_nil {l : Fr} : le [] l := fun _ => .inl rfl
theorem le_cons {k : Nat} {x : AV} {l0 l : Fr} (h : lk l k = x) (hl : le l0 l) : le ((k, x) :: l0) l := by
  intro t
  simp only [lk]
  cases hb : Nat.beq k t with
  | true =>
    have : k = t := Nat.eq_of_beq_eq_true hb
    subst this
    exact .inr h.symm
  | false => exact hl t
theorem le_refl (l : Fr) : le l l := fun _ => .inr rfl
def wk (K : Fr → Heap → Prop) (l : Fr) (H : Heap) : Prop := ∃ l0, le l0 l ∧ K l0 H
theorem FRel.le {N : Nat} {l0 l : Fr} {a : Act} (h : FRel m H w N (lk l) a) (hl : le l0 l) : FRel m H w N (lk l0) a :=
  ⟨h.size, h.defers, fun t => (hl t).elim (fun e => by rw [e]; exact .junk _) (fun e => by rw [e]; exact h.val t)⟩

abbrev Post := Exit → Fr → Heap → Prop
def AQ (N : Nat) (Q : Post) (m : Hand) (H : Heap) (w : World) : Exit → Act → World → Prop := fun e a' w' =>
  ∃ m' l' H', Q e l' H' ∧ Rel m' H' w' ∧ FRel m' H' w' N (lk l') a' ∧ Ext m H w m' H' w'
def AW (P : Program) (N : Nat) (c : Code) (Q : Post) (l : Fr) (H : Heap) : Prop :=
  ∀ m w a, Rel m H w → FRel m H w N (lk l) a → c.wp P (AQ N Q m H w) a w

variable {N : Nat} {Q Q' : Post} {l : Fr}

theorem AQ.of {m' : Hand} {H' : Heap} {w' : World} {e : Exit} {a : Act} {l' : Fr} (R : Rel m' H' w') (F : FRel m' H' w' N (lk l') a) (E : Ext m H w m' H' w') (h : Q e l' H') : AQ N Q m H w e a w' := ⟨m', l', H', h, R, F, E⟩
theorem AQ.ext {m1 : Hand} {H1 : Heap} {w1 : World} {e : Exit} {a : Act} {w' : World} (E : Ext m H w m1 H1 w1) (h : AQ N Q m1 H1 w1 e a w') : AQ N Q m H w e a w' := by
  obtain ⟨m', l', H', h1, h2, h3, h4⟩ := h
  exact ⟨m', l', H', h1, h2, h3, E.trans h4⟩
theorem AW.mono {c : Code} (h : AW P N c Q l H) (hq : ∀ e l' H', H.length ≤ H'.length → Q e l' H' → Q' e l' H') : AW P N c Q' l H :=
  fun m w a R F => wp_mono (h m w a R F) fun e a' w' ⟨m', l', H', h1, h2, h3, h4⟩ => ⟨m', l', H', hq _ _ _ h4.len h1, h2, h3, h4⟩
theorem AW.le {c : Code} {l0 : Fr} (hl : le l0 l) (h : AW P N c Q l0 H) : AW P N c Q l H := fun m w a R F => h m w a R (F.le hl)

theorem AW.skip (h : Q .normal l H) : AW P N .skip Q l H := fun m w a R F => wp_skip (AQ.of R F (Ext.refl _ _ _) h)
theorem AW.label {n : Nat} (h : Q .normal l H) : AW P N (.label n) Q l H := fun m w a R F => wp_label (AQ.of R F (Ext.refl _ _ _) h)
theorem AW.exit {id : Nat} (h : Q (.exit id) l H) : AW P N (.exit id) Q l H := fun m w a R F => wp_exit (AQ.of R F (Ext.refl _ _ _) h)
theorem AW.goto {n : Nat} (h : Q (.goto n) l H) : AW P N (.goto n) Q l H := fun m w a R F => wp_goto (AQ.of R F (Ext.refl _ _ _) h)
theorem AW.ret (h : Q .ret l H) : AW P N .ret Q l H := fun m w a R F => wp_ret (AQ.of R F (Ext.refl _ _ _) h)

def seqK (K : Fr → Heap → Prop) (Q : Post) : Post
  | .normal => K
  | e => Q e
theorem AW.seq {x y : Code} (h : ∀ K : Fr → Heap → Prop, (∀ l' H', H.length ≤ H'.length → AW P N y Q l' H' → K l' H') → AW P N x (seqK K Q) l H) : AW P N (.seq x y) Q l H := by
  intro m w a R F
  refine wp_seq (wp_mono (h (fun l' H' => AW P N y Q l' H') (fun _ _ _ h => h) m w a R F) ?_)
  rintro e a' w' ⟨m', l', H', h1, h2, h3, h4⟩
  cases e with
  | normal => exact wp_mono (h1 m' w' a' h2 h3) fun e a' w' h => h.ext h4
  | _ => exact ⟨m', l', H', h1, h2, h3, h4⟩

theorem AW.cond {c : Operand} {x y : Code} {b : Bool} (hc : opA (lk l) c = .bool b) (ht : b = true → AW P N x Q l H) (hf : b = false → AW P N y Q l H) : AW P N (.cond c x y) Q l H := by
  intro m w a R F
  have := F.eval c
  rw [hc] at this
  exact wp_cond_split this.bool_inv (fun h => ht h m w a R F) (fun h => hf h m w a R F)

def blockK (id : Nat) (Q : Post) : Post
  | .exit id', l, H => if id' = id then Q .normal l H else Q (.exit id') l H
  | e, l, H => Q e l H
theorem AW.block {id : Nat} {c : Code} (h : AW P N c (blockK id Q) l H) : AW P N (.block id c) Q l H := by
  intro m w a R F
  refine wp_block (wp_mono (h m w a R F) ?_)
  rintro e a' w' ⟨m', l', H', h1, h2, h3, h4⟩
  cases e with
  | exit id' =>
    simp only [blockK] at h1
    simp only [Exit.inBlock]
    split at h1
    · rename_i e; rw [if_pos e]; exact ⟨m', l', H', h1, h2, h3, h4⟩
    · rename_i e; rw [if_neg e]; exact ⟨m', l', H', h1, h2, h3, h4⟩
  | _ => exact ⟨m', l', H', h1, h2, h3, h4⟩

def roundK (I : Nat → Fr → Heap → Prop) (n : Nat) (l : Fr) (H : Heap) : Prop := ∃ n', n' < n ∧ ∃ l0, le l0 l ∧ I n' l0 H
theorem AW.loop {c : Code} (I : Nat → Fr → Heap → Prop) (n₀ : Nat) (h₀ : wk (I n₀) l H) (round : ∀ n l' H', H.length ≤ H'.length → I n l' H' → AW P N c (seqK (roundK I n) Q) l' H') : AW P N (.loop c) Q l H := by
  intro m w a R F
  obtain ⟨l0, hl0, hI0⟩ := h₀
  refine wp_loop_ghost (fun n a' w' => ∃ m' l' H', I n l' H' ∧ Rel m' H' w' ∧ FRel m' H' w' N (lk l') a' ∧ Ext m H w m' H' w') n₀ ⟨m, l0, H, hI0, R, F.le hl0, Ext.refl _ _ _⟩ ?_
  rintro n a1 w1 ⟨m1, l1, H1, hI, R1, F1, E1⟩
  refine wp_mono (round n l1 H1 E1.len hI m1 w1 a1 R1 F1) ?_
  rintro e a' w' ⟨m', l', H', h1, h2, h3, h4⟩
  cases e with
  | normal =>
    obtain ⟨n', hn, l0, hl, hI'⟩ := h1
    exact ⟨n', hn, m', l0, H', hI', h2, h3.le hl, E1.trans h4⟩
  | _ => exact ⟨m', l', H', h1, h2, h3, E1.trans h4⟩

def scopeK (Q : Post) : Post
  | .goto _ => fun _ _ => False
  | e => Q e
theorem AW.scope {c : Code} (h : AW P N c (scopeK Q) l H) : AW P N (.scope c) Q l H := by
  intro m w a R F
  refine wp_scope_straight (wp_mono (h m w a R F) ?_)
  rintro e a' w' ⟨m', l', H', h1, h2, h3, h4⟩
  cases e with
  | goto => exact h1
  | _ => exact ⟨m', l', H', h1, h2, h3, h4⟩

theorem AW.region {os : List Oper} {id : Nat} (hN : dstOk N os = true) (h : opsK P (os.map (·.dst)) os (Q .normal) l H) : AW P N (.region id os.toArray false) Q l H := by
  intro m w a R F
  refine wp_region ?_
  have := opsK_wp (P := P) (ops := os.toArray) (N := N) (K := Q .normal) (Q := AQ N Q m H w) (m0 := m) (H0 := H) (w0 := w) hN (fun m' H' w' l' a' h1 h2 h3 h4 => ⟨m', l', H', h1, h2, h3, h4⟩) os 0 rfl m H w l a R F (Ext.refl _ _ _) h
  rw [List.range_eq_range']
  exact this

theorem drawn_ext (w : World) : Ext m H w m H { w with drawn := w.drawn + 1 } := Ext.same (Nat.le_refl _) (fun _ _ => rfl) rfl rfl rfl

theorem AW.draw {os : List Oper} {id : Nat} (es : List Nat) (hm : P.follows .mixedOrders = true) (hd : drawOk os.toArray es = true) (hN : dstOk N os = true) (h : opsD P (os.map (·.dst)) es 0 os (Q .normal) l H) : AW P N (.region id os.toArray true) Q l H := by
  intro m w a R F
  have E := drawn_ext (m := m) (H := H) w
  refine wp_region_any hm ?_
  have h1 := opsD_any (P := P) (ops := os.toArray) (K := Q .normal) (l := l) (H := H) hd h
  refine aAny_wp (K := fun F H => ∃ l, lk l = F ∧ Q .normal l H) hN ?_ _ _ m H _ (lk l) a (R.same (Nat.le_refl _) (fun _ _ => rfl) rfl rfl rfl) (F.ext E) E h1
  rintro m' H' w' F' a' ⟨l', rfl, h⟩ R' FR' E'
  exact ⟨m', l', H', h, R', FR', E'⟩

/-- the heap as the proof sees it changes, the machine does not -/
theorem AW.ghost {c : Code} {l' : Fr} {H' : Heap} (g : ∀ m w a, Rel m H w → FRel m H w N (lk l) a → ∃ m', Rel m' H' w ∧ FRel m' H' w N (lk l') a ∧ Ext m H w m' H' w) (h : AW P N c Q l' H') : AW P N c Q l H := by
  intro m w a R F
  obtain ⟨m', R', F', E'⟩ := g m w a R F
  exact wp_mono (h m' w a R' F') fun e a' w' h => h.ext E'

/-! ### entering a function -/
def rv1 (P : Program) (l : Fr) (H : Heap) : ResultVar → AV
  | .tmp t => lk l t
  | .cell a t => loadV (tyI P t) H (lk l a)
def rp1 (P : Program) (l : Fr) (H : Heap) : ResultVar → Prop
  | .tmp t => True
  | .cell a t => loadP (tyI P t) H (lk l a)
def rps (P : Program) (l : Fr) (H : Heap) : List ResultVar → Prop
  | [] => True
  | r :: rs => rp1 P l H r ∧ rps P l H rs
def rvs (P : Program) (l : Fr) (H : Heap) : List ResultVar → AV
  | [r] => rv1 P l H r
  | rs => .tup (rs.map (rv1 P l H))
def retK (P : Program) (rs : List ResultVar) (R : AV → Heap → Prop) : Post
  | .normal, l, H => rps P l H rs ∧ R (rvs P l H rs) H
  | .ret, l, H => rps P l H rs ∧ R (rvs P l H rs) H
  | _, _, _ => False

theorem rps_all {rs : List ResultVar} (h : rps P l H rs) : ∀ r ∈ rs, rp1 P l H r := by
  induction rs with
  | nil => simp
  | cons r rs ih =>
    intro x hx
    rcases List.mem_cons.1 hx with rfl | hx
    · exact h.1
    · exact ih h.2 x hx

theorem rv_run {r : ResultVar} {a : Act} (R : Rel m H w) (F : FRel m H w N (lk l) a) (h : rp1 P l H r) :
    ∃ v, ((match r with | .tmp t => pure (a.tmps.getD t undef) | .cell ad t => do loadVar t (← asAddr (a.tmps.getD ad undef))) : Sem Value).run P w = .ok v w ∧ VR m H w (rv1 P l H r) v := by
  cases r with
  | tmp t => exact ⟨_, rfl, F.val t⟩
  | cell ad t =>
    obtain ⟨x, v, e, h1, h2⟩ := q_load0 R (F.val ad) h
    exact ⟨v, by simp [e, asAddr, h1], h2⟩

theorem run_mapM {α : Type} (f : α → Sem Value) (g : α → AV) : ∀ (rs : List α), (∀ r ∈ rs, ∃ v, (f r).run P w = .ok v w ∧ VR m H w (g r) v) →
    ∃ vs : List Value, (rs.mapM f).run P w = .ok vs w ∧ vs.length = rs.length ∧ ∀ j (h : j < rs.length) (h' : j < vs.length), VR m H w (g rs[j]) vs[j]
  | [], _ => ⟨[], by simp, rfl, fun j h => by simp at h⟩
  | r :: rs, h => by
    obtain ⟨v, h1, h2⟩ := h r (by simp)
    obtain ⟨vs, h3, h4, h5⟩ := run_mapM f g rs fun r hr => h r (by simp [hr])
    refine ⟨v :: vs, by simp [h1, h3], by simp [h4], fun j hj hj' => ?_⟩
    cases j with
    | zero => exact h2
    | succ j => exact h5 j (by simpa using hj) (by simpa using hj')

theorem results_run {fn : Func} {rs : List ResultVar} {a : Act} (hr : fn.results = rs.toArray) (R : Rel m H w) (F : FRel m H w N (lk l) a) (h : rps P l H rs) : ∃ v, (results fn a.tmps).run P w = .ok v w ∧ VR m H w (rvs P l H rs) v := by
  obtain ⟨vs, h1, h2, h3⟩ := run_mapM (P := P) (m := m) (H := H) (w := w) _ (rv1 P l H) rs fun r hr => rv_run R F (rps_all h r hr)
  have h4 : (results fn a.tmps).run P w = .ok (if h : vs.toArray.size = 1 then vs.toArray[0] else .tuple vs.toArray) w := by
    unfold results
    rw [hr]
    simp only [List.mapM_toArray, Sem.run_bind, Sem.run_map]
    refine Eq.trans (congrArg (fun r => (Result.andThen (Result.andThen r _) _)) h1) ?_
    rfl
  match rs, vs, h2, h3, h4 with
  | [], [], _, h3, h4 => exact ⟨_, h4, .tup _ _ (by simp) (fun j hj => by simp at hj)⟩
  | [r], [v], _, h3, h4 => exact ⟨_, h4, by simpa [rvs] using h3 0 (by simp) (by simp)⟩
  | r :: r' :: rs, v :: v' :: vs, hl, h3, h4 =>
    refine ⟨_, h4, ?_⟩
    rw [dif_neg (by simp)]
    refine .tup _ _ (by simpa using hl) fun j hj => ?_
    have hj' : j < (r :: r' :: rs).length := by simpa using hj
    have := h3 j hj' (by rw [hl]; exact hj')
    have e : ((v :: v' :: vs).toArray).getD j undef = (v :: v' :: vs)[j]'(by rw [hl]; exact hj') := by
      simp only [Array.getD, List.size_toArray]
      rw [dif_pos (by rw [hl]; exact hj')]
      simp
    rw [e, List.getElem_map]
    exact this

def argF (i : Nat) : List AV → Fr
  | [] => []
  | x :: xs => (i, x) :: argF (i + 1) xs
theorem lk_argF : ∀ (xs : List AV) (i t : Nat), lk (argF i xs) t = if i ≤ t then xs.getD (t - i) .junk else .junk
  | [], i, t => by simp [argF, lk]
  | x :: xs, i, t => by
    simp only [argF, lk, lk_argF xs (i + 1) t]
    cases hb : Nat.beq i t with
    | true =>
      have : i = t := Nat.eq_of_beq_eq_true hb
      subst this
      simp
    | false =>
      have hne : i ≠ t := fun e => by subst e; simp at hb
      simp only [cond_false]
      by_cases h : i + 1 ≤ t
      · rw [if_pos h, if_pos (by omega)]
        have : t - i = (t - (i + 1)) + 1 := by omega
        rw [this]; simp
      · rw [if_neg h, if_neg (by omega)]

theorem ACalls.enter {f : FuncId} {fn : Func} {c : Code} {xs : List AV} {rs : List ResultVar} {R : AV → Heap → Prop} (hf : P.funcs[f]? = some fn) (hn : (fn.name == "runtime.NumGoroutine") = false) (hb : fn.body = some c) (hN : fn.ntmps = N) (hl : xs.length ≤ N) (hr : fn.results = rs.toArray)
    (h : AW P N c (retK P rs R) (argF 0 xs) H) : ACalls P f xs H R := by
  intro m w vs RR hs hv
  have hrun : (callFunc f vs).run P w = .ok (.enter f vs) w := by
    have hn' : ¬ fn.name = "runtime.NumGoroutine" := by simpa using hn
    simp [callFunc, hf, hn', hb]
  rw [hrun]
  refine calls_of_wp hf hb (wp_mono (h m w _ RR ⟨?_, rfl, ?_⟩) ?_)
  · simp [hN]; omega
  · intro t
    rw [lk_argF, if_pos (Nat.zero_le _), Nat.sub_zero]
    by_cases ht : t < xs.length
    · have := hv t ht
      have e1 : xs.getD t .junk = xs[t] := by simp [List.getD, ht]
      have e2 : (vs ++ Array.replicate (fn.ntmps - vs.size) undef).getD t undef = vs.getD t undef := by
        have h1 : t < vs.size := by omega
        simp [Array.getD, h1, Array.getElem_append, show t < vs.size + (fn.ntmps - vs.size) by omega]
      rw [e1, e2]
      exact this
    · have e1 : xs.getD t .junk = .junk := by simp [List.getD, Nat.le_of_not_lt ht]
      rw [e1]
      exact .junk _
  · rintro e a' w' ⟨m', l', H', h1, h2, h3, h4⟩
    cases e with
    | normal =>
      obtain ⟨v, r1, r2⟩ := results_run hr h2 h3 h1.1
      exact ⟨h3.defers, v, r1, v, rfl, m', _, H', h1.2, r2, h2, h4⟩
    | ret =>
      obtain ⟨v, r1, r2⟩ := results_run hr h2 h3 h1.1
      exact ⟨h3.defers, v, r1, v, rfl, m', _, H', h1.2, r2, h2, h4⟩
    | exit => exact h1
    | goto => exact h1
    | panic => exact h1.elim
    | outgrown => exact h1.elim

/-! ### the objects of a call's own are forgotten; rows become values -/
def Gh (x : AV) (H : Heap) (x' : AV) (H' : Heap) : Prop := ∀ m w v, Rel m H w → VR m H w x v → ∃ m', Rel m' H' w ∧ VR m' H' w x' v ∧ Ext m H w m' H' w
theorem ACalls.ghost {f : FuncId} {xs : List AV} {R R' : AV → Heap → Prop} (h : ACalls P f xs H R) (hg : ∀ x H', H.length ≤ H'.length → R x H' → ∃ x' H'', Gh x H' x' H'' ∧ R' x' H'') : ACalls P f xs H R' := by
  intro m w vs RR hs hv
  have := h m w vs RR hs hv
  have key : ∀ v w', Out m H w R v w' → Out m H w R' v w' := by
    rintro v w' ⟨m', x, H', h1, h2, h3, h4⟩
    obtain ⟨x', H'', g, r⟩ := hg x H' h4.len h1
    obtain ⟨m'', g1, g2, g3⟩ := g m' w' v h3 h2
    exact ⟨m'', x', H'', r, g2, g1, h4.trans g3⟩
  generalize (callFunc f vs).run P w = r at this
  unfold OpS at this ⊢
  split at this
  · exact key _ _ this
  · exact key _ _ this
  · exact this.mono fun e w' ⟨v, hv, ho⟩ => ⟨v, hv, key _ _ ho⟩
  · exact this.elim

theorem ACalls.drop {f : FuncId} {xs : List AV} {R : AV → Heap → Prop} (h : ACalls P f xs H fun x H' => ∃ L, H' = H ++ L ∧ x.lt H.length ∧ R x H) : ACalls P f xs H R := by
  intro m w vs RR hs hv
  have := h m w vs RR hs hv
  have key : ∀ v w', Out m H w (fun x H' => ∃ L, H' = H ++ L ∧ x.lt H.length ∧ R x H) v w' → Out m H w R v w' := by
    rintro v w' ⟨m', x, H', ⟨L, rfl, h1, h2⟩, h3, h4, h5⟩
    exact ⟨m', x, H, h2, h3.drop h1, h4.drop RR.lt, h5.drop (Nat.le_refl _)⟩
  generalize (callFunc f vs).run P w = r at this
  unfold OpS at this ⊢
  split at this
  · exact key _ _ this
  · exact key _ _ this
  · exact this.mono fun e w' ⟨v, hv, ho⟩ => ⟨v, hv, key _ _ ho⟩
  · exact this.elim

theorem ACalls.drop' {f : FuncId} {xs : List AV} {R : AV → Heap → Prop} (h : ACalls P f xs H fun x H' => ∃ H0 L, H' = H0 ++ L ∧ H.length ≤ H0.length ∧ x.lt H0.length ∧ (∀ o ∈ H0, o.lt H0.length) ∧ R x H0) : ACalls P f xs H R := by
  intro m w vs RR hs hv
  have := h m w vs RR hs hv
  have key : ∀ v w', Out m H w (fun x H' => ∃ H0 L, H' = H0 ++ L ∧ H.length ≤ H0.length ∧ x.lt H0.length ∧ (∀ o ∈ H0, o.lt H0.length) ∧ R x H0) v w' → Out m H w R v w' := by
    rintro v w' ⟨m', x, H', ⟨H0, L, rfl, h0, h1, h6, h2⟩, h3, h4, h5⟩
    exact ⟨m', x, H0, h2, h3.drop h1, h4.drop h6, h5.drop h0⟩
  generalize (callFunc f vs).run P w = r at this
  unfold OpS at this ⊢
  split at this
  · exact key _ _ this
  · exact key _ _ this
  · exact this.mono fun e w' ⟨v, hv, ho⟩ => ⟨v, hv, key _ _ ho⟩
  · exact this.elim

end Go.Av
end
