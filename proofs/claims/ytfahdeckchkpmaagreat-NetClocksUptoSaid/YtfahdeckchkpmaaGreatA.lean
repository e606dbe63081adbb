/- Proved here: NetClocksUptoSaid, the law NetClocks where what it reads is of bulk at most 1048576; this text holds a part of its proof. -/
import Derived.WalkKit
import Derived.WalkSpells
import Derived.Deep.LoopGhost
import Derived.Deep.AppendSrc
import Derived.Laws.BytesString
import Derived.WalkLawsBesides
section
set_option linter.unusedVariables false
set_option linter.unusedSimpArgs false
namespace Go.Av

inductive AV where
  | junk
  | int (k : IntKind) (n : Int)
  | bool (b : Bool)
  | str (s : ByteArray)
  | nilp
  | nilm
  | nils
  | nums (k : IntKind) (t : Bool) (xs : List Int)
  | sl (t : Bool) (n : Nat) (cs : List AV)
  | agg (cs : List AV)
  | tup (cs : List AV)
  | ptr (id off : Nat)
  | ip (cs : List AV)
  | rref (id ver off n : Nat)
  | eptr (id ver i : Nat)
  | cref (id off n : Nat)
  | mref (id : Nat)
  | clo (f : FuncId) (cs : List AV)
  | whn (g : Bool) (x : AV)

instance : Inhabited AV := ⟨.junk⟩

mutual
/-- all references lie below n -/
def AV.lt (n : Nat) : AV → Prop
  | .sl _ _ cs => AV.lts n cs
  | .agg cs => AV.lts n cs
  | .tup cs => AV.lts n cs
  | .ip cs => AV.lts n cs
  | .clo _ cs => AV.lts n cs
  | .whn g x => g = true → AV.lt n x
  | .ptr id _ => id < n
  | .rref id _ _ _ => id < n
  | .eptr id _ _ => id < n
  | .cref id _ _ => id < n
  | .mref id => id < n
  | _ => True
def AV.lts (n : Nat) : List AV → Prop
  | [] => True
  | x :: r => AV.lt n x ∧ AV.lts n r
end

theorem lts_iff {n : Nat} : ∀ {l : List AV}, AV.lts n l ↔ ∀ j (h : j < l.length), AV.lt n l[j]
  | [] => by simp [AV.lts]
  | x :: r => by
    rw [AV.lts, lts_iff (l := r)]
    constructor
    · rintro ⟨h, h'⟩ j hj
      cases j with
      | zero => exact h
      | succ j => exact h' j (by simpa using hj)
    · intro h
      exact ⟨h 0 (by simp), fun j hj => h (j + 1) (by simpa using hj)⟩

inductive Obj where
  | dead
  | cells (cs : List AV)
  | row (ver : Nat) (e : TypeId) (sz n : Nat) (cs : List AV)
  | nrow (ver : Nat) (e : TypeId) (k : IntKind) (xs : List Int)
  | map (ck : Nat) (kvs : List (Nat × AV × AV))

inductive Sig where
  | c (n : Nat)
  | r (v sz n : Nat)
  | m

def Obj.sig : Obj → Option Sig
  | .dead => none
  | .cells cs => some (.c cs.length)
  | .row v _ sz n _ => some (.r v sz n)
  | .nrow v _ _ xs => some (.r v 1 xs.length)
  | .map _ _ => some .m

def Obj.lt (n : Nat) : Obj → Prop
  | .cells cs => AV.lts n cs
  | .row _ _ _ _ cs => AV.lts n cs
  | .map _ kvs => ∀ p ∈ kvs, AV.lt n p.2.1 ∧ AV.lt n p.2.2
  | _ => True

abbrev Heap := List Obj
abbrev Hand := Nat → Value

def sg (H : Heap) (i : Nat) : Option Sig := (H[i]?).bind Obj.sig

def blk : Value → Option Nat
  | .pointer (some a) => some a.block
  | .slice (some a) _ _ => some a.block
  | .map (some r) => some r
  | _ => none

def Mut (m : Hand) (H : Heap) (b : Nat) : Prop := ∃ i, sg H i ≠ none ∧ blk (m i) = some b
def Imm (m : Hand) (H : Heap) (w : World) (b : Nat) : Prop := b < w.heap.size ∧ ¬ Mut m H b

/-- part off, n of the row whose whole slice is mv -/
def SlOf (mv : Value) (sz N off n : Nat) (v : Value) : Prop :=
  off + n ≤ N ∧ ∃ a c, v = .slice a n c ∧ (a = none → c = 0) ∧ n ≤ c ∧ c ≤ maxLen ∧
    (0 < n → ∃ b c0, mv = .slice (some ⟨b, 0, none⟩) N c0 ∧ a = some ⟨b, off * sz, none⟩) ∧ (off = 0 → n = N → v = mv)

inductive VR (m : Hand) (H : Heap) (w : World) : AV → Value → Prop
  | junk (v : Value) : VR m H w .junk v
  | int (k : IntKind) (n : Int) : VR m H w (.int k n) (.int k n)
  | bool (b : Bool) : VR m H w (.bool b) (.bool b)
  | str (s : ByteArray) : VR m H w (.str s) (.string s)
  | nilp : VR m H w .nilp (.pointer none)
  | nilm : VR m H w .nilm (.map none)
  | nils : VR m H w .nils (.slice none 0 0)
  | nums (k : IntKind) (t : Bool) (xs : List Int) (a : Option Addr) (c : Nat) (hn : a = none → c = 0) (hc : xs.length ≤ c) (hm : c ≤ maxLen) (ht : t = true → c = xs.length)
      (h : xs = [] ∨ ∃ b o, a = some ⟨b, o, none⟩ ∧ Imm m H w b ∧ ∀ j (hj : j < xs.length), w.cell? ⟨b, o + j, none⟩ = some (.int k xs[j])) :
      VR m H w (.nums k t xs) (.slice a xs.length c)
  | sl (t : Bool) (n : Nat) (cs : List AV) (a : Option Addr) (c : Nat) (cv : Nat → Value) (hn : a = none → c = 0) (hc : n ≤ c) (hm : c ≤ maxLen) (ht : t = true → c = n)
      (h : cs = [] ∨ ∃ b o, a = some ⟨b, o, none⟩ ∧ Imm m H w b ∧ ∀ j (hj : j < cs.length), w.cell? ⟨b, o + j, none⟩ = some (cv j))
      (hv : ∀ j (hj : j < cs.length), VR m H w cs[j] (cv j)) (h1 : ∀ j, j < cs.length → (cv j).oneCell' = true) : VR m H w (.sl t n cs) (.slice a n c)
  | agg (cs : List AV) (vs : Array Value) (hl : vs.size = cs.length) (hv : ∀ j (hj : j < cs.length), VR m H w cs[j] (vs.getD j undef)) (h1 : ∀ j, j < cs.length → (vs.getD j undef).oneCell' = true) : VR m H w (.agg cs) (.agg vs)
  | tup (cs : List AV) (vs : Array Value) (hl : vs.size = cs.length) (hv : ∀ j (hj : j < cs.length), VR m H w cs[j] (vs.getD j undef)) : VR m H w (.tup cs) (.tuple vs)
  | ptr (id off : Nat) (v : Value) (ho : v.oneCell' = true) (hl : id < H.length) (h : ∀ n, sg H id = some (.c n) → ∃ b, m id = .pointer (some ⟨b, 0, none⟩) ∧ v = .pointer (some ⟨b, off, none⟩)) : VR m H w (.ptr id off) v
  | ip (cs : List AV) (b o : Nat) (cv : Nat → Value) (hb : Imm m H w b) (h : ∀ j (hj : j < cs.length), w.cell? ⟨b, o + j, none⟩ = some (cv j))
      (hv : ∀ j (hj : j < cs.length), VR m H w cs[j] (cv j)) (h1 : ∀ j, j < cs.length → (cv j).oneCell' = true) : VR m H w (.ip cs) (.pointer (some ⟨b, o, none⟩))
  | rref (id ver off n : Nat) (v : Value) (ho : v.oneCell' = true) (hl : id < H.length) (hle : ∀ v0 sz N, sg H id = some (.r v0 sz N) → ver ≤ v0)
      (h : ∀ sz N, sg H id = some (.r ver sz N) → SlOf (m id) sz N off n v) : VR m H w (.rref id ver off n) v
  | eptr (id ver i : Nat) (v : Value) (ho : v.oneCell' = true) (hl : id < H.length) (hle : ∀ v0 sz N, sg H id = some (.r v0 sz N) → ver ≤ v0)
      (h : ∀ sz N, sg H id = some (.r ver sz N) → ∃ b c, m id = .slice (some ⟨b, 0, none⟩) N c ∧ v = .pointer (some ⟨b, i, none⟩)) : VR m H w (.eptr id ver i) v
  | cref (id off n : Nat) (v : Value) (ho : v.oneCell' = true) (hl : id < H.length)
      (h : ∀ k, sg H id = some (.c k) → ∃ b a c, m id = .pointer (some ⟨b, 0, none⟩) ∧ v = .slice (some a) n c ∧ n ≤ c ∧ c ≤ maxLen ∧ (0 < n → a = ⟨b, off, none⟩)) : VR m H w (.cref id off n) v
  | mref (id : Nat) (v : Value) (ho : v.oneCell' = true) (hl : id < H.length) (h : sg H id = some .m → v = m id) : VR m H w (.mref id) v
  | clo (f : FuncId) (cs : List AV) (vs : Array Value) (hl : vs.size = cs.length) (hv : ∀ j (hj : j < cs.length), VR m H w cs[j] (vs.getD j undef)) : VR m H w (.clo f cs) (.func (.func f) #[] vs)
  | whn (g : Bool) (x : AV) (v : Value) (h0 : g = false → v = undef) (h : g = true → VR m H w x v) : VR m H w (.whn g x) v

theorem VR.lt {m : Hand} {H : Heap} {w : World} {x : AV} {v : Value} (h : VR m H w x v) : x.lt H.length := by
  induction h <;> simp_all [AV.lt, lts_iff]

/-- what an object of the abstract heap is in memory, its handle being v -/
def OR (m : Hand) (H : Heap) (w : World) (v : Value) : Obj → Prop
  | .dead => True
  | .cells cs => ∃ b c T, v = .pointer (some ⟨b, 0, none⟩) ∧ w.heap[b]? = some (.cells c T (0, 0)) ∧ c.size = cs.length ∧ (∀ j (hj : j < cs.length), VR m H w cs[j] (c.getD j undef)) ∧ ∀ j, j < cs.length → (c.getD j undef).oneCell' = true
  | .row ver e sz n cs => ∃ vs, w.ownsRow 0 e sz v n vs ∧ vs.length = cs.length ∧ (∀ j (hj : j < cs.length), VR m H w cs[j] (vs.getD j undef)) ∧ ∀ j, j < cs.length → (vs.getD j undef).oneCell' = true
  | .nrow ver e k xs => w.ownsRow 0 e 1 v xs.length (xs.map fun x => .int k x)
  | .map ck kvs => ∃ r es, v = .map (some r) ∧ w.heap[r]? = some (.map es ck) ∧ es.size = kvs.length ∧
      ∀ j (hj : j < kvs.length), (es.getD j default).born = kvs[j].1 ∧ VR m H w kvs[j].2.1 (es.getD j default).key ∧ VR m H w kvs[j].2.2 (es.getD j default).val

structure Rel (m : Hand) (H : Heap) (w : World) : Prop where
  obj : ∀ i o, H[i]? = some o → OR m H w (m i) o
  one : ∀ i j b, sg H i ≠ none → sg H j ≠ none → blk (m i) = some b → blk (m j) = some b → i = j

theorem OR.lt {m : Hand} {H : Heap} {w : World} {v : Value} {o : Obj} (h : OR m H w v o) : o.lt H.length := by
  cases o with
  | dead => trivial
  | cells cs => obtain ⟨b, c, T, _, _, _, h, _⟩ := h; exact lts_iff.2 fun j hj => (h j hj).lt
  | row ver e sz n cs => obtain ⟨vs, _, _, h, _⟩ := h; exact lts_iff.2 fun j hj => (h j hj).lt
  | nrow ver e k xs => trivial
  | map ck kvs =>
    obtain ⟨r, es, _, _, _, h⟩ := h
    intro p hp
    obtain ⟨j, hj, rfl⟩ := List.getElem_of_mem hp
    exact ⟨(h j hj).2.1.lt, (h j hj).2.2.lt⟩

def Sig.le : Sig → Sig → Prop
  | .c a, .c b => a = b
  | .r v s n, .r v' s' n' => s = s' ∧ v ≤ v' ∧ (v = v' → n = n')
  | .m, .m => True
  | _, _ => False

def Later : Option Sig → Option Sig → Prop
  | _, none => True
  | some a, some b => Sig.le a b
  | none, some _ => False

theorem Sig.le_refl (a : Sig) : Sig.le a a := by cases a <;> simp [Sig.le]
theorem Sig.le_trans : ∀ {a b c : Sig}, Sig.le a b → Sig.le b c → Sig.le a c
  | .c _, .c _, .c _, h, h' => Eq.trans (α := Nat) h h'
  | .m, .m, .m, _, _ => trivial
  | .r v s n, .r v' s' n', .r v'' s'' n'', ⟨h1, h2, h3⟩, ⟨k1, k2, k3⟩ =>
    ⟨h1.trans k1, Nat.le_trans h2 k2, fun e => by have e1 : v = v' := by omega
                                                  have e2 : v' = v'' := by omega
                                                  rw [h3 e1, k3 e2]⟩
theorem Sig.le_antisymm {a b : Sig} (h : Sig.le a b) (h' : Sig.le b a) : a = b := by
  cases a <;> cases b <;> simp_all [Sig.le]
  omega
theorem Later.refl (a : Option Sig) : Later a a := by cases a <;> simp [Later, Sig.le_refl]
theorem Later.trans {a b c : Option Sig} (h : Later a b) (h' : Later b c) : Later a c := by
  cases a <;> cases b <;> cases c <;> simp_all [Later]
  exact Sig.le_trans h h'

structure Ext (m : Hand) (H : Heap) (w : World) (m' : Hand) (H' : Heap) (w' : World) : Prop where
  len : H.length ≤ H'.length
  later : ∀ i, i < H.length → Later (sg H i) (sg H' i)
  hand : ∀ i s, i < H.length → sg H i = some s → sg H' i = some s → m' i = m i
  size : w.heap.size ≤ w'.heap.size
  blocks : ∀ b, b < w.heap.size → ¬ Mut m H b → w'.heap[b]? = w.heap[b]?
  muts : ∀ b, Mut m' H' b → Mut m H b ∨ w.heap.size ≤ b
  os : w'.os = w.os
  tape : w'.tape = w.tape
  output : w'.output = w.output

theorem Ext.refl (m : Hand) (H : Heap) (w : World) : Ext m H w m H w :=
  ⟨Nat.le_refl _, fun _ _ => Later.refl _, fun _ _ _ _ _ => rfl, Nat.le_refl _, fun _ _ _ => rfl, fun _ h => .inl h, rfl, rfl, rfl⟩

theorem Ext.trans {m m' m'' : Hand} {H H' H'' : Heap} {w w' w'' : World} (h : Ext m H w m' H' w') (k : Ext m' H' w' m'' H'' w'') : Ext m H w m'' H'' w'' where
  len := Nat.le_trans h.len k.len
  later i hi := (h.later i hi).trans (k.later i (Nat.lt_of_lt_of_le hi h.len))
  hand i s hi h1 h2 := by
    have l1 := h.later i hi
    have l2 := k.later i (Nat.lt_of_lt_of_le hi h.len)
    rw [h1] at l1
    rw [h2] at l2
    cases hs : sg H' i with
    | none => rw [hs] at l2; exact l2.elim
    | some s' =>
      rw [hs] at l1 l2
      have e : s = s' := Sig.le_antisymm l1 l2
      subst e
      rw [k.hand i s (Nat.lt_of_lt_of_le hi h.len) hs h2, h.hand i s hi h1 hs]
  size := Nat.le_trans h.size k.size
  blocks b hb hm := by
    rw [k.blocks b (Nat.lt_of_lt_of_le hb h.size) (fun hm' => (h.muts b hm').elim hm (fun hge => by omega)), h.blocks b hb hm]
  muts b hb := (k.muts b hb).elim (fun h' => h.muts b h') (fun h' => .inr (Nat.le_trans h.size h'))
  os := k.os.trans h.os
  tape := k.tape.trans h.tape
  output := k.output.trans h.output

theorem Ext.imm {m m' : Hand} {H H' : Heap} {w w' : World} (h : Ext m H w m' H' w') {b : Nat} (hb : Imm m H w b) : Imm m' H' w' b ∧ w'.heap[b]? = w.heap[b]? :=
  ⟨⟨Nat.lt_of_lt_of_le hb.1 h.size, fun hm => (h.muts b hm).elim hb.2 (fun hge => by have := hb.1; omega)⟩, h.blocks b hb.1 hb.2⟩

theorem AV.lt_mono {n n' : Nat} (h : n ≤ n') : ∀ {x : AV}, x.lt n → x.lt n' := by
  suffices H : (∀ x : AV, x.lt n → x.lt n') from fun {x} => H x
  intro x
  induction x using AV.rec (motive_2 := fun l => AV.lts n l → AV.lts n' l) <;> simp_all [AV.lt, AV.lts] <;> omega

theorem VR.ext {m m' : Hand} {H H' : Heap} {w w' : World} (E : Ext m H w m' H' w') {x : AV} {v : Value} (h : VR m H w x v) : VR m' H' w' x v := by
  induction h with
  | junk v => exact .junk v
  | int k n => exact .int k n
  | bool b => exact .bool b
  | str s => exact .str s
  | nilp => exact .nilp
  | nilm => exact .nilm
  | nils => exact .nils
  | nums k t xs a c hn hc hm ht h =>
    refine .nums k t xs a c hn hc hm ht (h.imp id ?_)
    rintro ⟨b, o, ha, hi, hcell⟩
    obtain ⟨hi', hb⟩ := E.imm hi
    exact ⟨b, o, ha, hi', fun j hj => by rw [World.cell?_of_block (w := w) (a := ⟨b, o + j, none⟩) hb]; exact hcell j hj⟩
  | sl t n cs a c cv hn hc hm ht h hv h1 ih =>
    refine .sl t n cs a c cv hn hc hm ht (h.imp id ?_) ih h1
    rintro ⟨b, o, ha, hi, hcell⟩
    obtain ⟨hi', hb⟩ := E.imm hi
    exact ⟨b, o, ha, hi', fun j hj => by rw [World.cell?_of_block (w := w) (a := ⟨b, o + j, none⟩) hb]; exact hcell j hj⟩
  | agg cs vs hl hv h1 ih => exact .agg cs vs hl ih h1
  | tup cs vs hl hv ih => exact .tup cs vs hl ih
  | ptr id off v ho hl h =>
    refine .ptr id off v ho (Nat.lt_of_lt_of_le hl E.len) fun n hn => ?_
    have hL := E.later id hl
    rw [hn] at hL
    cases hs : sg H id with
    | none => rw [hs] at hL; exact hL.elim
    | some s =>
      rw [hs] at hL
      cases s with
      | c n' =>
        have e : n' = n := hL
        subst e
        obtain ⟨b, h1, h2⟩ := h n' hs
        exact ⟨b, by rw [E.hand id _ hl hs hn, h1], h2⟩
      | r _ _ _ => exact hL.elim
      | m => exact hL.elim
  | ip cs b o cv hb h hv h1 ih =>
    obtain ⟨hi', hb'⟩ := E.imm hb
    exact .ip cs b o cv hi' (fun j hj => by rw [World.cell?_of_block (w := w) (a := ⟨b, o + j, none⟩) hb']; exact h j hj) ih h1
  | rref id ver off n v ho hl hle h =>
    have key : ∀ v0 sz N, sg H' id = some (.r v0 sz N) → ∃ v1 N1, sg H id = some (.r v1 sz N1) ∧ v1 ≤ v0 ∧ (v1 = v0 → N1 = N) := by
      intro v0 sz N hn
      have hL := E.later id hl
      rw [hn] at hL
      cases hs : sg H id with
      | none => rw [hs] at hL; exact hL.elim
      | some s =>
        rw [hs] at hL
        cases s with
        | c n' => exact hL.elim
        | m => exact hL.elim
        | r v1 sz1 N1 =>
          obtain ⟨h1, h2, h3⟩ := hL
          subst h1
          exact ⟨v1, N1, rfl, h2, h3⟩
    refine .rref id ver off n v ho (Nat.lt_of_lt_of_le hl E.len) (fun v0 sz N hn => ?_) (fun sz N hn => ?_)
    · obtain ⟨v1, N1, hs, hle', _⟩ := key v0 sz N hn
      exact Nat.le_trans (hle v1 sz N1 hs) hle'
    · obtain ⟨v1, N1, hs, hle', heq⟩ := key ver sz N hn
      have e := Nat.le_antisymm (hle v1 sz N1 hs) hle'
      subst e
      obtain rfl := heq rfl
      rw [E.hand id _ hl hs hn]
      exact h sz N1 hs
  | eptr id ver i v ho hl hle h =>
    have key : ∀ v0 sz N, sg H' id = some (.r v0 sz N) → ∃ v1 N1, sg H id = some (.r v1 sz N1) ∧ v1 ≤ v0 ∧ (v1 = v0 → N1 = N) := by
      intro v0 sz N hn
      have hL := E.later id hl
      rw [hn] at hL
      cases hs : sg H id with
      | none => rw [hs] at hL; exact hL.elim
      | some s =>
        rw [hs] at hL
        cases s with
        | c n' => exact hL.elim
        | m => exact hL.elim
        | r v1 sz1 N1 =>
          obtain ⟨h1, h2, h3⟩ := hL
          subst h1
          exact ⟨v1, N1, rfl, h2, h3⟩
    refine .eptr id ver i v ho (Nat.lt_of_lt_of_le hl E.len) (fun v0 sz N hn => ?_) (fun sz N hn => ?_)
    · obtain ⟨v1, N1, hs, hle', _⟩ := key v0 sz N hn
      exact Nat.le_trans (hle v1 sz N1 hs) hle'
    · obtain ⟨v1, N1, hs, hle', heq⟩ := key ver sz N hn
      have e := Nat.le_antisymm (hle v1 sz N1 hs) hle'
      subst e
      obtain rfl := heq rfl
      rw [E.hand id _ hl hs hn]
      exact h sz N1 hs
  | cref id off n v ho hl h =>
    refine .cref id off n v ho (Nat.lt_of_lt_of_le hl E.len) fun k hn => ?_
    have hL := E.later id hl
    rw [hn] at hL
    cases hs : sg H id with
    | none => rw [hs] at hL; exact hL.elim
    | some s =>
      rw [hs] at hL
      cases s with
      | c n' =>
        have e : n' = k := hL
        subst e
        obtain ⟨b, a, c, h1, h2⟩ := h n' hs
        exact ⟨b, a, c, by rw [E.hand id _ hl hs hn, h1], h2⟩
      | r _ _ _ => exact hL.elim
      | m => exact hL.elim
  | mref id v ho hl h =>
    refine .mref id v ho (Nat.lt_of_lt_of_le hl E.len) fun hn => ?_
    have hL := E.later id hl
    rw [hn] at hL
    cases hs : sg H id with
    | none => rw [hs] at hL; exact hL.elim
    | some s =>
      rw [hs] at hL
      cases s with
      | c n' => exact hL.elim
      | r _ _ _ => exact hL.elim
      | m => rw [E.hand id _ hl hs hn]; exact h hs
  | clo f cs vs hl hv ih => exact .clo f cs vs hl ih
  | whn g x v h0 h ih => exact .whn g x v h0 ih

theorem sg_append {H L : Heap} {i : Nat} (h : i < H.length) : sg (H ++ L) i = sg H i := by simp [sg, List.getElem?_append_left h]
theorem sg_lt {H : Heap} {i : Nat} (h : sg H i ≠ none) : i < H.length := by
  rcases Nat.lt_or_ge i H.length with h' | h'
  · exact h'
  · simp [sg, List.getElem?_eq_none h'] at h

theorem Mut.append {m : Hand} {H L : Heap} {b : Nat} (h : Mut m H b) : Mut m (H ++ L) b := by
  obtain ⟨i, h1, h2⟩ := h
  exact ⟨i, by rw [sg_append (sg_lt h1)]; exact h1, h2⟩

/-- what speaks of the first objects alone holds without the others -/
theorem VR.drop {m : Hand} {H L : Heap} {w : World} {x : AV} {v : Value} (h : VR m (H ++ L) w x v) (hx : x.lt H.length) : VR m H w x v := by
  have imm : ∀ b, Imm m (H ++ L) w b → Imm m H w b := fun b h => ⟨h.1, fun hm => h.2 hm.append⟩
  induction h with
  | junk v => exact .junk v
  | int k n => exact .int k n
  | bool b => exact .bool b
  | str s => exact .str s
  | nilp => exact .nilp
  | nilm => exact .nilm
  | nils => exact .nils
  | nums k t xs a c hn hc hm ht h => exact .nums k t xs a c hn hc hm ht (h.imp id fun ⟨b, o, ha, hi, hcell⟩ => ⟨b, o, ha, imm b hi, hcell⟩)
  | sl t n cs a c cv hn hc hm ht h hv h1 ih =>
    exact .sl t n cs a c cv hn hc hm ht (h.imp id fun ⟨b, o, ha, hi, hcell⟩ => ⟨b, o, ha, imm b hi, hcell⟩) (fun j hj => ih j hj (lts_iff.1 hx j hj)) h1
  | agg cs vs hl hv h1 ih => exact .agg cs vs hl (fun j hj => ih j hj (lts_iff.1 hx j hj)) h1
  | tup cs vs hl hv ih => exact .tup cs vs hl fun j hj => ih j hj (lts_iff.1 hx j hj)
  | ptr id off v ho hl h => exact .ptr id off v ho hx fun n hn => h n (by rw [sg_append hx]; exact hn)
  | ip cs b o cv hb h hv h1 ih => exact .ip cs b o cv (imm b hb) h (fun j hj => ih j hj (lts_iff.1 hx j hj)) h1
  | rref id ver off n v ho hl hle h => exact .rref id ver off n v ho hx (fun v0 sz N hn => hle v0 sz N (by rw [sg_append hx]; exact hn)) (fun sz N hn => h sz N (by rw [sg_append hx]; exact hn))
  | eptr id ver i v ho hl hle h => exact .eptr id ver i v ho hx (fun v0 sz N hn => hle v0 sz N (by rw [sg_append hx]; exact hn)) (fun sz N hn => h sz N (by rw [sg_append hx]; exact hn))
  | cref id off n v ho hl h => exact .cref id off n v ho hx fun n hn => h n (by rw [sg_append hx]; exact hn)
  | mref id v ho hl h => exact .mref id v ho hx fun hn => h (by rw [sg_append hx]; exact hn)
  | clo f cs vs hl hv ih => exact .clo f cs vs hl fun j hj => ih j hj (lts_iff.1 hx j hj)
  | whn g x v h0 h ih => exact .whn g x v h0 fun hg => ih hg (hx hg)

theorem OR.drop {m : Hand} {H L : Heap} {w : World} {v : Value} {o : Obj} (h : OR m (H ++ L) w v o) (hx : o.lt H.length) : OR m H w v o := by
  cases o with
  | dead => trivial
  | cells cs => obtain ⟨b, c, T, h1, h2, h3, h, h4⟩ := h; exact ⟨b, c, T, h1, h2, h3, fun j hj => (h j hj).drop (lts_iff.1 hx j hj), h4⟩
  | row ver e sz n cs => obtain ⟨vs, h1, h2, h, h4⟩ := h; exact ⟨vs, h1, h2, fun j hj => (h j hj).drop (lts_iff.1 hx j hj), h4⟩
  | nrow ver e k xs => exact h
  | map ck kvs =>
    obtain ⟨r, es, h1, h2, h3, h⟩ := h
    exact ⟨r, es, h1, h2, h3, fun j hj => ⟨(h j hj).1, (h j hj).2.1.drop (hx _ (List.getElem_mem hj)).1, (h j hj).2.2.drop (hx _ (List.getElem_mem hj)).2⟩⟩

theorem Rel.drop {m : Hand} {H L : Heap} {w : World} (h : Rel m (H ++ L) w) (hx : ∀ o ∈ H, o.lt H.length) : Rel m H w where
  obj i o ho := by
    have hlt : i < H.length := (List.getElem?_eq_some_iff.1 ho).1
    exact (h.obj i o (by rw [List.getElem?_append_left hlt]; exact ho)).drop (hx o (List.mem_of_getElem? ho))
  one i j b hi hj h1 h2 := h.one i j b (by rw [sg_append (sg_lt hi)]; exact hi) (by rw [sg_append (sg_lt hj)]; exact hj) h1 h2

theorem Rel.lt {m : Hand} {H : Heap} {w : World} (h : Rel m H w) : ∀ o ∈ H, o.lt H.length := fun o ho => by
  obtain ⟨i, hi⟩ := List.getElem?_of_mem ho
  exact (h.obj i o hi).lt

theorem Ext.drop {m m' : Hand} {H H' L : Heap} {w w' : World} (h : Ext m H w m' (H' ++ L) w') (hl : H.length ≤ H'.length) : Ext m H w m' H' w' where
  len := hl
  later i hi := by have := h.later i hi; rwa [sg_append (Nat.lt_of_lt_of_le hi hl)] at this
  hand i s hi h1 h2 := h.hand i s hi h1 (by rw [sg_append (Nat.lt_of_lt_of_le hi hl)]; exact h2)
  size := h.size
  blocks := h.blocks
  muts b hb := h.muts b hb.append
  os := h.os
  tape := h.tape
  output := h.output

end Go.Av
end

section
set_option linter.unusedVariables false
set_option linter.unusedSimpArgs false
open Go.RowKit
namespace Go.Av

/-! ### worlds that differ outside of the objects -/
theorem OR.ext {m m' : Hand} {H H' : Heap} {w w' : World} (E : Ext m H w m' H' w') {v : Value} {o : Obj} (hb : ∀ b, blk v = some b → w'.heap[b]? = w.heap[b]?) (h : OR m H w v o) : OR m' H' w' v o := by
  cases o with
  | dead => trivial
  | cells cs =>
    obtain ⟨b, c, T, rfl, h2, h3, h4, h5⟩ := h
    exact ⟨b, c, T, rfl, (hb b rfl).trans h2, h3, fun j hj => (h4 j hj).ext E, h5⟩
  | row ver e sz n cs =>
    obtain ⟨vs, h1, h3, h4, h5⟩ := h
    refine ⟨vs, ?_, h3, fun j hj => (h4 j hj).ext E, h5⟩
    obtain ⟨hl, h⟩ := h1
    refine ⟨hl, h.imp id ?_⟩
    rintro ⟨g, cap, cur, rfl, hg, hh, r⟩
    exact ⟨g, cap, cur, rfl, hg, (hb g rfl).trans hh, r⟩
  | nrow ver e k xs =>
    obtain ⟨hl, h⟩ := h
    refine ⟨hl, h.imp id ?_⟩
    rintro ⟨g, cap, cur, rfl, hg, hh, r⟩
    exact ⟨g, cap, cur, rfl, hg, (hb g rfl).trans hh, r⟩
  | map ck kvs =>
    obtain ⟨r, es, rfl, h2, h3, h4⟩ := h
    exact ⟨r, es, rfl, (hb r rfl).trans h2, h3, fun j hj => ⟨(h4 j hj).1, (h4 j hj).2.1.ext E, (h4 j hj).2.2.ext E⟩⟩

theorem OR.block {m : Hand} {H : Heap} {w : World} {v : Value} {o : Obj} (h : OR m H w v o) (hs : o.sig ≠ none) {b : Nat} (hb : blk v = some b) : b < w.heap.size := by
  have key : ∀ x, w.heap[b]? = some x → b < w.heap.size := fun x hx => (Array.getElem?_eq_some_iff.1 hx).1
  cases o with
  | dead => simp [Obj.sig] at hs
  | cells cs => obtain ⟨b', c, T, rfl, h2, _⟩ := h; simp [blk] at hb; subst hb; exact key _ h2
  | row ver e sz n cs =>
    obtain ⟨vs, ⟨_, h⟩, _⟩ := h
    rcases h with ⟨rfl, _⟩ | ⟨g, cap, cur, rfl, _, hh, _⟩
    · simp [blk] at hb
    · simp [blk] at hb; subst hb; exact key _ hh
  | nrow ver e k xs =>
    obtain ⟨_, h⟩ := h
    rcases h with ⟨rfl, _⟩ | ⟨g, cap, cur, rfl, _, hh, _⟩
    · simp [blk] at hb
    · simp [blk] at hb; subst hb; exact key _ hh
  | map ck kvs => obtain ⟨r, es, rfl, h2, _⟩ := h; simp [blk] at hb; subst hb; exact key _ h2

theorem sg_some {H : Heap} {i : Nat} {o : Obj} (h : H[i]? = some o) : sg H i = o.sig := by simp [sg, h]

theorem Rel.mut_lt {m : Hand} {H : Heap} {w : World} (R : Rel m H w) {b : Nat} (h : Mut m H b) : b < w.heap.size := by
  obtain ⟨i, hi, hb⟩ := h
  cases ho : H[i]? with
  | none => simp [sg, ho] at hi
  | some o => exact (R.obj i o ho).block (by rwa [sg_some ho] at hi) hb

/-- the world grew, no object of the heap was touched -/
theorem Ext.same {m : Hand} {H : Heap} {w w' : World} (hs : w.heap.size ≤ w'.heap.size) (hb : ∀ b, b < w.heap.size → w'.heap[b]? = w.heap[b]?) (h1 : w'.os = w.os) (h2 : w'.tape = w.tape) (h3 : w'.output = w.output) : Ext m H w m H w' :=
  ⟨Nat.le_refl _, fun _ _ => Later.refl _, fun _ _ _ _ _ => rfl, hs, fun b h _ => hb b h, fun _ h => .inl h, h1, h2, h3⟩
theorem Rel.same {m : Hand} {H : Heap} {w w' : World} (R : Rel m H w) (hs : w.heap.size ≤ w'.heap.size) (hb : ∀ b, b < w.heap.size → w'.heap[b]? = w.heap[b]?) (h1 : w'.os = w.os) (h2 : w'.tape = w.tape) (h3 : w'.output = w.output) : Rel m H w' where
  obj i o ho := by
    by_cases hd : o.sig = none
    · cases o <;> simp_all [Obj.sig]
      trivial
    · exact (R.obj i o ho).ext (Ext.same hs hb h1 h2 h3) fun b hb' => hb b ((R.obj i o ho).block hd hb')
  one := R.one

theorem alloc_old (w : World) (o : Go.Obj) (b : Nat) (h : b < w.heap.size) : (w.alloc o).heap[b]? = w.heap[b]? := Below.heap_alloc w o b h

/-! ### types -/
inductive TK where
  | int (k : IntKind) | bool | str | slice (e : TypeId) | ptr (e : TypeId) | struct | array (n : Nat) (e : TypeId) | map (k v : TypeId) | func | other

def tk : Option TypeDesc → TK
  | some (.int k) => .int k
  | some .bool => .bool
  | some .string => .str
  | some (.slice e) => .slice e
  | some (.pointer e) => .ptr e
  | some (.struct _) => .struct
  | some (.array n e) => .array n e
  | some (.map k v) => .map k v
  | some (.func _ _ _) => .func
  | _ => .other

def ofV1 : Value → AV
  | .int k n => .int k n
  | .bool b => .bool b
  | .string s => .str s
  | .pointer none => .nilp
  | .map none => .nilm
  | .slice none 0 0 => .nils
  | _ => .junk
def ofV : Value → AV
  | .agg cs => bif cs.toList.all (·.oneCell') then .agg (cs.toList.map ofV1) else .junk
  | v => ofV1 v

structure TI where
  size : Nat
  bytes : Nat
  kind : TK
  zero : List AV
  offs : List Nat
  fts : List TypeId
  fsz : List Nat
  fok : Bool
  zok : Bool

def fieldsOf : Option TypeDesc → List Field
  | some (.struct fs) => fs.toList
  | _ => []

def tyI (P : Program) (t : TypeId) : TI :=
  match P.info? t with
  | some i => { size := i.size, bytes := i.bytes, kind := tk (P.underlying t), zero := (match i.zero with | some z => z.cells.toList.map ofV1 | none => []), offs := (fieldsOf (P.underlying t)).map (·.offset), fts := (fieldsOf (P.underlying t)).map (·.type), fsz := (fieldsOf (P.underlying t)).map (fun f => P.cellsOf f.type), fok := (fieldsOf (P.underlying t)).all (fun f => (P.info? f.type).isSome), zok := (match i.zero with | some z => z.cells.toList.all (·.oneCell') | none => true) }
  | none => { size := 0, bytes := 0, kind := .other, zero := [], offs := [], fts := [], fsz := [], fok := false, zok := true }

def TK.isAgg : TK → Bool
  | .struct | .array _ _ => true
  | _ => false

theorem ofV1_VR (m : Hand) (H : Heap) (w : World) (v : Value) : VR m H w (ofV1 v) v := by
  unfold ofV1
  split <;> constructor

theorem ofV_VR (m : Hand) (H : Heap) (w : World) (v : Value) : VR m H w (ofV v) v := by
  unfold ofV
  split
  · rename_i cs
    cases hc : cs.toList.all (·.oneCell') with
    | false => exact .junk _
    | true =>
      have h1 : ∀ j, j < cs.size → (cs.getD j undef).oneCell' = true := fun j hj => by
        rw [List.all_eq_true] at hc
        have := hc cs[j] (by simp)
        simpa [Array.getD, hj] using this
      refine .agg _ cs (by simp) (fun j hj => ?_) (fun j hj => h1 j (by simpa using hj))
      have : j < cs.size := by simpa using hj
      simp only [List.getElem_map, Array.getElem_toList]
      have e : cs.getD j undef = cs[j] := by simp [Array.getD, this]
      rw [e]
      exact ofV1_VR m H w _
  · exact ofV1_VR m H w v

section
variable {P : Program} {w : World}
theorem run_sizeOf' (t : TypeId) {i : TypeInfo} (h : P.info? t = some i) : (sizeOf t).run P w = .ok i.size w := by simp [sizeOf, typeInfo, h]
theorem run_isAgg (t : TypeId) {d : TypeDesc} (h : P.underlying t = some d) : (isAgg t).run P w = .ok (tk (some d)).isAgg w := by
  unfold isAgg
  rw [Sem.run_bind, run_underlying h]
  cases d <;> rfl
end

/-- what the cells at a place hold, as a value of a type -/
def ld (ti : TI) (cs : List AV) (off : Nat) : AV := if ti.kind.isAgg then .agg ((cs.drop off).take ti.size) else cs.getD off .junk

theorem under_of_kind {P : Program} {t : TypeId} (h : P.underlying t = none) : (tyI P t).kind = .other ∨ (tyI P t).size = 0 := by
  unfold tyI
  split
  · left; simp [h, tk]
  · right; rfl
end Go.Av
end

section
set_option linter.unusedVariables false
set_option linter.unusedSimpArgs false
open Go.RowKit
namespace Go.Av

def AV.st : AV → AV
  | .whn _ x => x
  | x => x
def AV.gd : AV → Bool
  | .whn g _ => g
  | _ => true

def bitI (op : BinOp) (k : IntKind) (x y : Int) : Int :=
  match op with
  | .and => k.wrap ((BitVec.ofInt k.bits x &&& BitVec.ofInt k.bits y).toNat : Int)
  | .or => k.wrap ((BitVec.ofInt k.bits x ||| BitVec.ofInt k.bits y).toNat : Int)
  | .xor => k.wrap ((BitVec.ofInt k.bits x ^^^ BitVec.ofInt k.bits y).toNat : Int)
  | .andNot => k.wrap ((BitVec.ofInt k.bits x &&& ~~~(BitVec.ofInt k.bits y)).toNat : Int)
  | _ => 0

def intBin (op : BinOp) (k : IntKind) (a b : Int) : AV :=
  match op with
  | .add => .int k (k.wrap (a + b))
  | .sub => .int k (k.wrap (a - b))
  | .mul => .int k (k.wrap (a * b))
  | .quo => .int k (k.wrap (a.tdiv b))
  | .rem => .int k (a.tmod b)
  | .and => .int k (bitI .and k a b)
  | .or => .int k (bitI .or k a b)
  | .xor => .int k (bitI .xor k a b)
  | .andNot => .int k (bitI .andNot k a b)
  | .shl => .int k (k.wrap (a * 2 ^ min b.toNat k.bits))
  | .shr => .int k (a.fdiv (2 ^ min b.toNat k.bits))
  | .eql => .bool (a == b)
  | .neq => .bool (a != b)
  | .lss => .bool (decide (a < b))
  | .leq => .bool (decide (a ≤ b))
  | .gtr => .bool (decide (b < a))
  | .geq => .bool (decide (b ≤ a))

def intPre (op : BinOp) (k k' : IntKind) (b : Int) : Prop :=
  match op with
  | .quo | .rem => k = k' ∧ b ≠ 0
  | .shl | .shr => 0 ≤ b
  | _ => k = k'

def isShift : BinOp → Bool
  | .shl | .shr => true
  | _ => false

def alive (H : Heap) (id : Nat) : Prop := match H[id]? with | some (.cells _) => True | _ => False

def binV (op : BinOp) (x y : AV) : AV :=
  match x, y with
  | .int k a, .int _ b => intBin op k a b
  | .str a, .str b =>
    match op with
    | .eql => .bool (decide (a = b))
    | .neq => .bool (!decide (a = b))
    | .add => .str (a ++ b)
    | _ => .junk
  | .bool a, .bool b =>
    match op with
    | .eql => .bool (a == b)
    | .neq => .bool (!(a == b))
    | _ => .junk
  | .nilp, .nilp | .nils, .nils | .nilm, .nilm =>
    match op with
    | .eql => .bool true
    | .neq => .bool false
    | _ => .junk
  | _, _ =>
    match op with
    | .eql => .bool false
    | .neq => .bool true
    | _ => .junk

/-- a row's sign, if it is alive and of this version -/
def rowOf (H : Heap) (id ver : Nat) : Option (Nat × Nat) :=
  match H[id]? with
  | some (.row v _ sz n _) => if v = ver then some (sz, n) else none
  | some (.nrow v _ _ xs) => if v = ver then some (1, xs.length) else none
  | _ => none

def binP (tI : TI) (H : Heap) (op : BinOp) (x y : AV) : Prop :=
  match x, y with
  | .int k a, .int k' b => intPre op k k' b
  | .str a, .str b =>
    match op with
    | .eql | .neq => True
    | .add => a.size + b.size ≤ 9223372036854775807
    | _ => False
  | .bool a, .bool b => (op = .eql ∨ op = .neq) ∧ (match tI.kind with | .bool => True | _ => False)
  | .nilp, .nilp => (op = .eql ∨ op = .neq) ∧ (match tI.kind with | .ptr _ => True | _ => False)
  | .ptr id _, .nilp | .nilp, .ptr id _ => (op = .eql ∨ op = .neq) ∧ alive H id ∧ (match tI.kind with | .ptr _ => True | _ => False)
  | .nils, .nils => (op = .eql ∨ op = .neq) ∧ (match tI.kind with | .slice _ => True | _ => False)
  | .nums _ _ xs, .nils => (op = .eql ∨ op = .neq) ∧ 0 < xs.length ∧ (match tI.kind with | .slice _ => True | _ => False)
  | .sl _ _ cs, .nils => (op = .eql ∨ op = .neq) ∧ 0 < cs.length ∧ (match tI.kind with | .slice _ => True | _ => False)
  | .nilm, .nilm => (op = .eql ∨ op = .neq) ∧ (match tI.kind with | .map _ _ => True | _ => False)
  | .eptr id ver _, .nilp => (op = .eql ∨ op = .neq) ∧ (match rowOf H id ver with | some _ => True | none => False) ∧ (match tI.kind with | .ptr _ => True | _ => False)
  | .ip _, .nilp => (op = .eql ∨ op = .neq) ∧ (match tI.kind with | .ptr _ => True | _ => False)
  | .mref id, .nilm => (op = .eql ∨ op = .neq) ∧ (match H[id]? with | some (.map _ _) => True | _ => False) ∧ (match tI.kind with | .map _ _ => True | _ => False)
  | _, _ => False

def unV (op : UnOp) (x : AV) : AV :=
  match x with
  | .bool b => .bool (!b)
  | .int k n => (match op with
    | .neg => .int k (k.wrap (0 - n))
    | .xor => .int k (bitI .xor k (if k.signed then -1 else k.max) n)
    | _ => .junk)
  | _ => .junk
def unP (op : UnOp) (x : AV) : Prop :=
  match x, op with
  | .bool _, .not => True
  | .int _ _, .neg => True
  | .int _ _, .xor => True
  | _, _ => False

def strB (s : ByteArray) : List Int := s.data.toList.map fun b => (b.toNat : Int)
def strOf (xs : List Int) : ByteArray := ⟨(xs.map fun n => UInt8.ofNat n.toNat).toArray⟩

def convV (d : TI) (x : AV) : AV :=
  match x, d.kind with
  | .int _ n, .int k => .int k (k.wrap n)
  | .str s, .str => .str s
  | .nums _ _ xs, .str => .str (strOf xs)
  | .nils, .str => .str (strOf [])
  | .str s, .slice _ => .nums .u8 false (strB s)
  | _, _ => .junk
def convP (P : Program) (s d : TI) (x : AV) : Prop :=
  match x, d.kind with
  | .int _ _, .int _ => True
  | .str _, .str => True
  | .nums k _ xs, .str => k = .u8 ∧ (∀ x ∈ xs, 0 ≤ x ∧ x < 256) ∧ (match s.kind with | .slice e => (match (tyI P e).kind with | .int .u8 => True | _ => False) | _ => False)
  | .nils, .str => (match s.kind with | .slice e => (match (tyI P e).kind with | .int .u8 => True | _ => False) | _ => False)
  | .str s, .slice e => (match (tyI P e).kind with | .int .u8 => True | _ => False) ∧ s.size ≤ 140737488355328
  | _, _ => False

/-- a bound: absent, or a number -/
def bnd (d : Int) : Option AV → Int
  | some (.int _ n) => n
  | none => d
  | _ => -1

/-- is a cut's capacity its length? -/
def tgt (t : Bool) (hi mx : Option AV) : Bool :=
  match mx, hi with
  | none, none => t
  | none, some _ => false
  | some _, _ => decide (bnd 0 mx = bnd 0 hi)

def sliceV (tI eI : TI) (x : AV) (lo hi mx : Option AV) : AV :=
  match x with
  | .str s => .str (s.extract (bnd 0 lo).toNat (bnd s.size hi).toNat)
  | .nums k t xs =>
    .nums k (tgt t hi mx) ((xs.drop (bnd 0 lo).toNat).take ((bnd xs.length hi).toNat - (bnd 0 lo).toNat))
  | .sl t n cs =>
    .sl (tgt t hi mx) ((bnd n hi).toNat - (bnd 0 lo).toNat) ((cs.drop ((bnd 0 lo).toNat * eI.size)).take (((bnd n hi).toNat - (bnd 0 lo).toNat) * eI.size))
  | .nils => .nils
  | .rref id ver off n => .rref id ver (off + (bnd 0 lo).toNat) ((bnd n hi).toNat - (bnd 0 lo).toNat)
  | .cref id off n => .cref id (off + (bnd 0 lo).toNat) ((bnd n hi).toNat - (bnd 0 lo).toNat)
  | .ptr id off => (match tI.kind with
    | .array n _ => .cref id (off + (bnd 0 lo).toNat) ((bnd n hi).toNat - (bnd 0 lo).toNat)
    | _ => .junk)
  | _ => .junk

def elemOf' (tI : TI) : TypeId := match tI.kind with | .slice e => e | .array _ e => e | .ptr e => e | _ => 0

def addrV (eI : TI) (H : Heap) (x : AV) (i : Int) : AV :=
  match x with
  | .nums k _ xs => .ip [.int k (xs.getD i.toNat 0)]
  | .sl _ n cs => .ip ((cs.drop (i.toNat * eI.size)).take eI.size)
  | .rref id ver off n => .eptr id ver ((off + i.toNat) * eI.size)
  | .cref id off n => .ptr id (off + i.toNat)
  | .ptr id off => .ptr id (off + i.toNat * eI.size)
  | .ip cs => .ip (cs.drop (i.toNat * eI.size))
  | _ => .junk
def addrP (tI eI : TI) (H : Heap) (x : AV) (i : Int) : Prop :=
  match x with
  | .nums _ _ xs => 0 ≤ i ∧ i < xs.length ∧ eI.size = 1 ∧ (match tI.kind with | .slice _ => True | _ => False)
  | .sl _ n cs => 0 ≤ i ∧ i < n ∧ cs.length = n * eI.size ∧ 0 < eI.size ∧ (match tI.kind with | .slice _ => True | _ => False)
  | .rref id ver off n => 0 ≤ i ∧ i < n ∧ (match rowOf H id ver with | some (sz, N) => eI.size = sz ∧ off + n ≤ N | none => False) ∧ (match tI.kind with | .slice _ => True | _ => False)
  | .cref id off n => 0 ≤ i ∧ i < n ∧ alive H id ∧ eI.size = 1 ∧ (match tI.kind with | .slice _ => True | _ => False)
  | .ptr id off => 0 ≤ i ∧ alive H id ∧ (match tI.kind with | .array N _ => i < N | _ => False)
  | .ip cs => 0 ≤ i ∧ i.toNat * eI.size ≤ cs.length ∧ (match tI.kind with | .array N _ => i < N | _ => False)
  | _ => False

def loadV (tI : TI) (H : Heap) (p : AV) : AV :=
  match p with
  | .ptr id off => (match H[id]? with | some (.cells cs) => ld tI cs off | _ => .junk)
  | .ip cs => ld tI cs 0
  | .eptr id ver i => (match H[id]? with | some (.row _ _ _ _ cs) => ld tI cs i | some (.nrow _ _ k xs) => .int k (xs.getD i 0) | _ => .junk)
  | _ => .junk
def loadP (tI : TI) (H : Heap) (p : AV) : Prop :=
  tI.kind ≠ .other ∧ (tI.kind.isAgg = false → tI.size = 1) ∧
  match p with
  | .ptr id off => (match H[id]? with | some (.cells cs) => off + tI.size ≤ cs.length | _ => False)
  | .ip cs => tI.size ≤ cs.length
  | .eptr id ver i => (match H[id]? with | some (.row v _ _ _ cs) => v = ver ∧ i + tI.size ≤ cs.length | some (.nrow v _ k xs) => v = ver ∧ i < xs.length ∧ tI.kind.isAgg = false | _ => False)
  | _ => False

def AV.scal : AV → Bool
  | .agg _ | .tup _ | .junk | .whn _ _ => false
  | _ => true
/-- a value's cells -/
def AV.cl : AV → List AV
  | .agg cs => cs
  | x => [x]
def AV.clOk : AV → Bool
  | .agg _ => true
  | x => x.scal

/-- parts laid over cells -/
def fillA (place : Nat → Nat × Nat) : List AV → List (Nat × AV) → List AV
  | cs, [] => cs
  | cs, (i, x) :: r => fillA place (cs.take (place i).1 ++ x.cl ++ cs.drop ((place i).1 + x.cl.length)) r
def fillP (place : Nat → Nat × Nat) (n : Nat) : List (Nat × AV) → Prop
  | [] => True
  | (i, x) :: r => x.clOk = true ∧ x.cl.length = (place i).2 ∧ (place i).1 + x.cl.length ≤ n ∧ fillP place n r

end Go.Av
end

section
set_option linter.unusedVariables false
set_option linter.unusedSimpArgs false
open Go.RowKit
namespace Go.Av
variable {P : Program} {m : Hand} {H : Heap} {w : World}

def QS (P : Program) (m : Hand) (H : Heap) (w : World) (s : Sem Value) (x : AV) : Prop :=
  ∃ v w', s.run P w = .ok v w' ∧ VR m H w' x v ∧ Rel m H w' ∧ Ext m H w m H w'

theorem QS.here {s : Sem Value} {x : AV} {v : Value} (R : Rel m H w) (h : s.run P w = .ok v w) (hv : VR m H w x v) : QS P m H w s x := ⟨v, w, h, hv, R, Ext.refl m H w⟩

theorem VR.scal_one {x : AV} {v : Value} (h : VR m H w x v) (hs : x.scal = true) : v.oneCell' = true := by
  cases h <;> simp_all [AV.scal, Value.oneCell']

theorem VR.cl_spec {x : AV} {v : Value} (h : VR m H w x v) (hs : x.clOk = true) :
    v.cells.size = x.cl.length ∧ (∀ j (hj : j < x.cl.length), VR m H w x.cl[j] (v.cells.getD j undef)) ∧ ∀ j, j < x.cl.length → (v.cells.getD j undef).oneCell' = true := by
  by_cases hsc : x.scal = true
  · have ho := h.scal_one hsc
    have e1 : v.cells = #[v] := by cases v <;> simp_all [Value.cells, Value.oneCell']
    have e2 : x.cl = [x] := by cases x <;> simp_all [AV.cl, AV.scal]
    rw [e1, e2]
    refine ⟨rfl, fun j hj => ?_, fun j hj => ?_⟩
    · have : j = 0 := by simpa using hj
      subst this
      simpa [Array.getD] using h
    · have : j = 0 := by simpa using hj
      subst this
      simpa [Array.getD] using ho
  · cases h <;> simp_all [AV.clOk, AV.scal, AV.cl, Value.cells]

theorem alive_sig {id : Nat} (h : alive H id) : ∃ cs, H[id]? = some (.cells cs) := by
  unfold alive at h
  split at h
  · exact ⟨_, by assumption⟩
  · exact h.elim

theorem VR.ptr_val {id off : Nat} {v : Value} (R : Rel m H w) (h : VR m H w (.ptr id off) v) {cs : List AV} (hc : H[id]? = some (.cells cs)) :
    ∃ b c T, m id = .pointer (some ⟨b, 0, none⟩) ∧ v = .pointer (some ⟨b, off, none⟩) ∧ w.heap[b]? = some (.cells c T (0, 0)) ∧ c.size = cs.length ∧ (∀ j (hj : j < cs.length), VR m H w cs[j] (c.getD j undef)) ∧ ∀ j, j < cs.length → (c.getD j undef).oneCell' = true := by
  cases h with
  | ptr _ _ _ ho hl h =>
    obtain ⟨b, h1, h2⟩ := h _ (sg_some hc)
    obtain ⟨b', c, T, h3, h4, h5, h6, h7⟩ := R.obj id _ hc
    have : b = b' := by rw [h1] at h3; simpa using h3
    subst this
    exact ⟨b, c, T, h1, h2, h4, h5, h6, h7⟩

theorem kind_int {t : TypeId} {k : IntKind} (h : (tyI P t).kind = .int k) : P.underlying t = some (.int k) := by
  unfold tyI at h
  split at h
  · simp only [] at h
    cases hu : P.underlying t with
    | none => simp [hu, tk] at h
    | some d => cases d <;> simp_all [tk]
  · simp at h
theorem kind_slice {t e : TypeId} (h : (tyI P t).kind = .slice e) : P.underlying t = some (.slice e) := by
  unfold tyI at h
  split at h
  · simp only [] at h
    cases hu : P.underlying t with
    | none => simp [hu, tk] at h
    | some d => cases d <;> simp_all [tk]
  · simp at h
theorem kind_ptr {t e : TypeId} (h : (tyI P t).kind = .ptr e) : P.underlying t = some (.pointer e) := by
  unfold tyI at h
  split at h
  · simp only [] at h
    cases hu : P.underlying t with
    | none => simp [hu, tk] at h
    | some d => cases d <;> simp_all [tk]
  · simp at h
theorem kind_bool {t : TypeId} (h : (tyI P t).kind = .bool) : P.underlying t = some .bool := by
  unfold tyI at h
  split at h
  · simp only [] at h
    cases hu : P.underlying t with
    | none => simp [hu, tk] at h
    | some d => cases d <;> simp_all [tk]
  · simp at h
theorem kind_str {t : TypeId} (h : (tyI P t).kind = .str) : P.underlying t = some .string := by
  unfold tyI at h
  split at h
  · simp only [] at h
    cases hu : P.underlying t with
    | none => simp [hu, tk] at h
    | some d => cases d <;> simp_all [tk]
  · simp at h
theorem kind_map {t k v : TypeId} (h : (tyI P t).kind = .map k v) : P.underlying t = some (.map k v) := by
  unfold tyI at h
  split at h
  · simp only [] at h
    cases hu : P.underlying t with
    | none => simp [hu, tk] at h
    | some d => cases d <;> simp_all [tk]
  · simp at h
theorem kind_array {t e : TypeId} {n : Nat} (h : (tyI P t).kind = .array n e) : P.underlying t = some (.array n e) := by
  unfold tyI at h
  split at h
  · simp only [] at h
    cases hu : P.underlying t with
    | none => simp [hu, tk] at h
    | some d => cases d <;> simp_all [tk]
  · simp at h
theorem kind_under {t : TypeId} (h : (tyI P t).kind ≠ .other) : ∃ d i, P.underlying t = some d ∧ tk (some d) = (tyI P t).kind ∧ P.info? t = some i ∧ i.size = (tyI P t).size := by
  unfold tyI at h ⊢
  split at h
  · rename_i i hi
    simp only [] at h ⊢
    cases hu : P.underlying t with
    | none => simp [hu, tk] at h
    | some d => exact ⟨d, i, rfl, rfl, by simp [hi], rfl⟩
  · simp at h
theorem size_info {t : TypeId} (h : 0 < (tyI P t).size) : ∃ i, P.info? t = some i ∧ i.size = (tyI P t).size := by
  unfold tyI at h ⊢
  split at h
  · rename_i i hi; exact ⟨i, by simp [hi], rfl⟩
  · simp at h

theorem bytes_eq (a b : ByteArray) : (a.toList == b.toList) = decide (a = b) := by
  rw [Bool.eq_iff_iff, beq_iff_eq, decide_eq_true_iff, ByteArray.toList_eq, ByteArray.toList_eq]
  exact ⟨fun h => by cases a; cases b; simp at h; congr, fun h => by rw [h]⟩

theorem run_eql {t : TypeId} {u v : Value} {r : Bool} (h : ∀ d, (Op.equalIn (d + 1) t u v).run P w = .ok r w) (hu : ∀ k n, u ≠ .int k n) (hf : ∀ k n, u ≠ .float k n) (hc : ∀ k a b, u ≠ .complex k a b) (hs : ∀ s, u ≠ .string s) :
    (binOp .eql t u v).run P w = .ok (.bool r) w ∧ (binOp .neq t u v).run P w = .ok (.bool (!r)) w := by
  have h' : (Op.equal t u v).run P w = .ok r w := h 9999
  constructor
  · have e : binOp .eql t u v = (do pure (.bool (← Op.equal t u v))) := by unfold binOp; split <;> simp_all
    rw [e]; simp [h']
  · have e : binOp .neq t u v = (do pure (.bool (!(← Op.equal t u v)))) := by unfold binOp; split <;> simp_all
    rw [e]; simp [h']

theorem q_eql {t : TypeId} {op : BinOp} {x y : AV} {u v : Value} {r : Bool} (R : Rel m H w) (ho : op = .eql ∨ op = .neq) (h : ∀ d, (Op.equalIn (d + 1) t u v).run P w = .ok r w) (hu : ∀ k n, u ≠ .int k n) (hf : ∀ k n, u ≠ .float k n) (hc : ∀ k a b, u ≠ .complex k a b) (hs : ∀ s, u ≠ .string s)
    (h1 : binV .eql x y = .bool r) (h2 : binV .neq x y = .bool (!r)) : QS P m H w (binOp op t u v) (binV op x y) := by
  obtain ⟨e1, e2⟩ := run_eql h hu hf hc hs
  rcases ho with rfl | rfl
  · exact QS.here R e1 (by rw [h1]; constructor)
  · exact QS.here R e2 (by rw [h2]; constructor)

theorem VR.row_val {id ver : Nat} (R : Rel m H w) {sz N : Nat} (hr : rowOf H id ver = some (sz, N)) :
    sg H id = some (.r ver sz N) := by
  unfold rowOf at hr
  unfold sg
  split at hr
  · rename_i v e sz' n cs hid
    split at hr
    · simp at hr; obtain ⟨rfl, rfl⟩ := hr; subst_vars; simp [hid, Obj.sig]
    · simp at hr
  · rename_i v e k xs hid
    split at hr
    · simp at hr; obtain ⟨rfl, rfl⟩ := hr; subst_vars; simp [hid, Obj.sig]
    · simp at hr
  · simp at hr

theorem q_binOp {t : TypeId} {op : BinOp} {x y : AV} {u v : Value} (R : Rel m H w) (hx : VR m H w x u) (hy : VR m H w y v) (hp : binP (tyI P t) H op x y) :
    QS P m H w (binOp op t u v) (binV op x y) := by
  unfold binP at hp
  split at hp
  · rename_i k a k' b
    cases hx; cases hy
    refine QS.here R (v := match intBin op k a b with | .int k n => .int k n | .bool b => .bool b | _ => undef) ?_ ?_
    · cases op <;> simp_all [intPre, binOp, Op.shift, Op.intArith, Op.intDiv, Op.intBits, Op.intCmp, intBin, bitI, Int.not_lt] <;> omega
    · cases op <;> simp [binV, intBin] <;> constructor
  · cases hx; cases hy
    rename_i a b
    cases op <;> simp only [] at hp <;> first | exact hp.elim | skip
    · refine QS.here R (v := .string (a ++ b)) ?_ (by simp only [binV]; constructor)
      have : ¬ ((a.size : Int) + (b.size : Int) > 9223372036854775807) := by omega
      simp [binOp, Op.stringOp, IntKind.max, IntKind.signed, IntKind.bits]
      omega
    · exact QS.here R (v := .bool (decide (a = b))) (by simp [binOp, Op.stringOp, bytes_eq]) (by simp only [binV]; constructor)
    · exact QS.here R (v := .bool (!decide (a = b))) (by simp [binOp, Op.stringOp, bytes_eq]) (by simp only [binV]; constructor)
  · cases hx; cases hy
    rename_i a b
    obtain ⟨ho, hk⟩ := hp
    have hk' : (tyI P t).kind = .bool := by revert hk; cases (tyI P t).kind <;> simp
    have hu := run_underlying (kind_bool hk') w
    exact q_eql (r := (a == b)) R ho (fun d => by simp [Op.equalIn, hu]) (by simp) (by simp) (by simp) (by simp) rfl rfl
  · cases hx; cases hy
    obtain ⟨ho, hk⟩ := hp
    obtain ⟨e, hk'⟩ : ∃ e, (tyI P t).kind = .ptr e := by revert hk; cases (tyI P t).kind <;> simp
    have hu := run_underlying (kind_ptr hk') w
    exact q_eql (r := true) R ho (fun d => by simp [Op.equalIn, hu]) (by simp) (by simp) (by simp) (by simp) rfl rfl
  · cases hy
    obtain ⟨ho, ha, hk⟩ := hp
    obtain ⟨e, hk'⟩ : ∃ e, (tyI P t).kind = .ptr e := by revert hk; cases (tyI P t).kind <;> simp
    have hu := run_underlying (kind_ptr hk') w
    obtain ⟨cs, hc⟩ := alive_sig ha
    obtain ⟨b, c, T, _, rfl, _⟩ := hx.ptr_val R hc
    exact q_eql (r := false) R ho (fun d => by simp [Op.equalIn, hu]) (by simp) (by simp) (by simp) (by simp) rfl rfl
  · cases hx
    obtain ⟨ho, ha, hk⟩ := hp
    obtain ⟨e, hk'⟩ : ∃ e, (tyI P t).kind = .ptr e := by revert hk; cases (tyI P t).kind <;> simp
    have hu := run_underlying (kind_ptr hk') w
    obtain ⟨cs, hc⟩ := alive_sig ha
    obtain ⟨b, c, T, _, rfl, _⟩ := hy.ptr_val R hc
    exact q_eql (r := false) R ho (fun d => by simp [Op.equalIn, hu]) (by simp) (by simp) (by simp) (by simp) rfl rfl
  · cases hx; cases hy
    obtain ⟨ho, hk⟩ := hp
    obtain ⟨e, hk'⟩ : ∃ e, (tyI P t).kind = .slice e := by revert hk; cases (tyI P t).kind <;> simp
    have hu := run_underlying (kind_slice hk') w
    exact q_eql (r := true) R ho (fun d => by simp [Op.equalIn, hu]) (by simp) (by simp) (by simp) (by simp) rfl rfl
  · obtain ⟨ho, hl, hk⟩ := hp
    obtain ⟨e, hk'⟩ : ∃ e, (tyI P t).kind = .slice e := by revert hk; cases (tyI P t).kind <;> simp
    have hu := run_underlying (kind_slice hk') w
    cases hy
    cases hx with
    | nums k t xs a c hn hc hm ht h =>
      rcases h with rfl | ⟨b, o, rfl, _⟩
      · simp at hl
      · exact q_eql (r := false) R ho (fun d => by simp [Op.equalIn, hu]) (by simp) (by simp) (by simp) (by simp) rfl rfl
  · obtain ⟨ho, hl, hk⟩ := hp
    obtain ⟨e, hk'⟩ : ∃ e, (tyI P t).kind = .slice e := by revert hk; cases (tyI P t).kind <;> simp
    have hu := run_underlying (kind_slice hk') w
    cases hy
    cases hx with
    | sl t n cs a c cv hn hc hm ht h hv h1 =>
      rcases h with rfl | ⟨b, o, rfl, _⟩
      · simp at hl
      · exact q_eql (r := false) R ho (fun d => by simp [Op.equalIn, hu]) (by simp) (by simp) (by simp) (by simp) rfl rfl
  · cases hx; cases hy
    obtain ⟨ho, hk⟩ := hp
    obtain ⟨e, f, hk'⟩ : ∃ e f, (tyI P t).kind = .map e f := by revert hk; cases (tyI P t).kind <;> simp
    have hu := run_underlying (kind_map hk') w
    exact q_eql (r := true) R ho (fun d => by simp [Op.equalIn, hu]) (by simp) (by simp) (by simp) (by simp) rfl rfl
  · cases hy
    obtain ⟨ho, ha, hk⟩ := hp
    obtain ⟨e, hk'⟩ : ∃ e, (tyI P t).kind = .ptr e := by revert hk; cases (tyI P t).kind <;> simp
    have hu := run_underlying (kind_ptr hk') w
    rename_i id ver i
    cases hrow : rowOf H id ver with
    | none => rw [hrow] at ha; exact ha.elim
    | some p =>
      cases hx with
      | eptr _ _ _ _ ho' hl hle h =>
        obtain ⟨b, c, _, rfl⟩ := h p.1 p.2 (VR.row_val R hrow)
        exact q_eql (r := false) R ho (fun d => by simp [Op.equalIn, hu]) (by simp) (by simp) (by simp) (by simp) rfl rfl
  · cases hy
    obtain ⟨ho, hk⟩ := hp
    obtain ⟨e, hk'⟩ : ∃ e, (tyI P t).kind = .ptr e := by revert hk; cases (tyI P t).kind <;> simp
    have hu := run_underlying (kind_ptr hk') w
    cases hx
    exact q_eql (r := false) R ho (fun d => by simp [Op.equalIn, hu]) (by simp) (by simp) (by simp) (by simp) rfl rfl
  · obtain ⟨ho, ha, hk⟩ := hp
    obtain ⟨e, f, hk'⟩ : ∃ e f, (tyI P t).kind = .map e f := by revert hk; cases (tyI P t).kind <;> simp
    have hu := run_underlying (kind_map hk') w
    cases hy
    rename_i id
    split at ha
    · rename_i ck kvs hid
      obtain ⟨r, es, hm, _⟩ := R.obj _ _ hid
      cases hx with
      | mref _ _ ho' hl h =>
        have := h (sg_some hid)
        rw [hm] at this
        subst this
        exact q_eql (r := false) R ho (fun d => by simp [Op.equalIn, hu]) (by simp) (by simp) (by simp) (by simp) rfl rfl
    · exact ha.elim
  · exact hp.elim

theorem q_unOp {op : UnOp} {x : AV} {u : Value} (R : Rel m H w) (hx : VR m H w x u) (hp : unP op x) : QS P m H w (Op.unary op u) (unV op x) := by
  unfold unP at hp
  split at hp
  · cases hx; rename_i b; exact QS.here R (v := .bool (!b)) (by simp [Op.unary]) (by simp only [unV]; constructor)
  · cases hx; rename_i k n; exact QS.here R (v := .int k (k.wrap (0 - n))) (by simp [Op.unary, Op.intArith]) (by simp only [unV]; constructor)
  · cases hx
    rename_i k n
    refine QS.here R (v := .int k (bitI .xor k (if k.signed then -1 else k.max) n)) ?_ (by simp only [unV]; constructor)
    simp [Op.unary, Op.intBits, bitI]
  · exact hp.elim

end Go.Av
end

section
set_option linter.unusedVariables false
set_option linter.unusedSimpArgs false
open Go.RowKit
namespace Go.Av
variable {P : Program} {m : Hand} {H : Heap} {w : World}

theorem add_at (b o j : Nat) : (⟨b, o, none⟩ : Addr).add j = ⟨b, o + j, none⟩ := by unfold Addr.add; split <;> simp_all

theorem q_loadVar {t : TypeId} (R : Rel m H w) (b o off : Nat) (cs : List AV) (cv : Nat → Value) (hcell : ∀ j, j < cs.length → w.cell? ⟨b, o + j, none⟩ = some (cv j)) (hv : ∀ j (hj : j < cs.length), VR m H w cs[j] (cv j))
    (h1 : ∀ j, j < cs.length → (cv j).oneCell' = true) (hk : (tyI P t).kind ≠ .other) (hs : (tyI P t).kind.isAgg = false → (tyI P t).size = 1) (hl : off + (tyI P t).size ≤ cs.length) :
    ∃ v, (loadVar t ⟨b, o + off, none⟩).run P w = .ok v w ∧ VR m H w (ld (tyI P t) cs off) v := by
  obtain ⟨d, i, hu, ht, hi, hsz⟩ := kind_under hk
  have ha := run_isAgg (w := w) t hu
  rw [ht] at ha
  have hz := run_sizeOf' (w := w) t hi
  rw [hsz] at hz
  cases hg : (tyI P t).kind.isAgg with
  | true =>
    have hld := run_loadCells (P := P) w ⟨b, o + off, none⟩ (tyI P t).size (fun j => cv (off + j)) (fun j hj => by rw [add_at, Nat.add_assoc]; exact hcell (off + j) (by omega))
    refine ⟨.agg ((List.range (tyI P t).size).map fun j => cv (off + j)).toArray, by simp [loadVar, ha, hg, hz, hld], ?_⟩
    have el : ((cs.drop off).take (tyI P t).size).length = (tyI P t).size := by simp; omega
    unfold ld
    rw [if_pos hg]
    refine .agg _ _ (by simp; omega) (fun j hj => ?_) (fun j hj => ?_)
    · have hj' : j < (tyI P t).size := by omega
      have e1 : (((List.range (tyI P t).size).map fun j => cv (off + j)).toArray).getD j undef = cv (off + j) := by simp [Array.getD, hj']
      have e2 : ((cs.drop off).take (tyI P t).size)[j] = cs[off + j]'(by omega) := by simp
      rw [e1, e2]
      exact hv (off + j) (by omega)
    · have hj' : j < (tyI P t).size := by omega
      have e1 : (((List.range (tyI P t).size).map fun j => cv (off + j)).toArray).getD j undef = cv (off + j) := by simp [Array.getD, hj']
      rw [e1]
      exact h1 (off + j) (by omega)
  | false =>
    have h := hs hg
    have hoff : off < cs.length := by omega
    refine ⟨cv off, by simp [loadVar, ha, hg, hcell off hoff], ?_⟩
    unfold ld
    rw [if_neg (by simp [hg])]
    have e : cs.getD off .junk = cs[off] := by simp [List.getD, hoff]
    rw [e]
    exact hv off hoff

theorem cell_block {b : Nat} {c : Array Value} {T : TypeId} {fr : Nat × Nat} (h : w.heap[b]? = some (.cells c T fr)) (j : Nat) (hj : j < c.size) : w.cell? ⟨b, j, none⟩ = some (c.getD j undef) := by
  simp [World.cell?, h, hj, Array.getD]

theorem own_cell {base e sz n : Nat} {v : Value} {vs : List Value} (h : w.ownsRow base e sz v n vs) {g cap : Nat} (hv : v = .slice (some ⟨g, 0, none⟩) n cap) (j : Nat) (hj : j < vs.length) : w.cell? ⟨g, j, none⟩ = some (vs.getD j undef) := by
  subst hv
  have := h.cellAt j (by rw [← h.1]; exact hj)
  rw [this]
  simp [List.getD, hj]

theorem q_load0 {t : TypeId} {x : AV} {u : Value} (R : Rel m H w) (hx : VR m H w x u) (hp : loadP (tyI P t) H x) : ∃ a v, u = .pointer (some a) ∧ (loadVar t a).run P w = .ok v w ∧ VR m H w (loadV (tyI P t) H x) v := by
  obtain ⟨hk, hs, hp⟩ := hp
  have key : ∀ a, u = .pointer (some a) → ∀ y, (∃ v, (loadVar t a).run P w = .ok v w ∧ VR m H w y v) → ∃ a v, u = .pointer (some a) ∧ (loadVar t a).run P w = .ok v w ∧ VR m H w y v := by
    rintro a rfl y ⟨v, h, r⟩
    exact ⟨a, v, rfl, h, r⟩
  cases x <;> simp only [] at hp <;> try exact hp.elim
  · rename_i id off
    cases hid : H[id]? with
    | none => rw [hid] at hp; exact hp.elim
    | some o =>
      rw [hid] at hp
      cases o <;> (try dsimp only at hp) <;> try exact hp.elim
      rename_i cs
      obtain ⟨b, c, T, h1, rfl, h2, h3, h4, h5⟩ := hx.ptr_val R hid
      refine key _ rfl _ ?_
      have e : loadV (tyI P t) H (.ptr id off) = ld (tyI P t) cs off := by simp [loadV, hid]
      rw [e]
      have := q_loadVar (P := P) (t := t) R b 0 off cs (fun j => c.getD j undef) (fun j hj => by simpa using cell_block h2 j (by omega)) h4 h5 hk hs hp
      simpa using this
  · rename_i cs
    cases hx with
    | ip _ b o cv hb h hv h1 =>
      refine key _ rfl _ ?_
      have := q_loadVar (P := P) (t := t) R b o 0 cs cv h hv h1 hk hs (by simpa using hp)
      simpa [loadV] using this
  · rename_i id ver i
    cases hid : H[id]? with
    | none => rw [hid] at hp; exact hp.elim
    | some o =>
      rw [hid] at hp
      cases o <;> (try dsimp only at hp) <;> try exact hp.elim
      · rename_i v e sz n cs
        obtain ⟨rfl, hl⟩ := hp
        obtain ⟨vs, hown, hvl, hv, h1⟩ := R.obj id _ hid
        cases hx with
        | eptr _ _ _ _ ho hl hle h =>
          obtain ⟨b, c, hm, rfl⟩ := h sz n (by simp [sg, hid, Obj.sig])
          refine key _ rfl _ ?_
          have e : loadV (tyI P t) H (.eptr id v i) = ld (tyI P t) cs i := by simp [loadV, hid]
          rw [e]
          have := q_loadVar (P := P) (t := t) R b 0 i cs (fun j => vs.getD j undef) (fun j hj => by simpa using own_cell hown hm j (by omega)) hv h1 hk hs (by assumption)
          simpa using this
      · rename_i v e k xs
        obtain ⟨rfl, hl, hg⟩ := hp
        have hown := R.obj id _ hid
        cases hx with
        | eptr _ _ _ _ ho hl' hle h =>
          obtain ⟨b, c, hm, rfl⟩ := h 1 xs.length (by simp [sg, hid, Obj.sig])
          refine key _ rfl _ ?_
          have := q_loadVar (P := P) (t := t) R b 0 i (xs.map fun x => .int k x) (fun j => (xs.map fun x => Value.int k x).getD j undef) (fun j hj => by simpa using own_cell hown hm j (by simpa using hj))
            (fun j hj => by
              have hj' : j < xs.length := by simpa using hj
              simp [List.getD, hj']
              constructor)
            (fun j hj => by
              have hj' : j < xs.length := by simpa using hj
              simp [List.getD, hj', Value.oneCell']) hk hs (by have := hs hg; simp; omega)
          have e : loadV (tyI P t) H (.eptr id v i) = ld (tyI P t) (xs.map fun x => .int k x) i := by
            simp [loadV, hid, ld, hg, List.getD, hl]
          rw [e]
          simpa using this

theorem q_load {t : TypeId} {x : AV} {u : Value} (R : Rel m H w) (hx : VR m H w x u) (hp : loadP (tyI P t) H x) : QS P m H w (Instr.loadAt t u) (loadV (tyI P t) H x) := by
  obtain ⟨a, v, rfl, h, r⟩ := q_load0 R hx hp
  exact QS.here R (by simp [Instr.loadAt, Instr.sureAddr, h]) r

theorem q_index {t : TypeId} {x y : AV} {u v : Value} (R : Rel m H w) (hx : VR m H w x u) (hy : VR m H w y v) {s : ByteArray} {k : IntKind} {i : Int} (e1 : x = .str s) (e2 : y = .int k i) (hk : (tyI P t).kind = .str) (h0 : 0 ≤ i) (h1 : i < s.size) :
    QS P m H w (Instr.index t u v) (.int .u8 ((strB s).getD i.toNat 0)) := by
  subst e1; subst e2
  cases hx; cases hy
  have hlt : i.toNat < s.size := by omega
  have hu := run_underlying (kind_str hk) w
  refine QS.here R (v := .int .u8 ((s[i.toNat]'hlt).toNat : Int)) ?_ ?_
  · rw [run_index_string (h := kind_str hk), dif_pos ⟨h0, h1⟩]
  · have : (strB s).getD i.toNat 0 = ((s[i.toNat]'hlt).toNat : Int) := by
      have hl : i.toNat < s.data.toList.length := by rw [Array.length_toList]; exact hlt
      have hl' : i.toNat < s.data.size := by simpa using hl
      rw [strB, List.getD, List.getElem?_map, List.getElem?_eq_getElem hl]
      rfl
    rw [this]
    constructor

theorem run_index_agg {t e : TypeId} {n : Nat} {cs : Array Value} {k : IntKind} {i : Int} (h : P.underlying t = some (.array n e)) (hi : 0 ≤ i ∧ i < (n : Int)) {z : Nat} (hz : (sizeOf e).run P w = .ok z w) :
    (Instr.index t (.agg cs) (.int k i)).run P w = (part e cs (i.toNat * z)).run P w := by
  simp only [Instr.index, asIntOf, Sem.run_bind, Sem.run_pure, Result.andThen_ok, run_underlying h]
  rw [if_pos hi, Sem.run_bind, hz, Result.andThen_ok]

theorem q_indexAgg {t e : TypeId} {n : Nat} {x y : AV} {u v : Value} (R : Rel m H w) (hx : VR m H w x u) (hy : VR m H w y v) {cs : List AV} {k : IntKind} {i : Int} (e1 : x = .agg cs) (e2 : y = .int k i) (hk : (tyI P t).kind = .array n e) (h0 : 0 ≤ i) (h1 : i < n)
    (hke : (tyI P e).kind ≠ .other) (hse : (tyI P e).kind.isAgg = false → (tyI P e).size = 1) (hl : i.toNat * (tyI P e).size + (tyI P e).size ≤ cs.length) :
    QS P m H w (Instr.index t u v) (ld (tyI P e) cs (i.toNat * (tyI P e).size)) := by
  subst e1; subst e2
  cases hy
  cases hx with
  | agg _ vs hvl hv h1' =>
    have hu := run_underlying (kind_array hk) w
    obtain ⟨d, inf, hue, hte, hi, hsz⟩ := kind_under hke
    have ha := run_isAgg (w := w) e hue
    rw [hte] at ha
    have hz := run_sizeOf' (w := w) e hi
    rw [hsz] at hz
    clear hu
    cases hg : (tyI P e).kind.isAgg with
    | true =>
      refine QS.here R (v := .agg (vs.extract (i.toNat * (tyI P e).size) (i.toNat * (tyI P e).size + (tyI P e).size))) (by rw [run_index_agg (kind_array hk) ⟨h0, h1⟩ hz]; simp [part, ha, hg, hz]) ?_
      unfold ld
      rw [if_pos hg]
      have el : ((cs.drop (i.toNat * (tyI P e).size)).take (tyI P e).size).length = (tyI P e).size := by simp; omega
      have es : (vs.extract (i.toNat * (tyI P e).size) (i.toNat * (tyI P e).size + (tyI P e).size)).size = (tyI P e).size := by simp; omega
      have eg : ∀ j, j < (tyI P e).size → (vs.extract (i.toNat * (tyI P e).size) (i.toNat * (tyI P e).size + (tyI P e).size)).getD j undef = vs.getD (i.toNat * (tyI P e).size + j) undef := fun j hj => by
        have h2 : i.toNat * (tyI P e).size + j < vs.size := by omega
        have h3 : j < (vs.extract (i.toNat * (tyI P e).size) (i.toNat * (tyI P e).size + (tyI P e).size)).size := by omega
        rw [Array.getD, dif_pos h3, Array.getD, dif_pos h2]
        simp
      refine .agg _ _ (by omega) (fun j hj => ?_) (fun j hj => ?_)
      · rw [eg j (by omega)]
        have e2 : ((cs.drop (i.toNat * (tyI P e).size)).take (tyI P e).size)[j] = cs[i.toNat * (tyI P e).size + j]'(by omega) := by simp
        rw [e2]
        exact hv _ _
      · rw [eg j (by omega)]
        exact h1' _ (by omega)
    | false =>
      have hs1 := hse hg
      have hlt : i.toNat * (tyI P e).size < cs.length := by omega
      have hlt' : i.toNat * (tyI P e).size < vs.size := by omega
      refine QS.here R (v := vs.getD (i.toNat * (tyI P e).size) undef) ?_ ?_
      · rw [run_index_agg (kind_array hk) ⟨h0, h1⟩ hz]
        generalize i.toNat * (tyI P e).size = q at *
        have e1 : vs.getD q undef = vs[q] := by simp [Array.getD, hlt']
        have e2 : vs[q]? = some vs[q] := by simp [hlt']
        rw [e1]
        unfold part
        rw [Sem.run_bind, ha, hg]
        simp [hlt']
      · unfold ld
        rw [if_neg (by simp [hg])]
        have e' : cs.getD (i.toNat * (tyI P e).size) .junk = cs[i.toNat * (tyI P e).size] := by rw [List.getD, List.getElem?_eq_getElem hlt]; rfl
        rw [e']
        exact hv _ _

end Go.Av
end

section
set_option linter.unusedVariables false
set_option linter.unusedSimpArgs false
open Go.RowKit
namespace Go.Av
variable {P : Program} {m : Hand} {H : Heap} {w : World}

def shiftA (x : AV) (o : Nat) : AV :=
  match x with
  | .ptr id off => .ptr id (off + o)
  | .ip cs => .ip (cs.drop o)
  | .eptr id ver i => .eptr id ver (i + o)
  | _ => .junk
def shiftP (H : Heap) (x : AV) (o : Nat) : Prop :=
  match x with
  | .ptr id _ => alive H id
  | .ip cs => o ≤ cs.length
  | .eptr id ver _ => (match rowOf H id ver with | some _ => True | none => False)
  | _ => False

theorem shift_val {x : AV} {u : Value} {o : Nat} (R : Rel m H w) (hx : VR m H w x u) (hp : shiftP H x o) : ∃ b f, u = .pointer (some ⟨b, f, none⟩) ∧ VR m H w (shiftA x o) (.pointer (some ⟨b, f + o, none⟩)) := by
  cases x <;> simp only [shiftP] at hp <;> try exact hp.elim
  · rename_i id off
    obtain ⟨cs, hc⟩ := alive_sig hp
    obtain ⟨b, c, T, h1, rfl, _⟩ := hx.ptr_val R hc
    refine ⟨b, off, rfl, .ptr _ _ _ rfl hx.lt fun n hn => ⟨b, h1, rfl⟩⟩
  · rename_i cs
    cases hx with
    | ip _ b f cv hb h hv h1 =>
      refine ⟨b, f, rfl, .ip _ b (f + o) (fun j => cv (o + j)) hb (fun j hj => ?_) (fun j hj => ?_) (fun j hj => ?_)⟩
      · rw [Nat.add_assoc]; exact h (o + j) (by simp at hj; omega)
      · simpa using hv (o + j) (by simp at hj; omega)
      · exact h1 (o + j) (by simp at hj; omega)
  · rename_i id ver i
    cases hr : rowOf H id ver with
    | none => rw [hr] at hp; exact hp.elim
    | some p =>
      obtain ⟨sz, N⟩ := p
      cases hx with
      | eptr _ _ _ _ ho hl hle h =>
        obtain ⟨b, c, hm, rfl⟩ := h sz N (VR.row_val R hr)
        exact ⟨b, i, rfl, .eptr _ _ _ _ rfl hl hle fun sz' N' hn => by
          obtain ⟨b', c', hm', e⟩ := h sz' N' hn
          have : b = b' := by simpa using e
          subst this
          exact ⟨b, c', hm', rfl⟩⟩

theorem fields_info {t : TypeId} {f : Nat} (hk : (tyI P t).kind = .struct) (hf : f < (tyI P t).offs.length) : ∃ fs, P.underlying t = some (.struct fs) ∧ ∃ fl, fs[f]? = some fl ∧ fl.offset = (tyI P t).offs.getD f 0 ∧ fl.type = (tyI P t).fts.getD f 0 := by
  unfold tyI at hk hf ⊢
  split at hk
  · rename_i i hi
    simp only [hi] at hk hf ⊢
    cases hu : P.underlying t with
    | none => simp [hu, tk] at hk
    | some d =>
      cases d <;> simp [hu, tk] at hk
      rename_i fs
      simp only [hu, fieldsOf, List.length_map, Array.length_toList] at hf
      refine ⟨fs, rfl, fs[f], by simp [hf], ?_, ?_⟩
      · simp [fieldsOf, List.getD, hf]
      · simp [fieldsOf, List.getD, hf]
  · simp at hk

theorem q_fieldAt {t : TypeId} {f : Nat} {x : AV} {u : Value} (R : Rel m H w) (hx : VR m H w x u) (hk : (tyI P t).kind = .struct) (hf : f < (tyI P t).offs.length) (hz : 0 < (tyI P ((tyI P t).fts.getD f 0)).size) (hp : shiftP H x ((tyI P t).offs.getD f 0)) :
    QS P m H w (Instr.fieldAt t u f) (shiftA x ((tyI P t).offs.getD f 0)) := by
  obtain ⟨fs, hu, fl, hfl, e1, e2⟩ := fields_info hk hf
  rw [← e2] at hz
  obtain ⟨i, hi, hsz⟩ := size_info hz
  have hz' := run_sizeOf' (w := w) _ hi
  obtain ⟨b, o, rfl, hv⟩ := shift_val R hx hp
  refine QS.here R (v := .pointer (some ⟨b, o + (tyI P t).offs.getD f 0, none⟩)) ?_ hv
  have hne : ¬ i.size = 0 := by omega
  rw [← e1]
  simp [Instr.fieldAt, run_underlying hu, hfl, Instr.sureAddr, fieldPlace, hz', hne, add_at]

/-- a part of a struct's value -/
theorem q_field {t : TypeId} {f : Nat} {x : AV} {u : Value} (R : Rel m H w) (hx : VR m H w x u) {cs : List AV} (e : x = .agg cs) (hk : (tyI P t).kind = .struct) (hf : f < (tyI P t).offs.length)
    (hke : (tyI P ((tyI P t).fts.getD f 0)).kind ≠ .other) (hse : (tyI P ((tyI P t).fts.getD f 0)).kind.isAgg = false → (tyI P ((tyI P t).fts.getD f 0)).size = 1) (hl : (tyI P t).offs.getD f 0 + (tyI P ((tyI P t).fts.getD f 0)).size ≤ cs.length) :
    QS P m H w (Instr.field t u f) (ld (tyI P ((tyI P t).fts.getD f 0)) cs ((tyI P t).offs.getD f 0)) := by
  subst e
  obtain ⟨fs, hu, fl, hfl, e1, e2⟩ := fields_info hk hf
  cases hx with
  | agg _ vs hvl hv h1' =>
    generalize (tyI P t).fts.getD f 0 = ft at *
    generalize (tyI P t).offs.getD f 0 = o at *
    obtain ⟨d, inf, hue, hte, hi, hsz⟩ := kind_under hke
    have ha := run_isAgg (w := w) ft hue
    rw [hte] at ha
    have hz := run_sizeOf' (w := w) ft hi
    rw [hsz] at hz
    clear hue hte
    have hrun : (Instr.field t (.agg vs) f).run P w = (part ft vs o).run P w := by
      simp [Instr.field, run_underlying hu, hfl, asAgg, e1, e2]
    cases hg : (tyI P ft).kind.isAgg with
    | true =>
      refine QS.here R (v := .agg (vs.extract o (o + (tyI P ft).size))) (by rw [hrun]; simp [part, ha, hg, hz]) ?_
      unfold ld
      rw [if_pos hg]
      have eg : ∀ j, j < (tyI P ft).size → (vs.extract o (o + (tyI P ft).size)).getD j undef = vs.getD (o + j) undef := fun j hj => by
        have h2 : o + j < vs.size := by omega
        have h3 : j < (vs.extract o (o + (tyI P ft).size)).size := by simp; omega
        rw [Array.getD, dif_pos h3, Array.getD, dif_pos h2]
        simp
      have el : ((cs.drop o).take (tyI P ft).size).length = (tyI P ft).size := by simp; omega
      refine .agg _ _ (by simp; omega) (fun j hj => ?_) (fun j hj => ?_)
      · rw [eg j (by omega)]
        have e2 : ((cs.drop o).take (tyI P ft).size)[j] = cs[o + j]'(by omega) := by simp
        rw [e2]
        exact hv _ _
      · rw [eg j (by omega)]
        exact h1' _ (by omega)
    | false =>
      have hs1 := hse hg
      have hlt : o < cs.length := by omega
      have hlt' : o < vs.size := by omega
      refine QS.here R (v := vs.getD o undef) ?_ ?_
      · have e1 : vs.getD o undef = vs[o] := by simp [Array.getD, hlt']
        rw [hrun, e1]
        unfold part
        rw [Sem.run_bind, ha, hg]
        simp [hlt']
      · unfold ld
        rw [if_neg (by simp [hg])]
        have e' : cs.getD o .junk = cs[o] := by rw [List.getD, List.getElem?_eq_getElem hlt]; rfl
        rw [e']
        exact hv _ _

theorem run_indexAt_sl {t e : TypeId} (h : P.underlying t = some (.slice e)) {z : Nat} (hz : (sizeOf e).run P w = .ok z w) (b o n c : Nat) (k : IntKind) (i : Int) (hi : 0 ≤ i ∧ i < (n : Int)) :
    (Instr.indexAt t (.slice (some ⟨b, o, none⟩) n c) (.int k i)).run P w = .ok (.pointer (some ⟨b, o + i.toNat * z, none⟩)) w := by
  simp only [Instr.indexAt, asIntOf, Sem.run_bind, Sem.run_pure, Result.andThen_ok, run_underlying h]
  rw [if_pos hi]
  simp [hz, add_at]
theorem run_indexAt_arr {t e : TypeId} {N : Nat} (h : P.underlying t = some (.array N e)) {z : Nat} (hz : (sizeOf e).run P w = .ok z w) (b o : Nat) (k : IntKind) (i : Int) (hi : 0 ≤ i ∧ i < (N : Int)) :
    (Instr.indexAt t (.pointer (some ⟨b, o, none⟩)) (.int k i)).run P w = .ok (.pointer (some ⟨b, o + i.toNat * z, none⟩)) w := by
  simp only [Instr.indexAt, asIntOf, Sem.run_bind, Sem.run_pure, Result.andThen_ok, run_underlying h, Instr.sureAddr]
  rw [if_pos hi]
  simp [hz, add_at]

theorem q_addr {t : TypeId} {x : AV} {u v : Value} {k : IntKind} {i : Int} (R : Rel m H w) (hx : VR m H w x u) (hy : VR m H w (.int k i) v) (hz : 0 < (tyI P (elemOf' (tyI P t))).size) (hp : addrP (tyI P t) (tyI P (elemOf' (tyI P t))) H x i) :
    QS P m H w (Instr.indexAt t u v) (addrV (tyI P (elemOf' (tyI P t))) H x i) := by
  cases hy
  have sl : (match (tyI P t).kind with | .slice _ => True | _ => False) → P.underlying t = some (.slice (elemOf' (tyI P t))) := fun h => by
    obtain ⟨e, hk'⟩ : ∃ e, (tyI P t).kind = .slice e := by revert h; cases (tyI P t).kind <;> simp
    rw [kind_slice hk']; simp [elemOf', hk']
  obtain ⟨inf, hi, hsz⟩ := size_info hz
  have hzr := run_sizeOf' (w := w) _ hi
  rw [hsz] at hzr
  cases x <;> simp only [addrP] at hp <;> try exact hp.elim
  · rename_i k' tt xs
    obtain ⟨h0, h1, h2, h3⟩ := hp
    cases hx with
    | nums _ _ _ a c hn hc hm ht h =>
      rcases h with rfl | ⟨b, o, rfl, hb, hcell⟩
      · simp at h1; omega
      · refine QS.here R (run_indexAt_sl (sl h3) hzr b o _ _ _ _ ⟨h0, h1⟩) ?_
        have hlt : i.toNat < xs.length := by omega
        refine .ip _ b _ (fun _ => .int k' xs[i.toNat]) hb (fun j hj => ?_) (fun j hj => ?_) (fun j hj => rfl)
        · have : j = 0 := by simpa using hj
          subst this
          rw [h2, Nat.mul_one, Nat.add_zero]
          exact hcell _ hlt
        · have : j = 0 := by simpa using hj
          subst this
          simp [List.getD, hlt]
          constructor
  · rename_i tt n cs
    obtain ⟨h0, h1, h2, h4, h3⟩ := hp
    cases hx with
    | sl _ _ _ a c cv hn hc hm ht h hv ho =>
      have hlt : i.toNat * (tyI P (elemOf' (tyI P t))).size + (tyI P (elemOf' (tyI P t))).size ≤ cs.length := by
        rw [h2, ← Nat.succ_mul]
        exact Nat.mul_le_mul_right _ (by omega)
      rcases h with rfl | ⟨b, o, rfl, hb, hcell⟩
      · simp at hlt; omega
      · refine QS.here R (run_indexAt_sl (sl h3) hzr b o _ _ _ _ ⟨h0, h1⟩) ?_
        simp only [addrV]
        generalize (tyI P (elemOf' (tyI P t))).size = z at *
        refine .ip _ b _ (fun j => cv (i.toNat * z + j)) hb (fun j hj => ?_) (fun j hj => ?_) (fun j hj => ?_)
        · rw [Nat.add_assoc]; exact hcell _ (by simp at hj; omega)
        · have : ((cs.drop (i.toNat * z)).take z)[j] = cs[i.toNat * z + j]'(by simp at hj; omega) := by simp
          rw [this]
          exact hv _ _
        · exact ho _ (by simp at hj; omega)
  · rename_i id off
    obtain ⟨h0, ha, h1⟩ := hp
    obtain ⟨cs, hc⟩ := alive_sig ha
    obtain ⟨b, c, T, hm, rfl, _⟩ := hx.ptr_val R hc
    obtain ⟨N, e, hk⟩ : ∃ N e, (tyI P t).kind = .array N e := by revert h1; cases (tyI P t).kind <;> simp
    rw [hk] at h1
    have he : elemOf' (tyI P t) = e := by simp [elemOf', hk]
    rw [he] at hzr ⊢
    exact QS.here R (run_indexAt_arr (kind_array hk) hzr b off _ _ ⟨h0, h1⟩) (.ptr _ _ _ rfl hx.lt fun n hn => ⟨b, hm, rfl⟩)
  · rename_i cs
    obtain ⟨h0, hl, h1⟩ := hp
    obtain ⟨N, e, hk⟩ : ∃ N e, (tyI P t).kind = .array N e := by revert h1; cases (tyI P t).kind <;> simp
    rw [hk] at h1
    have he : elemOf' (tyI P t) = e := by simp [elemOf', hk]
    rw [he] at hzr hl ⊢
    obtain ⟨b, f, rfl, hv⟩ := shift_val (o := i.toNat * (tyI P e).size) R hx (by simpa [shiftP] using hl)
    exact QS.here R (run_indexAt_arr (kind_array hk) hzr b f _ _ ⟨h0, h1⟩) hv
  · rename_i id ver off n
    obtain ⟨h0, h1, hr, h3⟩ := hp
    cases hrow : rowOf H id ver with
    | none => rw [hrow] at hr; exact hr.elim
    | some p =>
      obtain ⟨sz, N⟩ := p
      rw [hrow] at hr
      obtain ⟨he, hle⟩ := hr
      have hsg := VR.row_val R hrow
      cases hx with
      | rref _ _ _ _ _ ho hl hle' h =>
        obtain ⟨_, a, c, rfl, _, _, _, hb, _⟩ := h sz N hsg
        obtain ⟨b, c0, hm, rfl⟩ := hb (by omega)
        refine QS.here R (run_indexAt_sl (sl h3) hzr b _ _ _ _ _ ⟨h0, h1⟩) ?_
        simp only [addrV]
        refine .eptr _ _ _ _ rfl hl hle' fun sz' N' hn => ?_
        have e : sz' = sz ∧ N' = N := by rw [hsg] at hn; simp at hn; exact ⟨hn.1.symm, hn.2.symm⟩
        obtain ⟨rfl, rfl⟩ := e
        exact ⟨b, c0, hm, by rw [he, Nat.add_mul]⟩
  · rename_i id off n
    obtain ⟨h0, h1, ha, h2, h3⟩ := hp
    obtain ⟨cs, hc⟩ := alive_sig ha
    have hsg := sg_some hc
    cases hx with
    | cref _ _ _ _ ho hl h =>
      obtain ⟨b, a, c, hm, rfl, _, _, ha'⟩ := h _ hsg
      obtain rfl := ha' (by omega)
      refine QS.here R (run_indexAt_sl (sl h3) hzr b _ _ _ _ _ ⟨h0, h1⟩) ?_
      simp only [addrV]
      refine .ptr _ _ _ rfl hl fun n hn => ⟨b, hm, by rw [h2, Nat.mul_one]⟩

end Go.Av
end

section
set_option linter.unusedVariables false
set_option linter.unusedSimpArgs false
open Go.RowKit
namespace Go.Av
variable {P : Program} {m : Hand} {H : Heap} {w : World}

def optInt : Option AV → Prop
  | none => True
  | some (.int _ _) => True
  | _ => False

def sliceP (P : Program) (tI : TI) (H : Heap) (x : AV) (lo hi mx : Option AV) : Prop :=
  optInt lo ∧ optInt hi ∧ optInt mx ∧
  match x with
  | .str s => mx = none ∧ tI.kind = .str ∧ 0 ≤ bnd 0 lo ∧ bnd 0 lo ≤ bnd s.size hi ∧ bnd s.size hi ≤ s.size
  | .nums _ _ xs => (match tI.kind with | .slice e => (tyI P e).size = 1 | _ => False) ∧ 0 ≤ bnd 0 lo ∧ bnd 0 lo ≤ bnd xs.length hi ∧ bnd xs.length hi ≤ xs.length ∧ (mx ≠ none → hi ≠ none ∧ bnd xs.length hi ≤ bnd 0 mx ∧ bnd 0 mx ≤ xs.length)
  | .sl _ n cs => (match tI.kind with | .slice e => 0 < (tyI P e).size ∧ cs.length = n * (tyI P e).size | _ => False) ∧ 0 ≤ bnd 0 lo ∧ bnd 0 lo ≤ bnd n hi ∧ bnd n hi ≤ n ∧ (mx ≠ none → hi ≠ none ∧ bnd n hi ≤ bnd 0 mx ∧ bnd 0 mx ≤ n)
  | .nils => (match tI.kind with | .slice e => 0 < (tyI P e).size | _ => False) ∧ bnd 0 lo = 0 ∧ bnd 0 hi = 0 ∧ mx = none
  | .rref id ver off n => (match tI.kind with | .slice e => (match rowOf H id ver with | some (sz, N) => 0 < sz ∧ (tyI P e).size = sz ∧ off + n ≤ N | none => False) | _ => False) ∧ 0 ≤ bnd 0 lo ∧ bnd 0 lo ≤ bnd n hi ∧ bnd n hi ≤ n ∧ mx = none
  | .ptr id off => (match tI.kind with | .array n e => (tyI P e).size = 1 ∧ 0 ≤ bnd 0 lo ∧ bnd 0 lo ≤ bnd n hi ∧ bnd n hi ≤ n ∧ n ≤ maxLen | _ => False) ∧ mx = none ∧ alive H id
  | _ => False

theorem bnd_some (d : Int) (k : IntKind) (n : Int) : bnd d (some (.int k n)) = n := rfl

/-- the value of a bound, and that it is one -/
def Bd (o : Option Value) (d n : Nat) : Prop := (o = none ∧ n = d) ∨ ∃ k, o = some (.int k (n : Int))

theorem bd_of {o : Option AV} {v : Option Value} {d : Nat} (hr : ∀ x, o = some x → ∃ u, v = some u ∧ VR m H w x u) (hn : o = none → v = none) (ho : optInt o) (h0 : 0 ≤ bnd d o) : Bd v d (bnd d o).toNat := by
  cases o with
  | none => exact .inl ⟨hn rfl, by simp [bnd]⟩
  | some x =>
    obtain ⟨u, rfl, hu⟩ := hr x rfl
    cases x <;> simp only [optInt] at ho <;> try exact ho.elim
    rename_i k n
    cases hu
    exact .inr ⟨k, by simp only [bnd] at h0 ⊢; rw [Int.toNat_of_nonneg h0]⟩

theorem run_bd {k : IntKind} {n y : Nat} {c : BoundsCode} (h : n ≤ y) : (Instr.sliceBound (.int k (n : Int)) y c).run P w = .ok n w := by
  have h' : 0 ≤ (n : Int) ∧ (n : Int) ≤ (y : Int) := ⟨Int.natCast_nonneg n, by omega⟩
  simp only [Instr.sliceBound, asIntOf, Sem.run_bind, Sem.run_pure, Result.andThen_ok]
  rw [if_pos h']
  simp

theorem run_bounds {b : Bool} {len cap l h : Nat} {lo hi : Option Value} (hl : Bd lo 0 l) (hh : Bd hi len h) (h1 : l ≤ h) (h2 : h ≤ cap) : (Instr.sliceBounds b len cap lo hi none).run P w = .ok (l, h, cap) w := by
  rcases hl with ⟨rfl, rfl⟩ | ⟨k, rfl⟩ <;> rcases hh with ⟨rfl, rfl⟩ | ⟨k', rfl⟩ <;> simp [Instr.sliceBounds, run_bd h1, run_bd h2]
theorem run_bounds3 {b : Bool} {len cap l h mx : Nat} {lo : Option Value} {k k' : IntKind} (hl : Bd lo 0 l) (h1 : l ≤ h) (h2 : h ≤ mx) (h3 : mx ≤ cap) : (Instr.sliceBounds b len cap lo (some (.int k (h : Int))) (some (.int k' (mx : Int)))).run P w = .ok (l, h, mx) w := by
  rcases hl with ⟨rfl, rfl⟩ | ⟨k, rfl⟩ <;> simp [Instr.sliceBounds, run_bd h1, run_bd h2, run_bd h3]

theorem run_sliceAt_sl {t e : TypeId} (h : P.underlying t = some (.slice e)) {z : Nat} (hz : (sizeOf e).run P w = .ok z w) {a : Option Addr} {len cap l hh mx : Nat} {lo hi m' : Option Value} (hb : (Instr.sliceBounds true len cap lo hi m').run P w = .ok (l, hh, mx) w) :
    (Instr.sliceAt t (.slice a len cap) lo hi m').run P w = .ok (.slice (if mx = l then a else a.map (·.add (l * z))) (hh - l) (mx - l)) w := by
  simp [Instr.sliceAt, Instr.slice, run_underlying h, hb, hz]

theorem sub_addr {b o l z mx : Nat} {a : Option Addr} (ha : a = some ⟨b, o, none⟩) (h : mx ≠ l) : (if mx = l then a else a.map (·.add (l * z))) = some ⟨b, o + l * z, none⟩ := by
  rw [if_neg h, ha]; simp [add_at]

theorem q_slice {t : TypeId} {x : AV} {lo hi mx : Option AV} {u : Value} {vlo vhi vmx : Option Value} (R : Rel m H w) (hx : VR m H w x u)
    (hlo : ∀ y, lo = some y → ∃ v, vlo = some v ∧ VR m H w y v) (hlo' : lo = none → vlo = none) (hhi : ∀ y, hi = some y → ∃ v, vhi = some v ∧ VR m H w y v) (hhi' : hi = none → vhi = none)
    (hmx : ∀ y, mx = some y → ∃ v, vmx = some v ∧ VR m H w y v) (hmx' : mx = none → vmx = none) (hp : sliceP P (tyI P t) H x lo hi mx) :
    QS P m H w (Instr.sliceAt t u vlo vhi vmx) (sliceV (tyI P t) (tyI P (elemOf' (tyI P t))) x lo hi mx) := by
  obtain ⟨ol, oh, om, hp⟩ := hp
  have B : 0 ≤ bnd 0 lo → Bd vlo 0 (bnd 0 lo).toNat := fun h => bd_of (d := 0) hlo hlo' ol h
  have C := fun (d : Nat) (h : 0 ≤ bnd d hi) => bd_of hhi hhi' oh h
  cases x <;> simp only [] at hp <;> try exact hp.elim
  · -- str
    rename_i s
    obtain ⟨rfl, hk, h0, h1, h2⟩ := hp
    cases hx
    obtain rfl := hmx' rfl
    have hb := run_bounds (P := P) (w := w) (b := false) (B h0) (C s.size (by omega)) (by omega : (bnd 0 lo).toNat ≤ (bnd s.size hi).toNat) (by omega : (bnd s.size hi).toNat ≤ s.size)
    exact QS.here R (v := .string (s.extract (bnd 0 lo).toNat (bnd s.size hi).toNat)) (by simp [Instr.sliceAt, Instr.slice, run_underlying (kind_str hk), hb]) (by simp only [sliceV]; constructor)
  · -- nils
    obtain ⟨hk, h0, h1, rfl⟩ := hp
    cases hx
    obtain rfl := hmx' rfl
    obtain ⟨e, hk', hz⟩ : ∃ e, (tyI P t).kind = .slice e ∧ 0 < (tyI P e).size := by revert hk; cases (tyI P t).kind <;> simp
    obtain ⟨inf, hi', hsz⟩ := size_info hz
    have hzr := run_sizeOf' (w := w) _ hi'
    have b1 := B (by rw [h0]; omega)
    have b2 := C 0 (by rw [show ((0 : Nat) : Int) = 0 from rfl, h1]; omega)
    rw [h0] at b1
    rw [show ((0 : Nat) : Int) = 0 from rfl, h1] at b2
    have hb := run_bounds (P := P) (w := w) (b := true) (cap := 0) b1 b2 (Nat.le_refl _) (Nat.le_refl _)
    refine QS.here R (run_sliceAt_sl (kind_slice hk') hzr hb) ?_
    simp [sliceV]
    constructor
  · -- nums
    rename_i k tt xs
    obtain ⟨hk, h0, h1, h2, h3⟩ := hp
    obtain ⟨e, hk', hz⟩ : ∃ e, (tyI P t).kind = .slice e ∧ (tyI P e).size = 1 := by revert hk; cases (tyI P t).kind <;> simp
    obtain ⟨inf, hi', hsz⟩ := size_info (P := P) (t := e) (by omega)
    have hzr := run_sizeOf' (w := w) _ hi'
    rw [hsz, hz] at hzr
    cases hx with
    | nums _ _ _ a c hn hc hm ht h =>
      have bl := B h0
      have bh := C xs.length (by omega)
      obtain ⟨M, hM1, hM2, hM3, hb⟩ : ∃ M, (bnd xs.length hi).toNat ≤ M ∧ M ≤ c ∧ (tgt tt hi mx = true → M = (bnd xs.length hi).toNat) ∧
          (Instr.sliceBounds true xs.length c vlo vhi vmx).run P w = .ok ((bnd 0 lo).toNat, (bnd xs.length hi).toNat, M) w := by
        cases mx with
        | none =>
          obtain rfl := hmx' rfl
          refine ⟨c, by omega, Nat.le_refl _, fun htt => ?_, run_bounds bl bh (by omega) (by omega)⟩
          cases hi with
          | none => rw [ht htt]; simp [bnd]
          | some y => exact absurd htt (by simp [tgt])
        | some y =>
          obtain ⟨hh, h4, h5⟩ := h3 (by simp)
          cases hi with
          | none => exact absurd rfl hh
          | some z =>
            obtain ⟨v1, rfl, r1⟩ := hmx y rfl
            obtain ⟨v2, rfl, r2⟩ := hhi z rfl
            cases y <;> simp only [optInt] at om <;> try exact om.elim
            cases z <;> simp only [optInt] at oh <;> try exact oh.elim
            rename_i k1 n1 k2 n2
            cases r1; cases r2
            simp only [bnd_some] at h1 h2 h4 h5 bh ⊢
            refine ⟨n1.toNat, by omega, by omega, fun htt => ?_, ?_⟩
            · have : n1 = n2 := of_decide_eq_true htt
              rw [this]
            · have := run_bounds3 (P := P) (w := w) (b := true) (len := xs.length) (cap := c) (k := k2) (k' := k1) (h := n2.toNat) (mx := n1.toNat) bl (by omega) (by omega) (by omega)
              rwa [Int.toNat_of_nonneg (by omega), Int.toNat_of_nonneg (by omega)] at this
      refine QS.here R (run_sliceAt_sl (kind_slice hk') hzr hb) ?_
      have el : (((xs.drop (bnd 0 lo).toNat).take ((bnd xs.length hi).toNat - (bnd 0 lo).toNat))).length = (bnd xs.length hi).toNat - (bnd 0 lo).toNat := by simp; omega
      simp only [sliceV]
      have main := VR.nums (m := m) (H := H) (w := w) k (tgt tt hi mx) ((xs.drop (bnd 0 lo).toNat).take ((bnd xs.length hi).toNat - (bnd 0 lo).toNat))
        (if M = (bnd 0 lo).toNat then a else a.map (·.add ((bnd 0 lo).toNat * 1))) (M - (bnd 0 lo).toNat) (fun hnone => by have := hn (by revert hnone; split <;> simp); omega) (by omega) (by omega) (fun htt => by rw [el, hM3 htt]) ?_
      · rw [el] at main; exact main
      · by_cases hE : M = (bnd 0 lo).toNat
        · left
          apply List.eq_nil_of_length_eq_zero
          omega
        · rcases h with rfl | ⟨b, o, ha, hb', hcell⟩
          · left; simp
          · right
            refine ⟨b, o + (bnd 0 lo).toNat * 1, sub_addr ha hE, hb', fun j hj => ?_⟩
            have := hcell ((bnd 0 lo).toNat + j) (by omega)
            simp only [Nat.mul_one, List.getElem_take, List.getElem_drop]
            rw [Nat.add_assoc]
            exact this
  · -- sl
    rename_i tt n cs
    obtain ⟨hk, h0, h1, h2, h3⟩ := hp
    obtain ⟨e, hk', hz, hcs⟩ : ∃ e, (tyI P t).kind = .slice e ∧ 0 < (tyI P e).size ∧ cs.length = n * (tyI P e).size := by revert hk; cases (tyI P t).kind <;> simp
    have he : elemOf' (tyI P t) = e := by simp [elemOf', hk']
    obtain ⟨inf, hi', hsz⟩ := size_info hz
    have hzr := run_sizeOf' (w := w) _ hi'
    rw [hsz] at hzr
    rw [he]
    simp only [sliceV]
    generalize (tyI P e).size = z at *
    cases hx with
    | sl _ _ _ a c cv hn hc hm ht h hv hone =>
      have bl := B h0
      have bh := C n (by omega)
      obtain ⟨M, hM1, hM2, hM3, hb⟩ : ∃ M, (bnd n hi).toNat ≤ M ∧ M ≤ c ∧ (tgt tt hi mx = true → M = (bnd n hi).toNat) ∧
          (Instr.sliceBounds true n c vlo vhi vmx).run P w = .ok ((bnd 0 lo).toNat, (bnd n hi).toNat, M) w := by
        cases mx with
        | none =>
          obtain rfl := hmx' rfl
          refine ⟨c, by omega, Nat.le_refl _, fun htt => ?_, run_bounds bl bh (by omega) (by omega)⟩
          cases hi with
          | none => rw [ht htt]; simp [bnd]
          | some y => exact absurd htt (by simp [tgt])
        | some y =>
          obtain ⟨hh, h4, h5⟩ := h3 (by simp)
          cases hi with
          | none => exact absurd rfl hh
          | some z' =>
            obtain ⟨v1, rfl, r1⟩ := hmx y rfl
            obtain ⟨v2, rfl, r2⟩ := hhi z' rfl
            cases y <;> simp only [optInt] at om <;> try exact om.elim
            cases z' <;> simp only [optInt] at oh <;> try exact oh.elim
            rename_i k1 n1 k2 n2
            cases r1; cases r2
            simp only [bnd_some] at h1 h2 h4 h5 bh ⊢
            refine ⟨n1.toNat, by omega, by omega, fun htt => ?_, ?_⟩
            · have : n1 = n2 := of_decide_eq_true htt
              rw [this]
            · have := run_bounds3 (P := P) (w := w) (b := true) (len := n) (cap := c) (k := k2) (k' := k1) (h := n2.toNat) (mx := n1.toNat) bl (by omega) (by omega) (by omega)
              rwa [Int.toNat_of_nonneg (by omega), Int.toNat_of_nonneg (by omega)] at this
      refine QS.here R (run_sliceAt_sl (kind_slice hk') hzr hb) ?_
      have hle : (bnd 0 lo).toNat * z + ((bnd n hi).toNat - (bnd 0 lo).toNat) * z ≤ cs.length := by
        rw [hcs, ← Nat.add_mul]; exact Nat.mul_le_mul_right _ (by omega)
      have el : ((cs.drop ((bnd 0 lo).toNat * z)).take (((bnd n hi).toNat - (bnd 0 lo).toNat) * z)).length = ((bnd n hi).toNat - (bnd 0 lo).toNat) * z := by simp; omega
      refine .sl _ _ _ _ _ (fun j => cv ((bnd 0 lo).toNat * z + j)) (fun hnone => by have := hn (by revert hnone; split <;> simp); omega) (by omega) (by omega) (fun htt => by rw [hM3 htt]) ?_ (fun j hj => ?_) (fun j hj => hone _ (by omega))
      · by_cases hE : M = (bnd 0 lo).toNat
        · left
          apply List.eq_nil_of_length_eq_zero
          rw [el, show (bnd n hi).toNat - (bnd 0 lo).toNat = 0 by omega, Nat.zero_mul]
        · rcases h with rfl | ⟨b, o, ha, hb', hcell⟩
          · left; simp
          · right
            refine ⟨b, o + (bnd 0 lo).toNat * z, sub_addr ha hE, hb', fun j hj => ?_⟩
            rw [Nat.add_assoc]
            exact hcell _ (by omega)
      · simp only [List.getElem_take, List.getElem_drop]
        exact hv _ _
  · -- ptr to an array
    rename_i id off
    obtain ⟨hk, rfl, ha⟩ := hp
    obtain rfl := hmx' rfl
    obtain ⟨cs, hc⟩ := alive_sig ha
    obtain ⟨b, c, T, hm, rfl, _⟩ := hx.ptr_val R hc
    obtain ⟨N, e, hk', hz, h0, h1, h2, h3⟩ : ∃ N e, (tyI P t).kind = .array N e ∧ (tyI P e).size = 1 ∧ 0 ≤ bnd 0 lo ∧ bnd 0 lo ≤ bnd N hi ∧ bnd N hi ≤ N ∧ N ≤ maxLen := by
      cases hkk : (tyI P t).kind <;> rw [hkk] at hk <;> first | exact hk.elim | exact ⟨_, _, rfl, hk⟩
    obtain ⟨inf, hi', hsz⟩ := size_info (P := P) (t := e) (by omega)
    have hzr := run_sizeOf' (w := w) _ hi'
    rw [hsz, hz] at hzr
    have bl := B h0
    have hb := run_bounds (P := P) (w := w) (b := false) (cap := N) bl (C N (by omega)) (by omega) (by omega)
    refine QS.here R (v := .slice (some (if N = (bnd 0 lo).toNat then ⟨b, off, none⟩ else (⟨b, off, none⟩ : Addr).add ((bnd 0 lo).toNat * 1))) ((bnd N hi).toNat - (bnd 0 lo).toNat) (N - (bnd 0 lo).toNat)) (by simp [Instr.sliceAt, run_underlying (kind_array hk'), Instr.sureAddr, hb, hzr]) ?_
    simp only [sliceV, hk']
    refine .cref _ _ _ _ rfl hx.lt fun k hk => ⟨b, _, _, hm, rfl, by omega, by omega, fun hpos => ?_⟩
    rw [if_neg (by omega), add_at, Nat.mul_one]
  · -- rref
    rename_i id ver off n
    obtain ⟨hk, h0, h1, h2, rfl⟩ := hp
    obtain rfl := hmx' rfl
    obtain ⟨e, hk', hrow⟩ : ∃ e, (tyI P t).kind = .slice e ∧ (match rowOf H id ver with | some (sz, N) => 0 < sz ∧ (tyI P e).size = sz ∧ off + n ≤ N | none => False) := by revert hk; cases (tyI P t).kind <;> simp
    cases hr : rowOf H id ver with
    | none => rw [hr] at hrow; exact hrow.elim
    | some p =>
      obtain ⟨sz, N⟩ := p
      rw [hr] at hrow
      obtain ⟨hpos, hz, hle0⟩ := hrow
      have hsg := VR.row_val R hr
      obtain ⟨inf, hi', hsz⟩ := size_info (P := P) (t := e) (by omega)
      have hzr := run_sizeOf' (w := w) _ hi'
      rw [hsz, hz] at hzr
      cases hx with
      | rref _ _ _ _ _ ho hl hle' h =>
        obtain ⟨_, a, c, rfl, hnone, hnc, hcm, hb, hwhole⟩ := h sz N hsg
        have bl := B h0
        have hbs := run_bounds (P := P) (w := w) (b := true) (cap := c) bl (C n (by omega)) (by omega) (by omega)
        refine QS.here R (run_sliceAt_sl (kind_slice hk') hzr hbs) ?_
        simp only [sliceV]
        refine .rref _ _ _ _ _ rfl hl hle' fun sz' N' hn => ?_
        have e' : sz' = sz ∧ N' = N := by rw [hsg] at hn; simp at hn; exact ⟨hn.1.symm, hn.2.symm⟩
        obtain ⟨rfl, rfl⟩ := e'
        refine ⟨by omega, _, _, rfl, (fun hno => by have := hnone (by revert hno; split <;> simp); omega), by omega, by omega, fun hpos' => ?_, fun hoff hN => ?_⟩
        · obtain ⟨b, c0, hmv, ha⟩ := hb (by omega)
          exact ⟨b, c0, hmv, by rw [sub_addr ha (by omega), Nat.add_mul]⟩
        · have hl0 : (bnd 0 lo).toNat = 0 := by omega
          have := hwhole (by omega) (by omega)
          rw [hl0, Nat.sub_zero, Nat.sub_zero, show (bnd n hi).toNat = n by omega, ← this]
          have e0 : a.map (·.add (0 * sz')) = a := by cases a <;> simp [Addr.add]
          rw [e0, ite_self]

end Go.Av
end
