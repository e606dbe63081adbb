/- Proved here: NetClocksUptoSaid, the law NetClocks where what it reads is of bulk at most 1048576; this text holds a part of its proof. -/
import Derived.Test.YtfahdeckchkpmaaGreatA
import Derived.Lib.ConvBytes
import Derived.Maps.AppendAt
import Derived.MapKept
section
set_option linter.unusedVariables false
set_option linter.unusedSimpArgs false
open Go.RowKit
namespace Go.Av
variable {P : Program} {m : Hand} {H : Heap} {w : World}

theorem kind_u8 {e : TypeId} (h : match (tyI P e).kind with | .int .u8 => True | _ => False) : P.underlying e = some (.int .u8) := by
  refine kind_int ?_
  revert h
  split
  · intro; assumption
  · exact fun h => h.elim

/-- memory that is new and not the heap's -/
theorem imm_new {w' : World} (R : Rel m H w) (hs : w.heap.size < w'.heap.size) : Imm m H w' w.heap.size := ⟨hs, fun hm => by have := R.mut_lt hm; omega⟩

theorem q_convert {s d : TypeId} {x : AV} {u : Value} (R : Rel m H w) (hx : VR m H w x u) (hus : ∃ z, P.underlying s = some z) (hp : convP P (tyI P s) (tyI P d) x) : QS P m H w (convert s d u) (convV (tyI P d) x) := by
  obtain ⟨z, hus⟩ := hus
  unfold convP at hp
  split at hp
  · rename_i k n k' hk
    cases hx
    refine QS.here R (v := .int k' (k'.wrap n)) ?_ (by simp only [convV, hk]; constructor)
    simp [convert, run_underlying hus, run_underlying (kind_int hk), Conv.intToInt]
  · rename_i b hk
    cases hx
    refine QS.here R (v := .string b) ?_ (by simp only [convV, hk]; constructor)
    cases z <;> simp [convert, run_underlying hus, run_underlying (kind_str hk)]
  · rename_i k t xs hk
    obtain ⟨rfl, hr, hs⟩ := hp
    obtain ⟨e, hs', he⟩ : ∃ e, (tyI P s).kind = .slice e ∧ P.underlying e = some (.int .u8) := by
      cases hq : (tyI P s).kind <;> rw [hq] at hs <;> first | exact hs.elim | exact ⟨_, rfl, kind_u8 hs⟩
    cases hx with
    | nums _ _ _ a c hn hc hm ht h =>
      have hv : VR m H w (convV (tyI P d) (.nums .u8 t xs)) (.string (strOf xs)) := by simp only [convV, hk]; constructor
      rcases h with rfl | ⟨b, o, rfl, hb, hcell⟩
      · cases a with
        | none => exact QS.here R (run_convert_bytes_nil w s e (kind_slice hs') he _ c d (kind_str hk)) hv
        | some a =>
          refine QS.here R ?_ hv
          rw [run_convert_bytes_string w s d e _ _ c (kind_slice hs') he (kind_str hk)]
          simp [Conv.bytesToString, loadCells, loadCellsFrom]
          rfl
      · exact QS.here R (run_convert_bytes_arg w s e (kind_slice hs') he b o xs.length c xs rfl (fun i hi => by rw [hcell i hi]; simp [List.getD, hi]) d (kind_str hk)) hv
  · rename_i hk
    obtain ⟨e, hs', he⟩ : ∃ e, (tyI P s).kind = .slice e ∧ P.underlying e = some (.int .u8) := by
      cases hq : (tyI P s).kind <;> rw [hq] at hp <;> first | exact hp.elim | exact ⟨_, rfl, kind_u8 hp⟩
    cases hx
    exact QS.here R (run_convert_bytes_nil w s e (kind_slice hs') he _ _ d (kind_str hk)) (by simp only [convV, hk]; constructor)
  · rename_i b e hk
    obtain ⟨he, hsz⟩ := hp
    cases hx
    have he' := kind_u8 he
    have hrun := Lib.run_convert_string_bytes (P := P) w s d e b hus (kind_slice hk) he'
    have hsz' := Lib.bytesWorld_size w e b
    have hmax : b.size ≤ maxLen := by unfold maxLen; omega
    refine ⟨_, _, hrun, ?_, ?_, ?_⟩
    · simp only [convV, hk]
      have el : (strB b).length = b.size := by rw [strB, List.length_map, Array.length_toList]; rfl
      have main := VR.nums (m := m) (H := H) (w := Lib.bytesWorld w e b) .u8 false (strB b) (some ⟨w.heap.size, 0, none⟩) (grownCap w b.size 0 e) (by simp) (by rw [el]; exact grownCap_ge w b.size 0 e) (grownCap_le_maxLen w b.size 0 e hmax) (by simp)
        (.inr ⟨w.heap.size, 0, rfl, imm_new R (by omega), fun j hj => by
          rw [Nat.zero_add, Lib.bytesWorld_cell w e b j (by omega)]
          have hl : j < b.data.toList.length := by simpa [strB] using hj
          simp only [strB, List.getElem_map]
          congr 4
          rw [List.getD, List.getElem?_eq_getElem hl]
          rfl⟩)
      rw [el] at main
      exact main
    · exact R.same (by omega) (fun j hj => Lib.bytesWorld_at_old w e b j hj) rfl rfl rfl
    · exact Ext.same (by omega) (fun j hj => Lib.bytesWorld_at_old w e b j hj) rfl rfl rfl
  · exact hp.elim

def lenA (H : Heap) : AV → Int
  | .str s => s.size
  | .nums _ _ xs => xs.length
  | .sl _ n _ => n
  | .nils => 0
  | .rref _ _ _ n => n
  | .cref _ _ n => n
  | .nilm => 0
  | .mref id => (match H[id]? with | some (.map _ kvs) => kvs.length | _ => 0)
  | _ => 0
def lenP (tI : TI) (H : Heap) : AV → Prop
  | .str _ => (match tI.kind with | .str => True | _ => False)
  | .nums _ _ _ | .sl _ _ _ | .nils => (match tI.kind with | .slice _ => True | _ => False)
  | .rref id ver off n => (match tI.kind with | .slice _ => True | _ => False) ∧ (match rowOf H id ver with | some _ => True | none => False)
  | .cref id off n => (match tI.kind with | .slice _ => True | _ => False) ∧ alive H id
  | .nilm => (match tI.kind with | .map _ _ => True | _ => False)
  | .mref id => (match tI.kind with | .map _ _ => True | _ => False) ∧ (match H[id]? with | some (.map _ _) => True | _ => False)
  | _ => False

theorem run_len_sl {t e ty : TypeId} (h : P.underlying t = some (.slice e)) (a : Option Addr) (n c : Nat) : (Builtin.len_ #[t] ty #[.slice a n c]).run P w = .ok (.int .i64 n) w := by simp [Builtin.len_, run_underlying h, goInt]

theorem q_len {t ty : TypeId} {x : AV} {u : Value} (R : Rel m H w) (hx : VR m H w x u) (hp : lenP (tyI P t) H x) : QS P m H w (Builtin.len_ #[t] ty #[u]) (.int .i64 (lenA H x)) := by
  have sl : (match (tyI P t).kind with | .slice _ => True | _ => False) → ∃ e, P.underlying t = some (.slice e) := fun h => by
    cases hq : (tyI P t).kind <;> rw [hq] at h <;> first | exact h.elim | exact ⟨_, kind_slice hq⟩
  have mp : (match (tyI P t).kind with | .map _ _ => True | _ => False) → ∃ e f, P.underlying t = some (.map e f) := fun h => by
    cases hq : (tyI P t).kind <;> rw [hq] at h <;> first | exact h.elim | exact ⟨_, _, kind_map hq⟩
  cases x <;> simp only [lenP] at hp <;> try exact hp.elim
  · have hk : P.underlying t = some .string := by
      cases hq : (tyI P t).kind <;> rw [hq] at hp <;> first | exact hp.elim | exact kind_str hq
    cases hx
    rename_i s
    exact QS.here R (v := .int .i64 s.size) (by simp [Builtin.len_, run_underlying hk, goInt]) (by simp only [lenA]; constructor)
  · obtain ⟨e, f, h⟩ := mp hp
    cases hx
    exact QS.here R (v := .int .i64 0) (by simp [Builtin.len_, run_underlying h, goInt]) (by simp only [lenA]; constructor)
  · obtain ⟨e, h⟩ := sl hp
    cases hx
    exact QS.here R (run_len_sl h _ _ _) (by simp only [lenA]; constructor)
  · obtain ⟨e, h⟩ := sl hp
    cases hx
    exact QS.here R (run_len_sl h _ _ _) (by simp only [lenA]; constructor)
  · obtain ⟨e, h⟩ := sl hp
    cases hx
    exact QS.here R (run_len_sl h _ _ _) (by simp only [lenA]; constructor)
  · rename_i id ver off n
    obtain ⟨e, h⟩ := sl hp.1
    cases hr : rowOf H id ver with
    | none => rw [hr] at hp; exact hp.2.elim
    | some p =>
      obtain ⟨sz, N⟩ := p
      cases hx with
      | rref _ _ _ _ _ ho hl hle' h' =>
        obtain ⟨_, a, c, rfl, _⟩ := h' sz N (VR.row_val R hr)
        exact QS.here R (run_len_sl h _ _ _) (by simp only [lenA]; constructor)
  · rename_i id off n
    obtain ⟨e, h⟩ := sl hp.1
    obtain ⟨cs, hc⟩ := alive_sig hp.2
    cases hx with
    | cref _ _ _ _ ho hl h' =>
      obtain ⟨b, a, c, hm, rfl, _⟩ := h' _ (sg_some hc)
      exact QS.here R (run_len_sl h _ _ _) (by simp only [lenA]; constructor)
  · rename_i id
    obtain ⟨e, f, h⟩ := mp hp.1
    cases hid : H[id]? with
    | none => rw [hid] at hp; exact hp.2.elim
    | some o =>
      rw [hid] at hp
      cases o <;> (try dsimp only at hp) <;> try exact hp.2.elim
      rename_i ck kvs
      obtain ⟨r, es, hm, hh, hl, _⟩ := R.obj id _ hid
      cases hx with
      | mref _ _ ho hl' h' =>
        have e1 := h' (sg_some hid)
        rw [hm] at e1
        subst e1
        refine QS.here R (v := .int .i64 kvs.length) ?_ (by simp only [lenA, hid]; constructor)
        simp [Builtin.len_, run_underlying h, goInt, getObj, Sem.run, hh, hl]

theorem q_max {k k' : IntKind} {a b : Int} {t ts : Array TypeId} {ty : TypeId} (R : Rel m H w) : QS P m H w (Builtin.max_ ts ty #[.int k a, .int k' b]) (.int k (max a b)) := by
  refine QS.here R (v := .int k (max a b)) ?_ (.int _ _)
  have e : (if b > a then b else a) = max a b := by rw [Int.max_def]; split <;> split <;> omega
  simp [Builtin.max_, Builtin.max2, ← e]
theorem q_min {k k' : IntKind} {a b : Int} {ts : Array TypeId} {ty : TypeId} (R : Rel m H w) : QS P m H w (Builtin.min_ ts ty #[.int k a, .int k' b]) (.int k (min a b)) := by
  refine QS.here R (v := .int k (min a b)) ?_ (.int _ _)
  have e : (if b < a then b else a) = min a b := by rw [Int.min_def]; split <;> split <;> omega
  simp [Builtin.min_, Builtin.min2, ← e]

theorem q_extract {x : AV} {u : Value} {i : Nat} (R : Rel m H w) (hx : VR m H w x u) {cs : List AV} (e : x = .tup cs) (hi : i < cs.length) : QS P m H w (Instr.extract u i) (cs.getD i .junk) := by
  subst e
  cases hx with
  | tup _ vs hl hv =>
    have e1 : cs.getD i .junk = cs[i] := by rw [List.getD, List.getElem?_eq_getElem hi]; rfl
    have e2 : vs.getD i undef = vs[i]'(by omega) := by simp [Array.getD, show i < vs.size by omega]
    rw [e1]
    refine QS.here R (v := vs[i]'(by omega)) (by simp [Instr.extract, show i < vs.size by omega]) ?_
    rw [← e2]
    exact hv i hi

/-! ### parts laid over cells -/
def Cl (m : Hand) (H : Heap) (w : World) (c : List Value) (cs : List AV) : Prop :=
  c.length = cs.length ∧ (∀ j (hj : j < cs.length), VR m H w cs[j] (c.getD j undef)) ∧ ∀ j, j < cs.length → (c.getD j undef).oneCell' = true

theorem Cl.append {c d : List Value} {cs ds : List AV} (h : Cl m H w c cs) (k : Cl m H w d ds) : Cl m H w (c ++ d) (cs ++ ds) := by
  obtain ⟨h1, h2, h3⟩ := h
  obtain ⟨k1, k2, k3⟩ := k
  have key : ∀ j, j < (cs ++ ds).length → (j < cs.length ∧ (c ++ d).getD j undef = c.getD j undef) ∨ (cs.length ≤ j ∧ j - cs.length < ds.length ∧ (c ++ d).getD j undef = d.getD (j - cs.length) undef) := by
    intro j hj
    by_cases hlt : j < cs.length
    · left; exact ⟨hlt, by simp [List.getD, List.getElem?_append_left (show j < c.length by omega)]⟩
    · right; exact ⟨by omega, by simp at hj; omega, by simp [List.getD, List.getElem?_append_right (show c.length ≤ j by omega), h1]⟩
  refine ⟨by simp [h1, k1], fun j hj => ?_, fun j hj => ?_⟩
  · rcases key j hj with ⟨hlt, e⟩ | ⟨hge, hlt, e⟩
    · rw [e, List.getElem_append_left hlt]; exact h2 j hlt
    · rw [e, List.getElem_append_right hge]; exact k2 _ hlt
  · rcases key j hj with ⟨hlt, e⟩ | ⟨hge, hlt, e⟩
    · rw [e]; exact h3 j hlt
    · rw [e]; exact k3 _ hlt
theorem Cl.take {c : List Value} {cs : List AV} (h : Cl m H w c cs) (n : Nat) : Cl m H w (c.take n) (cs.take n) := by
  obtain ⟨h1, h2, h3⟩ := h
  refine ⟨by simp [h1], fun j hj => ?_, fun j hj => ?_⟩ <;> (have hj' : j < cs.length ∧ j < n := by simp at hj; omega) <;> (have e : (c.take n).getD j undef = c.getD j undef := by simp [List.getD, hj'.2]) <;> rw [e]
  · simpa using h2 j hj'.1
  · exact h3 j hj'.1
theorem Cl.drop {c : List Value} {cs : List AV} (h : Cl m H w c cs) (n : Nat) : Cl m H w (c.drop n) (cs.drop n) := by
  obtain ⟨h1, h2, h3⟩ := h
  refine ⟨by simp [h1], fun j hj => ?_, fun j hj => ?_⟩ <;> (have hj' : n + j < cs.length := by simp at hj; omega) <;> (have e : (c.drop n).getD j undef = c.getD (n + j) undef := by simp [List.getD]) <;> rw [e]
  · simpa using h2 (n + j) hj'
  · exact h3 _ hj'
theorem Cl.of {x : AV} {v : Value} (h : VR m H w x v) (hs : x.clOk = true) : Cl m H w v.cells.toList x.cl := by
  obtain ⟨h1, h2, h3⟩ := h.cl_spec hs
  refine ⟨by simpa using h1, fun j hj => ?_, fun j hj => ?_⟩ <;> (have e : v.cells.toList.getD j undef = v.cells.getD j undef := by simp [List.getD, Array.getD, show j < v.cells.size by omega]) <;> rw [e]
  · exact h2 j hj
  · exact h3 j hj

theorem foldl_set (off : Nat) : ∀ (l : List Value) (k : Nat) (cs : Array Value), off + k + l.length ≤ cs.size →
    ((l.zipIdx k).foldl (fun cs (c, j) => cs.setIfInBounds (off + j) c) cs).toList = cs.toList.take (off + k) ++ l ++ cs.toList.drop (off + k + l.length)
  | [], k, cs, h => by simp
  | x :: l, k, cs, h => by
    have h' : off + (k + 1) + l.length ≤ (cs.setIfInBounds (off + k) x).size := by simp at h ⊢; omega
    rw [List.zipIdx_cons, List.foldl_cons, foldl_set off l (k + 1) _ h']
    simp only [Array.toList_setIfInBounds]
    have hk : off + k < cs.toList.length := by simp at h ⊢; omega
    rw [show off + (k + 1) = off + k + 1 from by omega, List.take_add_one, List.take_set_of_le (Nat.le_refl _), List.drop_set_of_lt (by omega)]
    have hk' : off + k < cs.size := by simpa using hk
    have e : off + k + 1 + l.length = off + k + (l.length + 1) := by omega
    simp [List.getElem?_set, hk', e]

theorem fill_spec (place : Nat → Option (Nat × Nat)) : ∀ (ps : List (Nat × Value)) (qs : List (Nat × AV)) (c : Array Value) (cs : List AV) (pl : Nat → Nat × Nat), Cl m H w c.toList cs → ps.length = qs.length →
    (∀ j (h : j < qs.length) (h' : j < ps.length), ps[j].1 = qs[j].1 ∧ VR m H w qs[j].2 ps[j].2) → (∀ j (h : j < qs.length), place qs[j].1 = some (pl qs[j].1)) → fillP pl cs.length qs →
    ∃ c', Instr.fill place c ps = some c' ∧ Cl m H w c'.toList (fillA pl cs qs)
  | [], [], c, cs, pl, h, _, _, _, _ => ⟨c, rfl, h⟩
  | p :: ps, q :: qs, c, cs, pl, h, hl, hv, hpl, hp => by
    obtain ⟨i, v⟩ := p
    obtain ⟨i', x⟩ := q
    obtain ⟨e1, hx⟩ := hv 0 (by simp) (by simp)
    simp only [List.getElem_cons_zero] at e1 hx
    subst e1
    obtain ⟨ho, h1, h2, hp'⟩ := hp
    have hpl0 := hpl 0 (by simp)
    simp only [List.getElem_cons_zero] at hpl0
    have C := Cl.of hx ho
    have hsz : v.cells.size = x.cl.length := by simpa using C.1
    have hlen : c.size = cs.length := by simpa using h.1
    have hset := foldl_set (pl i).1 v.cells.toList 0 c (by simp; omega)
    have C' : Cl m H w (((v.cells.toList.zipIdx).foldl (fun cs (c, j) => cs.setIfInBounds ((pl i).1 + j) c) c)).toList (cs.take (pl i).1 ++ x.cl ++ cs.drop ((pl i).1 + x.cl.length)) := by
      rw [hset]
      have := ((h.take (pl i).1).append C).append (h.drop ((pl i).1 + x.cl.length))
      simpa [hsz] using this
    have hlen' : (cs.take (pl i).1 ++ x.cl ++ cs.drop ((pl i).1 + x.cl.length)).length = cs.length := by simp; omega
    obtain ⟨c', hf, hc'⟩ := fill_spec place ps qs _ _ pl C' (by simpa using hl) (fun j h h' => by have := hv (j + 1) (by simpa using h) (by simpa using h'); simpa using this) (fun j h => by have := hpl (j + 1) (by simpa using h); simpa using this) (by rw [hlen']; exact hp')
    refine ⟨c', ?_, hc'⟩
    rw [Instr.fill, hpl0]
    simp only []
    rw [if_neg (by simp; omega), ← hf]
    congr 1
    rw [← Array.foldl_toList]
    simp

end Go.Av
end

section
set_option linter.unusedVariables false
set_option linter.unusedSimpArgs false
open Go.RowKit
namespace Go.Av
variable {P : Program} {m : Hand} {H : Heap} {w : World}

def place (tI : TI) (eI : TI) (i : Nat) : Nat × Nat :=
  match tI.kind with
  | .struct => (tI.offs.getD i 0, tI.fsz.getD i 0)
  | _ => (i * eI.size, eI.size)

def buildA (tI eI : TI) (ps : List (Nat × AV)) : AV := .agg (fillA (place tI eI) tI.zero ps)
def buildAP (tI eI : TI) (ps : List (Nat × AV)) : Prop :=
  0 < tI.zero.length ∧ fillP (place tI eI) tI.zero.length ps ∧
  match tI.kind with
  | .struct => tI.fok = true ∧ ∀ p ∈ ps, p.1 < tI.offs.length
  | .array _ _ => 0 < eI.size
  | _ => False

theorem zero_info {t : TypeId} (h : 0 < (tyI P t).zero.length) : ∃ i z, P.info? t = some i ∧ i.zero = some z ∧ (tyI P t).zero = z.cells.toList.map ofV1 := by
  unfold tyI at h ⊢
  split at h
  · rename_i i hi
    cases hz : i.zero with
    | none => simp [hz] at h
    | some z => exact ⟨i, z, by simp [hi], hz, by simp [hi, hz]⟩
  · simp at h

theorem run_zero {t : TypeId} {i : TypeInfo} {z : Value} (h : P.info? t = some i) (hz : i.zero = some z) : (zeroValue t).run P w = .ok z w := by simp [zeroValue, typeInfo, h, hz]

/-- the zero's cells are cells -/
def ZeroOk (P : Program) (t : TypeId) : Prop := ∀ i z, P.info? t = some i → i.zero = some z → ∀ v ∈ z.cells.toList, v.oneCell' = true

theorem zero_cl {t : TypeId} {i : TypeInfo} {z : Value} (hO : ZeroOk P t) (h : P.info? t = some i) (hz : i.zero = some z) : Cl m H w z.cells.toList (z.cells.toList.map ofV1) := by
  refine ⟨by simp, fun j hj => ?_, fun j hj => ?_⟩
  · have hj' : j < z.cells.toList.length := by simpa using hj
    have e : z.cells.toList.getD j undef = z.cells.toList[j] := by rw [List.getD, List.getElem?_eq_getElem hj']; rfl
    rw [e, List.getElem_map]
    exact ofV1_VR m H w _
  · have hj' : j < z.cells.toList.length := by simpa using hj
    have e : z.cells.toList.getD j undef = z.cells.toList[j] := by rw [List.getD, List.getElem?_eq_getElem hj']; rfl
    rw [e]
    exact hO i z h hz _ (List.getElem_mem _)

theorem run_list_mapM {α β : Type} (f : α → Sem β) (g : α → β) : ∀ (l : List α), (∀ x ∈ l, (f x).run P w = .ok (g x) w) → (l.mapM f).run P w = .ok (l.map g) w
  | [], _ => by simp
  | x :: l, h => by
    have h1 := h x (by simp)
    have h2 := run_list_mapM f g l fun y hy => h y (by simp [hy])
    simp [List.mapM_cons, h1, h2]
theorem run_arr_mapM {α β : Type} (f : α → Sem β) (g : α → β) (a : Array α) (h : ∀ x ∈ a.toList, (f x).run P w = .ok (g x) w) : (a.mapM f).run P w = .ok (a.map g) w := by
  rw [Array.mapM_eq_mapM_toList]
  simp [run_list_mapM f g a.toList h]
  apply Array.ext'
  simp

theorem Cl.agg {c : Array Value} {cs : List AV} (h : Cl m H w c.toList cs) : VR m H w (.agg cs) (.agg c) := by
  obtain ⟨h1, h2, h3⟩ := h
  have hs : c.size = cs.length := by simpa using h1
  have e : ∀ j, j < cs.length → c.toList.getD j undef = c.getD j undef := fun j hj => by simp [List.getD, Array.getD, show j < c.size by omega]
  exact .agg _ _ hs (fun j hj => by rw [← e j hj]; exact h2 j hj) (fun j hj => by rw [← e j hj]; exact h3 j hj)

theorem q_build {t : TypeId} {ps : List (Nat × AV)} {vs : Array (Nat × Value)} (R : Rel m H w) (hO : ZeroOk P t) (hl : vs.size = ps.length) (hv : ∀ j (h : j < ps.length) (h' : j < vs.toList.length), vs.toList[j].1 = ps[j].1 ∧ VR m H w ps[j].2 vs.toList[j].2)
    (hp : buildAP (tyI P t) (tyI P (elemOf' (tyI P t))) ps) : QS P m H w (Instr.build t vs) (buildA (tyI P t) (tyI P (elemOf' (tyI P t))) ps) := by
  obtain ⟨h0, hf, hk⟩ := hp
  obtain ⟨i, z, hi, hz, ez⟩ := zero_info h0
  have hzr := run_zero (w := w) hi hz
  have C : Cl m H w z.cells.toList (tyI P t).zero := by rw [ez]; exact zero_cl hO hi hz
  cases hq : (tyI P t).kind <;> rw [hq] at hk <;> try exact hk.elim
  · obtain ⟨hfo, hix⟩ := hk
    have hfields : ∃ fs, P.underlying t = some (.struct fs) ∧ (tyI P t).offs = fs.toList.map (·.offset) ∧ (tyI P t).fsz = fs.toList.map (fun f => P.cellsOf f.type) ∧ (tyI P t).fok = fs.toList.all (fun f => (P.info? f.type).isSome) := by
      unfold tyI at hq ⊢
      rw [hi] at hq ⊢
      simp only [] at hq ⊢
      cases hu : P.underlying t with
      | none => rw [hu] at hq; cases hq
      | some d => cases d <;> rw [hu] at hq <;> first | (cases hq; done) | exact ⟨_, rfl, rfl, rfl, rfl⟩
    obtain ⟨fs, hu, e1, e2, e3⟩ := hfields
    rw [e3, List.all_eq_true] at hfo
    have hm := run_arr_mapM (P := P) (w := w) (fun f : Field => do pure (f.offset, ← sizeOf f.type)) (fun f => (f.offset, P.cellsOf f.type)) fs (fun f hf' => by
      obtain ⟨inf, hinf⟩ := Option.isSome_iff_exists.1 (hfo f hf')
      simp [run_sizeOf' f.type hinf, Program.cellsOf, hinf])
    obtain ⟨c', hfill, hC⟩ := fill_spec (m := m) (H := H) (w := w) (fun j => (fs.map fun f => (f.offset, P.cellsOf f.type))[j]?) vs.toList ps z.cells (tyI P t).zero (place (tyI P t) (tyI P (elemOf' (tyI P t)))) C (by simpa using hl) hv (fun j h => by
      have hlt : ps[j].1 < fs.size := by have := hix _ (List.getElem_mem h); rw [e1] at this; simpa using this
      simp [place, hq, e1, e2, List.getD, hlt]) hf
    refine QS.here R (v := .agg c') ?_ (Cl.agg hC)
    simp only [Instr.build, Sem.run_bind, hzr, Result.andThen_ok, run_underlying hu, hm, hfill, Sem.run_pure]
  · rename_i n e
    have he : elemOf' (tyI P t) = e := by simp [elemOf', hq]
    rw [he] at hk hf ⊢
    obtain ⟨inf, hinf, hsz⟩ := size_info hk
    have hsr := run_sizeOf' (w := w) e hinf
    rw [hsz] at hsr
    obtain ⟨c', hfill, hC⟩ := fill_spec (m := m) (H := H) (w := w) (fun i => some (i * (tyI P e).size, (tyI P e).size)) vs.toList ps z.cells (tyI P t).zero (place (tyI P t) (tyI P e)) C (by simpa using hl) hv (fun j h => by simp [place, hq]) hf
    refine QS.here R (v := .agg c') ?_ (Cl.agg hC)
    simp only [Instr.build, Sem.run_bind, hzr, Result.andThen_ok, run_underlying (kind_array hq), hsr, hfill, Sem.run_pure]

/-! ### a slice that is written out -/
def numsOf : List AV → List Int
  | [] => []
  | .int _ n :: r => n :: numsOf r
  | _ :: r => 0 :: numsOf r
def allInt (k : IntKind) : List AV → Prop
  | [] => True
  | .int k' _ :: r => k' = k ∧ allInt k r
  | _ :: _ => False

def zeros (eI : TI) (n : Nat) : List AV := (List.replicate n eI.zero).flatten
def bslA (eI : TI) (n : Nat) (ps : List (Nat × AV)) : AV :=
  match eI.kind with
  | .int k => .nums k true (numsOf (fillA (fun i => (i, 1)) (zeros eI n) ps))
  | _ => .sl true n (fillA (fun i => (i * eI.size, eI.size)) (zeros eI n) ps)
def bslP (tI eI : TI) (n : Nat) (ps : List (Nat × AV)) : Prop :=
  eI.zero.length = eI.size ∧ 0 < eI.size ∧ n * eI.size ≤ 16777216 ∧
  (match tI.kind with | .slice _ => True | _ => False) ∧ fillP (fun i => (i * eI.size, eI.size)) (n * eI.size) ps ∧
  match eI.kind with
  | .int k => eI.size = 1 ∧ allInt k (fillA (fun i => (i, 1)) (zeros eI n) ps)
  | _ => True

theorem allInt_spec {k : IntKind} : ∀ {l : List AV}, allInt k l → l = (numsOf l).map (AV.int k)
  | [], _ => rfl
  | .int k' n :: r, ⟨h1, h2⟩ => by subst h1; simp only [numsOf, List.map_cons]; rw [← allInt_spec h2]

theorem numsOf_length : ∀ l : List AV, (numsOf l).length = l.length
  | [] => rfl
  | x :: r => by cases x <;> simp [numsOf, numsOf_length r]

theorem getD_zeros (z : Array Value) (hz : 0 < z.size) (n : Nat) : ∀ j, j < n * z.size → (((Array.range (n * z.size)).map (z[· % z.size]!)).toList).getD j undef = z.getD (j % z.size) undef := by
  intro j hj
  have hm : j % z.size < z.size := Nat.mod_lt _ hz
  simp [List.getD, hj, Array.getD, hm]

theorem zeros_get (l : List AV) (hl : 0 < l.length) : ∀ n j, j < n * l.length → ((List.replicate n l).flatten)[j]? = l[j % l.length]?
  | 0, j, h => by simp at h
  | n + 1, j, h => by
    rw [List.replicate_succ, List.flatten_cons]
    by_cases hj : j < l.length
    · rw [List.getElem?_append_left hj, Nat.mod_eq_of_lt hj]
    · rw [List.getElem?_append_right (by omega), zeros_get l hl n (j - l.length) (by rw [Nat.add_mul] at h; omega)]
      congr 1
      rw [← Nat.mod_eq_sub_mod (by omega)]

theorem zeros_cl {e : TypeId} {i : TypeInfo} {z : Value} (hO : ZeroOk P e) (h : P.info? e = some i) (hz : i.zero = some z) (hz0 : 0 < z.cells.size) (ez : (tyI P e).zero = z.cells.toList.map ofV1) (n : Nat) :
    Cl m H w ((Array.range (n * z.cells.size)).map (z.cells[· % z.cells.size]!)).toList (zeros (tyI P e) n) := by
  obtain ⟨c1, c2, c3⟩ := zero_cl (m := m) (H := H) (w := w) hO h hz
  have hl : (tyI P e).zero.length = z.cells.size := by rw [ez]; simp
  have hlen : (zeros (tyI P e) n).length = n * z.cells.size := by simp [zeros, hl]
  have key : ∀ j, j < n * z.cells.size → z.cells.getD (j % z.cells.size) undef = z.cells.toList.getD (j % z.cells.size) undef := fun j hj => by
    have hm : j % z.cells.size < z.cells.size := Nat.mod_lt _ hz0
    simp [List.getD, Array.getD, hm]
  refine ⟨by rw [hlen]; simp, fun j hj => ?_, fun j hj => ?_⟩
  · rw [hlen] at hj
    rw [getD_zeros z.cells hz0 n j hj, key j hj]
    have hm : j % z.cells.size < z.cells.size := Nat.mod_lt _ hz0
    have e1 := zeros_get (tyI P e).zero (by omega) n j (by rw [hl]; exact hj)
    rw [hl] at e1
    have e2 : (zeros (tyI P e) n)[j]'(by rw [hlen]; exact hj) = (z.cells.toList.map ofV1)[j % z.cells.size]'(by simpa using hm) := by
      apply Option.some.inj
      rw [← List.getElem?_eq_getElem, ← List.getElem?_eq_getElem]
      show ((List.replicate n (tyI P e).zero).flatten)[j]? = _
      rw [e1, ez]
    rw [e2]
    exact c2 _ (by simpa using hm)
  · rw [hlen] at hj
    rw [getD_zeros z.cells hz0 n j hj, key j hj]
    exact c3 _ (by simpa using Nat.mod_lt _ hz0)

/-- a row in new memory, never written again -/
theorem imm_row {e : TypeId} {c : Array Value} {cs : List AV} (R : Rel m H w) (hC : Cl m H w c.toList cs) (n : Nat) (hn : n ≤ maxLen) :
    VR m H (w.alloc (.cells c e)) (.sl true n cs) (.slice (some ⟨w.heap.size, 0, none⟩) n n) ∧ Rel m H (w.alloc (.cells c e)) ∧ Ext m H w m H (w.alloc (.cells c e)) := by
  have E : Ext m H w m H (w.alloc (.cells c e)) := Ext.same (by simp) (fun b hb => alloc_old w _ b hb) rfl rfl rfl
  obtain ⟨h1, h2, h3⟩ := hC
  refine ⟨.sl _ _ _ _ _ (fun j => c.toList.getD j undef) (by simp) (Nat.le_refl _) hn (fun _ => rfl) (.inr ⟨w.heap.size, 0, rfl, imm_new R (by simp), fun j hj => ?_⟩) (fun j hj => (h2 j hj).ext E) h3, R.same (by simp) (fun b hb => alloc_old w _ b hb) rfl rfl rfl, E⟩
  have hj' : j < c.size := by have : c.size = cs.length := by simpa using h1
                              omega
  simp [List.getD, hj']

theorem sl_nums {w : World} {k : IntKind} {t : Bool} {xs : List Int} {v : Value} (h : VR m H w (.sl t xs.length (xs.map (AV.int k))) v) : VR m H w (.nums k t xs) v := by
  cases h with
  | sl _ _ _ a c cv hn hc hm ht h hv h1 =>
    refine .nums k t xs a c hn hc hm ht ?_
    rcases h with h | ⟨b, o, ha, hb, hcell⟩
    · left; simpa using h
    · right
      refine ⟨b, o, ha, hb, fun j hj => ?_⟩
      have hj' : j < (xs.map (AV.int k)).length := by simpa using hj
      rw [hcell j hj']
      have := hv j hj'
      rw [List.getElem_map] at this
      generalize cv j = u at this
      cases this
      rfl
theorem nums_sl {w : World} {k : IntKind} {t : Bool} {xs : List Int} {v : Value} (h : VR m H w (.nums k t xs) v) : VR m H w (.sl t xs.length (xs.map (AV.int k))) v := by
  cases h with
  | nums _ _ _ a c hn hc hm ht h =>
    refine .sl _ _ _ a c (fun j => .int k (xs.getD j 0)) hn hc hm ht ?_ (fun j hj => ?_) (fun j hj => rfl)
    · rcases h with rfl | ⟨b, o, ha, hb, hcell⟩
      · left; rfl
      · right
        refine ⟨b, o, ha, hb, fun j hj => ?_⟩
        have hj' : j < xs.length := by simpa using hj
        rw [hcell j hj']
        simp [List.getD, hj']
    · have hj' : j < xs.length := by simpa using hj
      simp [List.getD, hj']
      constructor

theorem place_one {eI : TI} (h : eI.size = 1) : (fun i : Nat => (i * eI.size, eI.size)) = fun i => (i, 1) := by funext i; rw [h, Nat.mul_one]

theorem q_buildSlice {t : TypeId} {n : Nat} {ps : List (Nat × AV)} {vs : Array (Nat × Value)} (R : Rel m H w) (hO : ZeroOk P (elemOf' (tyI P t))) (hl : vs.size = ps.length) (hv : ∀ j (h : j < ps.length) (h' : j < vs.toList.length), vs.toList[j].1 = ps[j].1 ∧ VR m H w ps[j].2 vs.toList[j].2)
    (hp : bslP (tyI P t) (tyI P (elemOf' (tyI P t))) n ps) : QS P m H w (Instr.buildSlice t n vs) (bslA (tyI P (elemOf' (tyI P t))) n ps) := by
  obtain ⟨h0, h1, h2, hk, hf, hi⟩ := hp
  obtain ⟨e, hk'⟩ : ∃ e, (tyI P t).kind = .slice e := by cases hq : (tyI P t).kind <;> rw [hq] at hk <;> first | exact hk.elim | exact ⟨_, rfl⟩
  have he : elemOf' (tyI P t) = e := by simp [elemOf', hk']
  rw [he] at hO h0 h1 h2 hf hi ⊢
  obtain ⟨inf, z, hinf, hz, ez⟩ := zero_info (P := P) (t := e) (by omega)
  obtain ⟨inf', hinf', hsz⟩ := size_info h1
  have : inf' = inf := by rw [hinf] at hinf'; simpa using hinf'.symm
  subst this
  have hzr := run_zero (w := w) hinf hz
  have hsr := run_sizeOf' (w := w) e hinf
  rw [hsz] at hsr
  have hzs : z.cells.size = (tyI P e).size := by rw [← h0, ez]; simp
  have C := zeros_cl (m := m) (H := H) (w := w) hO hinf hz (by omega) ez n
  rw [hzs] at C
  have hlz : (zeros (tyI P e) n).length = n * (tyI P e).size := by simp [zeros, h0]
  obtain ⟨c', hfill, hC⟩ := fill_spec (m := m) (H := H) (w := w) (fun i => some (i * (tyI P e).size, (tyI P e).size)) vs.toList ps _ _ (fun i => (i * (tyI P e).size, (tyI P e).size)) C (by simpa using hl) hv (fun j h => rfl) (by rw [hlz]; exact hf)
  have hn : n ≤ maxLen := by
    have : n * 1 ≤ n * (tyI P e).size := Nat.mul_le_mul_left _ h1
    unfold maxLen; omega
  obtain ⟨r1, r2, r3⟩ := imm_row (e := e) R hC n hn
  refine ⟨.slice (some ⟨w.heap.size, 0, none⟩) n n, w.alloc (.cells c' e), ?_, ?_, r2, r3⟩
  · have hle : ¬ n * (tyI P e).size > 2 ^ 24 := by omega
    unfold Instr.buildSlice
    rw [Sem.run_bind, run_underlying (kind_slice hk'), Result.andThen_ok]
    simp only []
    rw [Sem.run_bind, hsr, Result.andThen_ok, if_neg hle]
    by_cases hn0 : n * (tyI P e).size = 0
    · have hempty : (Array.range (n * (tyI P e).size)).map (fun x => z.cells[x % (tyI P e).size]!) = #[] := by rw [hn0]; simp
      rw [hempty] at hfill
      rw [if_pos hn0]
      have hE : (Array.range (n * (tyI P e).size)).map (fun x => (#[] : Array Value)[x % (#[] : Array Value).size]!) = #[] := by rw [hn0]; simp
      simp only [Sem.run_bind, Sem.run_pure, Result.andThen_ok, hE, hfill, newRow, run_newObj, World.alloc_eq]
    · rw [if_neg hn0]
      simp only [Sem.run_bind, Sem.run_pure, Result.andThen_ok, hzr, hzs, hfill, newRow, run_newObj, World.alloc_eq]
  · unfold bslA
    cases hq : (tyI P e).kind <;> simp only [] <;> try exact r1
    rename_i k
    rw [hq] at hi
    obtain ⟨hs1, hall⟩ := hi
    rw [place_one hs1] at r1
    have e1 := allInt_spec hall
    refine sl_nums ?_
    rw [← e1]
    have hlen : (numsOf (fillA (fun i => (i, 1)) (zeros (tyI P e) n) ps)).length = n := by
      have h3 := hC.1
      rw [place_one hs1] at hC
      have h4 : (fillA (fun i => (i, 1)) (zeros (tyI P e) n) ps).length = n := by
        have : ∀ (qs : List (Nat × AV)) (cs : List AV), fillP (fun i => (i, 1)) cs.length qs → (fillA (fun i => (i, 1)) cs qs).length = cs.length := by
          intro qs
          induction qs with
          | nil => intro cs _; rfl
          | cons q qs ih =>
            obtain ⟨i, x⟩ := q
            rintro cs ⟨a1, a2, a3, a4⟩
            have hlen' : (cs.take i ++ x.cl ++ cs.drop (i + x.cl.length)).length = cs.length := by simp; simp at a3; omega
            rw [fillA, ih _ (by rw [hlen']; exact a4), hlen']
        rw [place_one hs1, hs1, Nat.mul_one] at hf
        have e3 := this ps (zeros (tyI P e) n) (by rw [hlz, hs1, Nat.mul_one]; exact hf)
        rw [e3, hlz, hs1, Nat.mul_one]
      rw [numsOf_length, h4]
    rw [hlen]
    exact r1

end Go.Av
end

section
set_option linter.unusedVariables false
set_option linter.unusedSimpArgs false
open Go.RowKit
namespace Go.Av
variable {P : Program} {m : Hand} {H : Heap} {w : World}

def hset (m : Hand) (id : Nat) (v : Value) : Hand := fun i => if i = id then v else m i

theorem Ext.push {w' : World} (R : Rel m H w) (hv : Value) (o : Obj) (hs : w.heap.size ≤ w'.heap.size) (hb : ∀ b, b < w.heap.size → w'.heap[b]? = w.heap[b]?) (hn : ∀ b, blk hv = some b → w.heap.size ≤ b)
    (h1 : w'.os = w.os) (h2 : w'.tape = w.tape) (h3 : w'.output = w.output) : Ext m H w (hset m H.length hv) (H ++ [o]) w' where
  len := by simp
  later i hi := by rw [sg_append hi]; exact Later.refl _
  hand i s hi _ _ := by simp [hset, Nat.ne_of_lt hi]
  size := hs
  blocks b h _ := hb b h
  muts b hb := by
    obtain ⟨i, hi, hbi⟩ := hb
    by_cases e : i = H.length
    · subst e; right; exact hn b (by simpa [hset] using hbi)
    · have hlt : i < H.length := by have := sg_lt hi; simp at this; omega
      left
      exact ⟨i, by rwa [sg_append hlt] at hi, by simpa [hset, e] using hbi⟩
  os := h1
  tape := h2
  output := h3

theorem Rel.push {w' : World} {hv : Value} {o : Obj} (R : Rel m H w) (hn : ∀ b, blk hv = some b → w.heap.size ≤ b) (hb : ∀ b, b < w.heap.size → w'.heap[b]? = w.heap[b]?) (E : Ext m H w (hset m H.length hv) (H ++ [o]) w') (ho : OR (hset m H.length hv) (H ++ [o]) w' hv o) :
    Rel (hset m H.length hv) (H ++ [o]) w' where
  obj i o' h := by
    by_cases e : i = H.length
    · subst e
      have : o' = o := by simpa using h.symm
      subst this
      simpa [hset] using ho
    · have hlt : i < H.length := by have := (List.getElem?_eq_some_iff.1 h).1; simp at this; omega
      rw [List.getElem?_append_left hlt] at h
      have e1 : hset m H.length hv i = m i := by simp [hset, e]
      rw [e1]
      by_cases hd : o'.sig = none
      · cases o' <;> simp_all [Obj.sig]
        trivial
      · exact (R.obj i o' h).ext E fun b hb' => hb b ((R.obj i o' h).block hd hb')
  one i j b hi hj h1 h2 := by
    have cases' : ∀ k, sg (H ++ [o]) k ≠ none → k = H.length ∨ (k < H.length ∧ sg H k ≠ none) := fun k hk => by
      by_cases e : k = H.length
      · exact .inl e
      · have hlt : k < H.length := by have := sg_lt hk; simp at this; omega
        exact .inr ⟨hlt, by rwa [sg_append hlt] at hk⟩
    have old : ∀ k, k < H.length → sg H k ≠ none → blk (m k) = some b → b < w.heap.size := fun k hk hs hb' => R.mut_lt ⟨k, hs, hb'⟩
    rcases cases' i hi with rfl | ⟨hi', hsi⟩ <;> rcases cases' j hj with rfl | ⟨hj', hsj⟩
    · rfl
    · have a1 := hn b (by simpa [hset] using h1)
      have a2 := old j hj' hsj (by simpa [hset, Nat.ne_of_lt hj'] using h2)
      omega
    · have a1 := hn b (by simpa [hset] using h2)
      have a2 := old i hi' hsi (by simpa [hset, Nat.ne_of_lt hi'] using h1)
      omega
    · exact R.one i j b hsi hsj (by simpa [hset, Nat.ne_of_lt hi'] using h1) (by simpa [hset, Nat.ne_of_lt hj'] using h2)

theorem sg_set_same {id : Nat} {o : Obj} (h : id < H.length) : sg (H.set id o) id = o.sig := by simp [sg, List.getElem?_set, h]
theorem sg_set_ne {id i : Nat} {o : Obj} (h : i ≠ id) : sg (H.set id o) i = sg H i := by simp [sg, List.getElem?_set, Ne.symm h]

theorem Ext.set {w' : World} {id : Nat} {s : Sig} {o' : Obj} {hv : Value} (R : Rel m H w) (hsg : sg H id = some s) (hs : w.heap.size ≤ w'.heap.size) (hb : ∀ b, b < w.heap.size → blk (m id) ≠ some b → w'.heap[b]? = w.heap[b]?)
    (hn : ∀ b, blk hv = some b → blk (m id) = some b ∨ w.heap.size ≤ b) (hl : Later (some s) o'.sig) (he : o'.sig = some s → hv = m id)
    (h1 : w'.os = w.os) (h2 : w'.tape = w.tape) (h3 : w'.output = w.output) : Ext m H w (hset m id hv) (H.set id o') w' where
  len := by simp
  later i hi := by
    by_cases e : i = id
    · subst e; rw [sg_set_same hi, hsg]; exact hl
    · rw [sg_set_ne e]; exact Later.refl _
  hand i s' hi h1 h2 := by
    by_cases e : i = id
    · subst e
      rw [hsg] at h1
      rw [sg_set_same hi] at h2
      simp only [hset, if_true]
      exact he (by rw [h2, ← h1])
    · simp [hset, e]
  size := hs
  blocks b hlt hm := hb b hlt fun hbi => hm ⟨id, by simp [hsg], hbi⟩
  muts b hb := by
    obtain ⟨i, hi, hbi⟩ := hb
    by_cases e : i = id
    · subst e
      rcases hn b (by simpa [hset] using hbi) with h | h
      · exact .inl ⟨i, by simp [hsg], h⟩
      · exact .inr h
    · left
      exact ⟨i, by rwa [sg_set_ne e] at hi, by simpa [hset, e] using hbi⟩
  os := h1
  tape := h2
  output := h3

theorem Rel.set {w' : World} {id : Nat} {s : Sig} {o' : Obj} {hv : Value} (R : Rel m H w) (hsg : sg H id = some s) (hb : ∀ b, b < w.heap.size → blk (m id) ≠ some b → w'.heap[b]? = w.heap[b]?)
    (hn : ∀ b, blk hv = some b → blk (m id) = some b ∨ w.heap.size ≤ b) (E : Ext m H w (hset m id hv) (H.set id o') w') (ho : OR (hset m id hv) (H.set id o') w' hv o') : Rel (hset m id hv) (H.set id o') w' where
  obj i o h := by
    by_cases e : i = id
    · subst e
      have hlt := sg_lt (H := H) (i := i) (by simp [hsg])
      have : o = o' := by simpa [List.getElem?_set, hlt] using h.symm
      subst this
      simpa [hset] using ho
    · have h' : H[i]? = some o := by simpa [List.getElem?_set, Ne.symm e] using h
      have e1 : hset m id hv i = m i := by simp [hset, e]
      rw [e1]
      by_cases hd : o.sig = none
      · cases o <;> simp_all [Obj.sig]
        trivial
      · refine (R.obj i o h').ext E fun b hb' => hb b ((R.obj i o h').block hd hb') fun hbid => e ?_
        exact R.one i id b (by rw [sg_some h']; exact hd) (by simp [hsg]) hb' hbid
  one i j b hi hj h1 h2 := by
    have alive' : ∀ k, k ≠ id → sg (H.set id o') k ≠ none → sg H k ≠ none := fun k hk h => by rwa [sg_set_ne hk] at h
    by_cases ei : i = id <;> by_cases ej : j = id
    · rw [ei, ej]
    · have k1 := alive' j ej hj
      have b1 : blk hv = some b := by simpa [hset, ei] using h1
      have b2 : blk (m j) = some b := by simpa [hset, ej] using h2
      rcases hn b b1 with h | h
      · exact (absurd (R.one id j b (by simp [hsg]) k1 h b2).symm ej)
      · have := R.mut_lt ⟨j, k1, b2⟩; omega
    · have k1 := alive' i ei hi
      have b1 : blk hv = some b := by simpa [hset, ej] using h2
      have b2 : blk (m i) = some b := by simpa [hset, ei] using h1
      rcases hn b b1 with h | h
      · exact (absurd (R.one i id b k1 (by simp [hsg]) b2 h) ei)
      · have := R.mut_lt ⟨i, k1, b2⟩; omega
    · exact R.one i j b (alive' i ei hi) (alive' j ej hj) (by simpa [hset, ei] using h1) (by simpa [hset, ej] using h2)

/-- what a step with an effect comes to -/
def ES (P : Program) (m : Hand) (H : Heap) (w : World) (s : Sem Value) (x : AV) (H' : Heap) : Prop :=
  ∃ v w' m', s.run P w = .ok v w' ∧ VR m' H' w' x v ∧ Rel m' H' w' ∧ Ext m H w m' H' w'

theorem new_cells {T : TypeId} {c : Array Value} {cs : List AV} (R : Rel m H w) (hC : Cl m H w c.toList cs) :
    ∃ m', VR m' (H ++ [.cells cs]) (w.alloc (.cells c T)) (.ptr H.length 0) (.pointer (some ⟨w.heap.size, 0, none⟩)) ∧ Rel m' (H ++ [.cells cs]) (w.alloc (.cells c T)) ∧ Ext m H w m' (H ++ [.cells cs]) (w.alloc (.cells c T)) := by
  have hn : ∀ b, blk (.pointer (some ⟨w.heap.size, 0, none⟩)) = some b → w.heap.size ≤ b := fun b h => by simp [blk] at h; omega
  have hb : ∀ b, b < w.heap.size → (w.alloc (.cells c T)).heap[b]? = w.heap[b]? := fun b h => alloc_old w _ b h
  have E := Ext.push (w' := w.alloc (.cells c T)) R (.pointer (some ⟨w.heap.size, 0, none⟩)) (.cells cs) (by simp) hb hn rfl rfl rfl
  obtain ⟨h1, h2, h3⟩ := hC
  have hs : c.size = cs.length := by simpa using h1
  have e : ∀ j, j < cs.length → c.toList.getD j undef = c.getD j undef := fun j hj => by simp [List.getD, Array.getD, show j < c.size by omega]
  have ho : OR (hset m H.length (.pointer (some ⟨w.heap.size, 0, none⟩))) (H ++ [.cells cs]) (w.alloc (.cells c T)) (.pointer (some ⟨w.heap.size, 0, none⟩)) (.cells cs) :=
    ⟨w.heap.size, c, T, rfl, by simp [World.alloc, -World.alloc_eq], hs, fun j hj => by rw [← e j hj]; exact (h2 j hj).ext E, fun j hj => by rw [← e j hj]; exact h3 j hj⟩
  refine ⟨_, ?_, R.push hn hb E ho, E⟩
  exact .ptr _ _ _ rfl (by simp) fun n _ => ⟨w.heap.size, by simp [hset], rfl⟩

theorem e_alloc {T : TypeId} {old : Value} (R : Rel m H w) (hO : ZeroOk P T) (h0 : 0 < (tyI P T).zero.length) : ES P m H w (Instr.alloc T true old) (.ptr H.length 0) (H ++ [.cells (tyI P T).zero]) := by
  obtain ⟨i, z, hi, hz, ez⟩ := zero_info h0
  have C : Cl m H w z.cells.toList (tyI P T).zero := by rw [ez]; exact zero_cl hO hi hz
  obtain ⟨m', r⟩ := new_cells (T := T) R C
  refine ⟨_, _, m', ?_, r⟩
  simp [Instr.alloc, run_zero (w := w) hi hz, newVar, newRow]

theorem e_box {T : TypeId} {x : AV} {u : Value} (R : Rel m H w) (hx : VR m H w x u) (ho : x.clOk = true) : ES P m H w (Instr.box T u) (.ptr H.length 0) (H ++ [.cells x.cl]) := by
  obtain ⟨m', r⟩ := new_cells (T := T) R (Cl.of hx ho)
  refine ⟨_, _, m', ?_, r⟩
  simp [Instr.box, newVar, newRow]

def spliceA (cs : List AV) (off : Nat) (l : List AV) : List AV := cs.take off ++ l ++ cs.drop (off + l.length)

theorem setRow_at (w : World) (g : Nat) (c c' : Array Value) (T : TypeId) (fr : Nat × Nat) (h : w.heap[g]? = some (.cells c T fr)) : (w.setRow g c').heap[g]? = some (.cells c' T fr) := by
  have hlt : g < w.heap.size := (Array.getElem?_eq_some_iff.1 h).1
  have hg : w.heap[g] = .cells c T fr := by simpa [hlt] using h
  rw [World.setRow]
  simp only [Array.getElem?_modify, if_true, h]
  rfl
theorem setRow_ne (w : World) (g b : Nat) (c' : Array Value) (h : b ≠ g) : (w.setRow g c').heap[b]? = w.heap[b]? := by
  simp [World.setRow, Array.getElem?_modify, Ne.symm h]

theorem spliceA_length {cs : List AV} {off : Nat} {l : List AV} (h : off + l.length ≤ cs.length) : (spliceA cs off l).length = cs.length := by simp [spliceA]; omega

/-- a store into an object -/
theorem e_store_ptr {T : TypeId} {id off : Nat} {x : AV} {u v : Value} {cs : List AV} (R : Rel m H w) (hp : VR m H w (.ptr id off) u) (hx : VR m H w x v) (ho : x.clOk = true) (hc : H[id]? = some (.cells cs)) (hsz : (tyI P T).size = x.cl.length) (hk : (tyI P T).kind ≠ .other) (hl : off + x.cl.length ≤ cs.length) :
    ∃ w' m', (Instr.storeAt T u v).run P w = .ok () w' ∧ Rel m' (H.set id (.cells (spliceA cs off x.cl))) w' ∧ Ext m H w m' (H.set id (.cells (spliceA cs off x.cl))) w' := by
  obtain ⟨b, c, Tb, hm, rfl, hb, hsize, hv, h1⟩ := hp.ptr_val R hc
  obtain ⟨d, i, hu, _, hi, hisz⟩ := kind_under hk
  have C := Cl.of hx ho
  have hvs : v.cells.size = x.cl.length := by simpa using C.1
  have hrun := run_storeCells_at (P := P) b off Tb v.cells.toList 0 c w hb (by simp; omega) (fun u hu => by
    obtain ⟨j, hj, rfl⟩ := List.getElem_of_mem hu
    have := C.2.2 j (by rw [← C.1]; exact hj)
    rwa [List.getD, List.getElem?_eq_getElem hj] at this)
  have CC : Cl m H w c.toList cs := ⟨by simpa using hsize, fun j hj => by
      have : c.toList.getD j undef = c.getD j undef := by simp [List.getD, Array.getD, show j < c.size by omega]
      rw [this]; exact hv j hj, fun j hj => by
      have : c.toList.getD j undef = c.getD j undef := by simp [List.getD, Array.getD, show j < c.size by omega]
      rw [this]; exact h1 j hj⟩
  have CN : Cl m H w (c.toList.take off ++ v.cells.toList ++ c.toList.drop (off + v.cells.toList.length)) (spliceA cs off x.cl) := by
    have := ((CC.take off).append C).append (CC.drop (off + x.cl.length))
    simpa [spliceA, hvs] using this
  simp only [Nat.add_zero] at hrun
  generalize hN : (c.toList.take off ++ v.cells.toList ++ c.toList.drop (off + v.cells.toList.length)) = N at hrun CN
  have hsg := sg_some hc
  have hblk : blk (m id) = some b := by rw [hm]; rfl
  have hbo : ∀ b', b' < w.heap.size → blk (m id) ≠ some b' → (w.setRow b N.toArray).heap[b']? = w.heap[b']? := fun b' _ hne => setRow_ne w b b' _ (fun e => hne (by rw [hblk, e]))
  have hlenA : (spliceA cs off x.cl).length = cs.length := spliceA_length hl
  have hself : hset m id (m id) = m := by funext i; simp only [hset]; split <;> simp_all
  have E := Ext.set (w' := w.setRow b N.toArray) (o' := .cells (spliceA cs off x.cl)) (hv := m id) R hsg (by simp [World.setRow]) hbo (fun b' h => .inl h) (by simp [Obj.sig, Later, Sig.le, hlenA]) (fun _ => rfl) rfl rfl rfl
  refine ⟨w.setRow b N.toArray, hset m id (m id), ?_, R.set hsg hbo (fun b' h => .inl h) E ?_, E⟩
  · have hsr := run_sizeOf' (w := w) T hi
    simp only [Instr.storeAt, Instr.sureAddr, storeVar, Sem.run_bind, Sem.run_pure, Result.andThen_ok, hsr]
    rw [if_neg (by simp; omega)]
    exact hrun
  · obtain ⟨n1, n2, n3⟩ := CN
    have hN' : N.toArray.size = (spliceA cs off x.cl).length := by simpa using n1
    have e : ∀ j, j < (spliceA cs off x.cl).length → N.toArray.getD j undef = N.getD j undef := fun j hj => by simp [List.getD, Array.getD, show j < N.length by simpa using (by omega : j < N.length)]
    exact ⟨b, N.toArray, Tb, hm, setRow_at w b c _ Tb _ hb, hN', fun j hj => by rw [e j hj]; exact (n2 j hj).ext E, fun j hj => by rw [e j hj]; exact n3 j hj⟩

/-- an object is given up -/
theorem e_kill {id : Nat} {s : Sig} (R : Rel m H w) (hsg : sg H id = some s) : Rel m (H.set id .dead) w ∧ Ext m H w m (H.set id .dead) w := by
  have hself : hset m id (m id) = m := by funext i; simp only [hset]; split <;> simp_all
  have E := Ext.set (w' := w) (o' := .dead) (hv := m id) R hsg (Nat.le_refl _) (fun _ _ _ => rfl) (fun b' h => .inl h) (by simp [Obj.sig, Later]) (fun _ => rfl) rfl rfl rfl
  have R' := R.set hsg (fun _ _ _ => rfl) (fun b' h => .inl h) E (by trivial)
  rw [hself] at E R'
  exact ⟨R', E⟩

end Go.Av
end

section
set_option linter.unusedVariables false
set_option linter.unusedSimpArgs false
open Go.RowKit
namespace Go.Av
variable {P : Program} {m : Hand} {H : Heap} {w : World}

theorem bytes_info {t : TypeId} {i : TypeInfo} (h : P.info? t = some i) : i.bytes = (tyI P t).bytes ∧ i.size = (tyI P t).size := by
  unfold tyI
  simp [h]

/-! ### make -/
def mkRow (eI : TI) (e : TypeId) (n : Nat) : Obj :=
  match eI.kind with
  | .int k => .nrow 0 e k (List.replicate n 0)
  | _ => .row 0 e eI.size n (zeros eI n)
def mkP (tI eI : TI) (n : Nat) : Prop :=
  (match tI.kind with | .slice _ => True | _ => False) ∧ eI.zero.length = eI.size ∧ 0 < eI.size ∧ eI.bytes * n ≤ 281474976710656 ∧ n ≤ maxLen ∧
  match eI.kind with
  | .int k => eI.zero = [.int k 0]
  | _ => True

theorem ofV1_int {v : Value} {k : IntKind} {n : Int} (h : ofV1 v = .int k n) : v = .int k n := by
  unfold ofV1 at h
  split at h <;> simp_all

theorem own_SlOf {e : TypeId} {sz n : Nat} {v : Value} {vs : List Value} (h : w.ownsRow 0 e sz v n vs) : SlOf v sz n 0 n v ∧ v.oneCell' = true := by
  rcases h.2 with ⟨rfl, rfl⟩ | ⟨g, cap, cur, rfl, _, _, h1, h2, _⟩
  · exact ⟨⟨by omega, none, 0, rfl, (fun _ => rfl), Nat.le_refl _, by unfold maxLen; omega, fun h => by omega, fun _ _ => rfl⟩, rfl⟩
  · exact ⟨⟨by omega, some ⟨g, 0, none⟩, cap, rfl, (by simp), h1, h2, fun _ => ⟨g, cap, rfl, by simp⟩, fun _ _ => rfl⟩, rfl⟩

theorem e_make {t : TypeId} {n : Nat} {kl kc : IntKind} (R : Rel m H w) (hO : ZeroOk P (elemOf' (tyI P t))) (hp : mkP (tyI P t) (tyI P (elemOf' (tyI P t))) n) :
    ES P m H w (Instr.makeSlice t (.int kl n) (.int kc n)) (.rref H.length 0 0 n) (H ++ [mkRow (tyI P (elemOf' (tyI P t))) (elemOf' (tyI P t)) n]) := by
  obtain ⟨hk, h0, h1, h2, h3, hi⟩ := hp
  obtain ⟨e, hk'⟩ : ∃ e, (tyI P t).kind = .slice e := by cases hq : (tyI P t).kind <;> rw [hq] at hk <;> first | exact hk.elim | exact ⟨_, rfl⟩
  have he : elemOf' (tyI P t) = e := by simp [elemOf', hk']
  rw [he] at hO h0 h1 h2 hi ⊢
  obtain ⟨inf, z, hinf, hz, ez⟩ := zero_info (P := P) (t := e) (by omega)
  obtain ⟨hby, hsz⟩ := bytes_info hinf
  obtain ⟨w', hrun, hown, hgr⟩ := run_make_full (P := P) w 0 t e inf z (tyI P e).size (kind_slice hk') hinf hz hsz kl kc n (by rw [hby]; exact h2) h3 (Nat.zero_le _)
  have hzs : z.cells.size = (tyI P e).size := by rw [← h0, ez]; simp
  have hb : ∀ b, b < w.heap.size → w'.heap[b]? = w.heap[b]? := fun b hb => hgr.block b hb (by simp)
  have hn : ∀ b, blk (.slice (some ⟨w.heap.size, 0, none⟩) n n) = some b → w.heap.size ≤ b := fun b h => by simp [blk] at h; omega
  have hsig : (mkRow (tyI P e) e n).sig = some (.r 0 (tyI P e).size n) := by
    unfold mkRow
    split
    · rename_i k hq
      rw [hq] at hi
      have : (tyI P e).size = 1 := by rw [← h0, hi]; rfl
      simp [Obj.sig, this]
    · rfl
  have E := Ext.push (w' := w') R (.slice (some ⟨w.heap.size, 0, none⟩) n n) (mkRow (tyI P e) e n) hgr.size hb hn hgr.os hgr.tape hgr.output
  have C := zeros_cl (m := m) (H := H) (w := w) hO hinf hz (by omega) ez n
  rw [hzs] at C
  have ho : OR (hset m H.length (.slice (some ⟨w.heap.size, 0, none⟩) n n)) (H ++ [mkRow (tyI P e) e n]) w' (.slice (some ⟨w.heap.size, 0, none⟩) n n) (mkRow (tyI P e) e n) := by
    unfold mkRow at E ⊢
    split at E
    · rename_i k hq
      rw [hq] at hi
      have s1 : (tyI P e).size = 1 := by rw [← h0, hi]; rfl
      have hz1 : z.cells = #[.int k 0] := by
        rw [ez] at hi
        have hl1 : z.cells.size = 1 := by omega
        apply Array.ext'
        obtain ⟨v, hv⟩ : ∃ v, z.cells.toList = [v] := List.length_eq_one_iff.1 (by simpa using hl1)
        rw [hv] at hi ⊢
        simp at hi
        rw [ofV1_int hi]
      have e1 : (madeCells z.cells (n * (tyI P e).size)).toList = (List.replicate n (0 : Int)).map fun x => Value.int k x := by
        rw [s1, Nat.mul_one, hz1, toList_madeCells_one]; simp
      rw [e1, s1] at hown
      show w'.ownsRow 0 e 1 _ (List.replicate n (0 : Int)).length _
      rw [List.length_replicate]
      exact hown
    · have e1 : (madeCells z.cells (n * (tyI P e).size)) = (Array.range (n * (tyI P e).size)).map (z.cells[· % (tyI P e).size]!) := by simp [madeCells, hzs]
      rw [e1] at hown
      exact ⟨_, hown, C.1, fun j hj => (C.2.1 j hj).ext E, C.2.2⟩
  refine ⟨_, w', _, hrun, ?_, R.push hn hb E ho, E⟩
  have hs' : sg (H ++ [mkRow (tyI P e) e n]) H.length = some (.r 0 (tyI P e).size n) := by simp [sg, hsig]
  refine .rref _ _ _ _ _ rfl (by simp) (fun v0 sz N h => by omega) fun sz N h => ?_
  rw [hs'] at h
  simp at h
  obtain ⟨rfl, rfl⟩ := h
  simp only [hset, if_true]
  exact (own_SlOf hown).1

/-! ### what is appended -/
def srcA (H : Heap) : AV → Option (Nat × List AV)
  | .nums k _ xs => some (xs.length, xs.map (AV.int k))
  | .sl _ n cs => some (n, cs)
  | .nils => some (0, [])
  | .cref id off n => (match H[id]? with | some (.cells cs) => if off + n ≤ cs.length then some (n, (cs.drop off).take n) else none | _ => none)
  | .rref id ver off n => (match H[id]? with
    | some (.row v _ sz N cs) => if v = ver ∧ off + n ≤ N ∧ cs.length = N * sz then some (n, (cs.drop (off * sz)).take (n * sz)) else none
    | some (.nrow v _ k xs) => if v = ver ∧ off + n ≤ xs.length then some (n, ((xs.drop off).take n).map (AV.int k)) else none
    | _ => none)
  | _ => none

theorem src_spec {x : AV} {u : Value} {n : Nat} {cs : List AV} {sz : Nat} (R : Rel m H w) (hx : VR m H w x u) (hs : srcA H x = some (n, cs)) (hcs : cs.length = n * sz) (hsz : 0 < sz) :
    ∃ a c news, u = .slice a n c ∧ Cl m H w news cs ∧ (a = none → n = 0 ∧ c = 0 ∧ news = [] ∧ cs = []) ∧ (∀ ad, a = some ad → ∀ j v, news[j]? = some v → w.cell? (ad.add j) = some v) := by
  have zero : ∀ (c : Nat), n = 0 → ∃ news, Cl m H w news cs ∧ news = [] ∧ cs = [] := fun c h => by
    have : cs = [] := List.eq_nil_of_length_eq_zero (by rw [hcs, h, Nat.zero_mul])
    subst this
    exact ⟨[], ⟨rfl, fun j hj => by simp at hj, fun j hj => by simp at hj⟩, rfl, rfl⟩
  have one : ∀ (a : Option Addr) (c : Nat), (cs ≠ [] → ∃ b o, a = some ⟨b, o, none⟩ ∧ ∃ cv : Nat → Value, (∀ j, j < cs.length → w.cell? ⟨b, o + j, none⟩ = some (cv j)) ∧ (∀ j (hj : j < cs.length), VR m H w cs[j] (cv j)) ∧ ∀ j, j < cs.length → (cv j).oneCell' = true) → (a = none → c = 0) →
      ∃ news, Cl m H w news cs ∧ (a = none → n = 0 ∧ c = 0 ∧ news = [] ∧ cs = []) ∧ (∀ ad, a = some ad → ∀ j v, news[j]? = some v → w.cell? (ad.add j) = some v) := by
    intro a c h hn
    by_cases he : cs = []
    · subst he
      have hn0 : n = 0 := by
        rcases Nat.eq_zero_or_pos n with h | h
        · exact h
        · have := Nat.mul_pos h hsz; simp at hcs; omega
      exact ⟨[], ⟨rfl, fun j hj => by simp at hj, fun j hj => by simp at hj⟩, fun ha => ⟨hn0, hn ha, rfl, rfl⟩, fun ad _ j v hv => by simp at hv⟩
    · obtain ⟨b, o, rfl, cv, h1, h2, h3⟩ := h he
      have hg : ∀ j, j < cs.length → ((List.range cs.length).map cv).getD j undef = cv j := fun j hj => by simp [List.getD, hj]
      refine ⟨(List.range cs.length).map cv, ⟨by simp, fun j hj => by rw [hg j hj]; exact h2 j hj, fun j hj => by rw [hg j hj]; exact h3 j hj⟩, by simp, fun ad had j v hv => ?_⟩
      cases had
      have hj : j < cs.length := by have := (List.getElem?_eq_some_iff.1 hv).1; simpa using this
      have hv' : cv j = v := by simpa [hj] using hv
      rw [add_at, h1 j hj, hv']
  cases x <;> simp only [srcA] at hs <;> try (cases hs; done)
  · simp at hs
    obtain ⟨rfl, rfl⟩ := hs
    cases hx
    exact ⟨none, 0, [], rfl, ⟨rfl, fun j hj => by simp at hj, fun j hj => by simp at hj⟩, fun _ => ⟨rfl, rfl, rfl, rfl⟩, fun ad h => by cases h⟩
  · rename_i k t xs
    simp at hs
    obtain ⟨rfl, rfl⟩ := hs
    cases nums_sl hx with
    | sl _ _ _ a c cv hn hc hm ht h hv h1 =>
      obtain ⟨news, r⟩ := one a c (fun hne => by
        rcases h with h | ⟨b, o, ha, _, hcell⟩
        · exact absurd h hne
        · exact ⟨b, o, ha, cv, hcell, hv, h1⟩) hn
      exact ⟨a, c, news, rfl, r⟩
  · rename_i t n' cs'
    simp at hs
    obtain ⟨rfl, rfl⟩ := hs
    cases hx with
    | sl _ _ _ a c cv hn hc hm ht h hv h1 =>
      obtain ⟨news, r⟩ := one a c (fun hne => by
        rcases h with h | ⟨b, o, ha, _, hcell⟩
        · exact absurd h hne
        · exact ⟨b, o, ha, cv, hcell, hv, h1⟩) hn
      exact ⟨a, c, news, rfl, r⟩
  · rename_i id ver off n'
    cases hid : H[id]? with
    | none => rw [hid] at hs; cases hs
    | some o =>
      rw [hid] at hs
      cases o <;> (try dsimp only at hs) <;> try (cases hs; done)
      · rename_i v e sz' N cs'
        split at hs
        · rename_i hh
          obtain ⟨rfl, hle, hl⟩ := hh
          simp at hs
          obtain ⟨rfl, rfl⟩ := hs
          obtain ⟨vs, hown, hvl, hv, h1⟩ := R.obj id _ hid
          have hlen : ((cs'.drop (off * sz')).take (n' * sz')).length = n' * sz' := by
            have : off * sz' + n' * sz' ≤ N * sz' := by rw [← Nat.add_mul]; exact Nat.mul_le_mul_right _ hle
            simp; omega
          cases hx with
          | rref _ _ _ _ _ ho hl' hle' h =>
            obtain ⟨_, a, c, rfl, hnone, hnc, hcm, hb, hw⟩ := h sz' N (by simp [sg, hid, Obj.sig])
            obtain ⟨news, r⟩ := one a c (fun hne => by
              have hpos : 0 < n' := by
                rcases Nat.eq_zero_or_pos n' with h0 | h0
                · exact absurd (List.eq_nil_of_length_eq_zero (by rw [hlen, h0, Nat.zero_mul])) hne
                · exact h0
              obtain ⟨b, c0, hmv, ha⟩ := hb hpos
              have hle2 : off * sz' + n' * sz' ≤ cs'.length := by rw [hl, ← Nat.add_mul]; exact Nat.mul_le_mul_right _ hle
              refine ⟨b, off * sz', ha, fun j => vs.getD (off * sz' + j) undef, fun j hj => ?_, fun j hj => ?_, fun j hj => ?_⟩
              · exact own_cell hown hmv _ (by omega)
              · simp only [List.getElem_take, List.getElem_drop]; exact hv _ (by omega)
              · exact h1 _ (by omega)) hnone
            exact ⟨a, c, news, rfl, r⟩
        · cases hs
      · rename_i v e k xs
        split at hs
        · rename_i hh
          obtain ⟨rfl, hle⟩ := hh
          simp at hs
          obtain ⟨rfl, rfl⟩ := hs
          have hown := R.obj id _ hid
          cases hx with
          | rref _ _ _ _ _ ho hl' hle' h =>
            obtain ⟨_, a, c, rfl, hnone, hnc, hcm, hb, hw⟩ := h 1 xs.length (by simp [sg, hid, Obj.sig])
            obtain ⟨news, r⟩ := one a c (fun hne => by
              have hpos : 0 < n' := by
                rcases Nat.eq_zero_or_pos n' with h0 | h0
                · exact absurd (by simp [h0]) hne
                · exact h0
              obtain ⟨b, c0, hmv, ha⟩ := hb hpos
              refine ⟨b, off * 1, ha, fun j => .int k (xs.getD (off + j) 0), fun j hj => ?_, fun j hj => ?_, fun j hj => rfl⟩
              · have hj' : off + j < xs.length := by simp at hj; omega
                have := own_cell hown hmv (off + j) (by simpa using hj')
                rw [Nat.mul_one, this]
                simp [List.getD, hj']
              · have hj' : off + j < xs.length := by simp at hj; omega
                simp [List.getD, hj']
                constructor) hnone
            exact ⟨a, c, news, rfl, r⟩
        · cases hs
  · rename_i id off n'
    cases hid : H[id]? with
    | none => rw [hid] at hs; cases hs
    | some o =>
      rw [hid] at hs
      cases o <;> (try dsimp only at hs) <;> try (cases hs; done)
      rename_i cs'
      split at hs
      · rename_i hle
        simp at hs
        obtain ⟨rfl, rfl⟩ := hs
        obtain ⟨b', c', T, hm', hb', hsize, hv, h1⟩ := R.obj id _ hid
        cases hx with
        | cref _ _ _ _ ho hl h =>
          obtain ⟨b, a, c, hm, rfl, hnc, hcm, ha⟩ := h _ (sg_some hid)
          have hbb : b = b' := by rw [hm'] at hm; simpa using hm.symm
          subst hbb
          obtain ⟨news, r⟩ := one (some a) c (fun hne => by
            have hpos : 0 < n' := by
              rcases Nat.eq_zero_or_pos n' with h0 | h0
              · exact absurd (by simp [h0]) hne
              · exact h0
            obtain rfl := ha hpos
            refine ⟨b, off, rfl, fun j => c'.getD (off + j) undef, fun j hj => ?_, fun j hj => ?_, fun j hj => ?_⟩
            · exact cell_block hb' _ (by simp at hj; omega)
            · simp only [List.getElem_take, List.getElem_drop]; exact hv _ (by simp at hj; omega)
            · exact h1 _ (by simp at hj; omega)) (by simp)
          exact ⟨some a, c, news, rfl, r⟩
      · cases hs

end Go.Av
end

section
set_option linter.unusedVariables false
set_option linter.unusedSimpArgs false
open Go.RowKit
namespace Go.Av
variable {P : Program} {m : Hand} {H : Heap} {w : World}

/-! ### append to a row -/
def appObj (o : Obj) (k : Nat) (cs : List AV) : Obj :=
  match o with
  | .row v e sz n ds => .row (v + 1) e sz (n + k) (ds ++ cs)
  | .nrow v e kd xs => .nrow (v + 1) e kd (xs ++ numsOf cs)
  | o => o

def appP (tI eI : TI) (e : TypeId) (o : Obj) (ver n k : Nat) (cs : List AV) : Prop :=
  tI.kind = .slice e ∧ 0 < eI.zero.length ∧ eI.zero.length = eI.size ∧ n + k ≤ maxLen ∧ (n + k) * eI.bytes ≤ 140737488355328 ∧
  match o with
  | .row v e' sz n' ds => v = ver ∧ n' = n ∧ e' = e ∧ eI.size = sz ∧ cs.length = k * sz
  | .nrow v e' kd xs => v = ver ∧ xs.length = n ∧ e' = e ∧ eI.size = 1 ∧ cs.length = k ∧ allInt kd cs
  | _ => False

theorem Cl.one {c : List Value} {cs : List AV} (h : Cl m H w c cs) : ∀ u ∈ c, u.oneCell' = true := fun u hu => by
  obtain ⟨j, hj, rfl⟩ := List.getElem_of_mem hu
  have := h.2.2 j (by rw [← h.1]; exact hj)
  rwa [List.getD, List.getElem?_eq_getElem hj] at this

theorem Cl.ints {c : List Value} {k : IntKind} {xs : List Int} (h : Cl m H w c (xs.map (AV.int k))) : c = xs.map (Value.int k) := by
  obtain ⟨h1, h2, _⟩ := h
  apply List.ext_getElem (by simpa using h1)
  intro j hj hj'
  have hj2 : j < (xs.map (AV.int k)).length := by simpa using hj'
  have := h2 j hj2
  rw [List.getElem_map, List.getD, List.getElem?_eq_getElem hj] at this
  simp only [Option.getD_some] at this
  generalize c[j] = u at this
  cases this
  simp

theorem blk_own (v : Value) (h : ∃ a n c, v = .slice a n c) : v.ownBlock = blk v := by
  obtain ⟨a, n, c, rfl⟩ := h
  cases a <;> rfl
theorem own_slice {base e sz n : Nat} {v : Value} {vs : List Value} (h : w.ownsRow base e sz v n vs) : ∃ a k c, v = .slice a k c := by
  rcases h.2 with ⟨rfl, rfl⟩ | ⟨g, cap, cur, rfl, _⟩
  · exact ⟨_, _, _, rfl⟩
  · exact ⟨_, _, _, rfl⟩

theorem run_append_any {t ty e : TypeId} {v : Value} {n k sz : Nat} {xs news : List Value} {a : Option Addr} {c : Nat} {i : TypeInfo} {z : Value} (ht : P.underlying t = some (.slice e)) (hi : P.info? e = some i) (hz : i.zero = some z) (hsz : i.size = sz) (hzs : z.cells.size = sz) (hpos : 0 < sz)
    (hown : w.ownsRow 0 e sz v n xs) (hl : news.length = k * sz) (hnone : a = none → k = 0 ∧ c = 0 ∧ news = []) (hnews : ∀ ad, a = some ad → ∀ j u, news[j]? = some u → w.cell? (ad.add j) = some u) (h1 : ∀ u ∈ news, u.oneCell' = true)
    (h63 : n + k ≤ maxLen) (hb : (n + k) * i.bytes ≤ 140737488355328) :
    ∃ v' w', (Builtin.append_ #[t, t] ty #[v, .slice a k c]).run P w = .ok v' w' ∧ w'.ownsRow 0 e sz v' (n + k) (xs ++ news) ∧ w.grownBy w' v.ownBlock ∧ (v'.ownBlock = v.ownBlock ∨ v'.ownBlock = some w.heap.size) := by
  cases a with
  | none =>
    obtain ⟨rfl, rfl, rfl⟩ := hnone rfl
    refine ⟨v, w, run_append_owned_none w 0 t ty e i sz ht hi v n xs hown, by simpa using hown, World.grownBy.refl _ _, .inl rfl⟩
  | some ad =>
    obtain ⟨v', w', h1', h2, h3, _, h5⟩ := run_append_own_at (P := P) w 0 t ty e i z sz i.bytes ht hi hz hsz rfl hzs hpos v n xs hown ad k c news hl (hnews ad rfl) h1 h63 hb (Nat.zero_le _)
    exact ⟨v', w', h1', h2, h3, h5⟩

theorem e_append {t ty : TypeId} {id ver n k : Nat} {y : AV} {u v : Value} {o : Obj} {cs : List AV} (R : Rel m H w) (hx : VR m H w (.rref id ver 0 n) u) (hy : VR m H w y v) (ho : H[id]? = some o) (hs : srcA H y = some (k, cs))
    (hp : appP (tyI P t) (tyI P (elemOf' (tyI P t))) (elemOf' (tyI P t)) o ver n k cs) :
    ES P m H w (Builtin.append_ #[t, t] ty #[u, v]) (.rref id (ver + 1) 0 (n + k)) (H.set id (appObj o k cs)) := by
  obtain ⟨hk, hz0, hz1, h63, hby, hp⟩ := hp
  generalize elemOf' (tyI P t) = e at *
  obtain ⟨inf, z, hinf, hz, ez⟩ := zero_info hz0
  obtain ⟨eby, esz⟩ := bytes_info hinf
  have hzs : z.cells.size = (tyI P e).size := by rw [← hz1, ez]; simp
  have hpos : 0 < (tyI P e).size := by omega
  have hid : id < H.length := (List.getElem?_eq_some_iff.1 ho).1
  rw [← eby] at hby
  have main : ∀ (sz : Nat) (vs : List Value) (ws : List AV), (tyI P e).size = sz → sg H id = some (.r ver sz n) → w.ownsRow 0 e sz (m id) n vs → cs.length = k * sz →
      (∀ (m' : Hand) (w' : World) (v' : Value) (news : List Value), Cl m H w news cs → w'.ownsRow 0 e sz v' (n + k) (vs ++ news) → Ext m H w m' (H.set id (appObj o k cs)) w' → OR m' (H.set id (appObj o k cs)) w' v' (appObj o k cs)) →
      (appObj o k cs).sig = some (.r (ver + 1) sz (n + k)) → ES P m H w (Builtin.append_ #[t, t] ty #[u, v]) (.rref id (ver + 1) 0 (n + k)) (H.set id (appObj o k cs)) := by
    intro sz vs ws hsz hsg hown hcl hOR hsig
    have hu : u = m id := by
      cases hx with
      | rref _ _ _ _ _ ho' hl hle h =>
        obtain ⟨_, a, c, _, _, _, _, _, hw⟩ := h sz n hsg
        exact hw rfl rfl
    subst hu
    obtain ⟨a, c, news, rfl, hC, hnone, hnews⟩ := src_spec (sz := sz) R hy hs hcl (by omega)
    have hnl : news.length = k * sz := hC.1.trans hcl
    obtain ⟨v', w', hrun, hown', hgr, hblk⟩ := run_append_any (ty := ty) (c := c) (kind_slice hk) hinf hz (esz.trans hsz) (hzs.trans hsz) (by omega) hown hnl (fun h => ⟨(hnone h).1, (hnone h).2.1, (hnone h).2.2.1⟩) hnews hC.one h63 hby
    have hb1 : (m id).ownBlock = blk (m id) := blk_own _ (own_slice hown)
    have hb2 : v'.ownBlock = blk v' := blk_own _ (own_slice hown')
    rw [hb1] at hgr hblk
    rw [hb2] at hblk
    have hbo : ∀ b, b < w.heap.size → blk (m id) ≠ some b → w'.heap[b]? = w.heap[b]? := fun b hb hne => hgr.block b hb (fun h => hne h.symm)
    have hn : ∀ b, blk v' = some b → blk (m id) = some b ∨ w.heap.size ≤ b := fun b hb => by
      rcases hblk with h | h
      · left; rw [← h]; exact hb
      · right; rw [h] at hb; simp at hb; omega
    have E := Ext.set (w' := w') (o' := appObj o k cs) (hv := v') R hsg hgr.size hbo hn (by rw [hsig]; exact ⟨rfl, by omega, fun h => by omega⟩) (fun h => by rw [hsig] at h; simp at h) hgr.os hgr.tape hgr.output
    have hO := hOR (hset m id v') w' v' news hC hown' E
    refine ⟨v', w', hset m id v', hrun, ?_, R.set hsg hbo hn E hO, E⟩
    have hs' : sg (H.set id (appObj o k cs)) id = some (.r (ver + 1) sz (n + k)) := by rw [sg_set_same hid, hsig]
    refine .rref _ _ _ _ _ (own_SlOf (e := e) hown').2 (by simpa using hid) (fun v0 sz' N h => by rw [hs'] at h; simp at h; omega) fun sz' N h => ?_
    rw [hs'] at h
    simp at h
    obtain ⟨rfl, rfl⟩ := h
    simp only [hset, if_true]
    exact (own_SlOf hown').1
  cases o <;> (try dsimp only at hp) <;> try exact hp.elim
  · rename_i v' e' sz n' ds
    obtain ⟨rfl, rfl, rfl, hsz, hcl⟩ := hp
    obtain ⟨vs, hown, hvl, hv, h1⟩ := R.obj id _ ho
    have hC0 : Cl m H w vs ds := ⟨hvl, hv, h1⟩
    refine main sz vs ds hsz (by simp [sg, ho, Obj.sig]) hown hcl (fun m' w' v'' news hC hown' E => ?_) rfl
    obtain ⟨c1, c2, c3⟩ := hC0.append hC
    exact ⟨_, hown', c1, fun j hj => (c2 j hj).ext E, c3⟩
  · rename_i v' e' kd xs
    obtain ⟨rfl, rfl, rfl, hsz, hcl, hall⟩ := hp
    have hown := R.obj id _ ho
    have ecs := allInt_spec hall
    refine main 1 (xs.map fun x => .int kd x) [] hsz (by simp [sg, ho, Obj.sig]) hown (by omega) (fun m' w' v'' news hC hown' E => ?_) (by simp [appObj, Obj.sig, numsOf_length, hcl])
    rw [ecs] at hC
    have en := hC.ints
    show w'.ownsRow 0 _ 1 _ (xs ++ numsOf cs).length ((xs ++ numsOf cs).map fun x => .int kd x)
    rw [List.map_append, List.length_append, numsOf_length, hcl]
    rw [en] at hown'
    exact hown'

/-! ### append where nothing is behind the length -/
theorem q_appendT {t ty : TypeId} {n k sz : Nat} {x y : AV} {u v : Value} {cs ds : List AV} (R : Rel m H w) (hx : VR m H w x u) (hy : VR m H w y v) (hxs : x = .nils ∧ n = 0 ∧ ds = [] ∨ x = .sl true n ds) (hs : srcA H y = some (k, cs)) (hk : (tyI P t).kind = .slice (elemOf' (tyI P t)))
    (hz0 : 0 < (tyI P (elemOf' (tyI P t))).zero.length) (hz1 : (tyI P (elemOf' (tyI P t))).zero.length = (tyI P (elemOf' (tyI P t))).size) (hsz : (tyI P (elemOf' (tyI P t))).size = sz) (hdl : ds.length = n * sz) (hcl : cs.length = k * sz) (h63 : n + k ≤ 4611686018427387903) (hby : (n + k) * (tyI P (elemOf' (tyI P t))).bytes ≤ 140737488355328) :
    QS P m H w (Builtin.append_ #[t, t] ty #[u, v]) (.sl false (n + k) (ds ++ cs)) := by
  generalize elemOf' (tyI P t) = e at *
  obtain ⟨inf, z, hinf, hz, ez⟩ := zero_info hz0
  obtain ⟨eby, esz⟩ := bytes_info hinf
  rw [← eby] at hby
  obtain ⟨a, c, news, rfl, hC, hnone, hnews⟩ := src_spec (sz := sz) R hy hs hcl (by omega)
  have hnl : news.length = k * sz := hC.1.trans hcl
  have hm63 : n + k ≤ maxLen := by unfold maxLen; omega
  obtain ⟨a0, olds, rfl, hC0, hn0, holds⟩ : ∃ a0 olds, u = .slice a0 n n ∧ Cl m H w olds ds ∧ (a0 = none → olds = []) ∧ (∀ ad, a0 = some ad → ∀ j v, olds[j]? = some v → w.cell? (ad.add j) = some v) := by
    rcases hxs with ⟨rfl, rfl, rfl⟩ | rfl
    · cases hx
      exact ⟨none, [], rfl, ⟨rfl, fun j hj => by simp at hj, fun j hj => by simp at hj⟩, fun _ => rfl, fun ad h => by cases h⟩
    · obtain ⟨a0, c0, olds, e0, h1, h2, h3⟩ := src_spec (sz := sz) (n := n) (cs := ds) R hx rfl hdl (by omega)
      have : c0 = n := by
        cases hx with
        | sl _ _ _ a c cv hn hc hm ht h hv h1 => simp at e0; rw [← e0.2]; exact ht rfl
      subst this
      exact ⟨a0, olds, e0, h1, fun h => (h2 h).2.2.1, h3⟩
  have hol : olds.length = n * sz := hC0.1.trans hdl
  have hsrc : Src P inf.size t (.slice a k c) k news w := by
    rw [esz, hsz]
    cases a with
    | none => obtain ⟨rfl, rfl, rfl, _⟩ := hnone rfl; exact Src.ofNil w (kind_slice hk) 0
    | some ad => exact Src.ofSlice w (kind_slice hk) ad k c news hnl (hnews ad rfl) hC.one
  rcases Nat.eq_zero_or_pos k with rfl | hkp
  · -- nothing is appended
    have hcs : cs = [] := List.eq_nil_of_length_eq_zero (by rw [hcl, Nat.zero_mul])
    subst hcs
    refine QS.here R (v := .slice a0 n n) ?_ ?_
    · rcases hsrc.kind with ⟨e', hk'⟩ | hk'
      · have hnews0 : news = [] := List.eq_nil_of_length_eq_zero (by rw [hnl, Nat.zero_mul])
        have hcc := hsrc.cells
        rw [hnews0] at hcc
        cases a0 with
        | none =>
          have : n = 0 := by
            have h0 := hn0 rfl
            rw [h0] at hol
            rcases Nat.eq_zero_or_pos n with h | h
            · exact h
            · have := Nat.mul_pos h (show 0 < sz by omega); simp at hol; omega
          subst this
          simp [Builtin.append_, run_underlying (kind_slice hk), sizeOf, typeInfo, hinf, hsrc.len, hcc]
        | some ad =>
          have hst : (storeCells (ad.add (n * inf.size)) [] 0).run P w = .ok () w := by simp [storeCells]
          simp [Builtin.append_, run_underlying (kind_slice hk), sizeOf, typeInfo, hinf, hsrc.len, hcc, storeCells]
      · rw [kind_slice hk] at hk'; cases hk'
    · rw [List.append_nil, Nat.add_zero]
      rcases hxs with ⟨rfl, rfl, rfl⟩ | rfl
      · cases hx
        exact .sl _ _ _ _ _ (fun _ => undef) (fun _ => rfl) (Nat.le_refl _) (by unfold maxLen; omega) (by simp) (.inl rfl) (fun j hj => by simp at hj) (fun j hj => by simp at hj)
      · cases hx with
        | sl _ _ _ a c cv hn hc hm ht h hv h1 => exact .sl _ _ _ _ _ cv hn hc hm (by simp) h hv h1
  · have hold : (Builtin.firstCells inf.size n (.slice a0 n n)).run P w.drew = .ok olds.toArray w.drew := by
      rw [esz, hsz]
      cases a0 with
      | none =>
        rw [hn0 rfl]
        exact run_firstCells_none w.drew sz n n n
      | some ad => exact run_firstCells_some w.drew sz n ad n n olds hol (by simpa using holds ad rfl)
    have hg : n < n + k := by omega
    have hrun := run_append_grow_src (P := P) w t t ty e inf z (kind_slice hk) hinf hz a0 n n olds hold (.slice a k c) k news hsrc hg (by omega) (growslice_fits hg hby)
    generalize hcap : grownCap w (n + k) n e = cap at hrun
    have hge : n + k ≤ cap := by rw [← hcap]; exact grownCap_ge w (n + k) n e
    have hle : cap ≤ maxLen := by rw [← hcap]; exact grownCap_le_maxLen w (n + k) n e hm63
    have hCC := hC0.append hC
    generalize hbk : (olds ++ news).toArray ++ Builtin.zeroCells z.cells (cap - (n + k)) = blk' at hrun
    have E : Ext m H w m H (w.drew.alloc (.cells blk' e)) := Ext.same (by simp) (fun b hb => by rw [Below.heap_alloc _ _ _ (by simpa using hb)]; rfl) rfl rfl rfl
    refine ⟨_, _, hrun, ?_, R.same (by simp) (fun b hb => by rw [Below.heap_alloc _ _ _ (by simpa using hb)]; rfl) rfl rfl rfl, E⟩
    refine .sl _ _ _ _ _ (fun j => (olds ++ news).getD j undef) (by simp) hge hle (by simp) (.inr ⟨w.heap.size, 0, rfl, imm_new R (by simp), fun j hj => ?_⟩) (fun j hj => (hCC.2.1 j hj).ext E) hCC.2.2
    have hj' : j < (olds ++ news).length := by rw [hCC.1]; exact hj
    have e1 : w.heap.size = w.drew.heap.size := rfl
    rw [Nat.zero_add, e1, World.cell?_alloc_new, ← hbk]
    have hj2 : j < olds.length + news.length := by simpa using hj'
    simp [Array.getElem?_append, hj2, List.getD]

end Go.Av
end

section
set_option linter.unusedVariables false
set_option linter.unusedSimpArgs false
open Go.RowKit
namespace Go.Av
variable {P : Program} {m : Hand} {H : Heap} {w : World}

theorem take_splice {α : Type} (cur C : List α) (i N : Nat) (h : i + C.length ≤ N) (hN : N ≤ cur.length) :
    (cur.take i ++ C ++ cur.drop (i + C.length)).take N = (cur.take N).take i ++ C ++ (cur.take N).drop (i + C.length) := by
  rw [List.take_append, List.take_take, Nat.min_eq_left (by omega : i ≤ N)]
  have e1 : (cur.take i ++ C).length = i + C.length := by simp; omega
  rw [e1, List.take_of_length_le (by omega), List.drop_take]

/-- a store into an element of a row of cells, and what both kinds of rows have in common -/
theorem own_store {e : TypeId} {sz n i : Nat} {hv : Value} {vs : List Value} {b c : Nat} (h : w.ownsRow 0 e sz hv n vs) (hm : hv = .slice (some ⟨b, 0, none⟩) n c) (C : List Value) (hl : i + C.length ≤ vs.length) (hC : ∀ u ∈ C, u.oneCell' = true) :
    ∃ w', (storeCells ⟨b, i, none⟩ C).run P w = .ok () w' ∧ w'.ownsRow 0 e sz hv n (vs.take i ++ C ++ vs.drop (i + C.length)) ∧ w'.heap.size = w.heap.size ∧ (∀ b', b' ≠ b → w'.heap[b']? = w.heap[b']?) ∧ w'.os = w.os ∧ w'.tape = w.tape ∧ w'.output = w.output := by
  subst hm
  obtain ⟨h1, h2⟩ := h
  rcases h2 with ⟨h2, _⟩ | ⟨g, cap, cur, h2, h3, hh, h4, h5, h6, h7⟩
  · cases h2
  · simp only [Value.slice.injEq, Option.some.injEq, Addr.mk.injEq, and_true] at h2
    obtain ⟨rfl, -, rfl⟩ := h2
    have hle : n * sz ≤ cur.size := by rw [h6]; exact Nat.mul_le_mul_right _ h4
    have hrun := run_storeCells_at (P := P) b i e C 0 cur w hh (by omega) hC
    simp only [Nat.add_zero] at hrun
    refine ⟨_, hrun, ⟨?_, .inr ⟨b, c, _, rfl, h3, setRow_at w b cur _ e _ hh, h4, h5, ?_, ?_⟩⟩, by simp [World.setRow], fun b' hb' => setRow_ne w b b' _ hb', rfl, rfl, rfl⟩
    · simp; omega
    · simp; omega
    · rw [← h7]
      exact take_splice _ _ _ _ (by omega) (by simpa using hle)

theorem Cl.splice {c C : List Value} {cs l : List AV} {i : Nat} (h : Cl m H w c cs) (k : Cl m H w C l) : Cl m H w (c.take i ++ C ++ c.drop (i + C.length)) (spliceA cs i l) := by
  have := ((h.take i).append k).append (h.drop (i + l.length))
  rw [k.1]
  exact this

theorem eptr_val {id ver i : Nat} {u : Value} {sz n : Nat} (hp : VR m H w (.eptr id ver i) u) (hs : sg H id = some (.r ver sz n)) : ∃ b c, m id = .slice (some ⟨b, 0, none⟩) n c ∧ u = .pointer (some ⟨b, i, none⟩) := by
  cases hp with
  | eptr _ _ _ _ ho hl hle h => exact h sz n hs

theorem e_store_row {T : TypeId} {id ver i e sz n : Nat} {x : AV} {u v : Value} {cs : List AV} (R : Rel m H w) (hp : VR m H w (.eptr id ver i) u) (hx : VR m H w x v) (ho : x.clOk = true) (hc : H[id]? = some (.row ver e sz n cs)) (hsz : (tyI P T).size = x.cl.length) (hk : (tyI P T).kind ≠ .other) (hl : i + x.cl.length ≤ cs.length) :
    ∃ w' m', (Instr.storeAt T u v).run P w = .ok () w' ∧ Rel m' (H.set id (.row ver e sz n (spliceA cs i x.cl))) w' ∧ Ext m H w m' (H.set id (.row ver e sz n (spliceA cs i x.cl))) w' := by
  have hsg : sg H id = some (.r ver sz n) := by simp [sg, hc, Obj.sig]
  obtain ⟨b, c, hm, rfl⟩ := eptr_val hp hsg
  obtain ⟨d, ii, hu, _, hi, hisz⟩ := kind_under hk
  have C := Cl.of hx ho
  obtain ⟨vs, hown, hvl, hv, h1⟩ := R.obj id _ hc
  have C0 : Cl m H w vs cs := ⟨hvl, hv, h1⟩
  have hCl : v.cells.toList.length = x.cl.length := C.1
  have hvs : v.cells.size = x.cl.length := by simpa using C.1
  obtain ⟨w', hrun, hown', s1, s2, s3, s4, s5⟩ := own_store (P := P) (i := i) hown hm v.cells.toList (by omega) C.one
  have CN := C0.splice (i := i) C
  have hblk : blk (m id) = some b := by rw [hm]; rfl
  have hbo : ∀ b', b' < w.heap.size → blk (m id) ≠ some b' → w'.heap[b']? = w.heap[b']? := fun b' _ hne => s2 b' (fun e => hne (by rw [hblk, e]))
  have hlenA : (spliceA cs i x.cl).length = cs.length := spliceA_length hl
  have E := Ext.set (w' := w') (o' := .row ver e sz n (spliceA cs i x.cl)) (hv := m id) R hsg (by omega) hbo (fun b' h => .inl h) (by simp [Obj.sig, Later, Sig.le]) (fun _ => rfl) s3 s4 s5
  refine ⟨w', hset m id (m id), ?_, R.set hsg hbo (fun b' h => .inl h) E ?_, E⟩
  · have hsr := run_sizeOf' (w := w) T hi
    simp only [Instr.storeAt, Instr.sureAddr, storeVar, Sem.run_bind, Sem.run_pure, Result.andThen_ok, hsr]
    rw [if_neg (by simp; omega)]
    exact hrun
  · obtain ⟨n1, n2, n3⟩ := CN
    exact ⟨_, hown', n1, fun j hj => (n2 j hj).ext E, n3⟩

theorem e_store_nrow {T : TypeId} {id ver i e : Nat} {k : IntKind} {a : Int} {u v : Value} {xs : List Int} (R : Rel m H w) (hp : VR m H w (.eptr id ver i) u) (hx : VR m H w (.int k a) v) (hc : H[id]? = some (.nrow ver e k xs)) (hsz : (tyI P T).size = 1) (hk : (tyI P T).kind ≠ .other) (hl : i < xs.length) :
    ∃ w' m', (Instr.storeAt T u v).run P w = .ok () w' ∧ Rel m' (H.set id (.nrow ver e k (xs.set i a))) w' ∧ Ext m H w m' (H.set id (.nrow ver e k (xs.set i a))) w' := by
  have hsg : sg H id = some (.r ver 1 xs.length) := by simp [sg, hc, Obj.sig]
  obtain ⟨b, c, hm, rfl⟩ := eptr_val hp hsg
  obtain ⟨d, ii, hu, _, hi, hisz⟩ := kind_under hk
  cases hx
  have hown := R.obj id _ hc
  obtain ⟨w', hrun, hown', s1, s2, s3, s4, s5⟩ := own_store (P := P) (i := i) hown hm [.int k a] (by simp; omega) (by simp [Value.oneCell'])
  have hblk : blk (m id) = some b := by rw [hm]; rfl
  have hbo : ∀ b', b' < w.heap.size → blk (m id) ≠ some b' → w'.heap[b']? = w.heap[b']? := fun b' _ hne => s2 b' (fun e => hne (by rw [hblk, e]))
  have E := Ext.set (w' := w') (o' := .nrow ver e k (xs.set i a)) (hv := m id) R hsg (by omega) hbo (fun b' h => .inl h) (by simp [Obj.sig, Later, Sig.le]) (fun _ => rfl) s3 s4 s5
  refine ⟨w', hset m id (m id), ?_, R.set hsg hbo (fun b' h => .inl h) E ?_, E⟩
  · have hsr := run_sizeOf' (w := w) T hi
    simp only [Instr.storeAt, Instr.sureAddr, storeVar, Sem.run_bind, Sem.run_pure, Result.andThen_ok, hsr]
    rw [if_neg (by simp [Value.cells]; omega)]
    exact hrun
  · show w'.ownsRow 0 e 1 _ (xs.set i a).length _
    rw [List.length_set]
    have e1 : (xs.map (Value.int k)).take i ++ [Value.int k a] ++ (xs.map (Value.int k)).drop (i + [Value.int k a].length) = (xs.set i a).map (Value.int k) := by
      rw [List.map_set, List.set_eq_take_append_cons_drop, if_pos (by simpa using hl)]
      simp
    rw [e1] at hown'
    exact hown'

/-- a row that nobody writes any more is a value -/
theorem freeze_n {id ver off n e : Nat} {k : IntKind} {xs : List Int} {v : Value} (R : Rel m H w) (hc : H[id]? = some (.nrow ver e k xs)) (hv : VR m H w (.rref id ver off n) v) :
    VR m (H.set id .dead) w (.nums k false ((xs.drop off).take n)) v := by
  have hsg : sg H id = some (.r ver 1 xs.length) := by simp [sg, hc, Obj.sig]
  have hlt := (List.getElem?_eq_some_iff.1 hc).1
  obtain ⟨R', E⟩ := e_kill R hsg
  cases hv with
  | rref _ _ _ _ _ ho hl hle h =>
    obtain ⟨hon, a, c, rfl, h1, h2, h3, h4, h5⟩ := h 1 xs.length hsg
    have hlen : ((xs.drop off).take n).length = n := by simp; omega
    have key : ∀ y, y = Value.slice a ((xs.drop off).take n).length c → VR m (H.set id .dead) w (.nums k false ((xs.drop off).take n)) y := by
      rintro _ rfl
      refine .nums k false _ a c h1 (by omega) h3 (by simp) ?_
      by_cases hn : n = 0
      · left; apply List.eq_nil_of_length_eq_zero; omega
      · right
        obtain ⟨b, c0, hm, rfl⟩ := h4 (by omega)
        have hown := R.obj id _ hc
        refine ⟨b, off * 1, rfl, ⟨R.mut_lt ⟨id, by simp [hsg], by rw [hm]; rfl⟩, ?_⟩, fun j hj => ?_⟩
        · rintro ⟨i, hi, hb⟩
          by_cases e : i = id
          · subst e; rw [sg_set_same hlt] at hi; exact hi rfl
          · rw [sg_set_ne e] at hi
            exact e (R.one i id b hi (by simp [hsg]) hb (by rw [hm]; rfl))
        · have := own_cell hown hm (off + j) (by simp; omega)
          rw [Nat.mul_one, this]
          simp only [List.getD]
          rw [List.getElem?_map, List.getElem?_eq_getElem (by omega : off + j < xs.length)]
          simp
    exact key _ (by rw [hlen])

theorem freeze_r {id ver off n e sz N : Nat} {cs : List AV} {v : Value} (R : Rel m H w) (hc : H[id]? = some (.row ver e sz N cs)) (hv : VR m H w (.rref id ver off n) v) :
    VR m (H.set id .dead) w (.sl false n ((cs.drop (off * sz)).take (n * sz))) v := by
  have hsg : sg H id = some (.r ver sz N) := by simp [sg, hc, Obj.sig]
  have hlt := (List.getElem?_eq_some_iff.1 hc).1
  obtain ⟨R', E⟩ := e_kill R hsg
  obtain ⟨vs, hown, hvl, hvv, hv1⟩ := R.obj id _ hc
  cases hv with
  | rref _ _ _ _ _ ho hl hle h =>
    obtain ⟨hon, a, c, rfl, h1, h2, h3, h4, h5⟩ := h sz N hsg
    have hNs : cs.length = N * sz := hvl.symm.trans hown.1
    have hle2 : off * sz + n * sz ≤ cs.length := by rw [hNs, ← Nat.add_mul]; exact Nat.mul_le_mul_right _ hon
    have hlen : ((cs.drop (off * sz)).take (n * sz)).length = n * sz := by simp; omega
    refine .sl false n _ a c (fun j => vs.getD (off * sz + j) undef) h1 h2 h3 (by simp) ?_ (fun j hj => ?_) (fun j hj => ?_)
    · by_cases hn : n = 0
      · left; apply List.eq_nil_of_length_eq_zero; rw [hlen, hn, Nat.zero_mul]
      · right
        obtain ⟨b, c0, hm, rfl⟩ := h4 (by omega)
        refine ⟨b, off * sz, rfl, ⟨R.mut_lt ⟨id, by simp [hsg], by rw [hm]; rfl⟩, ?_⟩, fun j hj => ?_⟩
        · rintro ⟨i, hi, hb⟩
          by_cases e : i = id
          · subst e; rw [sg_set_same hlt] at hi; exact hi rfl
          · rw [sg_set_ne e] at hi
            exact e (R.one i id b hi (by simp [hsg]) hb (by rw [hm]; rfl))
        · exact own_cell hown hm (off * sz + j) (by omega)
    · rw [hlen] at hj
      have e1 : ((cs.drop (off * sz)).take (n * sz))[j] = cs[off * sz + j]'(by omega) := by simp
      rw [e1]
      exact (hvv (off * sz + j) (by omega)).ext E
    · rw [hlen] at hj
      exact hv1 _ (by omega)

end Go.Av
end

section
set_option linter.unusedVariables false
set_option linter.unusedSimpArgs false
open Go.RowKit Go.MapKept
namespace Go.Av
variable {P : Program} {m : Hand} {H : Heap} {w : World}

/-! maps: keys are integers, strings, or structs of two strings -/
inductive KK where
  | int (k : IntKind)
  | str
  | s2 (a b : TypeId)

def isStrT (P : Program) (t : TypeId) : Bool := match P.underlying t with | some .string => true | _ => false
def kkOf (P : Program) (t : TypeId) : Option KK :=
  match P.underlying t with
  | some (.int k) => some (.int k)
  | some .string => some .str
  | some (.struct fs) => (match fs.toList with
    | [f, g] => bif f.name != "_" && (g.name != "_" && (Nat.beq f.offset 0 && (Nat.beq g.offset 1 && (isStrT P f.type && (isStrT P g.type && !P.stoodInHeld t))))) then some (.s2 f.type g.type) else none
    | _ => none)
  | _ => none
def kTy : KK → AV → Bool
  | .int k, .int k' _ => k == k'
  | .str, .str _ => true
  | .s2 _ _, .agg [.str _, .str _] => true
  | _, _ => false
def keq : AV → AV → Bool
  | .int _ a, .int _ b => a == b
  | .str a, .str b => decide (a = b)
  | .agg [.str a, .str b], .agg [.str c, .str d] => decide (a = c) && decide (b = d)
  | _, _ => false
def kv : AV → Value
  | .int k n => .int k n
  | .str s => .string s
  | .agg [.str a, .str b] => .agg #[.string a, .string b]
  | _ => undef

theorem kTy_s2 {a b : TypeId} {x : AV} (h : kTy (.s2 a b) x = true) : ∃ s t, x = .agg [.str s, .str t] := by
  unfold kTy at h
  split at h <;> simp_all
theorem kTy_int {k : IntKind} {x : AV} (h : kTy (.int k) x = true) : ∃ n, x = .int k n := by
  unfold kTy at h
  split at h <;> simp_all
theorem kTy_str {x : AV} (h : kTy .str x = true) : ∃ s, x = .str s := by
  unfold kTy at h
  split at h <;> simp_all

theorem kTy_val {kk : KK} {x : AV} {v : Value} (h : kTy kk x = true) (hv : VR m H w x v) : v = kv x := by
  unfold kTy at h
  split at h
  · cases hv; rfl
  · cases hv; rfl
  · cases hv with
    | agg cs vs hl hv h1 =>
      have e0 := hv 0 (by simp)
      have e1 := hv 1 (by simp)
      simp only [List.getElem_cons_zero, List.getElem_cons_succ] at e0 e1
      match vs, hl, e0, e1 with
      | ⟨[u0, u1]⟩, _, e0, e1 =>
        simp [Array.getD] at e0 e1
        cases e0; cases e1
        rfl
  · simp at h

theorem keq_val {kk : KK} {x y : AV} (hx : kTy kk x = true) (hy : kTy kk y = true) : keq x y = true ↔ kv x = kv y := by
  cases kk with
  | int k =>
    obtain ⟨n, rfl⟩ := kTy_int hx
    obtain ⟨n', rfl⟩ := kTy_int hy
    simp [keq, kv]
  | str =>
    obtain ⟨n, rfl⟩ := kTy_str hx
    obtain ⟨n', rfl⟩ := kTy_str hy
    simp [keq, kv]
  | s2 a b =>
    obtain ⟨s, t, rfl⟩ := kTy_s2 hx
    obtain ⟨s', t', rfl⟩ := kTy_s2 hy
    simp [keq, kv]

structure IsS2 (P : Program) (t : TypeId) (f g : Field) : Prop where
  und : P.underlying t = some (.struct #[f, g])
  nf : (f.name = "_") = False
  ng : (g.name = "_") = False
  of : f.offset = 0
  og : g.offset = 1
  sf : P.underlying f.type = some .string
  sg : P.underlying g.type = some .string
  st : P.stoodInHeld t = false

theorem isStrT_spec {t : TypeId} (h : isStrT P t = true) : P.underlying t = some .string := by
  unfold isStrT at h
  split at h <;> simp_all

theorem kk_s2 {t a b : TypeId} (h : kkOf P t = some (.s2 a b)) : ∃ f g, IsS2 P t f g := by
  unfold kkOf at h
  split at h <;> try (simp at h; done)
  rename_i fs hu
  split at h
  · rename_i f g hfs
    have hfs' : fs = #[f, g] := by apply Array.ext'; simpa using hfs
    subst hfs'
    cases hb : (f.name != "_" && (g.name != "_" && (Nat.beq f.offset 0 && (Nat.beq g.offset 1 && (isStrT P f.type && (isStrT P g.type && !P.stoodInHeld t)))))) with
    | false => rw [hb] at h; simp at h
    | true =>
      simp only [Bool.and_eq_true, bne_iff_ne, Bool.not_eq_true'] at hb
      obtain ⟨h1, h2, h3, h4, h5, h6, h7⟩ := hb
      exact ⟨f, g, hu, by simpa using h1, by simpa using h2, Nat.eq_of_beq_eq_true h3, Nat.eq_of_beq_eq_true h4, isStrT_spec h5, isStrT_spec h6, h7⟩
  · simp at h
theorem kk_int {t : TypeId} {k : IntKind} (h : kkOf P t = some (.int k)) : P.underlying t = some (.int k) := by
  unfold kkOf at h
  split at h
  · simp at h; simp_all
  · simp at h
  · split at h
    · rename_i f g _
      revert h
      cases (f.name != "_" && (g.name != "_" && (Nat.beq f.offset 0 && (Nat.beq g.offset 1 && (isStrT P f.type && (isStrT P g.type && !P.stoodInHeld t)))))) <;> simp
    · simp at h
  · simp at h
theorem kk_str {t : TypeId} (h : kkOf P t = some .str) : P.underlying t = some .string := by
  unfold kkOf at h
  split at h
  · simp at h
  · assumption
  · split at h
    · rename_i f g _
      revert h
      cases (f.name != "_" && (g.name != "_" && (Nat.beq f.offset 0 && (Nat.beq g.offset 1 && (isStrT P f.type && (isStrT P g.type && !P.stoodInHeld t)))))) <;> simp
    · simp at h
  · simp at h

theorem run_part_str {t : TypeId} {cs : Array Value} {off : Nat} {v : Value} (h : P.underlying t = some .string) (hc : cs[off]? = some v) : (part t cs off).run P w = .ok v w := by
  simp [part, isAgg, run_underlying h, hc]

theorem run_check2 {kt : TypeId} {kk : KK} {x : AV} (hk : kkOf P kt = some kk) (hx : kTy kk x = true) (e : Bool) : (Instr.checkKey e 10000 kt (kv x)).run P w = .ok () w := by
  cases kk with
  | int k =>
    obtain ⟨n, rfl⟩ := kTy_int hx
    exact run_checkKey (kk_int hk) (by simp [IsKey, kv]) e 9999
  | str =>
    obtain ⟨n, rfl⟩ := kTy_str hx
    exact run_checkKey (kk_str hk) (by simp [IsKey, kv]) e 9999
  | s2 a b =>
    obtain ⟨f, g, h⟩ := kk_s2 hk
    obtain ⟨s, t, rfl⟩ := kTy_s2 hx
    have p1 := run_part_str (w := w) (cs := #[.string s, .string t]) (off := f.offset) (v := .string s) h.sf (by simp [h.of])
    have p2 := run_part_str (w := w) (cs := #[.string s, .string t]) (off := g.offset) (v := .string t) h.sg (by simp [h.og])
    have c : ∀ (n : Nat) (tt : TypeId) (u : ByteArray), P.underlying tt = some .string → (Instr.checkKey e (n + 1) tt (.string u)).run P w = .ok () w := fun n tt u ht => run_checkKey ht (by simp [IsKey]) e n
    have main : ∀ n, (Instr.checkKey e (n + 1 + 1) kt (.agg #[.string s, .string t])).run P w = .ok () w := fun n => by
      rw [Instr.checkKey]
      simp [run_underlying h.und, h.nf, h.ng, p1, p2, c n f.type s h.sf, c n g.type t h.sg]
    exact main 9998

theorem bytes_dec (a b : ByteArray) : (a == b) = decide (a = b) := by
  rw [Bool.eq_iff_iff, bytes_beq]; simp

theorem run_equal2 {kt : TypeId} {a b : TypeId} {x y : AV} (hk : kkOf P kt = some (.s2 a b)) (hx : kTy (.s2 a b) x = true) (hy : kTy (.s2 a b) y = true) : (Op.equal kt (kv x) (kv y)).run P w = .ok (keq x y) w := by
  obtain ⟨f, g, h⟩ := kk_s2 hk
  obtain ⟨s, t, rfl⟩ := kTy_s2 hx
  obtain ⟨s', t', rfl⟩ := kTy_s2 hy
  have p1 := run_part_str (w := w) (cs := #[.string s, .string t]) (off := f.offset) (v := .string s) h.sf (by simp [h.of])
  have p2 := run_part_str (w := w) (cs := #[.string s, .string t]) (off := g.offset) (v := .string t) h.sg (by simp [h.og])
  have q1 := run_part_str (w := w) (cs := #[.string s', .string t']) (off := f.offset) (v := .string s') h.sf (by simp [h.of])
  have q2 := run_part_str (w := w) (cs := #[.string s', .string t']) (off := g.offset) (v := .string t') h.sg (by simp [h.og])
  have c : ∀ (n : Nat) (tt : TypeId) (u v : ByteArray), P.underlying tt = some .string → (Op.equalIn (n + 1) tt (.string u) (.string v)).run P w = .ok (u == v) w := fun n tt u v ht => by
    rw [Op.equalIn]
    simp [run_underlying ht]
  have main : ∀ n, (Op.equalIn (n + 1 + 1) kt (.agg #[.string s, .string t]) (.agg #[.string s', .string t'])).run P w = .ok (keq (.agg [.str s, .str t]) (.agg [.str s', .str t'])) w := fun n => by
    rw [Op.equalIn]
    simp only [bytes_dec] at c
    simp [run_underlying h.und, h.nf, h.ng, h.st, p1, p2, q1, q2, c n f.type s s' h.sf, c n g.type t t' h.sg, keq]
    by_cases e1 : s = s' <;> by_cases e2 : t = t' <;> simp [e1, e2]
  exact main 9998

def findI (kvs : List (Nat × AV × AV)) (x : AV) : Option Nat := kvs.findIdx? fun p => keq x p.2.1

/-- entries as machine and as objects -/
def ER (m : Hand) (H : Heap) (w : World) (es : List MapEntry) (kvs : List (Nat × AV × AV)) : Prop :=
  es.length = kvs.length ∧ ∀ j (h : j < kvs.length) (h' : j < es.length), es[j].born = kvs[j].1 ∧ VR m H w kvs[j].2.1 es[j].key ∧ VR m H w kvs[j].2.2 es[j].val

theorem OR.map_ER {v : Value} {ck : Nat} {kvs : List (Nat × AV × AV)} (h : OR m H w v (.map ck kvs)) : ∃ r es, v = .map (some r) ∧ w.heap[r]? = some (.map es ck) ∧ ER m H w es.toList kvs := by
  obtain ⟨r, es, h1, h2, h3, h4⟩ := h
  refine ⟨r, es, h1, h2, by simpa using h3, fun j hj hj' => ?_⟩
  have := h4 j hj
  have e : es.getD j default = es.toList[j] := by simp [Array.getD, show j < es.size by omega]
  rwa [e] at this
theorem ER.map_OR {r : Nat} {es : List MapEntry} {ck : Nat} {kvs : List (Nat × AV × AV)} (h2 : w.heap[r]? = some (.map es.toArray ck)) (h : ER m H w es kvs) : OR m H w (.map (some r)) (.map ck kvs) := by
  refine ⟨r, es.toArray, rfl, h2, by simpa using h.1, fun j hj => ?_⟩
  have hj' : j < es.length := by rw [h.1]; exact hj
  have := h.2 j hj hj'
  have e : es.toArray.getD j default = es[j] := by simp [Array.getD, hj']
  rwa [e]
theorem ER.tail {e : MapEntry} {es : List MapEntry} {p : Nat × AV × AV} {kvs : List (Nat × AV × AV)} (h : ER m H w (e :: es) (p :: kvs)) : e.born = p.1 ∧ VR m H w p.2.1 e.key ∧ VR m H w p.2.2 e.val ∧ ER m H w es kvs := by
  have h0 := h.2 0 (by simp) (by simp)
  simp only [List.getElem_cons_zero] at h0
  exact ⟨h0.1, h0.2.1, h0.2.2, by simpa using h.1, fun j hj hj' => h.2 (j + 1) (by simpa using hj) (by simpa using hj')⟩
theorem ER.cons {e : MapEntry} {es : List MapEntry} {p : Nat × AV × AV} {kvs : List (Nat × AV × AV)} (h1 : e.born = p.1) (h2 : VR m H w p.2.1 e.key) (h3 : VR m H w p.2.2 e.val) (h : ER m H w es kvs) : ER m H w (e :: es) (p :: kvs) := by
  refine ⟨by simpa using h.1, fun j hj hj' => ?_⟩
  cases j with
  | zero => exact ⟨h1, h2, h3⟩
  | succ j => exact h.2 j (by simpa using hj) (by simpa using hj')
theorem ER.ext {m' : Hand} {H' : Heap} {w' : World} (E : Ext m H w m' H' w') {es : List MapEntry} {kvs : List (Nat × AV × AV)} (h : ER m H w es kvs) : ER m' H' w' es kvs :=
  ⟨h.1, fun j hj hj' => ⟨(h.2 j hj hj').1, (h.2 j hj hj').2.1.ext E, (h.2 j hj hj').2.2.ext E⟩⟩
theorem ER.nil : ER m H w [] [] := ⟨rfl, fun j hj => absurd hj (Nat.not_lt_zero _)⟩

theorem ER.find {es : List MapEntry} {kvs : List (Nat × AV × AV)} {x : AV} {i : Nat} (h : ER m H w es kvs) (hf : findI kvs x = some i) : ∃ e p, es[i]? = some e ∧ kvs[i]? = some p ∧ keq x p.2.1 = true ∧ e.born = p.1 ∧ VR m H w p.2.1 e.key ∧ VR m H w p.2.2 e.val := by
  unfold findI at hf
  rw [List.findIdx?_eq_some_iff_getElem] at hf
  obtain ⟨hi, h1, _⟩ := hf
  have hi' : i < es.length := by rw [h.1]; exact hi
  exact ⟨es[i], kvs[i], List.getElem?_eq_getElem hi', List.getElem?_eq_getElem hi, by simpa using h1, h.2 i hi hi'⟩

def resOf (es : List MapEntry) (i : Nat) : Option Nat → Option (Nat × Value)
  | none => none
  | some j => some (i + j, (es.getD j default).val)

theorem run_asking {kt a b : TypeId} {x : AV} (hk : kkOf P kt = some (.s2 a b)) (hx : kTy (.s2 a b) x = true) : ∀ (es : List MapEntry) (kvs : List (Nat × AV × AV)) (i : Nat), ER m H w es kvs → (kvs.all fun p => kTy (.s2 a b) p.2.1) = true →
    (Instr.findAsking kt (kv x) es i).run P w = .ok (resOf es i (findI kvs x)) w
  | [], [], i, _, _ => by simp [Instr.findAsking, findI, resOf]
  | [], _ :: _, _, h, _ => by have := h.1; simp at this
  | _ :: _, [], _, h, _ => by have := h.1; simp at this
  | e :: es, p :: kvs, i, h, hall => by
    obtain ⟨h1, h2, h3, ht⟩ := h.tail
    simp only [List.all_cons, Bool.and_eq_true] at hall
    have he := kTy_val hall.1 h2
    have hr := run_equal2 (w := w) hk hx hall.1
    rw [← he] at hr
    have ih := run_asking hk hx es kvs (i + 1) ht hall.2
    simp only [Instr.findAsking, Sem.run_bind, hr, Result.andThen_ok]
    cases hq : keq x p.2.1 with
    | true => simp [findI, List.findIdx?_cons, hq, resOf]
    | false =>
      simp only [Bool.false_eq_true, if_false, ih]
      simp only [findI, List.findIdx?_cons, hq, Bool.false_eq_true, if_false]
      cases hf : List.findIdx? (fun p => keq x p.2.1) kvs with
      | none => simp [resOf]
      | some j => simp [resOf]; omega

theorem run_now {d : TypeDesc} {kk : KK} {x : AV} (hd : (∃ k, kk = .int k ∧ d = .int k) ∨ (kk = .str ∧ d = .string)) (hx : kTy kk x = true) : ∀ (es : List MapEntry) (kvs : List (Nat × AV × AV)) (i : Nat), ER m H w es kvs → (kvs.all fun p => kTy kk p.2.1) = true →
    Instr.findNow d (kv x) es i = some (resOf es i (findI kvs x))
  | [], [], i, _, _ => by simp [Instr.findNow, findI, resOf]
  | [], _ :: _, _, h, _ => by have := h.1; simp at this
  | _ :: _, [], _, h, _ => by have := h.1; simp at this
  | e :: es, p :: kvs, i, h, hall => by
    obtain ⟨h1, h2, h3, ht⟩ := h.tail
    simp only [List.all_cons, Bool.and_eq_true] at hall
    have he := kTy_val hall.1 h2
    have hr : Instr.sameNow d (kv x) e.key = some (keq x p.2.1) := by
      rw [he]
      have h1 := hall.1
      rcases hd with ⟨k, rfl, rfl⟩ | ⟨rfl, rfl⟩
      · obtain ⟨n, rfl⟩ := kTy_int hx
        obtain ⟨n', e'⟩ := kTy_int h1
        rw [e']
        simp [Instr.sameNow, kv, keq]
      · obtain ⟨s, rfl⟩ := kTy_str hx
        obtain ⟨t, e'⟩ := kTy_str h1
        rw [e']
        simp only [Instr.sameNow, kv, keq, bytes_dec]
    have ih := run_now hd hx es kvs (i + 1) ht hall.2
    simp only [Instr.findNow, hr]
    cases hq : keq x p.2.1 with
    | true => simp [findI, List.findIdx?_cons, hq, resOf]
    | false =>
      simp only [ih]
      simp only [findI, List.findIdx?_cons, hq, Bool.false_eq_true, if_false]
      cases hf : List.findIdx? (fun p => keq x p.2.1) kvs with
      | none => simp [resOf]
      | some j => simp [resOf]; omega

theorem run_find {kt : TypeId} {kk : KK} {x : AV} {es : List MapEntry} {kvs : List (Nat × AV × AV)} (hk : kkOf P kt = some kk) (hx : kTy kk x = true) (h : ER m H w es kvs) (hall : (kvs.all fun p => kTy kk p.2.1) = true) :
    (Instr.findKey kt (kv x) es).run P w = .ok (resOf es 0 (findI kvs x)) w := by
  cases kk with
  | int k => exact run_findKey (kk_int hk) (run_now (.inl ⟨k, rfl, rfl⟩) hx es kvs 0 h hall)
  | str => exact run_findKey (kk_str hk) (run_now (.inr ⟨rfl, rfl⟩) hx es kvs 0 h hall)
  | s2 a b =>
    obtain ⟨f, g, hs⟩ := kk_s2 hk
    have ha := run_asking hk hx es kvs 0 h hall
    cases es with
    | nil =>
      cases kvs with
      | nil => simp [Instr.findKey, run_underlying hs.und, Instr.findNow, findI, resOf]
      | cons => have := h.1; simp at this
    | cons e es =>
      have : Instr.findNow (.struct #[f, g]) (kv x) (e :: es) 0 = none := by
        simp [Instr.findNow, Instr.sameNow]
      simp [Instr.findKey, run_underlying hs.und, this, ha]

theorem sameBits_kv {kk : KK} {x : AV} (h : kTy kk x = true) : Instr.sameBits 10000 (kv x) (kv x) = true := by
  cases kk with
  | int k => obtain ⟨n, rfl⟩ := kTy_int h; simp [kv, Instr.sameBits]
  | str => obtain ⟨n, rfl⟩ := kTy_str h; simp [kv, Instr.sameBits, bytes_dec]
  | s2 a b =>
    obtain ⟨s, t, rfl⟩ := kTy_s2 h
    have main : ∀ n, Instr.sameBits (n + 1 + 1) (.agg #[.string s, .string t]) (.agg #[.string s, .string t]) = true := fun n => by
      simp [Instr.sameBits, bytes_dec]
    exact main 9998

/-! ### what maps come to -/
def keyT (tI : TI) : TypeId := match tI.kind with | .map k _ => k | _ => 0
def valT (tI : TI) : TypeId := match tI.kind with | .map _ e => e | _ => 0
def isMap (tI : TI) : Prop := match tI.kind with | .map _ _ => True | _ => False
theorem isMap_spec {t : TypeId} (h : isMap (tyI P t)) : P.underlying t = some (.map (keyT (tyI P t)) (valT (tyI P t))) := by
  unfold isMap at h
  cases hq : (tyI P t).kind <;> rw [hq] at h <;> first | exact h.elim | skip
  rw [kind_map hq]
  simp [keyT, valT, hq]
def zA (P : Program) (t : TypeId) : Option AV := ((P.info? t).bind (·.zero)).map ofV
def kOk (P : Program) (t : TypeId) (x : AV) (kvs : List (Nat × AV × AV)) : Prop :=
  match kkOf P t with
  | some kk => kTy kk x = true ∧ (kvs.all fun p => kTy kk p.2.1) = true
  | none => False
theorem kOk_spec {t : TypeId} {x : AV} {kvs : List (Nat × AV × AV)} (h : kOk P t x kvs) : ∃ kk, kkOf P t = some kk ∧ kTy kk x = true ∧ (kvs.all fun p => kTy kk p.2.1) = true := by
  unfold kOk at h
  split at h
  · rename_i kk hk; exact ⟨kk, hk, h⟩
  · exact h.elim

def getM (kvs : List (Nat × AV × AV)) (i : Nat) : AV := match kvs[i]? with | some p => p.2.2 | none => .junk
def updM (ck : Nat) (kvs : List (Nat × AV × AV)) (x v : AV) : Obj :=
  match findI kvs x with
  | some i => .map ck (kvs.modify i fun p => (p.1, p.2.1, v))
  | none => .map (ck + 1) (kvs ++ [(ck, x, v)])
def delM (ck : Nat) (kvs : List (Nat × AV × AV)) (x : AV) : Obj :=
  match findI kvs x with
  | some i => .map ck (kvs.eraseIdx i)
  | none => .map ck kvs

theorem mref_val {id ck : Nat} {kvs : List (Nat × AV × AV)} {v : Value} (R : Rel m H w) (h : VR m H w (.mref id) v) (hid : H[id]? = some (.map ck kvs)) : ∃ r es, v = .map (some r) ∧ m id = .map (some r) ∧ w.heap[r]? = some (.map es ck) ∧ ER m H w es.toList kvs := by
  obtain ⟨r, es, hm, hh, hE⟩ := (R.obj _ _ hid).map_ER
  cases h with
  | mref _ _ ho hl h =>
    have := h (sg_some hid)
    rw [hm] at this
    exact ⟨r, es, this, hm, hh, hE⟩

theorem e_makeMap {t : TypeId} (R : Rel m H w) : ES P m H w (Instr.makeMap t none) (.mref H.length) (H ++ [.map 0 []]) := by
  have hn : ∀ b, blk (.map (some w.heap.size)) = some b → w.heap.size ≤ b := fun b h => by simp [blk] at h; omega
  have hb : ∀ b, b < w.heap.size → (w.alloc (.map #[] 0)).heap[b]? = w.heap[b]? := fun b h => alloc_old w _ b h
  have E := Ext.push (w' := w.alloc (.map #[] 0)) R (.map (some w.heap.size)) (.map 0 []) (by simp) hb hn rfl rfl rfl
  have ho : OR (hset m H.length (.map (some w.heap.size))) (H ++ [.map 0 []]) (w.alloc (.map #[] 0)) (.map (some w.heap.size)) (.map 0 []) :=
    ER.map_OR (es := []) (by simp [World.alloc, -World.alloc_eq]) ER.nil
  exact ⟨_, _, _, run_makeMap t w, .mref _ _ rfl (by simp) (fun _ => by simp [hset]), R.push hn hb E ho, E⟩

theorem set_map {id ck ck' r : Nat} {kvs kvs' : List (Nat × AV × AV)} {es : Array MapEntry} {es' : List MapEntry} (R : Rel m H w) (hid : H[id]? = some (.map ck kvs)) (hm : m id = .map (some r)) (hh : w.heap[r]? = some (.map es ck)) (hE : ER m H w es' kvs') :
    ∃ m', Rel m' (H.set id (.map ck' kvs')) { w with heap := w.heap.setIfInBounds r (.map es'.toArray ck') } ∧ Ext m H w m' (H.set id (.map ck' kvs')) { w with heap := w.heap.setIfInBounds r (.map es'.toArray ck') } := by
  have hsg := sg_some hid
  have hblk : blk (m id) = some r := by rw [hm]; rfl
  have hbo : ∀ b', b' < w.heap.size → blk (m id) ≠ some b' → (w.heap.setIfInBounds r (.map es'.toArray ck'))[b']? = w.heap[b']? := fun b' _ hne =>
    (heap_set hh).2 b' fun e => hne (by rw [hblk, e])
  have E := Ext.set (w' := { w with heap := w.heap.setIfInBounds r (.map es'.toArray ck') }) (o' := .map ck' kvs') (hv := m id) R hsg (by simp) hbo (fun b' h => .inl h) (by simp [Obj.sig, Later, Sig.le]) (fun _ => rfl) rfl rfl rfl
  refine ⟨hset m id (m id), R.set hsg hbo (fun b' h => .inl h) E ?_, E⟩
  rw [hm]
  have := ER.map_OR (r := r) (es := es') (ck := ck') (heap_set hh (o' := .map es'.toArray ck')).1 (hE.ext E)
  rw [hm] at this
  exact this

theorem modify_at {α : Type} (f : α → α) : ∀ (l : List α) (i j : Nat), (l.modify i f)[j]? = (l[j]?).map fun x => if i = j then f x else x := by
  intro l i j
  rw [List.getElem?_modify]
  cases l[j]? <;> simp

theorem ER.modify {es : List MapEntry} {kvs : List (Nat × AV × AV)} {i : Nat} {f : MapEntry → MapEntry} {g : Nat × AV × AV → Nat × AV × AV} (h : ER m H w es kvs)
    (hf : ∀ e p, es[i]? = some e → kvs[i]? = some p → e.born = p.1 → VR m H w p.2.1 e.key → VR m H w p.2.2 e.val → (f e).born = (g p).1 ∧ VR m H w (g p).2.1 (f e).key ∧ VR m H w (g p).2.2 (f e).val) :
    ER m H w (es.modify i f) (kvs.modify i g) := by
  refine ⟨by simpa using h.1, fun j hj hj' => ?_⟩
  have a1 : j < kvs.length := by simpa using hj
  have a2 : j < es.length := by simpa using hj'
  have := h.2 j a1 a2
  rw [List.getElem_modify, List.getElem_modify]
  by_cases e : i = j
  · subst e
    simp only [if_true]
    exact hf _ _ (List.getElem?_eq_getElem a2) (List.getElem?_eq_getElem a1) this.1 this.2.1 this.2.2
  · simp only [if_neg e]
    exact this

theorem ER.push {es : List MapEntry} {kvs : List (Nat × AV × AV)} {e : MapEntry} {p : Nat × AV × AV} (h : ER m H w es kvs) (h1 : e.born = p.1) (h2 : VR m H w p.2.1 e.key) (h3 : VR m H w p.2.2 e.val) : ER m H w (es ++ [e]) (kvs ++ [p]) := by
  refine ⟨by simp [h.1], fun j hj hj' => ?_⟩
  by_cases hlt : j < kvs.length
  · have hlt' : j < es.length := by rw [h.1]; exact hlt
    rw [List.getElem_append_left hlt, List.getElem_append_left hlt']
    exact h.2 j hlt hlt'
  · have e1 : j = kvs.length := by simp at hj; omega
    subst e1
    have e2 : es.length = kvs.length := h.1
    rw [List.getElem_append_right (by omega), List.getElem_append_right (by omega)]
    simp only [e2, Nat.sub_self, List.getElem_cons_zero]
    exact ⟨h1, h2, h3⟩

theorem ER.erase {es : List MapEntry} {kvs : List (Nat × AV × AV)} (i : Nat) (h : ER m H w es kvs) : ER m H w (es.eraseIdx i) (kvs.eraseIdx i) := by
  refine ⟨by simp [List.length_eraseIdx, h.1], fun j hj hj' => ?_⟩
  rw [List.getElem_eraseIdx, List.getElem_eraseIdx]
  split
  · exact h.2 j _ _
  · exact h.2 (j + 1) _ _

theorem resOf_some {es : List MapEntry} {j : Nat} {e : MapEntry} (h : es[j]? = some e) : resOf es 0 (some j) = some (j, e.val) := by
  simp [resOf, List.getD, h]

theorem keyStays {kk : KK} {x : AV} {old : Value} (hx : kTy kk x = true) (h : old = kv x) : (Instr.keyThatStays old (kv x)).run P w = .ok (kv x) w := by
  subst h
  simp [Instr.keyThatStays, sameBits_kv hx]

theorem e_mapUpdate {t : TypeId} {id ck : Nat} {kvs : List (Nat × AV × AV)} {x y : AV} {a u v : Value} (R : Rel m H w) (ha : VR m H w (.mref id) a) (hx : VR m H w x u) (hy : VR m H w y v) (ht : isMap (tyI P t)) (hid : H[id]? = some (.map ck kvs)) (hk : kOk P (keyT (tyI P t)) x kvs) :
    ∃ w' m', (Instr.mapUpdate t a u v).run P w = .ok () w' ∧ Rel m' (H.set id (updM ck kvs x y)) w' ∧ Ext m H w m' (H.set id (updM ck kvs x y)) w' := by
  obtain ⟨r, es, rfl, hm, hh, hE⟩ := mref_val R ha hid
  obtain ⟨kk, hkk, hx1, hall⟩ := kOk_spec hk
  obtain rfl := kTy_val hx1 hx
  have hund := isMap_spec ht
  have hf := run_find (w := w) hkk hx1 hE hall
  have hc := run_check2 (w := w) hkk hx1 false
  cases hfi : findI kvs x with
  | none =>
    rw [hfi] at hf
    obtain ⟨m', R', E'⟩ := set_map (ck' := ck + 1) (kvs' := kvs ++ [(ck, x, y)]) (es' := es.toList ++ [{ key := kv x, val := v, born := ck }]) R hid hm hh (hE.push rfl hx hy)
    have ee : (es.toList ++ [{ key := kv x, val := v, born := ck }] : List MapEntry).toArray = es.push { key := kv x, val := v, born := ck } := by
      apply Array.ext'; simp
    rw [ee] at R' E'
    refine ⟨_, m', ?_, by rw [updM, hfi]; exact R', by rw [updM, hfi]; exact E'⟩
    simp only [Instr.mapUpdate, Sem.run_bind, run_underlying hund, Result.andThen_ok, MapKept.run_getObj_map hh, hc, hf, resOf, MapKept.run_setObj_map _ hh]
  | some i =>
    obtain ⟨e, p, he, hp, hq, hb, hk1, hv1⟩ := hE.find hfi
    rw [hfi, resOf_some he] at hf
    have hpk : kTy kk p.2.1 = true := (List.all_eq_true.1 hall) p (List.mem_of_getElem? hp)
    have hek : e.key = kv x := by rw [kTy_val hpk hk1]; exact ((keq_val hx1 hpk).1 hq).symm
    obtain ⟨m', R', E'⟩ := set_map (ck' := ck) (kvs' := kvs.modify i fun p => (p.1, p.2.1, y)) (es' := es.toList.modify i fun e => { e with key := kv x, val := v }) R hid hm hh
      (hE.modify (f := fun e => { e with key := kv x, val := v }) (g := fun p => (p.1, p.2.1, y)) fun e' p' h1 h2 h3 h4 h5 => ⟨h3, by
        rw [he] at h1; cases h1
        rw [hp] at h2; cases h2
        show VR m H w p.2.1 (kv x)
        rw [← hek]; exact h4, hy⟩)
    have ee : (es.toList.modify i fun e => { e with key := kv x, val := v } : List MapEntry).toArray = es.modify i fun e => { e with key := kv x, val := v } := by
      apply Array.ext'; simp
    rw [ee] at R' E'
    refine ⟨_, m', ?_, by rw [updM, hfi]; exact R', by rw [updM, hfi]; exact E'⟩
    have hg : ((es[i]?).map (·.key)).getD (kv x) = kv x := by
      have : es[i]? = some e := by simpa using he
      rw [this]; simpa using hek
    simp only [Instr.mapUpdate, Sem.run_bind, run_underlying hund, Result.andThen_ok, MapKept.run_getObj_map hh, hc, hf, hg, keyStays (w := w) (P := P) hx1 rfl, MapKept.run_setObj_map _ hh]

theorem run_zA {t : TypeId} {z : AV} (h : zA P t = some z) : ∃ v, (zeroValue t).run P w = .ok v w ∧ VR m H w z v := by
  unfold zA at h
  cases hi : P.info? t with
  | none => rw [hi] at h; simp at h
  | some i =>
    rw [hi] at h
    cases hz : i.zero with
    | none => simp [hz] at h
    | some v =>
      simp [hz] at h
      subst h
      exact ⟨v, run_zero hi hz, ofV_VR _ _ _ v⟩

def lookV (kvs : List (Nat × AV × AV)) (x z : AV) (ok : Bool) : AV :=
  match findI kvs x with
  | some i => bif ok then .tup [getM kvs i, .bool true] else getM kvs i
  | none => bif ok then .tup [z, .bool false] else z

theorem q_lookup {t : TypeId} {id ck : Nat} {kvs : List (Nat × AV × AV)} {x z : AV} {ok : Bool} {a u : Value} (R : Rel m H w) (ha : VR m H w (.mref id) a) (hx : VR m H w x u) (ht : isMap (tyI P t)) (hid : H[id]? = some (.map ck kvs)) (hk : kOk P (keyT (tyI P t)) x kvs) (hz : zA P (valT (tyI P t)) = some z) :
    QS P m H w (Instr.lookup t a u ok) (lookV kvs x z ok) := by
  obtain ⟨r, es, rfl, hm, hh, hE⟩ := mref_val R ha hid
  obtain ⟨kk, hkk, hx1, hall⟩ := kOk_spec hk
  obtain rfl := kTy_val hx1 hx
  have hund := isMap_spec ht
  have hf := run_find (w := w) hkk hx1 hE hall
  have hc := fun b => run_check2 (w := w) hkk hx1 b
  obtain ⟨zv, hz1, hz2⟩ := run_zA (m := m) (H := H) (w := w) hz
  have main : ∃ v b, (Instr.lookup t (.map (some r)) (kv x) ok).run P w = .ok (if ok then .tuple #[v, .bool b] else v) w ∧ (∀ y, VR m H w y v → lookV kvs x z ok = (bif ok then .tup [y, .bool b] else y) ∨ True) ∧ VR m H w (match findI kvs x with | some i => getM kvs i | none => z) v ∧ b = (findI kvs x).isSome := by
    cases hfi : findI kvs x with
    | none =>
      rw [hfi] at hf
      exact ⟨zv, false, by simp [Instr.lookup, run_underlying hund, MapKept.run_getObj_map hh, hc, hf, resOf, hz1], fun _ _ => .inr trivial, hz2, rfl⟩
    | some i =>
      obtain ⟨e, p, he, hp, hq, hb, hk1, hv1⟩ := hE.find hfi
      rw [hfi, resOf_some he] at hf
      refine ⟨e.val, true, by simp [Instr.lookup, run_underlying hund, MapKept.run_getObj_map hh, hc, hf], fun _ _ => .inr trivial, ?_, rfl⟩
      simp only [getM, hp]
      exact hv1
  obtain ⟨v, b, h1, _, h3, rfl⟩ := main
  refine QS.here R h1 ?_
  cases ok with
  | false =>
    have : lookV kvs x z false = (match findI kvs x with | some i => getM kvs i | none => z) := by
      unfold lookV; cases findI kvs x <;> rfl
    rw [this]; exact h3
  | true =>
    have : lookV kvs x z true = .tup [(match findI kvs x with | some i => getM kvs i | none => z), .bool (findI kvs x).isSome] := by
      unfold lookV; cases findI kvs x <;> rfl
    rw [this]
    refine .tup _ _ rfl fun j hj => ?_
    match j, hj with
    | 0, _ => exact h3
    | 1, _ => exact .bool _

theorem e_delete {t k2 ty : TypeId} {id ck : Nat} {kvs : List (Nat × AV × AV)} {x : AV} {a u : Value} (R : Rel m H w) (ha : VR m H w (.mref id) a) (hx : VR m H w x u) (ht : isMap (tyI P t)) (hid : H[id]? = some (.map ck kvs)) (hk : kOk P (keyT (tyI P t)) x kvs) :
    ES P m H w (Builtin.delete_ #[t, k2] ty #[a, u]) (.tup []) (H.set id (delM ck kvs x)) := by
  obtain ⟨r, es, rfl, hm, hh, hE⟩ := mref_val R ha hid
  obtain ⟨kk, hkk, hx1, hall⟩ := kOk_spec hk
  obtain rfl := kTy_val hx1 hx
  have hund := isMap_spec ht
  have hf := run_find (w := w) hkk hx1 hE hall
  have hc := fun b => run_check2 (w := w) hkk hx1 b
  cases hfi : findI kvs x with
  | none =>
    rw [hfi] at hf
    obtain ⟨m', R', E'⟩ := set_map (ck' := ck) (kvs' := kvs) (es' := es.toList) R hid hm hh hE
    rw [Array.toArray_toList] at R' E'
    refine ⟨.tuple #[], _, m', ?_, .tup _ _ rfl (fun j hj => absurd hj (Nat.not_lt_zero _)), by rw [delM, hfi]; exact R', by rw [delM, hfi]; exact E'⟩
    simp [Builtin.delete_, run_underlying hund, MapKept.run_getObj_map hh, hc, hf, resOf, MapKept.run_setObj_map _ hh]
  | some i =>
    obtain ⟨e, p, he, hp, hq, hb, hk1, hv1⟩ := hE.find hfi
    rw [hfi, resOf_some he] at hf
    obtain ⟨m', R', E'⟩ := set_map (ck' := ck) (kvs' := kvs.eraseIdx i) (es' := es.toList.eraseIdx i) R hid hm hh (hE.erase i)
    have ee : (es.toList.eraseIdx i).toArray = es.eraseIdxIfInBounds i := by
      have hi : i < es.size := by
        have := (List.getElem?_eq_some_iff.1 he).1
        simpa using this
      apply Array.ext'
      simp [Array.eraseIdxIfInBounds, hi]
    rw [ee] at R' E'
    refine ⟨.tuple #[], _, m', ?_, .tup _ _ rfl (fun j hj => absurd hj (Nat.not_lt_zero _)), by rw [delM, hfi]; exact R', by rw [delM, hfi]; exact E'⟩
    simp [Builtin.delete_, run_underlying hund, MapKept.run_getObj_map hh, hc, hf, MapKept.run_setObj_map _ hh]

/-! 'm[k] op= v': an entry is found or made, then stored by its stamp -/
def entV (ck : Nat) (kvs : List (Nat × AV × AV)) (x z : AV) : AV :=
  match findI kvs x with
  | some i => .tup [getM kvs i, .int .i64 (match kvs[i]? with | some p => p.1 | none => 0)]
  | none => .tup [z, .int .i64 ck]
def entM (ck : Nat) (kvs : List (Nat × AV × AV)) (x z : AV) : Obj :=
  match findI kvs x with
  | some i => .map ck kvs
  | none => .map (ck + 1) (kvs ++ [(ck, x, z)])

theorem e_mapEntry {t : TypeId} {id ck : Nat} {kvs : List (Nat × AV × AV)} {x z : AV} {a u : Value} (R : Rel m H w) (ha : VR m H w (.mref id) a) (hx : VR m H w x u) (ht : isMap (tyI P t)) (hid : H[id]? = some (.map ck kvs)) (hk : kOk P (keyT (tyI P t)) x kvs) (hz : zA P (valT (tyI P t)) = some z) :
    ES P m H w (Instr.mapEntry t a u) (entV ck kvs x z) (H.set id (entM ck kvs x z)) := by
  obtain ⟨r, es, rfl, hm, hh, hE⟩ := mref_val R ha hid
  obtain ⟨kk, hkk, hx1, hall⟩ := kOk_spec hk
  obtain rfl := kTy_val hx1 hx
  have hund := isMap_spec ht
  have hf := run_find (w := w) hkk hx1 hE hall
  have hc := fun b => run_check2 (w := w) hkk hx1 b
  obtain ⟨zv, hz1, hz2⟩ := run_zA (m := m) (H := H) (w := w) hz
  cases hfi : findI kvs x with
  | none =>
    rw [hfi] at hf
    obtain ⟨m', R', E'⟩ := set_map (ck' := ck + 1) (kvs' := kvs ++ [(ck, x, z)]) (es' := es.toList ++ [{ key := kv x, val := zv, born := ck }]) R hid hm hh (hE.push rfl hx hz2)
    have ee : (es.toList ++ [{ key := kv x, val := zv, born := ck }] : List MapEntry).toArray = es.push { key := kv x, val := zv, born := ck } := by
      apply Array.ext'; simp
    rw [ee] at R' E'
    refine ⟨.tuple #[zv, .int .i64 ck], _, m', ?_, ?_, by rw [entM, hfi]; exact R', by rw [entM, hfi]; exact E'⟩
    · simp only [Instr.mapEntry, Sem.run_bind, run_underlying hund, Result.andThen_ok, MapKept.run_getObj_map hh, hc, hf, resOf, MapKept.run_setObj_map _ hh, hz1, Sem.run_pure, goInt]
    · rw [entV, entM, hfi]
      refine .tup _ _ rfl fun j hj => ?_
      match j, hj with
      | 0, _ => exact hz2.ext E'
      | 1, _ => exact .int _ _
  | some i =>
    obtain ⟨e, p, he, hp, hq, hb, hk1, hv1⟩ := hE.find hfi
    rw [hfi, resOf_some he] at hf
    have hpk : kTy kk p.2.1 = true := (List.all_eq_true.1 hall) p (List.mem_of_getElem? hp)
    have hek : e.key = kv x := by rw [kTy_val hpk hk1]; exact ((keq_val hx1 hpk).1 hq).symm
    have hid' : (kvs.modify i fun p => p) = kvs := by
      apply List.ext_getElem?; intro j; rw [modify_at]; cases kvs[j]? <;> simp
    obtain ⟨m', R', E'⟩ := set_map (ck' := ck) (kvs' := kvs.modify i fun p => p) (es' := es.toList.modify i fun e => { e with key := kv x }) R hid hm hh
      (hE.modify (f := fun e => { e with key := kv x }) (g := fun p => p) fun e' p' h1 h2 h3 h4 h5 => ⟨h3, by
        rw [he] at h1; cases h1
        rw [hp] at h2; cases h2
        show VR m H w p.2.1 (kv x)
        rw [← hek]; exact h4, h5⟩)
    rw [hid'] at R' E'
    have ee : (es.toList.modify i fun e => { e with key := kv x } : List MapEntry).toArray = es.modify i fun e => { e with key := kv x } := by
      apply Array.ext'; simp
    rw [ee] at R' E'
    have hei : es[i]? = some e := by simpa using he
    refine ⟨.tuple #[e.val, .int .i64 p.1], _, m', ?_, ?_, by rw [entM, hfi]; exact R', by rw [entM, hfi]; exact E'⟩
    · have hg : ((es[i]?).map (·.key)).getD (kv x) = kv x := by rw [hei]; simpa using hek
      have hg2 : ((es[i]?).map (fun x => (x.born : Int))).getD 0 = (p.1 : Int) := by rw [hei]; simp [hb]
      simp only [Instr.mapEntry, Sem.run_bind, run_underlying hund, Result.andThen_ok, MapKept.run_getObj_map hh, hc, hf, hg, hg2, keyStays (w := w) (P := P) hx1 rfl, MapKept.run_setObj_map _ hh, Sem.run_pure, goInt]

    · rw [entV, entM, hfi]
      refine .tup _ _ rfl fun j hj => ?_
      match j, hj with
      | 0, _ => simp only [getM, hp]; exact hv1.ext E'
      | 1, _ => simp only [hp]; exact .int _ _

def bornI (kvs : List (Nat × AV × AV)) (s : Int) : Option Nat := kvs.findIdx? fun p => ((p.1 : Int) == s)
theorem ER.born {es : List MapEntry} {kvs : List (Nat × AV × AV)} (s : Int) (h : ER m H w es kvs) : es.findIdx? (fun e => (e.born : Int) == s) = bornI kvs s := by
  unfold bornI
  induction es generalizing kvs with
  | nil =>
    cases kvs with
    | nil => rfl
    | cons => have := h.1; simp at this
  | cons e es ih =>
    cases kvs with
    | nil => have := h.1; simp at this
    | cons p kvs =>
      obtain ⟨h1, _, _, ht⟩ := h.tail
      rw [List.findIdx?_cons, List.findIdx?_cons, ih ht, h1]

theorem e_entryStore {t : TypeId} {id ck i : Nat} {kvs : List (Nat × AV × AV)} {s : Int} {ks : IntKind} {y : AV} {a u v : Value} (R : Rel m H w) (ha : VR m H w (.mref id) a) (hs : VR m H w (.int ks s) u) (hy : VR m H w y v) (hid : H[id]? = some (.map ck kvs)) (hi : bornI kvs s = some i) :
    ∃ w' m', (Instr.entryStore t a u v).run P w = .ok () w' ∧ Rel m' (H.set id (.map ck (kvs.modify i fun p => (p.1, p.2.1, y)))) w' ∧ Ext m H w m' (H.set id (.map ck (kvs.modify i fun p => (p.1, p.2.1, y)))) w' := by
  obtain ⟨r, es, rfl, hm, hh, hE⟩ := mref_val R ha hid
  cases hs
  obtain ⟨m', R', E'⟩ := set_map (ck' := ck) (kvs' := kvs.modify i fun p => (p.1, p.2.1, y)) (es' := es.toList.modify i fun e => { e with val := v }) R hid hm hh
    (hE.modify (f := fun e => { e with val := v }) (g := fun p => (p.1, p.2.1, y)) fun e' p' h1 h2 h3 h4 h5 => ⟨h3, h4, hy⟩)
  have ee : (es.toList.modify i fun e => { e with val := v } : List MapEntry).toArray = es.modify i fun e => { e with val := v } := by
    apply Array.ext'; simp
  rw [ee] at R' E'
  have hb := hE.born s
  rw [hi] at hb
  have hb' : es.findIdx? (fun e => (e.born : Int) == s) = some i := by
    obtain ⟨l⟩ := es
    simpa using hb
  refine ⟨_, m', ?_, R', E'⟩
  simp [Instr.entryStore, MapKept.run_getObj_map hh, asInt, asIntOf, hb', MapKept.run_setObj_map _ hh]

end Go.Av
end
