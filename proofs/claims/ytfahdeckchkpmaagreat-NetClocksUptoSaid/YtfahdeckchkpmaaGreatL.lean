/- Proved here: NetClocksUptoSaid, the law NetClocks where what it reads is of bulk at most 1048576; this text holds a part of its proof. -/
import Derived.JoinedCond
import Derived.Test.YtfahdeckchkpmaaGreatBB
import Derived.Test.YtfahdeckchkpmaaGreatF
import Derived.Carry
import Derived.ChangeSame
import Derived.ChangeArms
import Derived.Deep.Slices
import Derived.OpenShut
section
namespace Go.Av
/-- the row's closed facts, in parts -/
theorem joined_mk {P : Program} {f : FuncId} {fn : Func} {s : ChangeSpec} {c : OpenClaim} (h1 : laidOutB P = true) (h2 : mapsRowed P = true) (h3 : (c.inPlace == P.inPlace f) = true) (h4 : (c.unfollowed == P.unfollowed f) = true)
    (h5 : (c.recurses == P.recurses f) = true) (h6 : (c.named == P.varsNamed f) = true)
    (h7 : (c.wf (OpenSpec.ofChange s) && fn.params.all (P.readableRec ·) && namedTie P c.named s.vars && (c.stops == []) && (P.stops == []) && (c.knobs == []) && (P.stopKnobs == []) &&
      (c.maps == (fn.params.toList ++ s.plain.varTypes P).any (P.mapsRec ·)) && (c.ifaces == (fn.params.toList ++ s.plain.varTypes P).any (P.ifacesRec ·)) && (c.mapsOut == P.mapsAmong fn.resultTypes.toList) &&
      (c.loops == (fn.params.toList ++ s.plain.varTypes P).any (P.loopsFrom ·)) && (c.wideKeys == (fn.params.toList ++ s.plain.varTypes P ++ fn.resultTypes.toList).any (P.wideKeysFrom ·)) &&
      s.vars.all (P.varReadable ·) && fn.resultTypes.all (fun t => P.readableRec t && decide (t < P.types.size)) && (c.ifacesOut == fn.resultTypes.toList.any (P.ifacesRec ·)) && (c.loopsOut == fn.resultTypes.toList.any (P.loopsFrom ·))) = true)
    (h8 : ((c.plainKeys == P.plainKeys) && c.shortTexts.isNone && P.stopsHeard && P.mayEnter && (c.lifted == P.liftsFinal)) = true)
    (h9 : ((P.make == some c.make) && (c.kinds == (if c.domain.isEmpty then [] else fn.params.toList.map fun t => match P.underlying t with | some (.int k) => some k | _ => none)) && (c.pinned == c.pinnedBy) &&
      (c.veiled == (fn.params.toList ++ s.plain.varTypes P ++ fn.resultTypes.toList).any (P.veiledRec ·)) && c.veiledFits P fn.params.toList (fn.params.toList ++ s.plain.varTypes P ++ fn.resultTypes.toList)) = true) :
    joinedFacts P f fn s c = true := by
  simp only [Bool.and_eq_true] at h7 h8 h9
  obtain ⟨⟨⟨⟨⟨⟨⟨⟨⟨⟨⟨⟨⟨⟨⟨a1, a2⟩, a3⟩, a4⟩, a5⟩, a6⟩, a7⟩, a8⟩, a9⟩, a10⟩, a11⟩, a12⟩, a13⟩, a14⟩, a15⟩, a16⟩ := h7
  obtain ⟨⟨⟨⟨b1, b2⟩, b3⟩, b4⟩, b5⟩ := h8
  obtain ⟨⟨⟨⟨c1, c2⟩, c3⟩, c4⟩, c5⟩ := h9
  unfold joinedFacts
  simp only [Bool.and_eq_true]
  exact ⟨⟨⟨⟨⟨⟨⟨⟨⟨⟨⟨⟨⟨⟨⟨⟨⟨⟨⟨⟨⟨⟨⟨⟨⟨⟨⟨⟨⟨⟨⟨a1, h1⟩, h2⟩, a2⟩, a3⟩, a4⟩, a5⟩, a6⟩, a7⟩, h3⟩, h4⟩, h5⟩, h6⟩, a8⟩, a9⟩, a10⟩, a11⟩, a12⟩, a13⟩, a14⟩, a15⟩, a16⟩, b1⟩, b2⟩, b3⟩, b4⟩, b5⟩, c1⟩, c2⟩, c3⟩, c4⟩, c5⟩
end Go.Av
end

section
set_option linter.unusedVariables false
set_option linter.unusedSimpArgs false
open Go.RowKit Go.ChangeShapes
namespace Go.Av

/-- the shape of an argument without pointers -/
inductive Sh where
  | int (k : IntKind)
  | bool
  | str
  | nums (k : IntKind)
  | rows (s : Sh)
  | st (ss : List Sh)

mutual
def Sh.ok (B : Nat) : Sh → List AV → Prop
  | .int k, l => ∃ n, l = [.int k n] ∧ (Lit.int k n).wf = true
  | .bool, l => ∃ b, l = [.bool b]
  | .str, l => ∃ s : ByteArray, l = [.str s] ∧ s.size ≤ B
  | .nums k, l => ∃ xs, l = [.nums k false xs] ∧ xs.length ≤ B ∧ ∀ x ∈ xs, (Lit.int k x).wf = true
  | .rows s, l => ∃ ls : List (List AV), l = [.sl false ls.length ls.flatten] ∧ ls.length ≤ B ∧ ∀ x ∈ ls, Sh.ok B s x
  | .st ss, l => Sh.oks B ss l
def Sh.oks (B : Nat) : List Sh → List AV → Prop
  | [], l => l = []
  | s :: ss, l => ∃ a b, l = a ++ b ∧ Sh.ok B s a ∧ Sh.oks B ss b
end

mutual
def Sh.fits (P : Program) : Sh → TypeId → Bool
  | .int k, t => match P.underlying t with | some (.int k') => decide (k' = k) | _ => false
  | .bool, t => match P.underlying t with | some .bool => true | _ => false
  | .str, t => match P.underlying t with | some .string => true | _ => false
  | .nums k, t => match P.underlying t with | some (.slice e) => (match P.underlying e with | some (.int k') => decide (k' = k) | _ => false) && decide (P.cellsOf e = 1) | _ => false
  | .rows s, t => match P.underlying t with | some (.slice e) => Sh.fits P s e | _ => false
  | .st ss, t => match P.underlying t with | some (.struct fs) => Sh.fitss P ss fs.toList 0 (P.cellsOf t) | _ => false
def Sh.fitss (P : Program) : List Sh → List Field → Nat → Nat → Bool
  | [], [], o, n => decide (o = n)
  | s :: ss, f :: fs, o, n => decide (f.offset = o) && Sh.fits P s f.type && Sh.fitss P ss fs (o + P.cellsOf f.type) n
  | _, _, _, _ => false
end

/-- cells that are what a list says -/
def LVR (m : Hand) (H : Heap) (w : World) (l : List AV) (cs : List Value) : Prop :=
  cs.length = l.length ∧ (∀ j (h : j < l.length), VR m H w l[j] (cs.getD j undef)) ∧ ∀ j, j < l.length → (cs.getD j undef).oneCell' = true

theorem LVR.one {m : Hand} {H : Heap} {w : World} {x : AV} {v : Value} (h : VR m H w x v) (h1 : v.oneCell' = true) : LVR m H w [x] [v] := by
  refine ⟨rfl, fun j hj => ?_, fun j hj => ?_⟩ <;> (obtain rfl : j = 0 := by simpa using hj) <;> assumption

theorem LVR.app {m : Hand} {H : Heap} {w : World} {l l' : List AV} {cs cs' : List Value} (h : LVR m H w l cs) (h' : LVR m H w l' cs') : LVR m H w (l ++ l') (cs ++ cs') := by
  obtain ⟨a, b, c⟩ := h
  obtain ⟨a', b', c'⟩ := h'
  have key : ∀ j, j < l.length → (cs ++ cs').getD j undef = cs.getD j undef := fun j hj => by simp [List.getD, List.getElem?_append_left (show j < cs.length by omega)]
  have key' : ∀ j, l.length ≤ j → (cs ++ cs').getD j undef = cs'.getD (j - l.length) undef := fun j hj => by simp [List.getD, List.getElem?_append_right (show cs.length ≤ j by omega), a]
  refine ⟨by simp [a, a'], fun j hj => ?_, fun j hj => ?_⟩
  · rcases Nat.lt_or_ge j l.length with hl | hl
    · rw [key j hl, List.getElem_append_left hl]; exact b j hl
    · rw [key' j hl, List.getElem_append_right hl]; exact b' _ _
  · rcases Nat.lt_or_ge j l.length with hl | hl
    · rw [key j hl]; exact c j hl
    · rw [key' j hl]; exact c' _ (by simp at hj; omega)

theorem LVR.flat {m : Hand} {H : Heap} {w : World} : ∀ {ls : List (List AV)} {css : List (List Value)}, css.length = ls.length → (∀ i (h : i < ls.length) (h' : i < css.length), LVR m H w ls[i] css[i]) → LVR m H w ls.flatten css.flatten
  | [], [], _, _ => ⟨rfl, fun j hj => absurd hj (Nat.not_lt_zero _), fun j hj => absurd hj (Nat.not_lt_zero _)⟩
  | l :: ls, cs :: css, hl, h => by
    simp only [List.flatten_cons]
    exact (h 0 (by simp) (by simp)).app (LVR.flat (by simpa using hl) fun i hi hi' => h (i + 1) (by simpa using hi) (by simpa using hi'))

/-- how many values a reading holds -/
structure Bulky {Q : Type} (bulk : DataW Q → Nat) : Prop where
  str : ∀ bs : List UInt8, bs.length ≤ bulk (.lit (.string bs))
  len : ∀ es r, es.length ≤ bulk (.slice es r)
  elem : ∀ es r, ∀ e ∈ es, bulk e ≤ bulk (.slice es r)
  part : ∀ es, ∀ e ∈ es, bulk e ≤ bulk (.agg es)

theorem map_range_get {α : Type} [Inhabited α] {n : Nat} (f : Nat → α) {i : Nat} (h : i < n) : ((List.range n).map f)[i]? = some (f i) := by simp [h]

section
variable {Q : Type} {enc : TypeId × Value → Q} {P : Program} {w : World} {m : Hand}

theorem imm0 {b : Nat} (h : b < w.heap.size) : Imm m [] w b := ⟨h, fun ⟨i, hi, _⟩ => hi (by simp [sg])⟩
theorem cell_lt {a : Addr} {v : Value} (h : w.cell? a = some v) : a.block < w.heap.size ∧ a.spot = none := by
  unfold World.cell? at h
  split at h
  · rename_i c _ _ hc
    have := (Array.getElem?_eq_some_iff.1 hc).1
    split at h
    · cases h
    · rename_i hs
      refine ⟨this, ?_⟩
      cases hh : a.spot with
      | none => rfl
      | some _ => simp [hh] at hs
  · cases h

theorem read_nums {t e : TypeId} {k : IntKind} {fuel : Nat} {cs : List Value} {x : DataW Q × List MemPlace} (ht : P.underlying t = some (.slice e)) (he : P.underlying e = some (.int k)) (hc : P.cellsOf e = 1)
    {bulk : DataW Q → Nat} (hB : Bulky bulk) {B : Nat} (h : DataW.trod enc P w 0 (fun _ => true) true fuel t cs = some x) (hb : bulk x.1 ≤ B) : ∃ l, (Sh.nums k).ok B l ∧ LVR m [] w l cs := by
  rcases Go.Deep.open_slice1 ht hc h with ⟨rfl, rfl⟩ | ⟨a, len, cap, n', n, V, D, Pl, rfl, _, hl, hm, hn', rfl, hx⟩
  · exact ⟨[.nums k false []], ⟨[], rfl, Nat.zero_le _, fun x hx => by cases hx⟩, LVR.one (.nums k false [] none 0 (fun _ => rfl) (Nat.le_refl _) (Nat.zero_le _) (fun h => by cases h) (.inl rfl)) rfl⟩
  · simp only [if_true] at hn'
    obtain ⟨xs, hxs⟩ := Go.Deep.choose_lt (α := Int) (n := len) (p := fun i z => w.cell? (a.add i) = some (.int k z) ∧ (Lit.int k z).wf = true) fun i hi => by
      obtain ⟨h1, h2⟩ := hx i (by omega)
      obtain ⟨z, h3, _, h4⟩ := DataW.trod_int he h2
      have : V i = .int k z := by simpa using h3
      exact ⟨z, by rw [h1, this], h4⟩
    have hlen : len ≤ B := Nat.le_trans (by simpa using hB.len ((List.range len).map D) ((List.range (n' - len)).map fun j => D (len + j))) hb
    refine ⟨[.nums k false ((List.range len).map xs)], ⟨_, rfl, by simpa using hlen, fun z hz => ?_⟩, LVR.one ?_ rfl⟩
    · simp only [List.mem_map, List.mem_range] at hz
      obtain ⟨i, hi, rfl⟩ := hz
      exact (hxs i hi).2
    · have := VR.nums (m := m) (H := []) (w := w) k false ((List.range len).map xs) (some a) cap (fun h => by cases h) (by simpa using hl) hm (fun h => by cases h) ?_
      · simpa using this
      · rcases Nat.eq_zero_or_pos len with h0 | h0
        · exact .inl (by simp [h0])
        · obtain ⟨e1, e2⟩ := cell_lt (hxs 0 h0).1
          simp only [Addr.add, if_true] at e1 e2
          obtain ⟨b, o, sp⟩ := a
          simp only at e1 e2
          subst e2
          refine .inr ⟨b, o, rfl, imm0 e1, fun j hj => ?_⟩
          simp only [List.length_map, List.length_range] at hj
          have := (hxs j hj).1
          simp only [List.getElem_map, List.getElem_range]
          rw [← this]
          unfold Addr.add
          split
          · rename_i hz; subst hz; rfl
          · rfl

theorem take_split {α : Type} (l : List α) (a b : Nat) : l.drop a = (l.drop a).take b ++ l.drop (a + b) := by
  rw [← List.drop_drop, List.take_append_drop]

theorem read_rows {t e : TypeId} {s : Sh} {fuel : Nat} {cs : List Value} {x : DataW Q × List MemPlace} (ht : P.underlying t = some (.slice e)) {bulk : DataW Q → Nat} (hB : Bulky bulk) {B : Nat}
    (h : DataW.trod enc P w 0 (fun _ => true) true fuel t cs = some x) (hb : bulk x.1 ≤ B)
    (ih : ∀ fuel cs x, DataW.trod enc P w 0 (fun _ => true) true fuel e cs = some x → bulk x.1 ≤ B → ∃ l, s.ok B l ∧ LVR m [] w l cs) : ∃ l, (Sh.rows s).ok B l ∧ LVR m [] w l cs := by
  rcases Go.Deep.open_slice ht h with ⟨rfl, rfl⟩ | ⟨a, len, cap, n', n, D, Pl, rfl, _, hl, hm, hn', rfl, hx⟩
  · exact ⟨[.sl false 0 []], ⟨[], by simp, Nat.zero_le _, fun x hx => by cases hx⟩, LVR.one (.sl false 0 [] none 0 (fun _ => undef) (fun _ => rfl) (Nat.le_refl _) (Nat.zero_le _) (fun h => by cases h) (.inl rfl) (fun j hj => by cases hj) (fun j hj => by cases hj)) rfl⟩
  · simp only [if_true] at hn'
    have hlen : len ≤ B := Nat.le_trans (by simpa using hB.len ((List.range len).map D) ((List.range (n' - len)).map fun j => D (len + j))) hb
    obtain ⟨L, hL⟩ := Go.Deep.choose_lt (α := List AV × List Value) (n := len) (p := fun i z => w.cells? 0 (a.add (i * P.cellsOf e)) (P.cellsOf e) = some z.2 ∧ s.ok B z.1 ∧ LVR m [] w z.1 z.2) fun i hi => by
      obtain ⟨cs', h1, h2⟩ := hx i (by omega)
      have hbi : bulk (D i) ≤ B := Nat.le_trans (hB.elem _ _ (D i) (by simp; exact ⟨i, hi, rfl⟩)) hb
      obtain ⟨l, h3, h4⟩ := ih n cs' (D i, Pl i) h2 hbi
      exact ⟨(l, cs'), h1, h3, h4⟩
    have hcl : ∀ i, i < len → (L i).2.length = P.cellsOf e := fun i hi => (World.cells?_some (hL i hi).1).2.1
    have hF : LVR m [] w ((List.range len).map fun i => (L i).1).flatten ((List.range len).map fun i => (L i).2).flatten := by
      refine LVR.flat (by simp) fun i hi hi' => ?_
      simp only [List.length_map, List.length_range] at hi
      simpa using (hL i hi).2.2
    have hfl : ((List.range len).map fun i => (L i).2).flatten.length = len * P.cellsOf e := by
      rw [List.length_flatten, List.map_map]
      have : (List.range len).map (List.length ∘ fun i => (L i).2) = (List.range len).map fun _ => P.cellsOf e := List.map_congr_left fun i hi => hcl i (by simpa using hi)
      rw [this, List.map_const']; simp
    have hget : ∀ j, j < len * P.cellsOf e → ((List.range len).map fun i => (L i).2).flatten.getD j undef = (L (j / P.cellsOf e)).2.getD (j % P.cellsOf e) undef := by
      intro j hj
      have hpos : 0 < P.cellsOf e := by rcases Nat.eq_zero_or_pos (P.cellsOf e) with h0 | h0; · simp [h0] at hj
                                        · exact h0
      have hq : j / P.cellsOf e < len := Nat.div_lt_of_lt_mul (by rw [Nat.mul_comm]; exact hj)
      have hr : j % P.cellsOf e < P.cellsOf e := Nat.mod_lt _ hpos
      have hx := flat_at (f := fun i => (L i).2) (k := P.cellsOf e) (l := List.range len) (i := j / P.cellsOf e) (x := j / P.cellsOf e) (fun i hi => hcl i (by simpa using hi)) (by simp [hq])
      rw [List.flatMap_def] at hx
      simp only [List.getD]
      rw [← hx, List.getElem?_take, if_pos hr, List.getElem?_drop, Nat.div_add_mod' j _]
    refine ⟨[.sl false len ((List.range len).map fun i => (L i).1).flatten], ⟨(List.range len).map fun i => (L i).1, by simp, by simpa using hlen, fun z hz => ?_⟩, LVR.one ?_ rfl⟩
    · simp only [List.mem_map, List.mem_range] at hz
      obtain ⟨i, hi, rfl⟩ := hz
      exact (hL i hi).2.1
    · have e0 := hF.1
      rw [hfl] at e0
      refine VR.sl false len _ (some a) cap (fun j => ((List.range len).map fun i => (L i).2).flatten.getD j undef) (fun h => by cases h) hl hm (fun h => by cases h) ?_ hF.2.1 hF.2.2
      rcases Nat.eq_zero_or_pos (len * P.cellsOf e) with h0 | h0
      · exact .inl (List.eq_nil_of_length_eq_zero (by omega))
      · have hpos : 0 < P.cellsOf e := Nat.pos_of_mul_pos_left h0
        have hlp : 0 < len := Nat.pos_of_mul_pos_right h0
        obtain ⟨e1, e2⟩ := cell_lt (((World.cells?_some (hL 0 hlp).1).2.2 0 hpos).trans (List.getElem?_eq_getElem (by rw [hcl 0 hlp]; exact hpos)))
        simp only [Addr.add, Nat.zero_mul, if_true] at e1 e2
        obtain ⟨b, o, sp⟩ := a
        simp only at e1 e2
        subst e2
        refine .inr ⟨b, o, rfl, imm0 e1, fun j hj => ?_⟩
        rw [← e0] at hj
        rw [hget j hj]
        have hq : j / P.cellsOf e < len := Nat.div_lt_of_lt_mul (by rw [Nat.mul_comm]; exact hj)
        have hr : j % P.cellsOf e < P.cellsOf e := Nat.mod_lt _ hpos
        have h3 := (World.cells?_some (hL _ hq).1).2.2 (j % P.cellsOf e) hr
        have hjj : j / P.cellsOf e * P.cellsOf e + j % P.cellsOf e = j := Nat.div_add_mod' j _
        have ha : (Addr.add ⟨b, o, none⟩ (j / P.cellsOf e * P.cellsOf e)).add (j % P.cellsOf e) = ⟨b, o + j, none⟩ := by
          rw [Go.Deep.add_add, hjj]
          unfold Addr.add
          split
          · rename_i hz; subst hz; rfl
          · rfl
        rw [ha] at h3
        rw [h3]
        simp [List.getD, hcl _ hq, hr]

mutual
theorem Sh.read {bulk : DataW Q → Nat} (hB : Bulky bulk) {B : Nat} : ∀ (s : Sh) {t : TypeId} {fuel : Nat} {cs : List Value} {x : DataW Q × List MemPlace}, Sh.fits P s t = true → DataW.trod enc P w 0 (fun _ => true) true fuel t cs = some x → bulk x.1 ≤ B → ∃ l, s.ok B l ∧ LVR m [] w l cs
  | .int k, t, fuel, cs, x, hf, h, hb => by
    simp only [Sh.fits] at hf
    split at hf
    · rename_i k' ht
      obtain rfl := of_decide_eq_true hf
      obtain ⟨n, rfl, _, h4⟩ := DataW.trod_int ht h
      exact ⟨_, ⟨n, rfl, h4⟩, LVR.one (.int _ n) rfl⟩
    · cases hf
  | .bool, t, fuel, cs, x, hf, h, hb => by
    simp only [Sh.fits] at hf
    split at hf
    · rename_i ht
      obtain ⟨b, rfl, _⟩ := DataW.trod_bool ht h
      exact ⟨_, ⟨b, rfl⟩, LVR.one (.bool b) rfl⟩
    · cases hf
  | .str, t, fuel, cs, x, hf, h, hb => by
    simp only [Sh.fits] at hf
    split at hf
    · rename_i ht
      obtain ⟨s, rfl, rfl, _⟩ := DataW.trod_string ht h
      have := Nat.le_trans (hB.str s.data.toList) hb
      exact ⟨_, ⟨s, rfl, by simpa using this⟩, LVR.one (.str s) rfl⟩
    · cases hf
  | .nums k, t, fuel, cs, x, hf, h, hb => by
    simp only [Sh.fits] at hf
    split at hf
    · rename_i e ht
      simp only [Bool.and_eq_true, decide_eq_true_eq] at hf
      obtain ⟨h1, h2⟩ := hf
      split at h1
      · rename_i k' he
        obtain rfl := of_decide_eq_true h1
        exact read_nums ht he h2 hB h hb
      · cases h1
    · cases hf
  | .rows s, t, fuel, cs, x, hf, h, hb => by
    simp only [Sh.fits] at hf
    split at hf
    · rename_i e ht
      exact read_rows ht hB h hb fun fuel cs x h hb => Sh.read hB s hf h hb
    · cases hf
  | .st ss, t, fuel, cs, x, hf, h, hb => by
    simp only [Sh.fits] at hf
    split at hf
    · rename_i fs ht
      obtain ⟨xs, n, _, rfl, hl, hlen, hx⟩ := DataW.trod_struct ht h
      obtain ⟨l, h1, h2⟩ := Sh.reads hB ss (fs := fs.toList) (o := 0) (N := P.cellsOf t) (n := n) (cs := cs) (xs := xs) hf hl (by simpa using hlen)
        (fun i f hi => hx i f (by simpa using hi)) (fun y hy => Nat.le_trans (hB.part _ y.1 (List.mem_map_of_mem hy)) hb)
      exact ⟨l, h1, by simpa using h2⟩
    · cases hf
theorem Sh.reads {bulk : DataW Q → Nat} (hB : Bulky bulk) {B : Nat} : ∀ (ss : List Sh) {fs : List Field} {o N n : Nat} {cs : List Value} {xs : List (DataW Q × List MemPlace)}, Sh.fitss P ss fs o N = true → cs.length = N → xs.length = fs.length →
    (∀ (i : Nat) (f : Field), fs[i]? = some f → DataW.trod enc P w 0 (fun _ => true) true n f.type ((cs.drop f.offset).take (P.cellsOf f.type)) = xs[i]?) → (∀ y ∈ xs, bulk y.1 ≤ B) → ∃ l, Sh.oks B ss l ∧ LVR m [] w l (cs.drop o)
  | [], fs, o, N, n, cs, xs, hf, hl, hlen, hx, hb => by
    cases fs with
    | nil =>
      obtain rfl := of_decide_eq_true hf
      exact ⟨[], rfl, by rw [← hl, List.drop_length]; exact ⟨rfl, fun j hj => absurd hj (Nat.not_lt_zero _), fun j hj => absurd hj (Nat.not_lt_zero _)⟩⟩
    | cons f fs => simp [Sh.fitss] at hf
  | s :: ss, fs, o, N, n, cs, xs, hf, hl, hlen, hx, hb => by
    cases fs with
    | nil => simp [Sh.fitss] at hf
    | cons f fs =>
      simp only [Sh.fitss, Bool.and_eq_true, decide_eq_true_eq] at hf
      obtain ⟨⟨h1, h2⟩, h3⟩ := hf
      subst h1
      cases xs with
      | nil => simp at hlen
      | cons x xs =>
        obtain ⟨a, ha, ha'⟩ := Sh.read hB s h2 (by simpa using hx 0 f rfl) (hb x (by simp))
        obtain ⟨b, hb0, hb'⟩ := Sh.reads hB ss (n := n) h3 hl (by simpa using hlen) (fun i g hg => by simpa using hx (i + 1) g (by simpa using hg)) (fun y hy => hb y (by simp [hy]))
        refine ⟨a ++ b, ⟨a, b, rfl, ha, hb0⟩, ?_⟩
        rw [take_split cs f.offset (P.cellsOf f.type)]
        exact ha'.app hb'
end
end
end Go.Av
end

section
set_option linter.unusedVariables false
set_option linter.unusedSimpArgs false
open Go.RowKit Go.ChangeShapes Go.WideShapes
namespace Go.Av

/-- an argument of a shape -/
def Sh.arg (B : Nat) : Sh → AV → Prop
  | .st ss, x => ∃ l, x = .agg l ∧ Sh.oks B ss l
  | s, x => s.ok B [x]
def argsOk (B : Nat) : List Sh → List AV → Prop
  | [], xs => xs = []
  | s :: ss, xs => ∃ x r, xs = x :: r ∧ s.arg B x ∧ argsOk B ss r
def fitsAll (P : Program) : List Sh → List TypeId → Bool
  | [], [] => true
  | s :: ss, t :: ts => s.fits P t && fitsAll P ss ts
  | _, _ => false

section
variable {Q : Type} {enc : TypeId × Value → Q} {P : Program} {w : World} {m : Hand}

theorem read_arg {bulk : DataW Q → Nat} (hB : Bulky bulk) {B : Nat} {s : Sh} {t : TypeId} {v : Value} {d : DataW Q} {p : List MemPlace} {r : Reach} {b0 : Nat} (hf : s.fits P t = true) (hval : Value.okWide P w r b0 t v)
    (h : DataW.Trod enc P w 0 (fun _ => true) true t v d p) (hb : bulk d ≤ B) : ∃ x, s.arg B x ∧ VR m [] w x v := by
  obtain ⟨fuel, h⟩ := h
  have hc := hf
  have hR := Sh.read (m := m) hB s hf h hb
  have one : v.cells = #[v] → (∃ l, s.ok B l ∧ LVR m [] w l v.cells.toList) → ∃ x, s.ok B [x] ∧ VR m [] w x v := by
    rintro e ⟨l, h1, h2, h3, _⟩
    rw [e] at h2 h3
    match l, h2, h1, h3 with
    | [x], _, h1, h3 => exact ⟨x, h1, by simpa using h3 0 (by simp)⟩
  cases s with
  | int k =>
    simp only [Sh.fits] at hf
    split at hf
    · rename_i k' ht
      obtain ⟨n, rfl⟩ := okWide_int ht hval
      exact one rfl hR
    · cases hf
  | bool =>
    simp only [Sh.fits] at hf
    split at hf
    · rename_i ht
      obtain ⟨n, rfl⟩ := okWide_bool ht hval
      exact one rfl hR
    · cases hf
  | str =>
    simp only [Sh.fits] at hf
    split at hf
    · rename_i ht
      obtain ⟨n, rfl⟩ := okWide_string ht hval
      exact one rfl hR
    · cases hf
  | nums k =>
    simp only [Sh.fits] at hf
    split at hf
    · rename_i e ht
      obtain ⟨a, b, c, rfl⟩ := okWide_slice ht hval
      exact one rfl hR
    · cases hf
  | rows s =>
    simp only [Sh.fits] at hf
    split at hf
    · rename_i e ht
      obtain ⟨a, b, c, rfl⟩ := okWide_slice ht hval
      exact one rfl hR
    · cases hf
  | st ss =>
    simp only [Sh.fits] at hf
    split at hf
    · rename_i fs ht
      obtain ⟨cs, rfl, _⟩ := okWide_struct ht hval
      obtain ⟨l, h1, h2, h3, h4⟩ := hR
      simp only [Value.cells] at h2 h3 h4
      have e : ∀ j, cs.toList.getD j undef = cs.getD j undef := fun j => by simp [List.getD, Array.getD_eq_getD_getElem?]
      exact ⟨.agg l, ⟨l, rfl, h1⟩, .agg l cs (by simpa using h2) (fun j hj => by rw [← e]; exact h3 j hj) (fun j hj => by rw [← e]; exact h4 j hj)⟩
    · cases hf

theorem read_args {bulk : DataW Q → Nat} (hB : Bulky bulk) {B : Nat} {r : Reach} {b0 : Nat} : ∀ {ss : List Sh} {ts : List TypeId} {vs : List Value} {ds : List (DataW Q)} {p : List MemPlace}, fitsAll P ss ts = true →
    (∀ (j : Nat) t v, ts[j]? = some t → vs[j]? = some v → Value.okWide P w r b0 t v) → DataW.TrodAll enc P w 0 (fun _ => true) true ts vs ds p → (∀ d ∈ ds, bulk d ≤ B) →
    ∃ xs, argsOk B ss xs ∧ vs.length = xs.length ∧ ∀ j (h : j < xs.length), VR m [] w xs[j] (vs.getD j undef)
  | [], [], vs, ds, p, _, _, h, _ => by
    obtain ⟨rfl, rfl, rfl⟩ := trodAll_nil h
    exact ⟨[], rfl, rfl, fun j hj => absurd hj (Nat.not_lt_zero _)⟩
  | [], _ :: _, _, _, _, hf, _, _, _ => by cases hf
  | _ :: _, [], _, _, _, hf, _, _, _ => by cases hf
  | s :: ss, t :: ts, vs, ds, p, hf, hval, h, hb => by
    obtain ⟨v, vs, d, ds, a, b, rfl, rfl, rfl, h1, h2⟩ := trodAll_cons h
    simp only [fitsAll, Bool.and_eq_true] at hf
    obtain ⟨x, hx, hx'⟩ := read_arg (m := m) hB hf.1 (hval 0 t v rfl rfl) h1 (hb d (by simp))
    obtain ⟨xs, k1, k2, k3⟩ := read_args hB hf.2 (fun j t v ht hv => hval (j + 1) t v (by simpa using ht) (by simpa using hv)) h2 (fun d hd => hb d (by simp [hd]))
    refine ⟨x :: xs, ⟨x, xs, rfl, hx, k1⟩, by simp [k2], fun j hj => ?_⟩
    cases j with
    | zero => simpa using hx'
    | succ j => simpa using k3 j (by simpa using hj)

theorem rel0 : Rel m [] w := ⟨fun i o h => by simp at h, fun i j b h => absurd (by simp [sg]) h⟩
theorem Ext.below {m' : Hand} {H' : Heap} {w' : World} (E : Ext m [] w m' H' w') : Below w.heap.size w w' :=
  ⟨E.os, E.tape, E.output, E.size, fun k hk => E.blocks k hk fun ⟨i, hi, _⟩ => hi (by simp [sg])⟩

theorem trodAll_below {W W' : World} {sp : Nat → Bool} (hl : laidOutB P = true) (hb : Below W.heap.size W W') : ∀ {ts : List TypeId} {vs : List Value} {ds : List (DataW Q)} {p : List MemPlace}, (ts.all fun t => P.readableRec t && decide (t < P.types.size)) = true →
    DataW.TrodAll enc P W 0 (fun _ => true) true ts vs ds p → (∀ x ∈ p, x.block < W.heap.size) → (∀ x ∈ p, sp x.block = true) → DataW.TrodAll enc P W' 0 sp true ts vs ds p
  | [], vs, ds, p, _, h, _, _ => by
    obtain ⟨rfl, rfl, rfl⟩ := trodAll_nil h
    exact h
  | t :: ts, vs, ds, p, hr, h, hlt, hsp => by
    obtain ⟨v, vs, d, ds, a, b, rfl, rfl, rfl, h1, h2⟩ := trodAll_cons h
    simp only [List.all_cons, Bool.and_eq_true, decide_eq_true_eq] at hr
    exact ⟨a, b, WideElems.Trod_stays hl hr.1.1 hr.1.2 h1 (fun x hx => hb.same (hlt x (by simp [hx]))) (fun x hx => hsp x (by simp [hx])),
      trodAll_below hl hb (by simpa using hr.2) h2 (fun x hx => hlt x (by simp [hx])) (fun x hx => hsp x (by simp [hx])), rfl⟩

/-- true, and all that was there reads as it did -/
theorem post_true {f : Func} {s : ChangeSpec} {W W' : World} {args : Array Value} {ds gs : List (DataW Q)} {before : List MemPlace} {tb : TypeId} (hl : laidOutB P = true) (hv : s.vars = [])
    (hr : (f.params.toList.all fun t => P.readableRec t && decide (t < P.types.size)) = true) (ht : f.resultTypes = #[tb]) (hb : P.underlying tb = some .bool)
    (hs : s.fn Q (ds ++ gs) = { results := [.lit (.bool true)], args := ds, vars := [] }) (hW : DataW.Whole enc P f.params.toList s.vars false W args.toList ds gs before) (hB : Below W.heap.size W W') :
    s.post enc P f false true false false W args (.bool true) W' := by
  have hlt := hW.lt
  have hW' := hW
  obtain ⟨p, q, hA, hV, rfl, hz, _⟩ := hW
  rw [hv] at hV
  obtain ⟨rfl, rfl⟩ := trodVars_none hV
  simp only [List.append_nil] at hlt hz hs hW' 
  have hold : ∀ x ∈ p, (fun b => decide (b < W.heap.size)) x.block = true := fun x hx => by simpa using hlt x hx
  have hargs : ∀ sp : Nat → Bool, (∀ x ∈ p, sp x.block = true) → DataW.TrodAll enc P W' 0 sp true f.params.toList args.toList ds p := fun sp hsp => trodAll_below hl hB hr hA hlt hsp
  have hres : ∀ (b : Nat) (sp : Nat → Bool) (hd : Bool), DataW.TrodAll enc P W' b sp hd f.resultTypes.toList ((Value.bool true).resultList f.resultTypes.size) [.lit (.bool true)] [] := by
    intro b sp hd
    rw [ht]
    exact trodAll_cons_mk (shut_bool hb true) trodAll_mk0
  have hvars : ∀ sp, DataW.TrodVars enc P W' sp s.vars [] [] := fun sp => by rw [hv]; rfl
  have e1 : (s.fn Q ds).results = [.lit (.bool true)] := by rw [hs]
  have e2 : (s.fn Q ds).args = ds := by rw [hs]
  have e3 : (s.fn Q ds).vars = [] := by rw [hs]
  refine ⟨ds, [], p, [], p, [], hW', ?_, ?_, ?_, World.keptBut_mono (fun x hx => ⟨hx, .inr (.inl hx)⟩) (hB.frame _), fun _ => ?_⟩
  · rw [List.append_nil, e1]; exact hres _ _ _
  · rw [List.append_nil, e2]; exact hargs _ hold
  · rw [List.append_nil, e3]; exact hvars _
  · refine ⟨ok_one ht rfl (okWide_bool_mk hb _), [.lit (.bool true)] ++ ds, [], ([] ++ p) ++ [], ⟨[] ++ p, [], trodAll_append (hargs _ (fun _ _ => rfl)) (hres _ _ _), hvars _, rfl, ?_, fun h => by cases h⟩, ?_⟩
    · intro b off hp
      have hp' : MemPlace.cell b off ∈ p := by simpa using hp
      rw [hB.frozen (p := ⟨b, off, none⟩) (hlt _ hp')]
      exact hz b off hp'
    · intro x hx _
      simpa using hx

theorem law_true {f : FuncId} {fn : Func} {c : Code} {s : ChangeSpec} {W : World} {base : Nat} {args : Array Value} {ds gs : List (DataW Q)} {before : List MemPlace} {tb : TypeId} {ss : List Sh} {B : Nat} {bulk : DataW Q → Nat} {r : Reach}
    (hfn : P.funcs[f]? = some fn) (hn : (fn.name == "runtime.NumGoroutine") = false) (hbd : fn.body = some c) (hl : laidOutB P = true) (hv : s.vars = [])
    (hr : (fn.params.toList.all fun t => P.readableRec t && decide (t < P.types.size)) = true) (ht : fn.resultTypes = #[tb]) (hb : P.underlying tb = some .bool) (hf : fitsAll P ss fn.params.toList = true) (hB : Bulky bulk)
    (hs : s.fn Q (ds ++ gs) = { results := [.lit (.bool true)], args := ds, vars := [] })
    (hval : ∀ (j : Nat) t v, fn.params[j]? = some t → args[j]? = some v → Value.okWide P W r base t v)
    (hW : DataW.Whole enc P fn.params.toList s.vars false W args.toList ds gs before) (hk : ∀ d ∈ ds, bulk d ≤ B)
    (h : ∀ xs, argsOk B ss xs → ACalls P f xs [] fun x H' => x = .bool true) :
    Calls P f args W fun e W' => ∃ v, e = .returned v ∧ s.post enc P fn false true false false W args v W' := by
  have hW' := hW
  obtain ⟨p, q, hA, _⟩ := hW
  obtain ⟨xs, h1, h2, h3⟩ := read_args (m := fun _ => undef) hB hf (fun j t v ht hv => hval j t v (by simpa using ht) (by simpa using hv)) hA hk
  have hc := h xs h1 (fun _ => undef) W args rel0 (by simpa using h2) fun j hj => by
    have := h3 j hj
    have e : args.toList.getD j undef = args.getD j undef := by simp [List.getD, Array.getD_eq_getD_getElem?]
    rwa [e] at this
  have hrun : (callFunc f args).run P W = .ok (.enter f args) W := by
    have hn' : ¬ fn.name = "runtime.NumGoroutine" := by simpa using hn
    simp [callFunc, hfn, hn', hbd]
  rw [hrun] at hc
  refine Calls.mono hc ?_
  rintro e W' ⟨v, rfl, m', x, H', rfl, k1, k2, k3⟩
  cases k1
  exact ⟨_, rfl, post_true hl hv hr ht hb hs hW' k3.below⟩
end
end Go.Av
end
