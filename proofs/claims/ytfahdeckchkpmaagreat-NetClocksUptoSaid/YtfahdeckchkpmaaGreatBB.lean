/- Proved here: NetClocksUptoSaid, the law NetClocks where what it reads is of bulk at most 1048576; this text holds a part of its proof. -/
import Derived.Test.YtfahdeckchkpmaaGreatB
import Derived.KernelRfl
import Derived.Laws.BitsLemmas
import Derived.Laws.Bits64
import Derived.ScopeJumps
section
set_option linter.unusedVariables false
set_option linter.unusedSimpArgs false
namespace Go.Av
variable {P : Program} {H : Heap} {α : Operand → AV} {K : AV → Heap → Prop}

/-! the steps as equations: what simp evaluates -/
@[go_sem] theorem opK_move {x : Operand} : opK P H α (.move x) K = K (α x) H := by simp [opK, qP, qV]
@[go_sem] theorem opK_assign {x : Operand} : opK P H α (.assign x) K = K (α x) H := by simp [opK, qP, qV]
@[go_sem] theorem opK_alloc {t : TypeId} : opK P H α (.alloc t) K = ((0 < (tyI P t).zero.length ∧ (tyI P t).zok = true) ∧ K (.ptr H.length 0) (H ++ [.cells (tyI P t).zero])) := rfl
@[go_sem] theorem opK_box {t : TypeId} {x : Operand} : opK P H α (.box t x) K = ((α x).clOk = true ∧ K (.ptr H.length 0) (H ++ [.cells (α x).cl])) := rfl
@[go_sem] theorem opK_store {t : TypeId} {a x : Operand} : opK P H α (.store t a x) K = storeK (tyI P t) H (α a) (α x) K := rfl
@[go_sem] theorem opK_pick {a b c : Operand} : opK P H α (.pick c a b) K = (qP P H α (.pick c a b) ∧ K (qV P H α (.pick c a b)) H) := rfl
@[go_sem] theorem opK_build {t : TypeId} {ps : Array (Nat × Operand)} : opK P H α (.build t ps) K = (qP P H α (.build t ps) ∧ K (qV P H α (.build t ps)) H) := rfl
@[go_sem] theorem opK_buildSlice {t : TypeId} {n : Nat} {ps : Array (Nat × Operand)} : opK P H α (.buildSlice t n ps) K = (qP P H α (.buildSlice t n ps) ∧ K (qV P H α (.buildSlice t n ps)) H) := rfl
@[go_sem] theorem opK_load {t : TypeId} {a : Operand} : opK P H α (.load t a) K = (loadP (tyI P t) H (α a) ∧ K (loadV (tyI P t) H (α a)) H) := rfl
@[go_sem] theorem opK_nilCheck {x : Operand} : opK P H α (.nilCheck x) K = (qP P H α (.nilCheck x) ∧ K (α x) H) := rfl
@[go_sem] theorem opK_binOp {op : BinOp} {t : TypeId} {x y : Operand} {yt : TypeId} : opK P H α (.binOp op t x y yt) K = binK P H op t (α x) (α y) K := rfl
@[go_sem] theorem opK_unOp {op : UnOp} {t : TypeId} {x : Operand} : opK P H α (.unOp op t x) K = (unP op (α x) ∧ K (unV op (α x)) H) := rfl
@[go_sem] theorem opK_convert {s d : TypeId} {x : Operand} : opK P H α (.convert s d x) K = (qP P H α (.convert s d x) ∧ K (convV (tyI P d) (α x)) H) := rfl
@[go_sem] theorem opK_makeFunc {f : Fn} {fs cs : Array Operand} : opK P H α (.makeFunc f fs cs) K = (qP P H α (.makeFunc f fs cs) ∧ K (qV P H α (.makeFunc f fs cs)) H) := rfl
@[go_sem] theorem opK_slice {t : TypeId} {x : Operand} {lo hi mx : Option Operand} : opK P H α (.slice t x lo hi mx) K = (sliceP P (tyI P t) H (α x) (lo.map α) (hi.map α) (mx.map α) ∧ K (sliceV (tyI P t) (tyI P (elemOf' (tyI P t))) (α x) (lo.map α) (hi.map α) (mx.map α)) H) := rfl
@[go_sem] theorem opK_fieldAddr {t : TypeId} {x : Operand} {f : Nat} : opK P H α (.fieldAddr t x f) K = (qP P H α (.fieldAddr t x f) ∧ K (shiftA (α x) ((tyI P t).offs.getD f 0)) H) := rfl
@[go_sem] theorem opK_field {t : TypeId} {x : Operand} {f : Nat} : opK P H α (.field t x f) K = (qP P H α (.field t x f) ∧ K (qV P H α (.field t x f)) H) := rfl
@[go_sem] theorem opK_indexAddr {t : TypeId} {x i : Operand} : opK P H α (.indexAddr t x i) K = (qP P H α (.indexAddr t x i) ∧ K (qV P H α (.indexAddr t x i)) H) := rfl
@[go_sem] theorem opK_index {t : TypeId} {x i : Operand} : opK P H α (.index t x i) K = (qP P H α (.index t x i) ∧ K (qV P H α (.index t x i)) H) := rfl
@[go_sem] theorem opK_extract {x : Operand} {i : Nat} : opK P H α (.extract x i) K = (qP P H α (.extract x i) ∧ K (qV P H α (.extract x i)) H) := rfl
@[go_sem] theorem opK_makeSlice {t : TypeId} {l c : Operand} : opK P H α (.makeSlice t l c) K = (match α l, α c with
    | .int _ n, .int _ n' => (0 ≤ n ∧ n' = n ∧ mkP (tyI P t) (tyI P (elemOf' (tyI P t))) n.toNat ∧ (tyI P (elemOf' (tyI P t))).zok = true) ∧ K (.rref H.length 0 0 n.toNat) (H ++ [mkRow (tyI P (elemOf' (tyI P t))) (elemOf' (tyI P t)) n.toNat])
    | _, _ => False) := rfl
@[go_sem] theorem opK_call {f : Operand} {args : Array Operand} {ts : Array TypeId} : opK P H α (.call { callee := .value f, args := args, argTypes := ts }) K = cloK (α f) fun g cs => ACalls P g (args.toList.map α ++ cs) H K := rfl
@[go_sem] theorem opK_makeMap {t : TypeId} : opK P H α (.makeMap t none) K = K (.mref H.length) (H ++ [.map 0 []]) := rfl
@[go_sem] theorem opK_mapUpdate {t : TypeId} {a x y : Operand} : opK P H α (.mapUpdate t a x y) K = mupK P (tyI P t) H (α a) (α x) (α y) K := rfl
@[go_sem] theorem opK_mapEntry {t : TypeId} {a x : Operand} : opK P H α (.mapEntry t a x) K = entK P (tyI P t) H (α a) (α x) K := rfl
@[go_sem] theorem opK_entryStore {t : TypeId} {a s y : Operand} : opK P H α (.entryStore t a s y) K = enstK H (α a) (α s) (α y) K := rfl
@[go_sem] theorem opK_lookup {t : TypeId} {x i : Operand} {ok : Bool} : opK P H α (.lookup t x i ok) K = (lookP P (tyI P t) H (α x) (α i) ∧ K (lookK P (tyI P t) H (α x) (α i) ok) H) := rfl
@[go_sem] theorem opK_delete {x y : Operand} {ts : Array TypeId} : opK P H α (.call { callee := .builtin .delete, args := #[x, y], argTypes := ts }) K = delK P H ts.toList (α x) (α y) K := rfl
@[go_sem] theorem opK_append {x y : Operand} {ts : Array TypeId} : opK P H α (.call { callee := .builtin .append, args := #[x, y], argTypes := ts }) K = appK P H ts.toList (α x) (α y) K := rfl
@[go_sem] theorem opK_len {x : Operand} {ts : Array TypeId} : opK P H α (.call { callee := .builtin .len, args := #[x], argTypes := ts }) K = ((lenP (tyI P (ts.toList.headD 0)) H (α x) ∧ ts.toList.length = 1) ∧ K (.int .i64 (lenA H (α x))) H) := rfl
@[go_sem] theorem opK_max {x y : Operand} {ts : Array TypeId} : opK P H α (.call { callee := .builtin .max, args := #[x, y], argTypes := ts }) K = (bP P H .max ts.toList [α x, α y] ∧ K (bV P H .max ts.toList [α x, α y]) H) := rfl
@[go_sem] theorem opK_min {x y : Operand} {ts : Array TypeId} : opK P H α (.call { callee := .builtin .min, args := #[x, y], argTypes := ts }) K = (bP P H .min ts.toList [α x, α y] ∧ K (bV P H .min ts.toList [α x, α y]) H) := rfl

attribute [go_sem] opsK_nil opsK_cons contK_eq opsD_nil opsD_cons contD_eq
@[go_sem] theorem stepK_none {q : Bool} {ds : List (Option Tmp)} {F : AF} {d : Option Tmp} {op : Op} {t : TypeId} {p : String} {es : Array Edge} :
    stepK P q ds { dst := d, op := op, type := t, pos := p, after := es, guard := none } F H K = bif q then opQ P H (opA F) op K else opK P H (opA F) op K := rfl
@[go_sem] theorem stepK_some {q : Bool} {ds : List (Option Tmp)} {F : AF} {d : Option Tmp} {op : Op} {t : TypeId} {p : String} {es : Array Edge} {g : Nat} {b : Bool} :
    stepK P q ds { dst := d, op := op, type := t, pos := p, after := es, guard := some (g, b) } F H K = guardK P H (opA F) (gsrc ds g F) b op K := rfl
@[go_sem] theorem guardK_bool {b want : Bool} {op : Op} : guardK P H α (.bool b) want op K = gK P H α op (b == want) K := rfl
@[go_sem] theorem guardK_whn {g b want : Bool} {op : Op} : guardK P H α (.whn g (.bool b)) want op K = gK P H α op (g && b == want) K := rfl
@[go_sem] theorem lk_nil {t : Nat} : lk [] t = .junk := rfl
@[go_sem] theorem lk_cons {k : Nat} {x : AV} {l : Fr} {t : Nat} : lk ((k, x) :: l) t = bif k == t then x else lk l t := by
  simp only [lk]
  cases h : Nat.beq k t with
  | true => simp [Nat.eq_of_beq_eq_true h]
  | false =>
    have h2 : (k == t) = false := beq_eq_false_iff_ne.2 fun e => by subst e; simp at h
    simp only [h2]
@[go_sem] theorem pt_some {l : Fr} {d : Nat} {x : AV} : pt l (some d) x = (d, x) :: l := rfl
@[go_sem] theorem pt_none {l : Fr} {x : AV} : pt l none x = l := rfl
attribute [go_sem] gK gdAll stA AV.gd AV.st ofV ofV1 gsrc
@[go_sem] theorem opA_const {F : AF} {v : Value} : opA F (.const v) = ofV v := rfl
@[go_sem] theorem opA_func {F : AF} {f : FuncId} : opA F (.func f) = .clo f [] := rfl
@[go_sem] theorem opA_tmp {F : AF} {t : Nat} : opA F (.tmp t) = F t := rfl
attribute [go_sem] isNeq binK qP qV Op.operands Call.operands isKind pickP pickA shiftA shiftP loadV loadP ld TK.isAgg alive rowOf lenA lenP binV binP intBin intPre unV unP addrV addrP elemOf' storeK appK cloK
attribute [go_sem] spliceA AV.clOk AV.cl AV.scal convV convP bnd tgt sliceV sliceP optInt mapOps buildA buildAP bslA bslP fillA fillP place zeros numsOf allInt srcA bV bP apT appP appObj mkRow mkP
attribute [go_sem] mupK entK enstK lookP lookK delK isMap keyT valT Option.isSome_some Option.getD_some
attribute [go_sem] opQ argF retK rps rp1 rvs rv1 scopeK
attribute [go_sem] true_and and_true or_true true_or and_self false_and and_false or_false false_or cond_true cond_false implies_true forall_const ne_eq not_false_eq_true not_true_eq_false if_true if_false
attribute [go_sem] List.map_cons List.map_nil List.length_cons List.length_nil List.headD_cons List.getD_cons_zero List.getD_cons_succ List.cons_append List.nil_append List.append_nil List.append_assoc List.take_succ_cons List.take_zero List.drop_succ_cons List.drop_zero Nat.zero_add Nat.add_zero Bool.and_true Bool.true_and Bool.and_false Bool.false_and Bool.not_true Bool.not_false Bool.false_eq_true
end Go.Av
end

section
set_option linter.unusedVariables false
set_option linter.unusedSimpArgs false
namespace Go.Av
variable {P : Program} {m : Hand} {H : Heap} {w : World} {N : Nat} {Q : Post} {l : Fr}

/-! ### shortcuts -/
theorem AW.seq0 {x y : Code} (h : AW P N x (seqK (AW P N y Q) Q) l H) : AW P N (.seq x y) Q l H := by
  intro m w a R F
  refine wp_seq (wp_mono (h m w a R F) ?_)
  rintro e a' w' ⟨m', l', H', h1, h2, h3, h4⟩
  cases e with
  | normal => exact wp_mono (h1 m' w' a' h2 h3) fun e a' w' h => h.ext h4
  | _ => exact ⟨m', l', H', h1, h2, h3, h4⟩
theorem AW.sr {os : List Oper} {id : Nat} {y : Code} (hN : dstOk N os = true) (h : ∀ K : Fr → Heap → Prop, (∀ l' H', AW P N y Q l' H' → K l' H') → opsK P (os.map (·.dst)) os K l H) : AW P N (.seq (.region id os.toArray false) y) Q l H :=
  AW.seq0 (AW.region hN (h (AW P N y Q) fun _ _ hy => hy))
theorem AW.sd {os : List Oper} {id : Nat} {y : Code} (es : List Nat) (hm : P.follows .mixedOrders = true) (hd : drawOk os.toArray es = true) (hN : dstOk N os = true) (h : ∀ K : Fr → Heap → Prop, (∀ l' H', AW P N y Q l' H' → K l' H') → opsD P (os.map (·.dst)) es 0 os K l H) : AW P N (.seq (.region id os.toArray true) y) Q l H :=
  AW.seq0 (AW.draw es hm hd hN (h (AW P N y Q) fun _ _ hy => hy))
theorem AW.sc {c : Operand} {x y z : Code} {b : Bool} (hc : opA (lk l) c = .bool b) (ht : b = true → ∀ K : Fr → Heap → Prop, (∀ l' H', AW P N z Q l' H' → K l' H') → AW P N x (seqK K Q) l H) (hf : b = false → ∀ K : Fr → Heap → Prop, (∀ l' H', AW P N z Q l' H' → K l' H') → AW P N y (seqK K Q) l H) : AW P N (.seq (.cond c x y) z) Q l H :=
  AW.seq0 (AW.cond hc (fun h => ht h _ fun _ _ h => h) (fun h => hf h _ fun _ _ h => h))
theorem AW.cut {x y : Code} (M : Fr → Heap → Prop) (h : AW P N x (seqK (wk M) Q) l H) (hy : ∀ l' H', H.length ≤ H'.length → M l' H' → AW P N y Q l' H') : AW P N (.seq x y) Q l H :=
  AW.seq fun K hK => h.mono fun e l' H' hl hq => by
    cases e with
    | normal =>
      obtain ⟨l0, h1, h2⟩ := hq
      exact hK l' H' hl (AW.le h1 (hy l0 H' hl h2))
    | _ => exact hq

def loopK (id : Nat) (K : Fr → Heap → Prop) (I : Nat → Fr → Heap → Prop) (n : Nat) (Q : Post) : Post
  | .normal, l, H => roundK I n l H
  | .exit id', l, H => if id' = id then K l H else Q (.exit id') l H
  | e, l, H => Q e l H
theorem AW.sloop {id : Nat} {c y : Code} (I : Nat → Fr → Heap → Prop) (n₀ : Nat) (h₀ : wk (I n₀) l H)
    (round : ∀ K : Fr → Heap → Prop, (∀ l' H', H.length ≤ H'.length → AW P N y Q l' H' → K l' H') → ∀ n l' H', H.length ≤ H'.length → I n l' H' → AW P N c (loopK id K I n Q) l' H') : AW P N (.seq (.block id (.loop c)) y) Q l H :=
  AW.seq fun K hK => AW.block (AW.loop I n₀ h₀ fun n l' H' hl hI => (round K hK n l' H' hl hI).mono fun e l1 H1 _ hq => by
    cases e with
    | normal => exact hq
    | exit id' =>
      simp only [loopK] at hq
      simp only [seqK, blockK]
      split at hq
      · rename_i e; rw [if_pos e]; exact hq
      · rename_i e; rw [if_neg e]; exact hq
    | _ => exact hq)
/-- a block -/
theorem AW.sblock {id : Nat} {c y : Code} (h : ∀ K : Fr → Heap → Prop, (∀ l' H', AW P N y Q l' H' → K l' H') → AW P N c (blockK id (seqK K Q)) l H) : AW P N (.seq (.block id c) y) Q l H :=
  AW.seq0 (AW.block (h (AW P N y Q) fun _ _ hy => hy))

@[go_sem] theorem loopK_normal {id : Nat} {K : Fr → Heap → Prop} {I : Nat → Fr → Heap → Prop} {n : Nat} : loopK id K I n Q .normal l H = roundK I n l H := rfl
@[go_sem] theorem loopK_ret {id : Nat} {K : Fr → Heap → Prop} {I : Nat → Fr → Heap → Prop} {n : Nat} : loopK id K I n Q .ret l H = Q .ret l H := rfl
@[go_sem] theorem loopK_exit {id id' : Nat} {K : Fr → Heap → Prop} {I : Nat → Fr → Heap → Prop} {n : Nat} : loopK id K I n Q (.exit id') l H = if id' = id then K l H else Q (.exit id') l H := rfl
@[go_sem] theorem seqK_normal {K : Fr → Heap → Prop} : seqK K Q .normal l H = K l H := rfl
@[go_sem] theorem seqK_ret {K : Fr → Heap → Prop} : seqK K Q .ret l H = Q .ret l H := rfl
@[go_sem] theorem seqK_exit {K : Fr → Heap → Prop} {id : Nat} : seqK K Q (.exit id) l H = Q (.exit id) l H := rfl
@[go_sem] theorem blockK_normal {id : Nat} : blockK id Q .normal l H = Q .normal l H := rfl
@[go_sem] theorem blockK_ret {id : Nat} : blockK id Q .ret l H = Q .ret l H := rfl
@[go_sem] theorem blockK_exit {id id' : Nat} : blockK id Q (.exit id') l H = if id' = id then Q .normal l H else Q (.exit id') l H := rfl

/-! ### looking into a heap that grew -/
@[go_sem] theorem hp_get0 {H L : Heap} : (H ++ L)[H.length]? = L[0]? := by rw [List.getElem?_append_right (Nat.le_refl _), Nat.sub_self]
@[go_sem] theorem hp_getk {H L : Heap} {k : Nat} : (H ++ L)[H.length + k]? = L[k]? := by rw [List.getElem?_append_right (by omega), Nat.add_sub_cancel_left]
@[go_sem] theorem hp_set0 {H L : Heap} {o : Obj} : (H ++ L).set H.length o = H ++ L.set 0 o := by rw [List.set_append_right _ _ (Nat.le_refl _), Nat.sub_self]
@[go_sem] theorem hp_setk {H L : Heap} {k : Nat} {o : Obj} : (H ++ L).set (H.length + k) o = H ++ L.set k o := by rw [List.set_append_right _ _ (by omega), Nat.add_sub_cancel_left]
theorem hp_old {H L : Heap} {id : Nat} {o : Obj} (h : H[id]? = some o) : (H ++ L)[id]? = some o := by
  rw [List.getElem?_append_left (List.getElem?_eq_some_iff.1 h).1]; exact h
attribute [go_sem] List.length_append List.getElem?_cons_zero List.getElem?_cons_succ List.set_cons_zero List.set_cons_succ
@[go_sem] theorem array_ops {a b : List Operand} : (a.toArray ++ b.toArray).toList = a ++ b := by simp
@[go_sem] theorem beq_tt {b : Bool} : (b == true) = b := by cases b <;> rfl
@[go_sem] theorem beq_ff {b : Bool} : (b == false) = !b := by cases b <;> rfl
@[go_sem] theorem toList_arr {α : Type} {a : List α} : a.toArray.toList = a := rfl

/-! ### rows of one's own, and rows that become values -/
theorem sl_none (e : TypeId) (sz : Nat) : w.ownsRow 0 e sz (.slice none 0 0) 0 [] := ⟨by simp, .inl ⟨rfl, rfl⟩⟩
theorem FRel.add {a : Act} {s : Nat} {x : AV} (F : FRel m H w N (lk l) a) (h : ∀ v, VR m H w (lk l s) v → VR m H w x v) : FRel m H w N (lk ((s, x) :: l)) a :=
  ⟨F.size, F.defers, fun t => by
    simp only [lk]
    cases hb : Nat.beq s t with
    | true => have := Nat.eq_of_beq_eq_true hb; subst this; exact h _ (F.val s)
    | false => exact F.val t⟩

theorem own_row {v : Value} {o : Obj} (R : Rel m H w) (hv : VR m H w .nils v) (ho : (∃ e k, o = .nrow 0 e k []) ∨ ∃ e sz, o = .row 0 e sz 0 []) :
    ∃ m', Rel m' (H ++ [o]) w ∧ Ext m H w m' (H ++ [o]) w ∧ (∀ v, VR m H w .nils v → VR m' (H ++ [o]) w (.rref H.length 0 0 0) v) := by
  have hb : ∀ b, b < w.heap.size → w.heap[b]? = w.heap[b]? := fun _ _ => rfl
  have hn : ∀ b, blk (.slice none 0 0) = some b → w.heap.size ≤ b := fun b h => by simp [blk] at h
  have E := Ext.push (w' := w) R (.slice none 0 0) o (Nat.le_refl _) hb hn rfl rfl rfl
  have hOR : OR (hset m H.length (.slice none 0 0)) (H ++ [o]) w (.slice none 0 0) o := by
    rcases ho with ⟨e, k, rfl⟩ | ⟨e, sz, rfl⟩
    · exact sl_none e 1
    · exact ⟨[], sl_none e sz, rfl, fun j hj => by simp at hj, fun j hj => by simp at hj⟩
  obtain ⟨sz, hsig⟩ : ∃ sz, o.sig = some (.r 0 sz 0) := by
    rcases ho with ⟨e, k, rfl⟩ | ⟨e, sz, rfl⟩
    · exact ⟨1, rfl⟩
    · exact ⟨sz, rfl⟩
  refine ⟨_, R.push hn hb E hOR, E, fun v hv => ?_⟩
  cases hv
  have hs' : sg (H ++ [o]) H.length = some (.r 0 sz 0) := by simp [sg, hsig]
  refine .rref _ _ _ _ _ rfl (by simp) (fun v0 sz' N' h => by omega) fun sz' N' h => ?_
  rw [hs'] at h
  simp at h
  obtain ⟨rfl, rfl⟩ := h
  simp only [hset, if_true]
  exact (own_SlOf (w := w) (sl_none 0 sz)).1

theorem AW.own {c : Code} (s : Nat) (o : Obj) (hs : lk l s = .nils) (ho : (∃ e k, o = .nrow 0 e k []) ∨ ∃ e sz, o = .row 0 e sz 0 []) (h : AW P N c Q ((s, .rref H.length 0 0 0) :: l) (H ++ [o])) : AW P N c Q l H :=
  AW.ghost (fun m w a R F => by
    have hv := F.val s
    rw [hs] at hv
    obtain ⟨m', R', E, hk⟩ := own_row R hv ho
    refine ⟨m', R', ?_, E⟩
    have F' := F.ext E
    exact ⟨F'.size, F'.defers, fun t => by
      simp only [lk]
      cases hb : Nat.beq s t with
      | true => have := Nat.eq_of_beq_eq_true hb; subst this; exact hk _ hv
      | false => exact F'.val t⟩) h
theorem AW.ownN {c : Code} (s : Nat) (e : TypeId) (k : IntKind) (hs : lk l s = .nils) (h : AW P N c Q ((s, .rref H.length 0 0 0) :: l) (H ++ [.nrow 0 e k []])) : AW P N c Q l H := AW.own s _ hs (.inl ⟨e, k, rfl⟩) h
theorem AW.ownR {c : Code} (s : Nat) (e : TypeId) (sz : Nat) (hs : lk l s = .nils) (h : AW P N c Q ((s, .rref H.length 0 0 0) :: l) (H ++ [.row 0 e sz 0 []])) : AW P N c Q l H := AW.own s _ hs (.inr ⟨e, sz, rfl⟩) h

theorem AW.freezeN {c : Code} (s id : Nat) {ver off n e : Nat} {k : IntKind} {xs : List Int} (hs : lk l s = .rref id ver off n) (hc : H[id]? = some (.nrow ver e k xs)) (h : AW P N c Q ((s, .nums k false ((xs.drop off).take n)) :: l) (H.set id .dead)) : AW P N c Q l H :=
  AW.ghost (fun m w a R F => by
    have hv := F.val s
    rw [hs] at hv
    obtain ⟨R', E⟩ := e_kill R (by simp [sg, hc, Obj.sig] : sg H id = some (.r ver 1 xs.length))
    refine ⟨m, R', ?_, E⟩
    have F' := F.ext E
    exact ⟨F'.size, F'.defers, fun t => by
      simp only [lk]
      cases hb : Nat.beq s t with
      | true => have := Nat.eq_of_beq_eq_true hb; subst this; exact freeze_n R hc hv
      | false => exact F'.val t⟩) h
theorem AW.freezeR {c : Code} (s id : Nat) {ver off n e sz n' : Nat} {cs : List AV} (hs : lk l s = .rref id ver off n) (hc : H[id]? = some (.row ver e sz n' cs)) (h : AW P N c Q ((s, .sl false n ((cs.drop (off * sz)).take (n * sz))) :: l) (H.set id .dead)) : AW P N c Q l H :=
  AW.ghost (fun m w a R F => by
    have hv := F.val s
    rw [hs] at hv
    obtain ⟨R', E⟩ := e_kill R (by simp [sg, hc, Obj.sig] : sg H id = some (.r ver sz n'))
    refine ⟨m, R', ?_, E⟩
    have F' := F.ext E
    exact ⟨F'.size, F'.defers, fun t => by
      simp only [lk]
      cases hb : Nat.beq s t with
      | true => have := Nat.eq_of_beq_eq_true hb; subst this; exact freeze_r R hc hv
      | false => exact F'.val t⟩) h

end Go.Av
end

section
set_option linter.unusedVariables false
set_option linter.unusedSimpArgs false
namespace Go.Av
variable {P : Program} {m : Hand} {H : Heap} {w : World} {N : Nat} {Q : Post} {l : Fr}

theorem w_i64 {n : Int} (h0 : -9223372036854775808 ≤ n) (h1 : n < 9223372036854775808) : IntKind.wrap .i64 n = n := by rw [IntKind.wrap_i64]; omega
theorem w_u64 {n : Int} (h0 : 0 ≤ n) (h1 : n < 18446744073709551616) : IntKind.wrap .u64 n = n := by rw [IntKind.wrap_u64]; omega
theorem w_i32 {n : Int} (h0 : -2147483648 ≤ n) (h1 : n < 2147483648) : IntKind.wrap .i32 n = n := by rw [IntKind.wrap_i32]; omega
theorem w_u32 {n : Int} (h0 : 0 ≤ n) (h1 : n < 4294967296) : IntKind.wrap .u32 n = n := by rw [IntKind.wrap_u32]; omega
theorem w_u8 {n : Int} (h0 : 0 ≤ n) (h1 : n < 256) : IntKind.wrap .u8 n = n := by rw [IntKind.wrap_u8]; omega

theorem AW.sq {x y : Code} (h : ∀ K : Fr → Heap → Prop, (∀ l' H', AW P N y Q l' H' → K l' H') → AW P N x (seqK K Q) l H) : AW P N (.seq x y) Q l H :=
  AW.seq0 (h (AW P N y Q) fun _ _ hy => hy)

theorem AW.rg {os : List Oper} {id : Nat} (hN : dstOk N os = true) (h : ∀ K : Fr → Heap → Prop, (∀ l' H', Q .normal l' H' → K l' H') → opsK P (os.map (·.dst)) os K l H) : AW P N (.region id os.toArray false) Q l H :=
  AW.region hN (h _ fun _ _ h => h)
theorem AW.dg {os : List Oper} {id : Nat} (es : List Nat) (hm : P.follows .mixedOrders = true) (hd : drawOk os.toArray es = true) (hN : dstOk N os = true) (h : ∀ K : Fr → Heap → Prop, (∀ l' H', Q .normal l' H' → K l' H') → opsD P (os.map (·.dst)) es 0 os K l H) : AW P N (.region id os.toArray true) Q l H :=
  AW.draw es hm hd hN (h _ fun _ _ h => h)

/-- a fact that the relation gives -/
theorem AW.have {c : Code} {p : Prop} (g : ∀ m w a, Rel m H w → FRel m H w N (lk l) a → p) (h : p → AW P N c Q l H) : AW P N c Q l H :=
  fun m w a R F => h (g m w a R F) m w a R F
theorem AW.lenN {c : Code} (s : Nat) {k : IntKind} {t : Bool} {xs : List Int} (hs : lk l s = .nums k t xs) (h : xs.length ≤ 9223372036854775807 → AW P N c Q l H) : AW P N c Q l H :=
  AW.have (fun m w a R F => by
    have := F.val s
    rw [hs] at this
    generalize a.tmps.getD s undef = u at this
    cases this with
    | nums _ _ _ a c hn hc hm ht hh => unfold maxLen at hm; omega) h
theorem AW.lenS {c : Code} (s : Nat) {n : Nat} {t : Bool} {cs : List AV} (hs : lk l s = .sl t n cs) (h : n ≤ 9223372036854775807 → AW P N c Q l H) : AW P N c Q l H :=
  AW.have (fun m w a R F => by
    have := F.val s
    rw [hs] at this
    generalize a.tmps.getD s undef = u at this
    cases this with
    | sl _ _ _ a c cv hn hc hm ht hh hv h1 => unfold maxLen at hm; omega) h

theorem VR.nilN {v : Value} {k : IntKind} {t : Bool} (h : VR m H w .nils v) : VR m H w (.nums k t []) v := by
  cases h
  exact .nums k t [] none 0 (fun _ => rfl) (Nat.le_refl _) (Nat.zero_le _) (fun _ => rfl) (.inl rfl)
theorem VR.nilS {v : Value} {t : Bool} (h : VR m H w .nils v) : VR m H w (.sl t 0 []) v := by
  cases h
  exact .sl t 0 [] none 0 (fun _ => undef) (fun _ => rfl) (Nat.le_refl _) (Nat.zero_le _) (fun _ => rfl) (.inl rfl) (fun j hj => absurd hj (Nat.not_lt_zero _)) (fun j hj => absurd hj (Nat.not_lt_zero _))
theorem VR.loose {v : Value} {k : IntKind} {t : Bool} {xs : List Int} (h : VR m H w (.nums k t xs) v) : VR m H w (.nums k false xs) v := by
  cases h with
  | nums _ _ _ a c hn hc hm ht h => exact .nums k false xs a c hn hc hm (by simp) h
theorem VR.looseS {v : Value} {n : Nat} {t : Bool} {cs : List AV} (h : VR m H w (.sl t n cs) v) : VR m H w (.sl false n cs) v := by
  cases h with
  | sl _ _ _ a c cv hn hc hm ht h hv h1 => exact .sl false n cs a c cv hn hc hm (by simp) h hv h1
/-- another word for the same value -/
def Sub (x y : AV) : Prop := ∀ m H w v, VR m H w x v → VR m H w y v
theorem Sub.refl (x : AV) : Sub x x := fun _ _ _ _ h => h
theorem Sub.nilN {k : IntKind} {t : Bool} : Sub .nils (.nums k t []) := fun _ _ _ _ h => h.nilN
theorem Sub.nilS {t : Bool} : Sub .nils (.sl t 0 []) := fun _ _ _ _ h => h.nilS
theorem Sub.loose {k : IntKind} {t : Bool} {xs : List Int} : Sub (.nums k t xs) (.nums k false xs) := fun _ _ _ _ h => h.loose
theorem Sub.looseS {n : Nat} {t : Bool} {cs : List AV} : Sub (.sl t n cs) (.sl false n cs) := fun _ _ _ _ h => h.looseS
theorem AW.sub {c : Code} (s : Nat) {y : AV} (hs : Sub (lk l s) y) (h : AW P N c Q ((s, y) :: l) H) : AW P N c Q l H :=
  AW.ghost (fun m w a R F => ⟨m, R, F.add (fun v hv => hs _ _ _ _ hv), Ext.refl _ _ _⟩) h
theorem AW.bloop {id : Nat} {c : Code} (I : Nat → Fr → Heap → Prop) (n₀ : Nat) (h₀ : wk (I n₀) l H)
    (round : ∀ n l' H', H.length ≤ H'.length → I n l' H' → AW P N c (loopK id (Q .normal) I n Q) l' H') : AW P N (.block id (.loop c)) Q l H :=
  AW.block (AW.loop I n₀ h₀ fun n l' H' hl hI => (round n l' H' hl hI).mono fun e l1 H1 _ hq => by
    cases e with
    | normal => exact hq
    | exit id' => exact hq
    | _ => exact hq)

@[go_sem] theorem numsOf_map {k : IntKind} : ∀ {xs : List Int}, numsOf (xs.map (AV.int k)) = xs
  | [] => rfl
  | x :: xs => by simp only [List.map_cons, numsOf, numsOf_map (xs := xs)]
@[go_sem] theorem allInt_map {k : IntKind} : ∀ {xs : List Int}, allInt k (xs.map (AV.int k)) = True
  | [] => rfl
  | x :: xs => by simp only [List.map_cons, allInt, allInt_map (xs := xs), and_self]
@[go_sem] theorem cond_and {a b : Bool} : (bif a then b else false) = (a && b) := by cases a <;> rfl
@[go_sem] theorem cond_or {a b : Bool} : (bif a then true else b) = (a || b) := by cases a <;> rfl
attribute [go_sem] false_implies imp_self List.contains_cons List.contains_nil Bool.or_false Bool.false_or Bool.or_true Bool.true_or List.mem_cons List.not_mem_nil forall_eq_or_imp forall_eq Int.zero_tdiv Int.zero_tmod Int.toNat_zero Nat.pow_zero List.replicate_zero List.flatten_nil IntKind.bits Int.toNat_natCast Nat.sub_zero Option.map_none Option.map_some List.length_map List.length_take List.length_drop
attribute [go_sem] decide_eq_true_eq decide_eq_false_iff_not
end Go.Av
end

section
set_option linter.unusedVariables false
set_option linter.unusedSimpArgs false
namespace Go.Av
variable {P : Program} {m : Hand} {H : Heap} {w : World} {N : Nat} {Q : Post} {l : Fr}

/-! ### a scope in which the run jumps to labels: what holds at each, and a measure that every pass lowers -/
def jumpM (B : Nat → Act → World → Prop) (Q : Exit → Act → World → Prop) : Exit → Act → World → Prop
  | .goto t, a, w => B t a w
  | e, a, w => Q e a w

theorem wp_scope_multi {c : Code} {Q : Exit → Act → World → Prop} {a : Act} (J : Nat → Nat → Act → World → Prop)
    (pass : ∀ t n a w, J t n a w → ∃ rest, findLabel c t = some rest ∧ rest.wp P (jumpM (fun t' a' w' => ∃ n', n' < n ∧ J t' n' a' w') Q) a w)
    (first : c.wp P (jumpM (fun t a w => ∃ n, J t n a w) Q) a w) : (Code.scope c).wp P Q a w := by
  intro b k cs
  have key : ∀ n t a w, J t n a w → ∃ rest, findLabel c t = some rest ∧ ∃ e a' w', Q e a' w' ∧ Arrives P (lone (b.at a (.code rest :: .inScope c :: k)) cs w) b k cs e a' w' := by
    intro n
    induction n using Nat.strongRecOn with
    | _ n ih =>
      intro t a w hJ
      obtain ⟨rest, hf, hw⟩ := pass t n a w hJ
      refine ⟨rest, hf, ?_⟩
      obtain ⟨e, a₁, w₁, hq, harr⟩ := hw b (.inScope c :: k) cs
      cases e with
      | normal => exact ⟨.normal, a₁, w₁, hq, Steps.trans harr (.one step_inScope)⟩
      | exit id => exact ⟨.exit id, a₁, w₁, hq, fun k' hk => harr k' (by simp [exitTo, hk])⟩
      | goto t' =>
        obtain ⟨n', hlt, hJ'⟩ := hq
        obtain ⟨rest', hf', e₂, a₂, w₂, hq₂, harr₂⟩ := ih n' hlt t' a₁ w₁ hJ'
        exact ⟨e₂, a₂, w₂, hq₂, .of_steps (harr _ (by simp [gotoIn, hf'])) harr₂⟩
      | ret => exact ⟨_, a₁, w₁, hq, harr⟩
      | panic ch => exact ⟨_, a₁, w₁, hq, harr⟩
      | outgrown => exact ⟨_, a₁, w₁, hq, harr⟩
  obtain ⟨e, a₁, w₁, hq, harr⟩ := first b (.inScope c :: k) cs
  cases e with
  | normal => exact ⟨.normal, a₁, w₁, hq, .head step_scope (Steps.trans harr (.one step_inScope))⟩
  | exit id => exact ⟨.exit id, a₁, w₁, hq, fun k' hk => .head step_scope (harr k' (by simp [exitTo, hk]))⟩
  | goto t' =>
    obtain ⟨n', hJ'⟩ := hq
    obtain ⟨rest', hf', e₂, a₂, w₂, hq₂, harr₂⟩ := key n' t' a₁ w₁ hJ'
    exact ⟨e₂, a₂, w₂, hq₂, .of_steps (.head step_scope (harr _ (by simp [gotoIn, hf']))) harr₂⟩
  | ret => exact ⟨_, a₁, w₁, hq, .of_steps (.one step_scope) harr⟩
  | panic ch => exact ⟨_, a₁, w₁, hq, .of_steps (.one step_scope) harr⟩
  | outgrown => exact ⟨_, a₁, w₁, hq, .of_steps (.one step_scope) harr⟩

def gotoK (B : Nat → Fr → Heap → Prop) (Q : Post) : Post
  | .goto t => B t
  | e => Q e
/-- J t n l H: what holds at label t, the measure being n (l: the slots that are still known) -/
theorem AW.jumps {c : Code} (J : Nat → Nat → Fr → Heap → Prop)
    (pass : ∀ t n l' H', H.length ≤ H'.length → J t n l' H' → ∃ rest, findLabel c t = some rest ∧ AW P N rest (gotoK (fun t' l1 H1 => ∃ n', n' < n ∧ ∃ l0, Av.le l0 l1 ∧ J t' n' l0 H1) Q) l' H')
    (first : AW P N c (gotoK (fun t l1 H1 => ∃ n, ∃ l0, Av.le l0 l1 ∧ J t n l0 H1) Q) l H) : AW P N (.scope c) Q l H := by
  intro m w a R F
  refine wp_scope_multi (fun t n a' w' => ∃ m' l' H', J t n l' H' ∧ Rel m' H' w' ∧ FRel m' H' w' N (lk l') a' ∧ Ext m H w m' H' w') ?_ ?_
  · rintro t n a1 w1 ⟨m1, l1, H1, hJ, R1, F1, E1⟩
    obtain ⟨rest, hf, hw⟩ := pass t n l1 H1 E1.len hJ
    refine ⟨rest, hf, wp_mono (hw m1 w1 a1 R1 F1) ?_⟩
    rintro e a' w' ⟨m', l', H', h1, h2, h3, h4⟩
    cases e with
    | goto t' =>
      obtain ⟨n', hn, l0, hl, hJ'⟩ := h1
      exact ⟨n', hn, m', l0, H', hJ', h2, h3.le hl, E1.trans h4⟩
    | _ => exact ⟨m', l', H', h1, h2, h3, E1.trans h4⟩
  · refine wp_mono (first m w a R F) ?_
    rintro e a' w' ⟨m', l', H', h1, h2, h3, h4⟩
    cases e with
    | goto t' =>
      obtain ⟨n', l0, hl, hJ'⟩ := h1
      exact ⟨n', m', l0, H', hJ', h2, h3.le hl, h4⟩
    | _ => exact ⟨m', l', H', h1, h2, h3, h4⟩
@[go_sem] theorem gotoK_goto {B : Nat → Fr → Heap → Prop} {t : Nat} {H : Heap} : gotoK B Q (.goto t) l H = B t l H := rfl
@[go_sem] theorem gotoK_normal {B : Nat → Fr → Heap → Prop} {H : Heap} : gotoK B Q .normal l H = Q .normal l H := rfl
@[go_sem] theorem gotoK_ret {B : Nat → Fr → Heap → Prop} {H : Heap} : gotoK B Q .ret l H = Q .ret l H := rfl
@[go_sem] theorem gotoK_exit {B : Nat → Fr → Heap → Prop} {id : Nat} {H : Heap} : gotoK B Q (.exit id) l H = Q (.exit id) l H := rfl

/-! ### other words for the cells of an object -/
theorem Rel.recell {id k : Nat} {cs : List AV} {y : AV} (R : Rel m H w) (hc : H[id]? = some (.cells cs)) (hy : ∀ v, VR m H w (cs.getD k .junk) v → VR m H w y v ∧ v.oneCell' = true) : Rel m (H.set id (.cells (cs.set k y))) w ∧ Ext m H w m (H.set id (.cells (cs.set k y))) w := by
  have hsg := sg_some hc
  have hself : hset m id (m id) = m := by funext i; simp only [hset]; split <;> simp_all
  have E := Ext.set (w' := w) (o' := .cells (cs.set k y)) (hv := m id) R hsg (Nat.le_refl _) (fun _ _ _ => rfl) (fun b' h => .inl h) (by simp [Obj.sig, Later, Sig.le]) (fun _ => rfl) rfl rfl rfl
  have R' := R.set hsg (fun _ _ _ => rfl) (fun b' h => .inl h) E (by
    obtain ⟨b, c, T, h1, h2, h3, h4, h5⟩ := R.obj id _ hc
    rw [hself] at E ⊢
    refine ⟨b, c, T, h1, h2, by simpa using h3, fun j hj => ?_, fun j hj => h5 j (by simpa using hj)⟩
    have hj' : j < cs.length := by simpa using hj
    rw [List.getElem_set]
    split
    · rename_i e
      subst e
      have := h4 k hj'
      have e2 : cs.getD k .junk = cs[k] := by simp [List.getD, hj']
      exact ((hy _ (by rw [e2]; exact this)).1).ext E
    · exact (h4 j hj').ext E)
  rw [hself] at E R'
  exact ⟨R', E⟩

theorem nils_one {v : Value} (h : VR m H w .nils v) : v.oneCell' = true := by cases h; rfl

/-- an empty slice in a cell becomes a row of one's own -/
theorem AW.ownC {c : Code} (id k : Nat) (o : Obj) {cs : List AV} (hc : H[id]? = some (.cells cs)) (hk : cs[k]? = some .nils) (ho : (∃ e k, o = .nrow 0 e k []) ∨ ∃ e sz, o = .row 0 e sz 0 [])
    (h : AW P N c Q l (H.set id (.cells (cs.set k (.rref H.length 0 0 0))) ++ [o])) : AW P N c Q l H :=
  AW.ghost (fun m w a R F => by
    have hlt : id < H.length := (List.getElem?_eq_some_iff.1 hc).1
    have hkl : k < cs.length := (List.getElem?_eq_some_iff.1 hk).1
    obtain ⟨b, ca, T, h1, h2, h3, h4, h5⟩ := R.obj id _ hc
    have hv := h4 k hkl
    have e1 : cs[k] = .nils := by simpa [List.getElem?_eq_getElem hkl] using hk
    rw [e1] at hv
    obtain ⟨m', R', E, hkk⟩ := own_row R hv ho
    have hc' : (H ++ [o])[id]? = some (.cells cs) := hp_old hc
    obtain ⟨R2, E2⟩ := R'.recell (k := k) (y := .rref H.length 0 0 0) hc' (fun v hv => by
      have e2 : cs.getD k .junk = .nils := by simp [List.getD, hk]
      rw [e2] at hv
      cases hv
      exact ⟨hkk _ .nils, rfl⟩)
    have e3 : (H ++ [o]).set id (.cells (cs.set k (.rref H.length 0 0 0))) = H.set id (.cells (cs.set k (.rref H.length 0 0 0))) ++ [o] := by
      rw [List.set_append_left _ _ hlt]
    rw [e3] at R2 E2
    exact ⟨m', R2, (F.ext E).ext E2, E.trans E2⟩) h
theorem AW.ownCR {c : Code} (id k : Nat) (e : TypeId) (sz : Nat) {cs : List AV} (hc : H[id]? = some (.cells cs)) (hk : cs[k]? = some .nils)
    (h : AW P N c Q l (H.set id (.cells (cs.set k (.rref H.length 0 0 0))) ++ [.row 0 e sz 0 []])) : AW P N c Q l H := AW.ownC id k _ hc hk (.inr ⟨e, sz, rfl⟩) h
theorem AW.ownCN {c : Code} (id k : Nat) (e : TypeId) (kk : IntKind) {cs : List AV} (hc : H[id]? = some (.cells cs)) (hk : cs[k]? = some .nils)
    (h : AW P N c Q l (H.set id (.cells (cs.set k (.rref H.length 0 0 0))) ++ [.nrow 0 e kk []])) : AW P N c Q l H := AW.ownC id k _ hc hk (.inl ⟨e, kk, rfl⟩) h
end Go.Av
end

section
set_option linter.unusedVariables false
set_option linter.unusedSimpArgs false
open Go.RowKit
namespace Go.Av
variable {P : Program} {m : Hand} {H : Heap} {w : World} {N : Nat} {Q : Post} {l : Fr}

/-! ### an append that makes a row of one's own -/
def baseA : AV → Option (Nat × List AV)
  | .nils => some (0, [])
  | .sl true n ds => some (n, ds)
  | .nums k true xs => some (xs.length, xs.map (AV.int k))
  | _ => none
def newRow (eI : TI) (e : TypeId) (n : Nat) (cs : List AV) : Obj :=
  match eI.kind with
  | .int k => .nrow 0 e k (numsOf cs)
  | _ => .row 0 e eI.size n cs
def appNewP (tI eI : TI) (n k : Nat) (ds cs : List AV) : Prop :=
  (match tI.kind with | .slice _ => True | _ => False) ∧ 0 < k ∧ 0 < eI.zero.length ∧ eI.zero.length = eI.size ∧ ds.length = n * eI.size ∧ cs.length = k * eI.size ∧ n + k ≤ 4611686018427387903 ∧ (n + k) * eI.bytes ≤ 140737488355328 ∧
    (match eI.kind with | .int kd => eI.size = 1 ∧ allInt kd (ds ++ cs) | _ => True)
def appNewK (P : Program) (H : Heap) (ts : List TypeId) (x y : AV) (K : AV → Heap → Prop) : Prop :=
  match baseA x, srcA H y with
  | some (n, ds), some (k, cs) => ts = [ts.headD 0, ts.headD 0] ∧ appNewP (tyI P (ts.headD 0)) (tyI P (elemOf' (tyI P (ts.headD 0)))) n k ds cs ∧
      K (.rref H.length 0 0 (n + k)) (H ++ [newRow (tyI P (elemOf' (tyI P (ts.headD 0)))) (elemOf' (tyI P (ts.headD 0))) (n + k) (ds ++ cs)])
  | _, _ => False

theorem base_spec {x : AV} {u : Value} {n : Nat} {ds : List AV} {sz : Nat} (R : Rel m H w) (hx : VR m H w x u) (hb : baseA x = some (n, ds)) (hdl : ds.length = n * sz) (hsz : 0 < sz) :
    ∃ a0 olds, u = .slice a0 n n ∧ Cl m H w olds ds ∧ (a0 = none → olds = []) ∧ (∀ ad, a0 = some ad → ∀ j v, olds[j]? = some v → w.cell? (ad.add j) = some v) := by
  have sl : ∀ n ds, VR m H w (.sl true n ds) u → ds.length = n * sz → ∃ a0 olds, u = .slice a0 n n ∧ Cl m H w olds ds ∧ (a0 = none → olds = []) ∧ (∀ ad, a0 = some ad → ∀ j v, olds[j]? = some v → w.cell? (ad.add j) = some v) := by
    intro n ds hx hdl
    obtain ⟨a0, c0, olds, e0, h1, h2, h3⟩ := src_spec (sz := sz) (n := n) (cs := ds) R hx rfl hdl hsz
    have : c0 = n := by
      cases hx with
      | sl _ _ _ a c cv hn hc hm ht h hv h1 => simp at e0; rw [← e0.2]; exact ht rfl
    subst this
    exact ⟨a0, olds, e0, h1, fun h => (h2 h).2.2.1, h3⟩
  unfold baseA at hb
  split at hb
  · simp at hb
    obtain ⟨rfl, rfl⟩ := hb
    cases hx
    exact ⟨none, [], rfl, ⟨rfl, fun j hj => by simp at hj, fun j hj => by simp at hj⟩, fun _ => rfl, fun ad h => by cases h⟩
  · simp at hb
    obtain ⟨rfl, rfl⟩ := hb
    exact sl _ _ hx hdl
  · simp at hb
    obtain ⟨rfl, rfl⟩ := hb
    exact sl _ _ (nums_sl hx) hdl
  · simp at hb

theorem e_appendNew {t ty : TypeId} {n k : Nat} {x y : AV} {u v : Value} {ds cs : List AV} (R : Rel m H w) (hx : VR m H w x u) (hy : VR m H w y v) (hb : baseA x = some (n, ds)) (hs : srcA H y = some (k, cs))
    (hp : appNewP (tyI P t) (tyI P (elemOf' (tyI P t))) n k ds cs) :
    ES P m H w (Builtin.append_ #[t, t] ty #[u, v]) (.rref H.length 0 0 (n + k)) (H ++ [newRow (tyI P (elemOf' (tyI P t))) (elemOf' (tyI P t)) (n + k) (ds ++ cs)]) := by
  obtain ⟨hk0, hkp, hz0, hz1, hdl, hcl, h63, hby, hall⟩ := hp
  obtain ⟨e, hk⟩ : ∃ e, (tyI P t).kind = .slice e := by cases hq : (tyI P t).kind <;> rw [hq] at hk0 <;> first | exact hk0.elim | exact ⟨_, rfl⟩
  have he : elemOf' (tyI P t) = e := by simp [elemOf', hk]
  rw [he] at hz0 hz1 hdl hcl hby hall ⊢
  obtain ⟨inf, z, hinf, hz, ez⟩ := zero_info hz0
  obtain ⟨eby, esz⟩ := bytes_info hinf
  rw [← eby] at hby
  have hpos : 0 < (tyI P e).size := by omega
  have hzs : z.cells.size = (tyI P e).size := by rw [← hz1, ez]; simp
  obtain ⟨a, c, news, rfl, hC, hnone, hnews⟩ := src_spec (sz := (tyI P e).size) R hy hs hcl hpos
  obtain ⟨a0, olds, rfl, hC0, hn0, holds⟩ := base_spec (sz := (tyI P e).size) R hx hb hdl hpos
  have hnl : news.length = k * (tyI P e).size := hC.1.trans hcl
  have hm63 : n + k ≤ maxLen := by unfold maxLen; omega
  have hol : olds.length = n * (tyI P e).size := hC0.1.trans hdl
  have hsrc : Src P inf.size t (.slice a k c) k news w := by
    rw [esz]
    cases a with
    | none => obtain ⟨rfl, rfl, rfl, _⟩ := hnone rfl; exact Src.ofNil w (kind_slice hk) 0
    | some ad => exact Src.ofSlice w (kind_slice hk) ad k c news hnl (hnews ad rfl) hC.one
  have hold : (Builtin.firstCells inf.size n (.slice a0 n n)).run P w.drew = .ok olds.toArray w.drew := by
    rw [esz]
    cases a0 with
    | none =>
      rw [hn0 rfl]
      exact run_firstCells_none w.drew _ n n n
    | some ad => exact run_firstCells_some w.drew _ n ad n n olds hol (by simpa using holds ad rfl)
  have hg : n < n + k := by omega
  have hrun := run_append_grow_src (P := P) w t t ty e inf z (kind_slice hk) hinf hz a0 n n olds hold (.slice a k c) k news hsrc hg (by omega) (growslice_fits hg hby)
  generalize hcap : grownCap w (n + k) n e = cap at hrun
  have hge : n + k ≤ cap := by rw [← hcap]; exact grownCap_ge w (n + k) n e
  have hle : cap ≤ maxLen := by rw [← hcap]; exact grownCap_le_maxLen w (n + k) n e hm63
  have hCC := hC0.append hC
  generalize hbk : (olds ++ news).toArray ++ Builtin.zeroCells z.cells (cap - (n + k)) = blk' at hrun
  have hlen : (olds ++ news).length = (n + k) * (tyI P e).size := by rw [List.length_append, hol, hnl, Nat.add_mul]
  have hown : (w.drew.alloc (.cells blk' e)).ownsRow 0 e (tyI P e).size (.slice (some ⟨w.heap.size, 0, none⟩) (n + k) cap) (n + k) (olds ++ news) := by
    refine ⟨hlen, .inr ⟨w.heap.size, cap, blk', rfl, Nat.zero_le _, ?_, hge, hle, ?_, ?_⟩⟩
    · have key : ∀ W : World, (W.alloc (.cells blk' e)).heap[W.heap.size]? = some (.cells blk' e (0, 0)) := fun W => by simp [World.alloc, -World.alloc_eq]
      exact key w.drew
    · rw [← hbk]
      simp only [Array.size_append, List.size_toArray, hlen, Builtin.zeroCells, Array.size_map, Array.size_range, hzs]
      rw [← Nat.add_mul]
      congr 1
      omega
    · rw [← hbk, ← hlen]
      simp only [Array.toList_append]
      exact List.take_left' rfl
  have hbo : ∀ b, b < w.heap.size → (w.drew.alloc (.cells blk' e)).heap[b]? = w.heap[b]? := fun b hb => by rw [Below.heap_alloc _ _ _ (by simpa using hb)]; rfl
  have hn : ∀ b, blk (.slice (some ⟨w.heap.size, 0, none⟩) (n + k) cap) = some b → w.heap.size ≤ b := fun b h => by simp [blk] at h; omega
  have hsig : (newRow (tyI P e) e (n + k) (ds ++ cs)).sig = some (.r 0 (tyI P e).size (n + k)) := by
    unfold newRow
    split
    · rename_i kd hq
      rw [hq] at hall
      have : (numsOf (ds ++ cs)).length = n + k := by rw [numsOf_length, List.length_append, hdl, hcl, hall.1]; omega
      simp [Obj.sig, hall.1, this]
    · rfl
  have E := Ext.push (w' := w.drew.alloc (.cells blk' e)) R (.slice (some ⟨w.heap.size, 0, none⟩) (n + k) cap) (newRow (tyI P e) e (n + k) (ds ++ cs)) (by simp) hbo hn rfl rfl rfl
  have ho : OR (hset m H.length (.slice (some ⟨w.heap.size, 0, none⟩) (n + k) cap)) (H ++ [newRow (tyI P e) e (n + k) (ds ++ cs)]) (w.drew.alloc (.cells blk' e)) (.slice (some ⟨w.heap.size, 0, none⟩) (n + k) cap) (newRow (tyI P e) e (n + k) (ds ++ cs)) := by
    unfold newRow at E ⊢
    split at E
    · rename_i kd hq
      rw [hq] at hall
      have e1 := allInt_spec hall.2
      rw [e1] at hCC
      have e2 := hCC.ints
      have e3 : (numsOf (ds ++ cs)).length = n + k := by rw [numsOf_length, List.length_append, hdl, hcl, hall.1]; omega
      show World.ownsRow _ 0 e 1 _ (numsOf (ds ++ cs)).length _
      rw [e3, ← e2]
      rw [hall.1] at hown
      exact hown
    · exact ⟨_, hown, hCC.1, fun j hj => (hCC.2.1 j hj).ext E, hCC.2.2⟩
  refine ⟨_, _, _, hrun, ?_, R.push hn hbo E ho, E⟩
  have hs' : sg (H ++ [newRow (tyI P e) e (n + k) (ds ++ cs)]) H.length = some (.r 0 (tyI P e).size (n + k)) := by simp [sg, hsig]
  refine .rref _ _ _ _ _ rfl (by simp) (fun v0 sz N h => by omega) fun sz N h => ?_
  rw [hs'] at h
  simp at h
  obtain ⟨rfl, rfl⟩ := h
  simp only [hset, if_true]
  exact (own_SlOf hown).1

/-! regions some of whose appends make rows of one's own: at the places ths -/
def thawK (P : Program) (o : Oper) (F : AF) (H : Heap) (K : AV → Heap → Prop) : Prop :=
  match o.guard, o.op with
  | none, .call { callee := .builtin .append, args, argTypes } => (match args.toList with | [x, y] => appNewK P H argTypes.toList (opA F x) (opA F y) K | _ => False)
  | _, _ => False
def opsT (P : Program) (ds : List (Option Tmp)) (ths : List Nat) : Nat → List Oper → (Fr → Heap → Prop) → Fr → Heap → Prop
  | _, [], K, l, H => K l H
  | i, o :: os, K, l, H => bif ths.contains i then thawK P o (lk l) H (fun x H' => opsT P ds ths (i + 1) os K (pt l o.dst x) H') else stepK P false ds o (lk l) H fun x H' => opsT P ds ths (i + 1) os K (pt l o.dst x) H'
def contT (P : Program) (ds : List (Option Tmp)) (ths : List Nat) (i : Nat) (os : List Oper) (K : Fr → Heap → Prop) (d : Option Tmp) (l : Fr) : AV → Heap → Prop :=
  fun x H' => opsT P ds ths i os K (pt l d x) H'
@[go_sem] theorem opsT_nil {ds : List (Option Tmp)} {ths : List Nat} {i : Nat} {K : Fr → Heap → Prop} : opsT P ds ths i [] K l H = K l H := rfl
@[go_sem] theorem opsT_cons {ds : List (Option Tmp)} {ths : List Nat} {i : Nat} {o : Oper} {os : List Oper} {K : Fr → Heap → Prop} : opsT P ds ths i (o :: os) K l H = bif ths.contains i then thawK P o (lk l) H (contT P ds ths (i + 1) os K o.dst l) else stepK P false ds o (lk l) H (contT P ds ths (i + 1) os K o.dst l) := rfl
@[go_sem] theorem contT_eq {ds : List (Option Tmp)} {ths : List Nat} {i : Nat} {os : List Oper} {K : Fr → Heap → Prop} {d : Option Tmp} {x : AV} : contT P ds ths i os K d l x H = opsT P ds ths i os K (pt l d x) H := rfl
@[go_sem] theorem thawK_eq {F : AF} {d : Option Tmp} {x y : Operand} {ts : Array TypeId} {t : TypeId} {p : String} {es : Array Edge} {K : AV → Heap → Prop} :
    thawK P { dst := d, op := .call { callee := .builtin .append, args := #[x, y], argTypes := ts }, type := t, pos := p, after := es, guard := none } F H K = appNewK P H ts.toList (opA F x) (opA F y) K := rfl
attribute [go_sem] appNewK appNewP newRow baseA

theorem thawK_did {ops : Array Oper} {o : Oper} {F : AF} {a : Act} {K : AV → Heap → Prop} (R : Rel m H w) (FR : FRel m H w N F a) (h : thawK P o F H K) : Did P ops o m H w a K := by
  unfold thawK at h
  split at h
  · rename_i args ts hg hop
    refine .inl ⟨by simp [Region.wanted, hg], ?_⟩
    split at h
    · rename_i x y hxy
      unfold appNewK at h
      split at h
      · rename_i n ds k cs hb hs
        obtain ⟨hts, h1, h2⟩ := h
        obtain ⟨dst, op, type, pos, after, guard⟩ := o
        simp only at hop; subst hop
        have hargs : args = #[x, y] := by apply Array.ext'; simpa using hxy
        subst hargs
        generalize htt : ts.toList.headD 0 = t at *
        have hts' : ts = #[t, t] := by apply Array.ext'; simpa using hts
        subst hts'
        have := e_appendNew (P := P) (ty := type) R (FR.eval x) (FR.eval y) hb hs h1
        have := OpS.of_e (P := P) (K := K) this h2
        simpa [execOp, resolve, invoke, builtin] using this
      · exact h.elim
    · exact h.elim
  · exact h.elim

theorem opsT_wp {ops : Array Oper} {ths : List Nat} {N : Nat} {K : Fr → Heap → Prop} {Q : Exit → Act → World → Prop} {m0 : Hand} {H0 : Heap} {w0 : World} (hN : dstOk N ops.toList = true) (hQ : ∀ m' H' w' l' a', K l' H' → Rel m' H' w' → FRel m' H' w' N (lk l') a' → Ext m0 H0 w0 m' H' w' → Q .normal a' w') :
    ∀ (os : List Oper) (i : Nat), ops.toList.drop i = os → ∀ m H w l a, Rel m H w → FRel m H w N (lk l) a → Ext m0 H0 w0 m H w → opsT P (ops.toList.map (·.dst)) ths i os K l H → wpOps P ops Q (List.range' i os.length) a w
  | [], i, _, m, H, w, l, a, R, FR, E, h => hQ m H w l a h R FR E
  | o :: os, i, hd, m, H, w, l, a, R, FR, E, h => by
    rw [List.length_cons, List.range'_succ, wpOps_cons]
    have ho : ops.toList[i]? = some o := by
      have := congrArg (fun l => l[0]?) hd
      simpa using this
    have hmem : o ∈ ops.toList := List.mem_of_getElem? ho
    have hdid : Did P ops o m H w a (fun x H' => opsT P (ops.toList.map (·.dst)) ths (i + 1) os K (pt l o.dst x) H') := by
      rw [opsT] at h
      cases hc : ths.contains i with
      | true => rw [hc] at h; exact thawK_did R FR h
      | false => rw [hc] at h; exact stepK_did R FR h
    refine Did.wpOp (by simpa using ho) R FR (dstOk_spec hN o hmem) hdid ?_
    intro m' x H' a' w' hK R' E' FR'
    refine opsT_wp hN hQ os (i + 1) ?_ m' H' w' (pt l o.dst x) a' R' (by rw [lk_pt]; exact FR') (E.trans E') hK
    have := congrArg List.tail hd
    simpa using this

theorem AW.regionT {os : List Oper} {id : Nat} (ths : List Nat) (hN : dstOk N os = true) (h : opsT P (os.map (·.dst)) ths 0 os (Q .normal) l H) : AW P N (.region id os.toArray false) Q l H := by
  intro m w a R F
  refine wp_region ?_
  have := opsT_wp (P := P) (ops := os.toArray) (ths := ths) (N := N) (K := Q .normal) (Q := AQ N Q m H w) (m0 := m) (H0 := H) (w0 := w) hN (fun m' H' w' l' a' h1 h2 h3 h4 => ⟨m', l', H', h1, h2, h3, h4⟩) os 0 rfl m H w l a R F (Ext.refl _ _ _) h
  rw [List.range_eq_range']
  exact this
theorem AW.srT {os : List Oper} {id : Nat} {y : Code} (ths : List Nat) (hN : dstOk N os = true) (h : ∀ K : Fr → Heap → Prop, (∀ l' H', AW P N y Q l' H' → K l' H') → opsT P (os.map (·.dst)) ths 0 os K l H) : AW P N (.seq (.region id os.toArray false) y) Q l H :=
  AW.seq0 (AW.regionT ths hN (h (AW P N y Q) fun _ _ hy => hy))
end Go.Av
end

section
set_option linter.unusedVariables false
set_option linter.unusedSimpArgs false
open Go.RowKit
namespace Go.Av
variable {P : Program} {m : Hand} {H : Heap} {w : World} {N : Nat} {Q : Post} {l : Fr}

theorem Rel.recell' {id k : Nat} {cs : List AV} {y : AV} (R : Rel m H w) (hc : H[id]? = some (.cells cs))
    (hy : ∀ b c T, m id = .pointer (some ⟨b, 0, none⟩) → w.heap[b]? = some (.cells c T (0, 0)) → VR m H w y (c.getD k undef)) : Rel m (H.set id (.cells (cs.set k y))) w ∧ Ext m H w m (H.set id (.cells (cs.set k y))) w := by
  have hsg := sg_some hc
  have hself : hset m id (m id) = m := by funext i; simp only [hset]; split <;> simp_all
  have E := Ext.set (w' := w) (o' := .cells (cs.set k y)) (hv := m id) R hsg (Nat.le_refl _) (fun _ _ _ => rfl) (fun b' h => .inl h) (by simp [Obj.sig, Later, Sig.le]) (fun _ => rfl) rfl rfl rfl
  have R' := R.set hsg (fun _ _ _ => rfl) (fun b' h => .inl h) E (by
    obtain ⟨b, c, T, h1, h2, h3, h4, h5⟩ := R.obj id _ hc
    rw [hself] at E ⊢
    refine ⟨b, c, T, h1, h2, by simpa using h3, fun j hj => ?_, fun j hj => h5 j (by simpa using hj)⟩
    have hj' : j < cs.length := by simpa using hj
    rw [List.getElem_set]
    split
    · rename_i e
      subst e
      exact (hy b c T h1 h2).ext E
    · exact (h4 j hj').ext E)
  rw [hself] at E R'
  exact ⟨R', E⟩

/-- a row that a cell names becomes a value -/
theorem AW.freezeC {c : Code} (id k rid : Nat) {cs : List AV} {y : AV} {o : Obj} (hc : H[id]? = some (.cells cs)) (hne : id ≠ rid) {ver off n : Nat} (hk : cs[k]? = some (.rref rid ver off n)) (ho : H[rid]? = some o) (hs : o.sig ≠ none)
    (hf : ∀ m w v, Rel m H w → VR m H w (.rref rid ver off n) v → VR m (H.set rid .dead) w y v)
    (h : AW P N c Q l ((H.set rid .dead).set id (.cells (cs.set k y)))) : AW P N c Q l H :=
  AW.ghost (fun m w a R F => by
    have hkl : k < cs.length := (List.getElem?_eq_some_iff.1 hk).1
    have e1 : cs[k] = .rref rid ver off n := by simpa [List.getElem?_eq_getElem hkl] using hk
    obtain ⟨b, ca, T, h1, h2, h3, h4, h5⟩ := R.obj id _ hc
    have hv := h4 k hkl
    rw [e1] at hv
    have hv' := hf m w _ R hv
    obtain ⟨s, hs'⟩ := Option.ne_none_iff_exists'.1 (show sg H rid ≠ none by rw [sg_some ho]; exact hs)
    obtain ⟨R1, E1⟩ := e_kill R hs'
    have hc' : (H.set rid .dead)[id]? = some (.cells cs) := by rw [List.getElem?_set_ne (Ne.symm hne)]; exact hc
    obtain ⟨R2, E2⟩ := R1.recell' (k := k) (y := y) hc' (fun b' c' T' k1 k2 => by
      rw [h1] at k1; cases k1
      rw [h2] at k2; cases k2
      exact hv')
    exact ⟨m, R2, (F.ext E1).ext E2, E1.trans E2⟩) h
theorem AW.freezeCR {c : Code} (id k rid : Nat) {cs ds : List AV} (hc : H[id]? = some (.cells cs)) (hne : id ≠ rid) {ver off n e sz n' : Nat} (hk : cs[k]? = some (.rref rid ver off n)) (ho : H[rid]? = some (.row ver e sz n' ds))
    (h : AW P N c Q l ((H.set rid .dead).set id (.cells (cs.set k (.sl false n ((ds.drop (off * sz)).take (n * sz))))))) : AW P N c Q l H :=
  AW.freezeC id k rid hc hne hk ho (by simp [Obj.sig]) (fun m w v R hv => freeze_r R ho hv) h
theorem AW.freezeCN {c : Code} (id k rid : Nat) {cs : List AV} {xs : List Int} (hc : H[id]? = some (.cells cs)) (hne : id ≠ rid) {ver off n e : Nat} {kk : IntKind} (hk : cs[k]? = some (.rref rid ver off n)) (ho : H[rid]? = some (.nrow ver e kk xs))
    (h : AW P N c Q l ((H.set rid .dead).set id (.cells (cs.set k (.nums kk false ((xs.drop off).take n)))))) : AW P N c Q l H :=
  AW.freezeC id k rid hc hne hk ho (by simp [Obj.sig]) (fun m w v R hv => freeze_n R ho hv) h

/-- of the heap only this is kept in sight -/
theorem AW.abs {c : Code} {p : Heap → Prop} (hp : p H) (h : ∀ H1, p H1 → AW P N c Q l H1) : AW P N c Q l H := h H hp

theorem AW.condT {c : Operand} {x y : Code} (hc : opA (lk l) c = .bool true) (h : AW P N x Q l H) : AW P N (.cond c x y) Q l H := AW.cond hc (fun _ => h) (fun e => by cases e)
theorem AW.condF {c : Operand} {x y : Code} (hc : opA (lk l) c = .bool false) (h : AW P N y Q l H) : AW P N (.cond c x y) Q l H := AW.cond hc (fun e => by cases e) (fun _ => h)
theorem ACalls.sub {f : FuncId} {xs ys : List AV} {R : AV → Heap → Prop} (hl : xs.length = ys.length) (hs : ∀ j (h : j < xs.length) (h' : j < ys.length), Sub xs[j] ys[j]) (h : ACalls P f ys H R) : ACalls P f xs H R :=
  fun m w vs RR hn hv => h m w vs RR (hn.trans hl) fun j hj => hs j (by omega) hj _ _ _ _ (hv j (by omega))
theorem AW.condt {c : Operand} {x y : Code} {b : Bool} (hc : opA (lk l) c = .bool b) (hb : b = true) (h : AW P N x Q l H) : AW P N (.cond c x y) Q l H := AW.condT (hb ▸ hc) h
theorem AW.condf {c : Operand} {x y : Code} {b : Bool} (hc : opA (lk l) c = .bool b) (hb : b = false) (h : AW P N y Q l H) : AW P N (.cond c x y) Q l H := AW.condF (hb ▸ hc) h
end Go.Av
end
