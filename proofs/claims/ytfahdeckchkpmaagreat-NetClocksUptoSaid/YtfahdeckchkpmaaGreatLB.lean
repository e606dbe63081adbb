/- Proved here: NetClocksUptoSaid, the law NetClocks where what it reads is of bulk at most 1048576; this text holds a part of its proof. -/
import Derived.Test.YtfahdeckchkpmaaGreatL
import Derived.Test.YtfahdeckchkpmaaGreatT25
import Derived.Test.YtfahdeckchkpmaaGreatRows
section
set_option linter.unusedVariables false
set_option linter.unusedSimpArgs false
set_option maxRecDepth 100000
open Go.RowKit Go.ChangeShapes Go.WideShapes Go.Proofs
namespace Go.Av

theorem own_bulk {Q : Type} : Bulky (Q := Q) YtfahdeckchkpmaaGreat.Rows.uptoBulk := by
  have part : ∀ {d : DataW Q} {l : List (DataW Q)}, d ∈ l → YtfahdeckchkpmaaGreat.Rows.uptoBulk d ≤ YtfahdeckchkpmaaGreat.Rows.uptoBulkAll l := by
    intro d l h
    induction l with
    | nil => cases h
    | cons x r ih =>
      simp only [YtfahdeckchkpmaaGreat.Rows.uptoBulkAll]
      cases List.mem_cons.1 h with
      | inl e => subst e; omega
      | inr e => have := ih e; omega
  have one : ∀ d : DataW Q, 1 ≤ YtfahdeckchkpmaaGreat.Rows.uptoBulk d := by
    intro d
    cases d with
    | lit l => cases l <;> simp [YtfahdeckchkpmaaGreat.Rows.uptoBulk]
    | nil => simp [YtfahdeckchkpmaaGreat.Rows.uptoBulk]
    | ptr d => simp [YtfahdeckchkpmaaGreat.Rows.uptoBulk]
    | slice elems spare => simp [YtfahdeckchkpmaaGreat.Rows.uptoBulk]
    | agg parts => simp [YtfahdeckchkpmaaGreat.Rows.uptoBulk]
    | iface t d => simp [YtfahdeckchkpmaaGreat.Rows.uptoBulk]
    | map entries => simp [YtfahdeckchkpmaaGreat.Rows.uptoBulk]
    | held h => simp [YtfahdeckchkpmaaGreat.Rows.uptoBulk]
  have len : ∀ l : List (DataW Q), l.length ≤ YtfahdeckchkpmaaGreat.Rows.uptoBulkAll l := by
    intro l
    induction l with
    | nil => simp
    | cons x r ih => have := one x; simp only [YtfahdeckchkpmaaGreat.Rows.uptoBulkAll, List.length_cons]; omega
  refine ⟨fun bs => ?_, fun es r => ?_, fun es r e he => ?_, fun es e he => ?_⟩
  · simp only [YtfahdeckchkpmaaGreat.Rows.uptoBulk]; omega
  · have := len es; simp only [YtfahdeckchkpmaaGreat.Rows.uptoBulk]; omega
  · have := part he; simp only [YtfahdeckchkpmaaGreat.Rows.uptoBulk]; omega
  · have := part he; simp only [YtfahdeckchkpmaaGreat.Rows.uptoBulk]; omega
theorem own_all {Q : Type} {l : List (DataW Q)} (hk : YtfahdeckchkpmaaGreat.Rows.uptoSmall Q (l ++ []) = true) : ∀ d ∈ l, YtfahdeckchkpmaaGreat.Rows.uptoBulk d ≤ 1048576 := by
  have h : YtfahdeckchkpmaaGreat.Rows.uptoBulkAll l ≤ 1048576 := by simpa [YtfahdeckchkpmaaGreat.Rows.uptoSmall] using hk
  intro d hd
  refine Nat.le_trans ?_ h
  clear hk h
  induction l with
  | nil => cases hd
  | cons x r ih =>
    simp only [YtfahdeckchkpmaaGreat.Rows.uptoBulkAll]
    cases List.mem_cons.1 hd with
    | inl e => subst e; omega
    | inr e => have := ih e; omega

def shKey : Sh := .st [.nums .u64, .nums .u64, .nums .u64]
def shCert : Sh := .st [.int .u32, .str, .str, .int .u32, .int .u32, .nums .u64, .nums .u64, .int .i64, .nums .u8]
def shConf : Sh := .st [.int .u32, .str, shKey, .rows shCert, .st [.nums .u64, .nums .u64, .nums .u64], .nums .u64, .nums .u64, .rows .str, .int .u32, .bool, .int .i64]
def shClock : Sh := .st [.int .u64, .int .i64]
theorem fitsClocks : fitsAll Tryz.prog [.rows shConf, .rows shClock, .int .i64] Tryz.f4.params.toList = true := by kernel_rfl

theorem rowsOf {α : Type} {B : Nat} {s : Sh} {cells : α → List AV} {R : α → Prop} {l : List AV} (h : (Sh.rows s).ok B l) (hs : ∀ l, s.ok B l → ∃ c, l = cells c ∧ R c) :
    ∃ cs : List α, l = [.sl false cs.length (cs.flatMap cells)] ∧ cs.length ≤ B ∧ ∀ c ∈ cs, R c := by
  obtain ⟨ls, rfl, h2, h3⟩ := h
  have key : ∀ ls : List (List AV), (∀ x ∈ ls, s.ok B x) → ∃ cs : List α, ls = cs.map cells ∧ ∀ c ∈ cs, R c := by
    intro ls
    induction ls with
    | nil => exact fun _ => ⟨[], rfl, fun c hc => by cases hc⟩
    | cons x r ih =>
      intro h
      obtain ⟨c, rfl, hc⟩ := hs x (h x (by simp))
      obtain ⟨cs, rfl, hcs⟩ := ih fun y hy => h y (by simp [hy])
      exact ⟨c :: cs, rfl, fun y hy => (List.mem_cons.1 hy).elim (fun e => e ▸ hc) (hcs y)⟩
  obtain ⟨cs, rfl, h4⟩ := key ls h3
  exact ⟨cs, by simp [List.flatMap_def], by simpa using h2, h4⟩

theorem u64Of {xs : List Int} (h : ∀ x ∈ xs, (Lit.int .u64 x).wf = true) : U64 xs := fun x hx => by
  have := h x hx
  simp [Lit.wf, IntKind.min, IntKind.max, IntKind.signed, IntKind.bits] at this
  omega
theorem certOf {l : List AV} (h : shCert.ok 1048576 l) : ∃ c : CertV, l = c.cells ∧ c.Ok := by
  simp only [shCert, Sh.ok, Sh.oks] at h
  obtain ⟨_, _, rfl, ⟨a, rfl, ha⟩, _, _, rfl, ⟨b, rfl, hb⟩, _, _, rfl, ⟨c, rfl, hc⟩, _, _, rfl, ⟨d, rfl, hd⟩, _, _, rfl, ⟨e, rfl, he⟩, _, _, rfl, ⟨f, rfl, hf, hf'⟩, _, _, rfl, ⟨g, rfl, hg, hg'⟩, _, _, rfl, ⟨i, rfl, hi⟩, _, _, rfl, ⟨j, rfl, hj, hj'⟩, rfl⟩ := h
  exact ⟨⟨a, b, c, d, e, f, g, i, j⟩, rfl, ⟨by simp; omega, by simp; omega, u64Of hf', u64Of hg', by simp; omega⟩⟩
theorem strsOf {l : List AV} (h : (Sh.rows .str).ok 1048576 l) : ∃ cs : List ByteArray, l = [strs cs] ∧ cs.length ≤ 1048576 := by
  obtain ⟨cs, h1, h2, _⟩ := rowsOf (cells := fun s => [AV.str s]) (R := fun _ => True) h fun l h => by
    obtain ⟨s, rfl, _⟩ := h
    exact ⟨s, rfl, trivial⟩
  refine ⟨cs, ?_, h2⟩
  rw [h1]
  simp only [strs, ← List.map_eq_flatMap]
theorem confOf {l : List AV} (h : shConf.ok 1048576 l) : ∃ c : ConfV, l = c.cells ∧ c.Fit := by
  simp only [shConf, shKey, Sh.ok.eq_6, Sh.oks] at h
  obtain ⟨_, _, rfl, ⟨a, rfl, ha⟩, _, _, rfl, ⟨b, rfl, hb⟩, _, _, rfl, ⟨_, _, rfl, ⟨c, rfl, hc, hc'⟩, _, _, rfl, ⟨d, rfl, hd, hd'⟩, _, _, rfl, ⟨e, rfl, he, he'⟩, rfl⟩, _, _, rfl, hcs, _, _, rfl, ⟨_, _, rfl, ⟨p, rfl, hp, hp'⟩, _, _, rfl, ⟨q, rfl, hq, hq'⟩, _, _, rfl, ⟨g, rfl, hg, hg'⟩, rfl⟩,
    _, _, rfl, ⟨x, rfl, hx, hx'⟩, _, _, rfl, ⟨y, rfl, hy, hy'⟩, _, _, rfl, hn, _, _, rfl, ⟨i, rfl, hi⟩, _, _, rfl, ⟨j, rfl⟩, _, _, rfl, ⟨k, rfl, hk⟩, rfl⟩ := h
  obtain ⟨cs, rfl, h2, h3⟩ := rowsOf hcs fun l => certOf
  obtain ⟨ns, rfl, h4⟩ := strsOf hn
  exact ⟨⟨a, b, c, d, e, cs, p, q, g, x, y, ns, i, j, k⟩, rfl, ⟨⟨by simp; omega, by simp; omega, by simp; omega, by simp; omega, by simp; omega, by simp; omega, by simp; omega, by simp; omega, u64Of hc', u64Of hd', u64Of he', h3, by simp; omega, by simp; omega⟩, by simp; omega, by simp; omega⟩⟩
theorem clockOf {l : List AV} (h : shClock.ok 1048576 l) : ∃ k : ClockV, l = k.cells ∧ True := by
  simp only [shClock, Sh.ok, Sh.oks] at h
  obtain ⟨_, _, rfl, ⟨a, rfl, ha⟩, _, _, rfl, ⟨b, rfl, hb⟩, rfl⟩ := h
  exact ⟨⟨a, b⟩, rfl, trivial⟩

theorem calls_netClocks {xs : List AV} (h : argsOk 1048576 [.rows shConf, .rows shClock, .int .i64] xs) : ACalls Tryz.prog 4 xs [] (fun x H' => x = .bool true) := by
  simp only [argsOk, Sh.arg] at h
  obtain ⟨_, _, rfl, h1, _, _, rfl, h2, _, _, rfl, h3, rfl⟩ := h
  obtain ⟨l, e1, h4, h5⟩ := rowsOf h1 fun l => confOf
  obtain ⟨ks, e2, h6, _⟩ := rowsOf h2 fun l => clockOf
  obtain ⟨n, e3, _⟩ := h3
  obtain rfl := List.singleton_inj.1 e1
  obtain rfl := List.singleton_inj.1 e2
  obtain rfl := List.singleton_inj.1 e3
  exact c_netClocks h5 (by omega) (by omega)
end Go.Av
end
