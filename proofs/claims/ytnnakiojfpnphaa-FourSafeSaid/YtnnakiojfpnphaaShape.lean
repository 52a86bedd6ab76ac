/- What a value that came in as data is, by the shape of its type: numbers, bools, strings, structs, arrays and slices of these. -/
import Derived.ProofKit
import Derived.OpenShut
import Derived.Test.YtnnakiojfpnphaaLib
set_option linter.unusedVariables false
set_option linter.unusedSimpArgs false
namespace Go.Proofs.Ytnnakiojfpnphaa
open Go.RowKit Go.ChangeShapes Go.WideShapes

theorem mapM_get {α β : Type} {f : α → Option β} : ∀ {l : List α} {r : List β}, l.mapM f = some r → r.length = l.length ∧ ∀ (i : Nat) (x : α), l[i]? = some x → f x = r[i]?
  | [], r, h => by simp at h; subst h; simp
  | a :: l, r, h => by
    simp only [List.mapM_cons, Option.bind_eq_bind, Option.bind_eq_some_iff, Option.pure_def, Option.some.injEq] at h
    obtain ⟨b, hb, bs, hbs, rfl⟩ := h
    obtain ⟨h1, h2⟩ := mapM_get hbs
    refine ⟨by simp [h1], fun i x hi => ?_⟩
    cases i with
    | zero => simp at hi; subst hi; simpa using hb
    | succ i => simp at hi; simpa using h2 i x hi

theorem cells_get {w : World} {base : Nat} {a : Addr} {n : Nat} {cs : List Value} (h : w.cells? base a n = some cs) : cs.length = n ∧ ∀ j v, cs[j]? = some v → w.cell? (a.add j) = some v := by
  unfold World.cells? at h
  split at h
  · obtain ⟨h1, h2⟩ := mapM_get h
    simp at h1
    refine ⟨h1, fun j v hj => ?_⟩
    have hlt : j < n := by rw [← h1]; exact (List.getElem?_eq_some_iff.1 hj).1
    rw [h2 j j (by simp [hlt]), hj]
  · cases h

/-- What a shape knows: how many cells; whether a type of the program is of it; what its cells are; whether its values are aggregates. -/
structure Sh where
  size : Nat
  agg : Bool
  fits : Program → TypeId → Bool
  ok : World → List Value → Prop
  sound : ∀ {H : Type} {enc : TypeId × Value → H} {P : Program} {w : World} {base : Nat} {spare : Nat → Bool} {held : Bool} (t : TypeId) (fuel : Nat) (cs : List Value) (x : DataW H × List MemPlace),
    fits P t = true → DataW.trod enc P w base spare held fuel t cs = some x → ok w cs
  outer : ∀ {P : Program} {w : World} {r : Reach} {base : Nat} {t : TypeId} {v : Value}, fits P t = true → Value.okWide P w r base t v → if agg then ∃ cs : Array Value, v = .agg cs else v.cells.toList = [v]

def fitsInt (k : IntKind) (P : Program) (t : TypeId) : Bool := match P.underlying t with | some (.int k') => k == k' | _ => false
theorem fitsInt_spec {k : IntKind} {P : Program} {t : TypeId} (h : fitsInt k P t = true) : P.underlying t = some (.int k) := by
  unfold fitsInt at h
  split at h
  · rename_i k' ht
    have : k = k' := by simpa using h
    rw [ht, this]
  · cases h
def Sh.int (k : IntKind) : Sh where
  size := 1
  agg := false
  fits := fitsInt k
  ok := fun _ cs => ∃ n, cs = [.int k n] ∧ (Lit.int k n).wf = true
  sound := fun t fuel cs x hf h => by
    obtain ⟨n, rfl, _, hw⟩ := DataW.trod_int (fitsInt_spec hf) h
    exact ⟨n, rfl, hw⟩
  outer := fun hf hk => by
    obtain ⟨n, rfl⟩ := okWide_int (fitsInt_spec hf) hk
    simp [Value.cells]

def fitsBool (P : Program) (t : TypeId) : Bool := match P.underlying t with | some .bool => true | _ => false
theorem fitsBool_spec {P : Program} {t : TypeId} (h : fitsBool P t = true) : P.underlying t = some .bool := by
  unfold fitsBool at h
  split at h
  · assumption
  · cases h
def Sh.bool : Sh where
  size := 1
  agg := false
  fits := fitsBool
  ok := fun _ cs => ∃ b, cs = [.bool b]
  sound := fun t fuel cs x hf h => by
    obtain ⟨b, rfl, _⟩ := DataW.trod_bool (fitsBool_spec hf) h
    exact ⟨b, rfl⟩
  outer := fun {P w r base t v} hf hk => by
    have ht := fitsBool_spec hf
    unfold Value.okWide at hk
    rw [ht] at hk
    cases v <;> simp_all [Value.cells, Cell.okWide, Cell.ok]

def fitsStr (P : Program) (t : TypeId) : Bool := match P.underlying t with | some .string => true | _ => false
theorem fitsStr_spec {P : Program} {t : TypeId} (h : fitsStr P t = true) : P.underlying t = some .string := by
  unfold fitsStr at h
  split at h
  · assumption
  · cases h
def Sh.str : Sh where
  size := 1
  agg := false
  fits := fitsStr
  ok := fun _ cs => ∃ s : ByteArray, cs = [.string s] ∧ s.size ≤ maxLen
  sound := fun t fuel cs x hf h => by
    obtain ⟨s, rfl, _, hs⟩ := DataW.trod_string (fitsStr_spec hf) h
    exact ⟨s, rfl, hs⟩
  outer := fun hf hk => by
    obtain ⟨s, rfl⟩ := okWide_string (fitsStr_spec hf) hk
    simp [Value.cells]

/-- A struct's fields, from a place on. -/
structure Fs where
  size : Nat
  fits : Program → List Field → Nat → Bool
  ok : World → List Value → Prop
  sound : ∀ {H : Type} {enc : TypeId × Value → H} {P : Program} {w : World} {base : Nat} {spare : Nat → Bool} {held : Bool} (l : List Field) (off : Nat) (n : Nat) (cs : List Value),
    cs.length = off + size → fits P l off = true → (∀ (i : Nat) (f : Field), l[i]? = some f → ∃ y : Option (DataW H × List MemPlace), DataW.trod enc P w base spare held n f.type ((cs.drop f.offset).take (P.cellsOf f.type)) = y ∧ y.isSome = true) → ok w (cs.drop off)

def Fs.nil : Fs where
  size := 0
  fits := fun _ l _ => l.isEmpty
  ok := fun _ cs => cs = []
  sound := fun l off n cs hl _ _ => by simp [hl]

def fitsCons (a : Sh) (b : Fs) (P : Program) (l : List Field) (off : Nat) : Bool := match l with
  | [] => false
  | f :: l => f.offset == off && P.cellsOf f.type == a.size && a.fits P f.type && b.fits P l (off + a.size)
def Fs.cons (a : Sh) (b : Fs) : Fs where
  size := a.size + b.size
  fits := fitsCons a b
  ok := fun w cs => ∃ x y, cs = x ++ y ∧ a.ok w x ∧ b.ok w y
  sound := fun {H enc P w base spare held} l off n cs hl hf h => by
    cases l with
    | nil => cases hf
    | cons f l =>
      unfold fitsCons at hf
      simp only [Bool.and_eq_true, beq_iff_eq] at hf
      obtain ⟨⟨⟨h1, h2⟩, h3⟩, h4⟩ := hf
      obtain ⟨y, hy, hys⟩ := h 0 f rfl
      rw [h1, h2] at hy
      obtain ⟨z, rfl⟩ := Option.isSome_iff_exists.1 hys
      refine ⟨(cs.drop off).take a.size, cs.drop (off + a.size), ?_, a.sound f.type n _ _ h3 hy, b.sound l (off + a.size) n cs (by omega) h4 (fun i g hi => h (i + 1) g (by simpa using hi))⟩
      rw [← List.drop_drop]
      exact (List.take_append_drop _ _).symm

def fitsSt (fs : Fs) (P : Program) (t : TypeId) : Bool := match P.underlying t with | some (.struct l) => P.cellsOf t == fs.size && fs.fits P l.toList 0 | _ => false
theorem fitsSt_spec {fs : Fs} {P : Program} {t : TypeId} (h : fitsSt fs P t = true) : ∃ l, P.underlying t = some (.struct l) ∧ P.cellsOf t = fs.size ∧ fs.fits P l.toList 0 = true := by
  unfold fitsSt at h
  split at h
  · rename_i l ht
    simp only [Bool.and_eq_true, beq_iff_eq] at h
    exact ⟨l, ht, h.1, h.2⟩
  · cases h
def Sh.st (fs : Fs) : Sh where
  size := fs.size
  agg := true
  fits := fitsSt fs
  ok := fs.ok
  sound := fun t fuel cs x hf h => by
    obtain ⟨l, ht, h1, h2⟩ := fitsSt_spec hf
    obtain ⟨xs, n, _, _, hl, hlen, hfs⟩ := DataW.trod_struct ht h
    exact fs.sound l.toList 0 n cs (by omega) h2 (fun i f hi => ⟨xs[i]?, by
      have := hfs i f (by simpa using hi)
      rw [this], by
        have hi' : i < l.size := by
          have := (List.getElem?_eq_some_iff.1 hi).1
          simpa using this
        rw [List.getElem?_eq_getElem (by omega)]; rfl⟩)
  outer := fun hf hk => by
    obtain ⟨l, ht, _⟩ := fitsSt_spec hf
    unfold Value.okWide at hk
    rw [ht] at hk
    obtain ⟨cs, rfl, _⟩ := hk
    exact ⟨cs, rfl⟩

def Rep (p : List Value → Prop) : Nat → List Value → Prop
  | 0, cs => cs = []
  | n + 1, cs => ∃ x y, cs = x ++ y ∧ p x ∧ Rep p n y

def fitsAr (n : Nat) (e : Sh) (P : Program) (t : TypeId) : Bool := match P.underlying t with | some (.array m u) => n == m && P.cellsOf t == n * e.size && P.cellsOf u == e.size && e.fits P u | _ => false
theorem fitsAr_spec {n : Nat} {e : Sh} {P : Program} {t : TypeId} (h : fitsAr n e P t = true) : ∃ u, P.underlying t = some (.array n u) ∧ P.cellsOf t = n * e.size ∧ P.cellsOf u = e.size ∧ e.fits P u = true := by
  unfold fitsAr at h
  split at h
  · rename_i m u ht
    simp only [Bool.and_eq_true, beq_iff_eq] at h
    obtain ⟨⟨⟨h1, h2⟩, h3⟩, h4⟩ := h
    exact ⟨u, by rw [ht, h1], h2, h3, h4⟩
  · cases h
def Sh.ar (m : Nat) (e : Sh) : Sh where
  size := m * e.size
  agg := true
  fits := fitsAr m e
  ok := fun w cs => Rep (e.ok w) m cs
  sound := fun {H enc P w base spare held} t fuel cs x hf h => by
    obtain ⟨u, ht, h2, h3, h4⟩ := fitsAr_spec hf
    obtain ⟨xs, n, _, _, hl, hlen, hel⟩ := DataW.trod_array ht h
    have key : ∀ k i, i + k = m → Rep (e.ok w) k (cs.drop (i * e.size)) := by
      intro k
      induction k with
      | zero =>
        intro i hi
        have : i = m := by omega
        subst this
        simp [Rep, hl, h2]
      | succ k ih =>
        intro i hi
        refine ⟨(cs.drop (i * e.size)).take e.size, cs.drop ((i + 1) * e.size), ?_, ?_, ih (i + 1) (by omega)⟩
        · rw [Nat.add_mul, Nat.one_mul, ← List.drop_drop]; exact (List.take_append_drop _ _).symm
        · have h5 := hel i (by omega)
          rw [h3] at h5
          rw [List.getElem?_eq_getElem (by omega)] at h5
          exact e.sound u n _ _ h4 h5
    simpa using key m 0 (by omega)
  outer := fun hf hk => by
    obtain ⟨u, ht, _⟩ := fitsAr_spec hf
    unfold Value.okWide at hk
    rw [ht] at hk
    obtain ⟨cs, rfl, _⟩ := hk
    exact ⟨cs, rfl⟩

def fitsSlice (e : Sh) (P : Program) (t : TypeId) : Bool := match P.underlying t with | some (.slice u) => P.cellsOf u == e.size && decide (0 < e.size) && e.fits P u | _ => false
theorem fitsSlice_spec {e : Sh} {P : Program} {t : TypeId} (h : fitsSlice e P t = true) : ∃ u, P.underlying t = some (.slice u) ∧ P.cellsOf u = e.size ∧ 0 < e.size ∧ e.fits P u = true := by
  unfold fitsSlice at h
  split at h
  · rename_i u ht
    simp only [Bool.and_eq_true, beq_iff_eq, decide_eq_true_eq] at h
    exact ⟨u, ht, h.1.1, h.1.2, h.2⟩
  · cases h
def Sh.slice (e : Sh) : Sh where
  size := 1
  agg := false
  fits := fitsSlice e
  ok := fun w cs => ∃ a len cap, cs = [.slice a len cap] ∧ len ≤ cap ∧ cap ≤ maxLen ∧ ∃ f : Nat → List Value, (∀ i, i < len → e.ok w (f i) ∧ (f i).length = e.size) ∧
    (0 < len → ∃ b off, a = some ⟨b, off, none⟩ ∧ b < w.heap.size ∧ ∀ i, i < len → ∀ j v, (f i)[j]? = some v → w.cell? ⟨b, off + i * e.size + j, none⟩ = some v) ∧ (a = none → cap = 0)
  sound := fun {H enc P w base spare held} t fuel cs x hf h => by
    obtain ⟨u, ht, h1, h2, h3⟩ := fitsSlice_spec hf
    rcases DataW.trod_slice ht h with ⟨rfl, _⟩ | ⟨a, len, cap, elems, rest, n, _, rfl, _, _, hlc, hcm, hlen, hel, _, _⟩
    · exact ⟨none, 0, 0, rfl, Nat.le_refl _, by simp [maxLen], fun _ => [], fun i hi => by omega, fun h0 => by omega, fun _ => rfl⟩
    · have hc : ∀ i, ∃ ecs : List Value, i < len → (e.ok w ecs ∧ ecs.length = e.size) ∧ ∀ j v, ecs[j]? = some v → w.cell? ((a.add (i * e.size)).add j) = some v := by
        intro i
        by_cases hi : i < len
        · have h5 := hel i hi
          rw [List.getElem?_eq_getElem (by omega)] at h5
          rw [Option.bind_eq_some_iff] at h5
          obtain ⟨ecs, hcs, htr⟩ := h5
          rw [h1] at hcs
          obtain ⟨hl, hg⟩ := cells_get hcs
          exact ⟨ecs, fun _ => ⟨⟨e.sound u n _ _ h3 htr, hl⟩, hg⟩⟩
        · exact ⟨[], fun h => absurd h hi⟩
      refine ⟨some a, len, cap, rfl, hlc, hcm, fun i => Classical.choose (hc i), fun i hi => (Classical.choose_spec (hc i) hi).1, fun h0 => ?_, fun h => by cases h⟩
      obtain ⟨b, off, spot⟩ := a
      have hs0 := Classical.choose_spec (hc 0) h0
      have hl0 := hs0.1.2
      have hc0 := hs0.2 0 _ (List.getElem?_eq_getElem (by omega))
      have hspot : spot = none := by simpa [Addr.add] using World.cell?_spot hc0
      subst hspot
      refine ⟨b, off, rfl, by simpa [Addr.add] using World.block_lt_of_cell? w _ hc0, fun i hi j v hj => ?_⟩
      have h6 := (Classical.choose_spec (hc i) hi).2 j v hj
      have e1 : ((⟨b, off, none⟩ : Addr).add (i * e.size)).add j = ⟨b, off + i * e.size + j, none⟩ := by
        unfold Addr.add
        split <;> split <;> simp_all <;> omega
      rw [e1] at h6
      exact h6
  outer := fun hf hk => by
    obtain ⟨u, ht, _⟩ := fitsSlice_spec hf
    obtain ⟨a, l, c, rfl⟩ := okWide_slice ht hk
    simp [Value.cells]

/-- A value of a struct's or an array's type is an aggregate; any other is its one cell. -/
def Sh.okV (w : World) (s : Sh) (v : Value) : Prop := if s.agg then ∃ cs : Array Value, v = .agg cs ∧ s.ok w cs.toList else s.ok w [v]

theorem Sh.okV_of {H : Type} {enc : TypeId × Value → H} {P : Program} {w : World} {base b2 : Nat} {r : Reach} {spare : Nat → Bool} {held : Bool} (s : Sh) {t : TypeId} {v : Value} {d : DataW H} {ps : List MemPlace} (hf : s.fits P t = true)
    (h : DataW.Trod enc P w base spare held t v d ps) (hk : Value.okWide P w r b2 t v) : s.okV w v := by
  obtain ⟨fuel, h⟩ := h
  have ho := s.sound t fuel _ _ hf h
  have hu := s.outer hf hk
  unfold Sh.okV
  split at hu
  · obtain ⟨cs, rfl⟩ := hu
    rename_i ha
    rw [if_pos ha]
    exact ⟨cs, rfl, by simpa [Value.cells] using ho⟩
  · rename_i ha
    rw [if_neg ha]
    rwa [hu] at ho

/-- Of each place something: a list of them. -/
theorem list_of {α : Type} (n : Nat) (R : Nat → α → Prop) (h : ∀ i, i < n → ∃ x, R i x) : ∃ xs : List α, xs.length = n ∧ ∀ i (hi : i < xs.length), R i xs[i] := by
  induction n with
  | zero => exact ⟨[], rfl, fun i hi => by simp at hi⟩
  | succ n ih =>
    obtain ⟨xs, hl, hx⟩ := ih fun i hi => h i (by omega)
    obtain ⟨x, hr⟩ := h n (by omega)
    refine ⟨xs ++ [x], by simp [hl], fun i hi => ?_⟩
    by_cases hin : i < xs.length
    · rw [List.getElem_append_left hin]; exact hx i hin
    · simp at hi
      have : i = n := by omega
      subst this
      rw [List.getElem_append_right (by omega)]
      simpa [hl] using hr

/-- A slice of numbers, as the walks read it. -/
theorem reads_ints0 {w : World} {k : IntKind} {v : Value} (h : (Sh.slice (.int k)).okV w v) : ∃ (a : Option Addr) (cap : Nat) (xs : List Int), v = .slice a xs.length cap ∧ xs.length ≤ maxLen ∧ Reads w a xs.length (xs.map (Value.int k)) ∧ (∀ x ∈ xs, (Lit.int k x).wf = true) ∧ (a = none → cap = 0) := by
  obtain ⟨a, len, cap, hv, hlc, hcm, f, hf, hm, h0⟩ : (Sh.slice (.int k)).ok w [v] := h
  obtain rfl : v = .slice a len cap := by simpa using hv
  obtain ⟨xs, hl, hx⟩ := list_of len (fun i x => f i = [.int k x] ∧ (Lit.int k x).wf = true) (fun i hi => by
    exact (hf i hi).1)
  subst hl
  refine ⟨a, cap, xs, rfl, by omega, ⟨by simp, fun h0 => ?_⟩, fun x hx' => ?_, h0⟩
  · obtain ⟨b, off, e, hb, hc⟩ := hm h0
    refine ⟨b, off, e, hb, fun j v hj => ?_⟩
    simp at hj
    obtain ⟨x, hxj, rfl⟩ := hj
    obtain ⟨hjl, rfl⟩ := List.getElem?_eq_some_iff.1 hxj
    have := hc j hjl 0 (.int k xs[j]) (by rw [(hx j hjl).1]; rfl)
    simpa [Sh.int] using this
  · obtain ⟨i, hi, rfl⟩ := List.getElem_of_mem hx'
    exact (hx i hi).2
theorem reads_ints {w : World} {k : IntKind} {v : Value} (h : (Sh.slice (.int k)).okV w v) : ∃ (a : Option Addr) (cap : Nat) (xs : List Int), v = .slice a xs.length cap ∧ xs.length ≤ maxLen ∧ Reads w a xs.length (xs.map (Value.int k)) ∧ ∀ x ∈ xs, (Lit.int k x).wf = true := by
  obtain ⟨a, cap, xs, h1, h2, h3, h4, _⟩ := reads_ints0 h
  exact ⟨a, cap, xs, h1, h2, h3, h4⟩
end Go.Proofs.Ytnnakiojfpnphaa
