/- Package ring: what Push and Pop make of the words, for every head. -/
import Derived.Test.YtbjeojcnofpgfaaRing14
import Derived.Test.YtbjeojcnofpgfaaRing13
set_option linter.unusedVariables false
set_option linter.unusedSimpArgs false
namespace Go.Proofs.Ytbjeojcnofpgfaa
open Go.RowKit

/-- Where word k of the room of counter a lies. -/
def adr (cap wd a : Int) (k : Nat) : Nat := (2 + roomI cap a * wd + k).toNat
theorem adr_lt {cap wd : Int} (a : Int) (k : Nat) (hc : Cap5 cap) (h1 : 1 ≤ wd) (h4 : wd ≤ 4) (hk : (k : Int) < wd) : 2 ≤ adr cap wd a k ∧ adr cap wd a k < (2 + cap * wd).toNat := by
  have hr := roomI_lt a hc
  have hcl := hc.le
  unfold adr
  have hw : wd = 1 ∨ wd = 2 ∨ wd = 3 ∨ wd = 4 := by omega
  rcases hw with rfl | rfl | rfl | rfl <;> omega
theorem room_ne {cap : Int} (h : Int) (j n : Nat) (hc : Cap5 cap) (hj : j < n) (hn : (n : Int) < cap) : roomI cap (h + j) ≠ roomI cap ((h + n) % 4294967296) := by
  unfold roomI
  rcases hc with rfl | rfl | rfl | rfl | rfl <;> omega
theorem adr_ne {cap wd : Int} (a b : Int) (k l : Nat) (h : roomI cap a ≠ roomI cap b) (h1 : 1 ≤ wd) (h4 : wd ≤ 4) (hc : Cap5 cap) (hk : (k : Int) < wd) (hl : (l : Int) < wd) : adr cap wd a k ≠ adr cap wd b l := by
  have hr := roomI_lt a hc
  have hr' := roomI_lt b hc
  unfold adr
  have hw : wd = 1 ∨ wd = 2 ∨ wd = 3 ∨ wd = 4 := by omega
  rcases hw with rfl | rfl | rfl | rfl <;> omega
theorem adr_inj {cap wd : Int} (a : Int) (k l : Nat) (h : k ≠ l) (h1 : 1 ≤ wd) (hc : Cap5 cap) : adr cap wd a k ≠ adr cap wd a l := by
  have hr := roomI_lt a hc
  have hrw : 0 ≤ roomI cap a * wd := Int.mul_nonneg hr.1 (by omega)
  unfold adr
  omega
theorem room_mod (cap a : Int) : roomI cap (a % 4294967296) = roomI cap a := by unfold roomI; rw [Int.emod_emod]
theorem room_next (cap h : Int) (j : Nat) : roomI cap ((h + 1) % 4294967296 + j) = roomI cap (h + ((j + 1 : Nat) : Int)) := by
  have e : ((h + 1) % 4294967296 + (j : Int)) % 4294967296 = (h + ((j + 1 : Nat) : Int)) % 4294967296 := by omega
  unfold roomI
  rw [e]
theorem adr_eq {cap wd a b : Int} (k : Nat) (h : roomI cap a = roomI cap b) : adr cap wd a k = adr cap wd b k := by unfold adr; rw [h]

theorem doC_load {xs : List Int} {a : Nat} {g : Int} (h : xs[a]? = some g) : doC 1 a 0 xs = some (g, xs) := by
  obtain ⟨hl, he⟩ := List.getElem?_eq_some_iff.1 h
  unfold doC
  simp [hl, he]
theorem doC_store {xs : List Int} {a : Nat} (x : Int) (h : a < xs.length) : doC 2 a x xs = some (0, xs.set a x) := by
  unfold doC
  simp [h]

/-- Words put one behind the other. -/
def puts (f : Nat → Nat) (v : Nat → Int) : Nat → Nat → List Int → List Int
  | _, 0, xs => xs
  | k, m + 1, xs => puts f v (k + 1) m (xs.set (f k) (v k))
theorem puts_len (f : Nat → Nat) (v : Nat → Int) : ∀ (m k : Nat) (xs : List Int), (puts f v k m xs).length = xs.length
  | 0, _, _ => rfl
  | m + 1, k, xs => by rw [puts, puts_len f v m]; simp
theorem puts_other (f : Nat → Nat) (v : Nat → Int) (i : Nat) : ∀ (m k : Nat) (xs : List Int), (∀ j, k ≤ j → j < k + m → f j ≠ i) → (puts f v k m xs)[i]? = xs[i]?
  | 0, _, _, _ => rfl
  | m + 1, k, xs, h => by
    rw [puts, puts_other f v i m (k + 1) _ (fun j h1 h2 => h j (by omega) (by omega))]
    rw [List.getElem?_set_ne (h k (by omega) (by omega))]
theorem puts_at (f : Nat → Nat) (v : Nat → Int) (j : Nat) : ∀ (m k : Nat) (xs : List Int), k ≤ j → j < k + m → (∀ a b, a ≠ b → f a ≠ f b) → f j < xs.length → (puts f v k m xs)[f j]? = some (v j)
  | 0, k, xs, h1, h2, _, _ => by omega
  | m + 1, k, xs, h1, h2, hf, hl => by
    rw [puts]
    by_cases e : k = j
    · subst e
      rw [puts_other f v (f k) m (k + 1) _ (fun i h3 h4 => hf _ _ (by omega))]
      rw [List.getElem?_set_self hl]
    · exact puts_at f v j m (k + 1) _ (by omega) (by omega) hf (by simpa using hl)

/-- The state of a Push that is about to put word k. -/
def puS (t h v0 v1 v2 v3 : Int) (k : Int) : RgS := ⟨k + 2, t, h, v0, v1, v2, v3, 0, 0, 0, 0, 0, true⟩
def v4 (v0 v1 v2 v3 : Int) (k : Nat) : Int := if k = 0 then v0 else if k = 1 then v1 else if k = 2 then v2 else v3

theorem pu_words {cap : Int} {wdn : Nat} (t h v0 v1 v2 v3 : Int) (hc : Cap5 cap) (h1 : 1 ≤ wdn) (h4 : wdn ≤ 4) : ∀ (m k : Nat) (xs : List Int), k + m = wdn → (2 + cap * (wdn : Int)).toNat ≤ xs.length →
    Run (puAct cap wdn) (puTake cap wdn) (puS t h v0 v1 v2 v3 k) xs (m + 1) ⟨wdn + 3, t, h, v0, v1, v2, v3, 0, 0, 0, 0, 0, false⟩ ((puts (adr cap wdn t) (v4 v0 v1 v2 v3) k m xs).set 1 (IntKind.u32.wrap (t + 1)))
  | 0, k, xs, hk, hl => by
    obtain rfl : k = wdn := by omega
    have hcl := hc.le
    have hmul : 0 ≤ cap * (k : Int) := Int.mul_nonneg (by omega) (by omega)
    have ha : puAct cap k (puS t h v0 v1 v2 v3 k) = some (2, 1, IntKind.u32.wrap (t + 1)) := by
      unfold puAct puS
      simp only [if_true]
      rw [if_neg (by omega), if_neg (by omega), if_neg (by omega)]
    refine .step _ xs 2 1 (IntKind.u32.wrap (t + 1)) 0 (xs.set 1 (IntKind.u32.wrap (t + 1))) 0 _ _ ha (doC_store _ (by omega)) ?_
    have ht : puTake cap k (puS t h v0 v1 v2 v3 k) 0 = ⟨k + 3, t, h, v0, v1, v2, v3, 0, 0, 0, 0, 0, false⟩ := by
      have e : noteS (puS t h v0 v1 v2 v3 k) 0 = ⟨k + 3, t, h, v0, v1, v2, v3, 0, 0, 0, 0, 0, true⟩ := by
        unfold noteS puS
        simp only [RgS.mk.injEq, and_true, true_and]
        exact ⟨by omega, if_neg (by omega), if_neg (by omega)⟩
      unfold puTake
      rw [e]
      rw [if_neg (by simp only; omega), if_pos (by simp only; omega)]
    rw [ht]
    exact .done _ _ (by unfold puAct; simp)
  | m + 1, k, xs, hk, hl => by
    have hcl := hc.le
    have hlt := adr_lt (cap := cap) (wd := (wdn : Int)) t k hc (by omega) (by omega) (by omega)
    have ha : puAct cap wdn (puS t h v0 v1 v2 v3 k) = some (2, adr cap wdn t k, v4 v0 v1 v2 v3 k) := by
      unfold puAct puS
      simp only [if_true]
      rw [if_neg (by omega), if_neg (by omega), if_pos (by omega)]
      have e : ((k : Int) + 2 - 2) = k := by omega
      rw [e]
      simp only [Option.some.injEq, Prod.mk.injEq, true_and]
      refine ⟨rfl, ?_⟩
      unfold vAt v4
      simp only
      have hk4 : k = 0 ∨ k = 1 ∨ k = 2 ∨ k = 3 := by omega
      rcases hk4 with rfl | rfl | rfl | rfl <;> rfl
    refine .step _ xs 2 (adr cap wdn t k) (v4 v0 v1 v2 v3 k) 0 (xs.set (adr cap wdn t k) (v4 v0 v1 v2 v3 k)) (m + 1) _ _ ha (doC_store _ (by omega)) ?_
    have ht : puTake cap wdn (puS t h v0 v1 v2 v3 k) 0 = puS t h v0 v1 v2 v3 ((k + 1 : Nat) : Int) := by
      have e : noteS (puS t h v0 v1 v2 v3 k) 0 = puS t h v0 v1 v2 v3 ((k + 1 : Nat) : Int) := by
        unfold noteS puS
        simp only [RgS.mk.injEq, and_true, true_and]
        exact ⟨by omega, if_neg (by omega), if_neg (by omega)⟩
      unfold puTake
      rw [e]
      unfold puS
      rw [if_neg (by simp only; omega), if_neg (by simp only; omega)]
    rw [ht]
    exact pu_words t h v0 v1 v2 v3 hc h1 h4 m (k + 1) _ (by omega) (by simpa using hl)

theorem pu_begin {cap : Int} {wdn : Nat} (t h v0 v1 v2 v3 : Int) (h1 : 1 ≤ wdn) (h4 : wdn ≤ 4) : puTake cap wdn ⟨0, 0, 0, v0, v1, v2, v3, 0, 0, 0, 0, 0, true⟩ t = ⟨1, t, 0, v0, v1, v2, v3, 0, 0, 0, 0, 0, true⟩ := by
  have e : noteS ⟨0, 0, 0, v0, v1, v2, v3, 0, 0, 0, 0, 0, true⟩ t = ⟨1, t, 0, v0, v1, v2, v3, 0, 0, 0, 0, 0, true⟩ := rfl
  unfold puTake
  rw [e]
  rw [if_neg (by simp), if_neg (by simp only; omega)]

/-- A Push where there is room. -/
theorem pu_ok {cap : Int} {wdn : Nat} (t h v0 v1 v2 v3 : Int) (xs : List Int) (hc : Cap5 cap) (h1 : 1 ≤ wdn) (h4 : wdn ≤ 4) (hl : (2 + cap * (wdn : Int)).toNat ≤ xs.length) (x0 : xs[0]? = some h) (x1 : xs[1]? = some t) (hf : ¬ cap ≤ IntKind.u32.wrap (t - h)) :
    Run (puAct cap wdn) (puTake cap wdn) ⟨0, 0, 0, v0, v1, v2, v3, 0, 0, 0, 0, 0, true⟩ xs (wdn + 3) ⟨wdn + 3, t, h, v0, v1, v2, v3, 0, 0, 0, 0, 0, false⟩ ((puts (adr cap wdn t) (v4 v0 v1 v2 v3) 0 wdn xs).set 1 (IntKind.u32.wrap (t + 1))) := by
  refine .step _ xs 1 1 0 t xs (wdn + 2) _ _ rfl (doC_load x1) ?_
  rw [pu_begin t h v0 v1 v2 v3 h1 h4]
  refine .step _ xs 1 0 0 h xs (wdn + 1) _ _ rfl (doC_load x0) ?_
  have ht : puTake cap wdn ⟨1, t, 0, v0, v1, v2, v3, 0, 0, 0, 0, 0, true⟩ h = puS t h v0 v1 v2 v3 ((0 : Nat) : Int) := by
    have e : noteS ⟨1, t, 0, v0, v1, v2, v3, 0, 0, 0, 0, 0, true⟩ h = puS t h v0 v1 v2 v3 ((0 : Nat) : Int) := rfl
    unfold puTake
    rw [e]
    unfold puS
    rw [if_neg (fun hh => hf hh.2), if_neg (by simp only; omega)]
  rw [ht]
  exact pu_words t h v0 v1 v2 v3 hc h1 h4 wdn 0 xs (by omega) hl
/-- A Push where there is none. -/
theorem pu_full {cap : Int} {wdn : Nat} (t h v0 v1 v2 v3 : Int) (xs : List Int) (h1 : 1 ≤ wdn) (h4 : wdn ≤ 4) (x0 : xs[0]? = some h) (x1 : xs[1]? = some t) (hf : cap ≤ IntKind.u32.wrap (t - h)) :
    Run (puAct cap wdn) (puTake cap wdn) ⟨0, 0, 0, v0, v1, v2, v3, 0, 0, 0, 0, 0, true⟩ xs 2 ⟨2, t, h, v0, v1, v2, v3, 6, 0, 0, 0, 0, false⟩ xs := by
  refine .step _ xs 1 1 0 t xs 1 _ _ rfl (doC_load x1) ?_
  rw [pu_begin t h v0 v1 v2 v3 h1 h4]
  refine .step _ xs 1 0 0 h xs 0 _ _ rfl (doC_load x0) ?_
  have ht : puTake cap wdn ⟨1, t, 0, v0, v1, v2, v3, 0, 0, 0, 0, 0, true⟩ h = ⟨2, t, h, v0, v1, v2, v3, 6, 0, 0, 0, 0, false⟩ := by
    have e : noteS ⟨1, t, 0, v0, v1, v2, v3, 0, 0, 0, 0, 0, true⟩ h = ⟨2, t, h, v0, v1, v2, v3, 0, 0, 0, 0, 0, true⟩ := rfl
    unfold puTake
    rw [e]
    rw [if_pos ⟨rfl, hf⟩]
  rw [ht]
  exact .done _ _ rfl

/-- The state of a Pop that is about to take word k. -/
def poS (a b : Int) (u : Nat → Int) (k : Nat) : RgS := ⟨k + 2, a, b, 0, 0, 0, 0, 0, if 0 < k then u 0 else 0, if 1 < k then u 1 else 0, if 2 < k then u 2 else 0, if 3 < k then u 3 else 0, true⟩
def poE (a b : Int) (u : Nat → Int) (k : Nat) : RgS := ⟨k + 3, a, b, 0, 0, 0, 0, 0, if 0 < k then u 0 else 0, if 1 < k then u 1 else 0, if 2 < k then u 2 else 0, if 3 < k then u 3 else 0, false⟩
theorem po_step {wdn : Nat} (a b : Int) (u : Nat → Int) (k : Nat) (hk : k < wdn) (h4 : wdn ≤ 4) : poTake wdn (poS a b u k) (u k) = poS a b u (k + 1) := by
  have e : noteS (putR wdn (poS a b u k) (u k)) (u k) = poS a b u (k + 1) := by
    have hk4 : k = 0 ∨ k = 1 ∨ k = 2 ∨ k = 3 := by omega
    unfold putR
    rw [if_pos (by unfold poS; simp only; omega)]
    rcases hk4 with rfl | rfl | rfl | rfl <;> simp [poS, noteS]
  unfold poTake
  rw [e]
  unfold poS
  rw [if_neg (by simp only; omega), if_neg (by simp only; omega)]
theorem po_words {cap : Int} {wdn : Nat} (a b : Int) (u : Nat → Int) (xs : List Int) (hc : Cap5 cap) (h1 : 1 ≤ wdn) (h4 : wdn ≤ 4) (hl : (2 + cap * (wdn : Int)).toNat ≤ xs.length) (hu : ∀ k, k < wdn → xs[adr cap wdn a k]? = some (u k)) : ∀ (m k : Nat), k + m = wdn →
    Run (poAct cap wdn) (poTake wdn) (poS a b u k) xs (m + 1) (poE a b u wdn) (xs.set 0 (IntKind.u32.wrap (a + 1)))
  | 0, k, hk => by
    obtain rfl : k = wdn := by omega
    have hcl := hc.le
    have hmul : 0 ≤ cap * (k : Int) := Int.mul_nonneg (by omega) (by omega)
    have ha : poAct cap k (poS a b u k) = some (2, 0, IntKind.u32.wrap (a + 1)) := by
      unfold poAct poS
      simp only [if_true]
      rw [if_neg (by omega), if_neg (by omega), if_neg (by omega)]
    refine .step _ xs 2 0 (IntKind.u32.wrap (a + 1)) 0 (xs.set 0 (IntKind.u32.wrap (a + 1))) 0 _ _ ha (doC_store _ (by omega)) ?_
    have ht : poTake k (poS a b u k) 0 = poE a b u k := by
      have e : noteS (putR k (poS a b u k) 0) 0 = { poE a b u k with on := true } := by
        unfold putR
        rw [if_neg (by unfold poS; simp only; omega)]
        unfold noteS poS poE
        simp only [RgS.mk.injEq, and_true, true_and]
        exact ⟨by omega, if_neg (by omega), if_neg (by omega)⟩
      unfold poTake
      rw [e]
      unfold poE
      rw [if_neg (by simp only; omega), if_pos (by simp only; omega)]
    rw [ht]
    exact .done _ _ (by unfold poAct poE; simp)
  | m + 1, k, hk => by
    have ha : poAct cap wdn (poS a b u k) = some (1, adr cap wdn a k, 0) := by
      unfold poAct poS
      simp only [if_true]
      rw [if_neg (by omega), if_neg (by omega), if_pos (by omega)]
      have e : ((k : Int) + 2 - 2) = k := by omega
      rw [e]
      rfl
    refine .step _ xs 1 (adr cap wdn a k) 0 (u k) xs (m + 1) _ _ ha (doC_load (hu k (by omega))) ?_
    rw [po_step a b u k (by omega) h4]
    exact po_words a b u xs hc h1 h4 hl hu m (k + 1) (by omega)
theorem po_begin {wdn : Nat} (a : Int) : poTake wdn ⟨0, 0, 0, 0, 0, 0, 0, 0, 0, 0, 0, 0, true⟩ a = ⟨1, a, 0, 0, 0, 0, 0, 0, 0, 0, 0, 0, true⟩ := by
  have e : noteS (putR wdn ⟨0, 0, 0, 0, 0, 0, 0, 0, 0, 0, 0, 0, true⟩ a) a = ⟨1, a, 0, 0, 0, 0, 0, 0, 0, 0, 0, 0, true⟩ := by
    unfold putR
    rw [if_neg (by simp)]
    rfl
  unfold poTake
  rw [e]
  rw [if_neg (by simp), if_neg (by simp only; omega)]
theorem po_second {wdn : Nat} (a b : Int) : noteS (putR wdn ⟨1, a, 0, 0, 0, 0, 0, 0, 0, 0, 0, 0, true⟩ b) b = ⟨2, a, b, 0, 0, 0, 0, 0, 0, 0, 0, 0, true⟩ := by
  unfold putR
  rw [if_neg (by simp)]
  rfl
/-- A Pop where there is something. -/
theorem po_ok {cap : Int} {wdn : Nat} (a b : Int) (u : Nat → Int) (xs : List Int) (hc : Cap5 cap) (h1 : 1 ≤ wdn) (h4 : wdn ≤ 4) (hl : (2 + cap * (wdn : Int)).toNat ≤ xs.length) (x0 : xs[0]? = some a) (x1 : xs[1]? = some b) (hab : a ≠ b) (hu : ∀ k, k < wdn → xs[adr cap wdn a k]? = some (u k)) :
    Run (poAct cap wdn) (poTake wdn) ring0 xs (wdn + 3) (poE a b u wdn) (xs.set 0 (IntKind.u32.wrap (a + 1))) := by
  refine .step _ xs 1 0 0 a xs (wdn + 2) _ _ rfl (doC_load x0) ?_
  unfold ring0
  rw [po_begin a]
  refine .step _ xs 1 1 0 b xs (wdn + 1) _ _ rfl (doC_load x1) ?_
  have ht : poTake wdn ⟨1, a, 0, 0, 0, 0, 0, 0, 0, 0, 0, 0, true⟩ b = poS a b u 0 := by
    unfold poTake
    rw [po_second]
    rw [if_neg (by simp only; intro hh; exact hab hh.2), if_neg (by simp only; omega)]
    rfl
  rw [ht]
  exact po_words a b u xs hc h1 h4 hl hu wdn 0 (by omega)
/-- A Pop where there is nothing. -/
theorem po_none {cap : Int} {wdn : Nat} (a : Int) (xs : List Int) (x0 : xs[0]? = some a) (x1 : xs[1]? = some a) :
    Run (poAct cap wdn) (poTake wdn) ring0 xs 2 ⟨2, a, a, 0, 0, 0, 0, 7, 0, 0, 0, 0, false⟩ xs := by
  refine .step _ xs 1 0 0 a xs 1 _ _ rfl (doC_load x0) ?_
  unfold ring0
  rw [po_begin a]
  refine .step _ xs 1 1 0 a xs 0 _ _ rfl (doC_load x1) ?_
  have ht : poTake wdn ⟨1, a, 0, 0, 0, 0, 0, 0, 0, 0, 0, 0, true⟩ a = ⟨2, a, a, 0, 0, 0, 0, 7, 0, 0, 0, 0, false⟩ := by
    unfold poTake
    rw [po_second]
    rw [if_pos ⟨rfl, rfl⟩]
  rw [ht]
  exact .done _ _ rfl

/-- An entry of four words. -/
structure Q4 where
  a : Int
  b : Int
  c : Int
  d : Int
def Q4.at (q : Q4) (k : Nat) : Int := if k = 0 then q.a else if k = 1 then q.b else if k = 2 then q.c else q.d
/-- The words of a ring that holds a row, its head h. -/
structure RM (cap : Int) (wdn : Nat) (xs : List Int) (h : Int) (R : List Q4) : Prop where
  len : xs.length = (2 + cap * (wdn : Int)).toNat
  h0 : 0 ≤ h
  h1 : h < 4294967296
  x0 : xs[0]? = some h
  x1 : xs[1]? = some ((h + R.length) % 4294967296)
  le : (R.length : Int) ≤ cap
  at' : ∀ (j : Nat) (q : Q4), R[j]? = some q → ∀ k, k < wdn → xs[adr cap wdn (h + j) k]? = some (q.at k)
  zero : ∀ q, q ∈ R → ∀ k, wdn ≤ k → k < 4 → q.at k = 0
theorem RM.many {cap : Int} {wdn : Nat} {xs : List Int} {h : Int} {R : List Q4} (m : RM cap wdn xs h R) (hc : Cap5 cap) : IntKind.u32.wrap ((h + R.length) % 4294967296 - h) = R.length := by
  have := m.le; have := m.h0; have := m.h1; have := hc.le
  rw [IntKind.wrap_u32]
  omega
theorem RM.push {cap : Int} {wdn : Nat} {xs : List Int} {h : Int} {R : List Q4} (m : RM cap wdn xs h R) (v0 v1 v2 v3 : Int) (q : Q4) (hq : ∀ k, k < wdn → q.at k = v4 v0 v1 v2 v3 k) (hz : ∀ k, wdn ≤ k → k < 4 → q.at k = 0) (hc : Cap5 cap) (h1 : 1 ≤ wdn) (h4 : wdn ≤ 4) (hlt : (R.length : Int) < cap) :
    RM cap wdn ((puts (adr cap wdn ((h + R.length) % 4294967296)) (v4 v0 v1 v2 v3) 0 wdn xs).set 1 (IntKind.u32.wrap ((h + R.length) % 4294967296 + 1))) h (R ++ [q]) := by
  have hcl := hc.le
  have hl := fun (a : Int) (k : Nat) (hk : k < wdn) => adr_lt (cap := cap) (wd := (wdn : Int)) a k hc (by omega) (by omega) (by omega)
  refine ⟨by simp [puts_len, m.len], m.h0, m.h1, ?_, ?_, by simp; omega, ?_, ?_⟩
  · rw [List.getElem?_set_ne (by omega), puts_other _ _ _ _ _ _ (fun j _ hj => by have := hl ((h + R.length) % 4294967296) j (by omega); omega)]
    exact m.x0
  · have : 0 ≤ cap * (wdn : Int) := Int.mul_nonneg (by omega) (by omega)
    rw [List.getElem?_set_self (by rw [puts_len, m.len]; omega)]
    congr 1
    rw [IntKind.wrap_u32]
    simp
    omega
  · intro j r hj k hk
    have hlk := hl (h + j) k hk
    rw [List.getElem?_set_ne (by omega)]
    by_cases e : j < R.length
    · rw [List.getElem?_append_left e] at hj
      rw [puts_other _ _ _ _ _ _ (fun i _ hi => Ne.symm (adr_ne _ _ _ _ (room_ne h j R.length hc e hlt) (by omega) (by omega) hc (by omega) (by omega)))]
      exact m.at' j r hj k hk
    · have e2 : j = R.length := by
        have := (List.getElem?_eq_some_iff.1 hj).1
        simp at this
        omega
      subst e2
      rw [List.getElem?_append_right (Nat.le_refl _)] at hj
      simp at hj
      subst hj
      rw [adr_eq (cap := cap) (wd := wdn) (a := h + (R.length : Int)) (b := (h + R.length) % 4294967296) k (room_mod cap _).symm]
      rw [puts_at _ _ k wdn 0 xs (by omega) (by omega) (fun a b hab => adr_inj _ _ _ hab (by omega) hc) (by have := hl ((h + R.length) % 4294967296) k hk; rw [m.len]; omega)]
      rw [hq k hk]
  · intro r hr k h5 h6
    rcases List.mem_append.1 hr with hr | hr
    · exact m.zero r hr k h5 h6
    · simp at hr
      subst hr
      exact hz k h5 h6
theorem RM.pop {cap : Int} {wdn : Nat} {xs : List Int} {h : Int} {q : Q4} {R : List Q4} (m : RM cap wdn xs h (q :: R)) (hc : Cap5 cap) (h1 : 1 ≤ wdn) (h4 : wdn ≤ 4) :
    RM cap wdn (xs.set 0 (IntKind.u32.wrap (h + 1))) ((h + 1) % 4294967296) R := by
  have hcl := hc.le
  have hmul : 0 ≤ cap * (wdn : Int) := Int.mul_nonneg (by omega) (by omega)
  have hle := m.le
  have hh0 := m.h0
  have hh1 := m.h1
  simp at hle
  refine ⟨by simp [m.len], by omega, by omega, ?_, ?_, by omega, ?_, ?_⟩
  · rw [List.getElem?_set_self (by rw [m.len]; omega), IntKind.wrap_u32]
  · rw [List.getElem?_set_ne (by omega), m.x1]
    congr 1
    simp
    omega
  · intro j r hj k hk
    have hlk := adr_lt (cap := cap) (wd := (wdn : Int)) ((h + 1) % 4294967296 + j) k hc (by omega) (by omega) (by omega)
    rw [List.getElem?_set_ne (by omega)]
    rw [adr_eq (cap := cap) (wd := wdn) k (room_next cap h j)]
    exact m.at' (j + 1) r (by simpa using hj) k hk
  · exact fun r hr => m.zero r (List.mem_cons_of_mem _ hr)
end Go.Proofs.Ytbjeojcnofpgfaa
