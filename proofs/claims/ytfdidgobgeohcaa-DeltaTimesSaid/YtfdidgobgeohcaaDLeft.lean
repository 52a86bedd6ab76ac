/- The law DeltaLeft, walked. -/
import Derived.Test.YtfdidgobgeohcaaDelta8
import Derived.Test.YtfdidgobgeohcaaShape
set_option linter.unusedVariables false
set_option linter.unusedSimpArgs false
namespace Go.Proofs.Ytfdidgobgeohcaa
open Go.RowKit

def u32v (xs : List Int) : List Value := xs.map (Value.int .u32)

theorem reads_at {w w' : World} {S : List Nat} {a : Option Addr} {vs : List Value} {n : Nat} (h : Reads w a n vs) (hu : Upd [] w w') {k : Nat} {v : Value} (hk : vs[k]? = some v) : ∃ b off, a = some ⟨b, off, none⟩ ∧ w'.cell? ⟨b, off + k, none⟩ = some v := by
  have hlt : k < n := by rw [← h.1]; exact (List.getElem?_eq_some_iff.1 hk).1
  obtain ⟨b, off, e, hb, hc⟩ := h.2 (by omega)
  exact ⟨b, off, e, by rw [hu.cell (p := ⟨b, off + k, none⟩) hb (by simp)]; exact hc k v hk⟩

/-- Who waits behind k adds. -/
def DAdded (xs : List Int) (k : Nat) (ds : List DN) : Prop := ∀ t a, dmem ds t a ↔ ∃ j : Nat, j < k ∧ (j : Int) = t ∧ xs[j]? = some a ∧ 0 < a
/-- Who waits behind k ticks, one gone in the middle. -/
def DTicked (xs : List Int) (n : Nat) (gone : Int) (k : Nat) (ds : List DN) : Prop := ∀ t a, dmem ds t a ↔ ∃ j : Nat, (j : Int) = t ∧ xs[j]? = some (a + k) ∧ 0 < a ∧ (n / 2 < k → t ≠ gone)

theorem DAdded.next {xs : List Int} {k : Nat} {ds ds' : List DN} (h : DAdded xs k ds) (hk : k < xs.length) (hk16 : xs.length ≤ 16)
    (hm : ∀ t' a', dmem ds' t' a' ↔ dmem ds t' a' ∨ (dok ds k xs[k] ∧ t' = k ∧ a' = xs[k])) : DAdded xs (k + 1) ds' := by
  have hnone : dfind (k : Int) ds = none := dfind_none.2 fun x hx e => by
    obtain ⟨j, h1, h2, _⟩ := (h x.t x.a).1 ⟨x, hx, rfl, rfl⟩
    omega
  intro t a
  rw [hm t a, h t a]
  constructor
  · rintro (⟨j, h1, h2⟩ | ⟨hok, rfl, rfl⟩)
    · exact ⟨j, by omega, h2⟩
    · exact ⟨k, by omega, rfl, by rw [List.getElem?_eq_getElem hk], hok.2.2.2⟩
  · rintro ⟨j, h1, h2, h3, h4⟩
    by_cases e : j = k
    · subst e
      rw [List.getElem?_eq_getElem hk] at h3
      have h5 : xs[j] = a := by simpa using h3
      exact .inr ⟨⟨hnone, by omega, by omega, by omega⟩, h2.symm, h5.symm⟩
    · exact .inl ⟨j, by omega, h2, h3, h4⟩

theorem DTicked.start {xs : List Int} {n : Nat} {gone : Int} {ds : List DN} (h : DAdded xs xs.length ds) : DTicked xs n gone 0 ds := by
  intro t a
  rw [h t a]
  constructor
  · rintro ⟨j, h1, h2, h3, h4⟩
    exact ⟨j, h2, by simpa using h3, h4, fun h => by omega⟩
  · rintro ⟨j, h2, h3, h4, _⟩
    have h3' : xs[j]? = some a := by simpa using h3
    exact ⟨j, (List.getElem?_eq_some_iff.1 h3').1, h2, h3', h4⟩
theorem DTicked.tick {xs : List Int} {n : Nat} {gone : Int} {k : Nat} {ds ds' : List DN} (h : DTicked xs n gone k ds) (hne : k ≠ n / 2) (hm : ∀ t a, dmem ds' t a ↔ dmem ds t (a + 1) ∧ 0 < a) : DTicked xs n gone (k + 1) ds' := by
  intro t a
  rw [hm t a, h t (a + 1)]
  have e : a + 1 + (k : Int) = a + ((k + 1 : Nat) : Int) := by omega
  rw [e]
  constructor
  · rintro ⟨⟨j, h1, h2, h3, h4⟩, h5⟩
    exact ⟨j, h1, h2, h5, fun h => h4 (by omega)⟩
  · rintro ⟨j, h1, h2, h3, h4⟩
    exact ⟨⟨j, h1, h2, by omega, fun h => h4 (by omega)⟩, h3⟩
theorem DTicked.remTick {xs : List Int} {n : Nat} {gone : Int} {k : Nat} {ds ds1 ds' : List DN} (h : DTicked xs n gone k ds) (he : k = n / 2) (h1 : ∀ t a, dmem ds1 t a ↔ dmem ds t a ∧ t ≠ gone) (hm : ∀ t a, dmem ds' t a ↔ dmem ds1 t (a + 1) ∧ 0 < a) : DTicked xs n gone (k + 1) ds' := by
  intro t a
  rw [hm t a, h1 t (a + 1), h t (a + 1)]
  have e : a + 1 + (k : Int) = a + ((k + 1 : Nat) : Int) := by omega
  rw [e]
  constructor
  · rintro ⟨⟨⟨j, h1, h2, h3, h4⟩, h6⟩, h5⟩
    exact ⟨j, h1, h2, h5, fun _ => h6⟩
  · rintro ⟨j, h1, h2, h3, h4⟩
    exact ⟨⟨⟨j, h1, h2, by omega, fun h => by omega⟩, h4 (by omega)⟩, h3⟩
/-- In the end. -/
def DEnd (xs : List Int) (n : Nat) (gone : Int) (ds : List DN) : Prop := ∀ t a, dmem ds t a ↔ ∃ j : Nat, (j : Int) = t ∧ xs[j]? = some (a + n) ∧ 0 < a ∧ t ≠ gone
theorem DTicked.fin {xs : List Int} {n : Nat} {gone : Int} {ds : List DN} (h : DTicked xs n gone n ds) (hn : n ≠ 0) : DEnd xs n gone ds := by
  intro t a
  rw [h t a]
  constructor
  · rintro ⟨j, h1, h2, h3, h4⟩; exact ⟨j, h1, h2, h3, h4 (by omega)⟩
  · rintro ⟨j, h1, h2, h3, h4⟩; exact ⟨j, h1, h2, h3, fun _ => h4⟩
theorem DTicked.fin0 {xs : List Int} {gone : Int} {ds ds1 : List DN} (h : DTicked xs 0 gone 0 ds) (h1 : ∀ t a, dmem ds1 t a ↔ dmem ds t a ∧ t ≠ gone) : DEnd xs 0 gone ds1 := by
  intro t a
  rw [h1 t a, h t a]
  constructor
  · rintro ⟨⟨j, h1, h2, h3, h4⟩, h5⟩; exact ⟨j, h1, h2, h3, h5⟩
  · rintro ⟨j, h1, h2, h3, h4⟩; exact ⟨⟨j, h1, h2, h3, fun h => by omega⟩, h4⟩

theorem DEnd.yes {xs : List Int} {n : Nat} {gone : Int} {ds : List DN} (h : DEnd xs n gone ds) (ht : (ds.map DN.t).Nodup) {k : Nat} (hk : k < xs.length) (h1 : (k : Int) ≠ gone) (h2 : (n : Int) < xs[k]) : dleft k ds = (xs[k] - n, true) :=
  dleft_of ht ((h k (xs[k] - n)).2 ⟨k, rfl, by rw [List.getElem?_eq_getElem hk]; congr 1; omega, by omega, h1⟩)
theorem DEnd.no {xs : List Int} {n : Nat} {gone : Int} {ds : List DN} (h : DEnd xs n gone ds) {k : Nat} (hk : k < xs.length) (h1 : (k : Int) = gone ∨ xs[k] ≤ n) : dleft k ds = (0, false) :=
  dleft_none fun a hm => by
    obtain ⟨j, e1, e2, e3, e4⟩ := (h k a).1 hm
    have : j = k := by omega
    subst this
    rw [List.getElem?_eq_getElem hk] at e2
    have : xs[j] = a + n := by simpa using e2
    rcases h1 with h1 | h1
    · exact e4 h1
    · omega
theorem DEnd.count {xs : List Int} {n : Nat} {gone : Int} {ds : List DN} (h : DEnd xs n gone ds) : ds.filter (fun x => decide (x.t < (xs.length : Int))) = ds :=
  count_all fun x hx => by
    obtain ⟨j, e1, e2, _⟩ := (h x.t x.a).1 ⟨x, hx, rfl, rfl⟩
    have := (List.getElem?_eq_some_iff.1 e2).1
    omega

theorem count_zero {W w : World} {d : Nat} {ds : List DN} (h : DI W w d ds) : ds.filter (fun x => decide (x.t < ((0 : Nat) : Int))) = [] := by
  rw [List.filter_eq_nil_iff]
  intro x hx
  have := (h.rng x hx).1
  simp; omega

set_option maxRecDepth 100000 in
set_option maxHeartbeats 1000000 in
theorem dl_out (a : Option Addr) (len cap : Nat) (n gone : Int) (w : World) (hl : len ≤ 9223372036854775807) (h : 16 < len ∨ n < 0 ∨ 60 < n) :
    Calls Try.prog 5 #[.slice a len cap, .int .i64 n, .int .i64 gone] w fun e w' => e = .returned (.bool true) ∧ Upd [] w w' := by
  by_cases h1 : 16 < len
  · clear h
    go_enter Try.func5, Try.ntmps5
    go_wp2_with (go_at_call 29; refine (alive24 _).mono ?_; rintro e w1 ⟨rfl, hu1⟩)
    go_ret
    exact ⟨rfl, hu1⟩
  · by_cases h2 : n < 0
    · clear h
      go_enter Try.func5, Try.ntmps5
      go_wp2_with (go_at_call 29; refine (alive24 _).mono ?_; rintro e w1 ⟨rfl, hu1⟩)
      go_ret
      exact ⟨rfl, hu1⟩
    · have h3 : 60 < n := by omega
      clear h
      go_enter Try.func5, Try.ntmps5
      go_wp2_with (go_at_call 29; refine (alive24 _).mono ?_; rintro e w1 ⟨rfl, hu1⟩)
      go_ret
      exact ⟨rfl, hu1⟩

set_option maxRecDepth 100000 in
set_option maxHeartbeats 4000000 in
theorem dl_in (a : Option Addr) (cap : Nat) (xs : List Int) (n : Nat) (gone : Int) (w : World) (hl : xs.length ≤ 16) (hn : n ≤ 60) (hr : Reads w a xs.length (u32v xs)) (hx : ∀ x ∈ xs, 0 ≤ x ∧ x ≤ 4294967295) :
    Calls Try.prog 5 #[.slice a xs.length cap, .int .i64 n, .int .i64 gone] w fun e w' => e = .returned (.bool true) ∧ Upd [] w w' := by
  have HR := Lib.hid hr
  have HX := Lib.hid hx
  have H0 := Lib.hid (DI.new w)
  clear hr hx
  go_enter Try.func5, Try.ntmps5
  go_wp2
  go_loopg [8] xs.length (fun m i wr => ∃ k ds, m = xs.length - k ∧ k ≤ xs.length ∧ i = .int .i64 k ∧ DI w wr w.heap.size ds ∧ DAdded xs k ds)
  case atStart => exact ⟨0, [], rfl, by omega, rfl, H0.out, fun t a => by simp [dmem]⟩
  case round =>
    obtain ⟨k, ds, rfl, hk, rfl, hdi, hadd⟩ := hrel
    have HDI := Lib.hid hdi
    have HADD := Lib.hid hadd
    by_cases hlt : k < xs.length
    · obtain ⟨ab, ao, rfl, hc⟩ := reads_at (S := []) HR.out hdi.upd (k := k) (v := .int .u32 xs[k]) (by simp [u32v, List.getElem?_eq_getElem hlt])
      have hb := HX.out xs[k] (List.getElem_mem hlt)
      clear hdi hadd
      go_wp2_with (go_at_call 30; refine (HDI.out.add k xs[k] hb.1 hb.2).mono ?_; rintro e w1 ⟨ds', rfl, hdi', -, hm, -, -⟩; have HDI' := Lib.hid hdi'; have HM := Lib.hid hm; clear hdi' hm)
      go_roundg (xs.length - (k + 1))
      case measure => omega
      case rel => exact ⟨k + 1, ds', rfl, by omega, by go_num, HDI'.out, HADD.out.next hlt hl HM.out⟩
    · obtain rfl : k = xs.length := by omega
      clear hdi hadd
      go_wp2
      go_loopg [9] n (fun m i wr => ∃ k ds, m = n - k ∧ k ≤ n ∧ i = .int .i64 k ∧ DI w wr w.heap.size ds ∧ DTicked xs n gone k ds)
      case atStart => exact ⟨0, ds, rfl, by omega, rfl, HDI.out, DTicked.start HADD.out⟩
      case round =>
        obtain ⟨k, ds, rfl, hk, rfl, hdi, hadd⟩ := hrel
        clear HDI HADD
        have HDI := Lib.hid hdi
        have HADD := Lib.hid hadd
        clear hdi hadd
        by_cases hlt : k < n
        · by_cases hk2 : k = n / 2
          · have HK2 := Lib.hid hk2
            have e1 : ((k : Int) == (n : Int) / 2) = true := by simp; omega
            clear hk2
            go_wp2_with (first
              | (go_at_call 31; refine (HDI.out.rem gone).mono ?_; rintro e w1 ⟨ds1, rfl, hdi1, -, hm1, -⟩; have HDI1 := Lib.hid hdi1; have HM1 := Lib.hid hm1; clear hdi1 hm1)
              | (go_at_call 32; refine (HDI1.out.tick).mono ?_; rintro e w2 ⟨v2, rfl, -, hdi2, -, hm2⟩; have HDI2 := Lib.hid hdi2; have HM2 := Lib.hid hm2; clear hdi2 hm2))
            go_roundg (n - (k + 1))
            case measure => omega
            case rel => exact ⟨k + 1, _, rfl, by omega, by go_num, HDI2.out, HADD.out.remTick HK2.out HM1.out HM2.out⟩
          · have e1 : ((k : Int) == (n : Int) / 2) = false := by simp; omega
            go_wp2_with (go_at_call 32; refine (HDI.out.tick).mono ?_; rintro e w2 ⟨v2, rfl, -, hdi2, -, hm2⟩; have HDI2 := Lib.hid hdi2; have HM2 := Lib.hid hm2; clear hdi2 hm2)
            go_roundg (n - (k + 1))
            case measure => omega
            case rel => exact ⟨k + 1, _, rfl, by omega, by go_num, HDI2.out, HADD.out.tick hk2 HM2.out⟩
        · have hkn : k = n := by omega
          have HKN := Lib.hid hkn
          clear hkn
          by_cases hn0 : n = 0
          · have e1 : ((n : Int) == 0) = true := by simp; omega
            have HN0 := Lib.hid hn0
            clear hn0
            go_wp2_with (go_at_call 31; refine (HDI.out.rem gone).mono ?_; rintro e w1 ⟨ds1, rfl, hdi1, -, hm1, -⟩; have HDI1 := Lib.hid hdi1; have HM1 := Lib.hid hm1; clear hdi1 hm1)
            have hend : DEnd xs n gone ds1 := by
              have h1 := HKN.out
              have h2 := HN0.out
              subst h1
              subst h2
              exact DTicked.fin0 HADD.out HM1.out
            have HEND := Lib.hid hend
            clear hend
            go_loopg [10, 11] xs.length (fun m c i wr => ∃ k : Nat, m = xs.length - k ∧ k ≤ xs.length ∧ i = .int .i64 k ∧ c = .int .i64 ((ds1.filter fun x => decide (x.t < (k : Int))).length : Nat) ∧ DI w wr w.heap.size ds1)
            case atStart => exact ⟨0, rfl, by omega, rfl, by rw [count_zero HDI1.out]; rfl, HDI1.out⟩
            case round =>
              obtain ⟨k, rfl, hk, rfl, rfl, hdi⟩ := hrel
              have HD := Lib.hid hdi
              by_cases hlt : k < xs.length
              · obtain ⟨ab, ao, rfl, hc⟩ := reads_at (S := []) HR.out hdi.upd (k := k) (v := .int .u32 xs[k]) (by simp [u32v, List.getElem?_eq_getElem hlt])
                have hb := HX.out xs[k] (List.getElem_mem hlt)
                have hleft := hdi.left k
                have hstep := count_step hdi.tnd (k : Int)
                have hfl : ((ds1.filter fun x => decide (x.t < (k : Int))).length) ≤ 16 := Nat.le_trans (List.length_filter_le _ _) hdi.len
                by_cases hg : (k : Int) = gone
                · have hno := HEND.out.no hlt (.inl hg)
                  rw [hno] at hleft hstep
                  simp only at hleft hstep
                  have HLEFT := Lib.hid hleft
                  have HSTEP := Lib.hid hstep
                  have g1 : ((k : Int) == gone) = true := by simpa using hg
                  have g2 : ((k : Int) != gone) = false := by simpa using hg
                  clear hno hleft hstep hdi hg
                  go_wp2_with (go_at_call 33; refine (HLEFT.out).mono ?_; rintro e w3 ⟨rfl, rfl⟩)
                  go_roundg (xs.length - (k + 1))
                  case measure => omega
                  case rel => exact ⟨k + 1, rfl, by omega, by go_num, by rw [show ((k + 1 : Nat) : Int) = (k : Int) + 1 by omega, HSTEP.out]; simp, HD.out⟩
                · have g1 : ((k : Int) == gone) = false := by simpa using hg
                  have g2 : ((k : Int) != gone) = true := by simpa using hg
                  by_cases hv : (n : Int) < xs[k]
                  · have hyes := HEND.out.yes hdi.tnd hlt hg hv
                    rw [hyes] at hleft hstep
                    simp only at hleft hstep
                    have HLEFT := Lib.hid hleft
                    have HSTEP := Lib.hid hstep
                    have hw : IntKind.u32.wrap (xs[k] - (n : Int)) = xs[k] - n := by rw [IntKind.wrap_u32]; omega
                    clear hyes hleft hstep hdi hg
                    go_wp2_with (go_at_call 33; refine (HLEFT.out).mono ?_; rintro e w3 ⟨rfl, rfl⟩)
                    go_roundg (xs.length - (k + 1))
                    case measure => omega
                    case rel => exact ⟨k + 1, rfl, by omega, by go_num, by rw [show ((k + 1 : Nat) : Int) = (k : Int) + 1 by omega, HSTEP.out]; simp, HD.out⟩
                  · have hno := HEND.out.no hlt (.inr (by omega))
                    rw [hno] at hleft hstep
                    simp only at hleft hstep
                    have HLEFT := Lib.hid hleft
                    have HSTEP := Lib.hid hstep
                    clear hno hleft hstep hdi hg
                    go_wp2_with (go_at_call 33; refine (HLEFT.out).mono ?_; rintro e w3 ⟨rfl, rfl⟩)
                    go_roundg (xs.length - (k + 1))
                    case measure => omega
                    case rel => exact ⟨k + 1, rfl, by omega, by go_num, by rw [show ((k + 1 : Nat) : Int) = (k : Int) + 1 by omega, HSTEP.out]; simp, HD.out⟩
              · have hkl : k = xs.length := by omega
                have hcnt : (ds1.filter fun x => decide (x.t < (k : Int))).length = ds1.length := by rw [hkl, HEND.out.count]
                rw [hcnt]
                clear hcnt hkl hdi
                go_wp2_with (first
                  | (go_at_call 34; refine (dlen_any HD.out.dl).mono ?_; rintro e w3 ⟨rfl, rfl⟩)
                  | (go_at_call 29; refine (alive24 _).mono ?_; rintro e w4 ⟨rfl, hu4⟩))
                go_ret
                exact ⟨rfl, HD.out.upd.trans hu4⟩
          · have e1 : ((n : Int) == 0) = false := by simp; omega
            have HN0 := Lib.hid hn0
            have hend : DEnd xs n gone ds := by
              have h1 := HKN.out
              subst h1
              exact DTicked.fin HADD.out hn0
            have HEND := Lib.hid hend
            clear hend hn0
            go_wp2
            go_loopg [10, 11] xs.length (fun m c i wr => ∃ k : Nat, m = xs.length - k ∧ k ≤ xs.length ∧ i = .int .i64 k ∧ c = .int .i64 ((ds.filter fun x => decide (x.t < (k : Int))).length : Nat) ∧ DI w wr w.heap.size ds)
            case atStart => exact ⟨0, rfl, by omega, rfl, by rw [count_zero HDI.out]; rfl, HDI.out⟩
            case round =>
              obtain ⟨k, rfl, hk, rfl, rfl, hdi⟩ := hrel
              have HD := Lib.hid hdi
              by_cases hlt : k < xs.length
              · obtain ⟨ab, ao, rfl, hc⟩ := reads_at (S := []) HR.out hdi.upd (k := k) (v := .int .u32 xs[k]) (by simp [u32v, List.getElem?_eq_getElem hlt])
                have hb := HX.out xs[k] (List.getElem_mem hlt)
                have hleft := hdi.left k
                have hstep := count_step hdi.tnd (k : Int)
                have hfl : ((ds.filter fun x => decide (x.t < (k : Int))).length) ≤ 16 := Nat.le_trans (List.length_filter_le _ _) hdi.len
                by_cases hg : (k : Int) = gone
                · have hno := HEND.out.no hlt (.inl hg)
                  rw [hno] at hleft hstep
                  simp only at hleft hstep
                  have HLEFT := Lib.hid hleft
                  have HSTEP := Lib.hid hstep
                  have g1 : ((k : Int) == gone) = true := by simpa using hg
                  have g2 : ((k : Int) != gone) = false := by simpa using hg
                  clear hno hleft hstep hdi hg
                  go_wp2_with (go_at_call 33; refine (HLEFT.out).mono ?_; rintro e w3 ⟨rfl, rfl⟩)
                  go_roundg (xs.length - (k + 1))
                  case measure => omega
                  case rel => exact ⟨k + 1, rfl, by omega, by go_num, by rw [show ((k + 1 : Nat) : Int) = (k : Int) + 1 by omega, HSTEP.out]; simp, HD.out⟩
                · have g1 : ((k : Int) == gone) = false := by simpa using hg
                  have g2 : ((k : Int) != gone) = true := by simpa using hg
                  by_cases hv : (n : Int) < xs[k]
                  · have hyes := HEND.out.yes hdi.tnd hlt hg hv
                    rw [hyes] at hleft hstep
                    simp only at hleft hstep
                    have HLEFT := Lib.hid hleft
                    have HSTEP := Lib.hid hstep
                    have hw : IntKind.u32.wrap (xs[k] - (n : Int)) = xs[k] - n := by rw [IntKind.wrap_u32]; omega
                    clear hyes hleft hstep hdi hg
                    go_wp2_with (go_at_call 33; refine (HLEFT.out).mono ?_; rintro e w3 ⟨rfl, rfl⟩)
                    go_roundg (xs.length - (k + 1))
                    case measure => omega
                    case rel => exact ⟨k + 1, rfl, by omega, by go_num, by rw [show ((k + 1 : Nat) : Int) = (k : Int) + 1 by omega, HSTEP.out]; simp, HD.out⟩
                  · have hno := HEND.out.no hlt (.inr (by omega))
                    rw [hno] at hleft hstep
                    simp only at hleft hstep
                    have HLEFT := Lib.hid hleft
                    have HSTEP := Lib.hid hstep
                    clear hno hleft hstep hdi hg
                    go_wp2_with (go_at_call 33; refine (HLEFT.out).mono ?_; rintro e w3 ⟨rfl, rfl⟩)
                    go_roundg (xs.length - (k + 1))
                    case measure => omega
                    case rel => exact ⟨k + 1, rfl, by omega, by go_num, by rw [show ((k + 1 : Nat) : Int) = (k : Int) + 1 by omega, HSTEP.out]; simp, HD.out⟩
              · have hkl : k = xs.length := by omega
                have hcnt : (ds.filter fun x => decide (x.t < (k : Int))).length = ds.length := by rw [hkl, HEND.out.count]
                rw [hcnt]
                clear hcnt hkl hdi
                go_wp2_with (first
                  | (go_at_call 34; refine (dlen_any HD.out.dl).mono ?_; rintro e w3 ⟨rfl, rfl⟩)
                  | (go_at_call 29; refine (alive24 _).mono ?_; rintro e w4 ⟨rfl, hu4⟩))
                go_ret
                exact ⟨rfl, HD.out.upd.trans hu4⟩

theorem u32_bounds {x : Int} (h : (Lit.int .u32 x).wf = true) : 0 ≤ x ∧ x ≤ 4294967295 := by
  simp [Lit.wf, IntKind.min, IntKind.max, IntKind.signed, IntKind.bits] at h
  omega
theorem int_okV {W : World} {k : IntKind} {v : Value} (h : Sh.okV W (.int k) v) : ∃ n, v = .int k n ∧ (Lit.int k n).wf = true := by
  obtain ⟨n, hn, hw⟩ := h
  exact ⟨n, by simpa using hn, hw⟩

theorem deltaLeft_walk (W : World) (v0 v1 v2 : Value) (h0 : Sh.okV W (.slice (.int .u32)) v0) (h1 : Sh.okV W (.int .i64) v1) (h2 : Sh.okV W (.int .i64) v2) :
    Calls Try.prog 5 #[v0, v1, v2] W fun e w' => e = .returned (.bool true) ∧ Upd [] W w' := by
  obtain ⟨a, cap, xs, rfl, hm, hr, hx⟩ := reads_ints h0
  obtain ⟨n, rfl, _⟩ := int_okV h1
  obtain ⟨gone, rfl, _⟩ := int_okV h2
  by_cases hin : xs.length ≤ 16 ∧ 0 ≤ n ∧ n ≤ 60
  · obtain ⟨m, rfl⟩ := Int.eq_ofNat_of_zero_le hin.2.1
    exact dl_in a cap xs m gone W hin.1 (by omega) hr (fun x h => u32_bounds (hx x h))
  · exact dl_out a xs.length cap n gone W (by simp [maxLen] at hm; omega) (by omega)
end Go.Proofs.Ytfdidgobgeohcaa
