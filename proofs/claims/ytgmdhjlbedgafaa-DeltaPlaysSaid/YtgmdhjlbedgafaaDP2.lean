/- DeltaPlays: the program's list beside the document's, in one memory; each operation's contract. -/
import Derived.Test.YtgmdhjlbedgafaaDP1
import Derived.Test.YtgmdhjlbedgafaaShape
set_option linter.unusedVariables false
set_option linter.unusedSimpArgs false
namespace Go.Proofs.Ytgmdhjlbedgafaa
open Go.RowKit

theorem dtasks_i64 (ds : List DN) : dtasks ds = i64s (ds.map DN.t) := by simp [dtasks, i64s, Function.comp_def]
theorem nodup_one {α : Type} [DecidableEq α] {l : List α} (h : l.Nodup) (t : α) : (l.filter fun x => decide (x = t)).length ≤ 1 := by
  induction l with
  | nil => simp
  | cons x xs ih =>
    obtain ⟨h1, h2⟩ := List.nodup_cons.1 h
    by_cases hx : x = t
    · subst hx
      rw [List.filter_cons_of_pos (by simp), filter_none (fun y hy => by
        have : y ≠ x := fun e => h1 (e ▸ hy)
        simpa using this)]
      simp
    · rw [List.filter_cons_of_neg (by simpa using hx)]
      exact ih h2
theorem DR.one {W w : World} {d : Nat} {ds : List DN} {L : List (Int × Int)} (h : DR ds L) (hd : DI W w d ds) (t : Int) : ((rSort L).filter fun x => decide (x.1 = t)).length ≤ 1 := by
  have h1 := nodup_one hd.tnd t
  rw [h.told, List.filter_map, List.length_map] at h1
  exact h1
theorem DR.find {W w : World} {d : Nat} {ds : List DN} {L : List (Int × Int)} (h : DR ds L) (hd : DI W w d ds) (t : Int) : (plI t 0 L = -1 ∧ dfind t ds = none ∧ dleft t ds = (0, false) ∧ (ds.filter fun x => decide (x.t ≠ t)) = ds ∧ (L.filter fun x => decide (x.1 ≠ t)) = L) ∨
    ∃ j a, plI t 0 L = (j : Nat) ∧ L[j]? = some (t, a) ∧ dfind t ds ≠ none ∧ dleft t ds = (a, true) ∧ 0 < a ∧ a ≤ 4294967295 ∧ L.take j ++ L.drop (j + 1) = L.filter fun x => decide (x.1 ≠ t) := by
  rcases plI_cases t L with ⟨h1, h2⟩ | ⟨j, a, h1, h2, h3⟩
  · have hn : ∀ x ∈ ds, x.t ≠ t := fun x hx e => h2 (x.t, x.a) ((h.mem _ _).1 ⟨x, hx, rfl, rfl⟩) e
    refine .inl ⟨h1, dfind_none.2 hn, dleft_none (fun a hm => ?_), filter_all (fun x hx => by simpa using hn x hx), filter_all (fun x hx => by simpa using h2 x hx)⟩
    obtain ⟨x, hx, e, _⟩ := hm
    exact hn x hx e
  · have hm : dmem ds t a := (h.mem t a).2 (List.mem_of_getElem? h2)
    obtain ⟨x, hx, e1, e2⟩ := hm
    have hp := hd.pos x hx
    have hs : x.a ≤ 4294967295 := by
      obtain ⟨ys, zs, rfl⟩ := List.append_of_mem hx
      exact (DSorted.node hd.dl.sorted).2
    refine .inr ⟨j, a, h1, h2, fun hn => dfind_none.1 hn x hx e1, dleft_of hd.tnd ⟨x, hx, e1, e2⟩, by omega, by omega, h.ltnd hd h2 h3 (h.one hd t)⟩

theorem DR.bounds {W w : World} {d : Nat} {ds : List DN} {L : List (Int × Int)} (h : DR ds L) (hd : DI W w d ds) : ∀ x ∈ L, 1 ≤ x.2 ∧ x.2 ≤ 4294967295 := by
  intro y hy
  obtain ⟨x, hx, e1, e2⟩ := (h.mem y.1 y.2).2 hy
  have hp := hd.pos x hx
  have hs : x.a ≤ 4294967295 := by
    obtain ⟨ys, zs, rfl⟩ := List.append_of_mem hx
    exact (DSorted.node hd.dl.sorted).2
  omega
theorem DR.le {W w : World} {d : Nat} {ds : List DN} {L : List (Int × Int)} (h : DR ds L) (hd : DI W w d ds) : L.length ≤ 16 := by
  have := h.len; have := hd.len; omega

/-- The document's operations beside the program's list. -/
theorem doc_add {W w0 w : World} {B d : Nat} {v : Value} {ds : List DN} {L : List (Int × Int)} (hdr : DR ds L) (hdi : DI W w0 d ds) (h : RD w B v L) (hB : B ≤ w.heap.size) (t a : Int) (ha0 : 0 ≤ a) (ha : a ≤ 4294967295) :
    Calls Try.prog 7 #[.agg #[v], .int .i64 t, .int .u32 a] w fun e w' => ∃ v', e = .returned (.tuple #[.agg #[v'], .bool (decide (dok ds t a))]) ∧ RD w' B v' (if dok ds t a then L ++ [(t, a)] else L) ∧ Upd [] w w' := by
  have hl := hdr.le hdi
  have hno : ¬ dok ds t a → (Calls Try.prog 7 #[.agg #[v], .int .i64 t, .int .u32 a] w fun e w' => e = .returned (.tuple #[.agg #[v], .bool false]) ∧ Upd [] w w') → Calls Try.prog 7 #[.agg #[v], .int .i64 t, .int .u32 a] w fun e w' => ∃ v', e = .returned (.tuple #[.agg #[v'], .bool (decide (dok ds t a))]) ∧ RD w' B v' (if dok ds t a then L ++ [(t, a)] else L) ∧ Upd [] w w' := fun hn hc => by
    refine hc.mono ?_
    rintro e w' ⟨rfl, hu⟩
    rw [decide_eq_false hn, if_neg hn]
    exact ⟨v, rfl, h.new hu, hu⟩
  by_cases h0 : t < 0
  · exact hno (fun hk => by have := hk.2.1; omega) (rd_add_no1 t a h (by omega) h0)
  by_cases h1 : 15 < t
  · exact hno (fun hk => by have := hk.2.2.1; omega) (rd_add_no2 t a h (by omega) (by omega) h1)
  by_cases h2 : a = 0
  · subst h2
    exact hno (fun hk => by have := hk.2.2.2; omega) (rd_add_no3 t h (by omega) (by omega) (by omega))
  rcases hdr.find hdi t with ⟨hp, hf, -⟩ | ⟨j, a', hp, -, hf, -⟩
  · have hk : dok ds t a := ⟨hf, by omega, by omega, by omega⟩
    refine (rd_add_yes t a h (by omega) (by omega) (by omega) (by omega) ha hp).mono ?_
    rintro e w' ⟨v', rfl, hr, hu⟩
    rw [decide_eq_true hk, if_pos hk]
    exact ⟨v', rfl, hr.base hB, hu⟩
  · exact hno (fun hk => hf hk.1) (rd_add_no4 t a h (by omega) (by omega) (by omega) (by omega) j hp)
theorem doc_rem {W w0 w : World} {B d : Nat} {v : Value} {ds : List DN} {L : List (Int × Int)} (hdr : DR ds L) (hdi : DI W w0 d ds) (h : RD w B v L) (hB : B ≤ w.heap.size) (t : Int) :
    Calls Try.prog 9 #[.agg #[v], .int .i64 t] w fun e w' => ∃ v', e = .returned (.tuple #[.agg #[v'], .int .u32 (dleft t ds).1, .bool (dleft t ds).2]) ∧ RD w' B v' (L.filter fun x => decide (x.1 ≠ t)) ∧ Upd [] w w' := by
  have hl := hdr.le hdi
  rcases hdr.find hdi t with ⟨hp, -, hf, -, hL⟩ | ⟨j, a, hp, hj, -, hf, h1, h2, hL⟩
  · refine (rd_remove_none t h (by omega) hp).mono ?_
    rintro e w' ⟨rfl, hu⟩
    rw [hf, hL]
    exact ⟨v, rfl, h.new hu, hu⟩
  · refine (rd_remove_yes t a h (by omega) j hp hj (by omega) h2).mono ?_
    rintro e w' ⟨v', rfl, hr, hu⟩
    rw [hf, ← hL]
    exact ⟨v', rfl, hr.base hB, hu⟩
theorem doc_left {W w0 w : World} {B d : Nat} {v : Value} {ds : List DN} {L : List (Int × Int)} (hdr : DR ds L) (hdi : DI W w0 d ds) (h : RD w B v L) (t : Int) :
    Calls Try.prog 14 #[.agg #[v], .int .i64 t] w fun e w' => e = .returned (.tuple #[.int .u32 (dleft t ds).1, .bool (dleft t ds).2]) ∧ Upd [] w w' := by
  have hl := hdr.le hdi
  rcases hdr.find hdi t with ⟨hp, -, hf, -⟩ | ⟨j, a, hp, hj, -, hf, h1, h2, -⟩
  · rw [hf]
    exact rd_left_none t h (by omega) hp
  · rw [hf]
    exact rd_left_some t a h (by omega) j hp hj (by omega) h2
theorem doc_tick {W w0 w : World} {B d : Nat} {v : Value} {ds : List DN} {L : List (Int × Int)} (hdr : DR ds L) (hdi : DI W w0 d ds) (h : RD w B v L) (hB : B ≤ w.heap.size) :
    Calls Try.prog 10 #[.agg #[v]] w fun e w' => ∃ v' tv, e = .returned (.tuple #[.agg #[v'], tv]) ∧ RD w' B v' (rRest L) ∧ w'.ownsRow B 3 1 tv (dtold ds).length (i64s ((dtold ds).map DN.t)) ∧ Upd [] w w' := by
  have hl := hdr.le hdi
  have ht := (hdr.tick hdi).2
  refine (rd_tick h (by omega) (hdr.bounds hdi)).mono ?_
  rintro e w' ⟨v', tv, rfl, hr, ho, hu⟩
  refine ⟨v', tv, rfl, hr.base hB, ?_, hu⟩
  have hn : (dtold ds).length = (rTold L).length := by rw [← ht, List.length_map]
  rw [ht, hn]
  exact World.ownsRow.mono ho hB
theorem doc_list {W w0 w : World} {B d : Nat} {v : Value} {ds : List DN} {L : List (Int × Int)} (hdr : DR ds L) (hdi : DI W w0 d ds) (h : RD w B v L) :
    Calls Try.prog 17 #[.agg #[v]] w fun e w' => ∃ tv, e = .returned tv ∧ w'.ownsRow w.heap.size 3 1 tv ds.length (i64s (ds.map DN.t)) ∧ Upd [] w w' := by
  have hl := hdr.le hdi
  refine (rd_list h (by omega)).mono ?_
  rintro e w' ⟨tv, rfl, ho, hu⟩
  rw [hdr.told, hdr.len]
  exact ⟨tv, rfl, ho, hu⟩

/-! ## Both in one memory -/
theorem DL.types {w : World} {d : Nat} {xs : List DN} (h : DL w d xs) : ∀ k ∈ d :: xs.map DN.b, ∃ c t f, w.heap[k]? = some (.cells c t f) ∧ (t = 27 ∨ t = 82) := by
  intro k hk
  rcases List.mem_cons.1 hk with rfl | hk
  · exact ⟨_, _, _, h.hd, .inl rfl⟩
  · obtain ⟨x, hx, rfl⟩ := List.mem_map.1 hk
    obtain ⟨ys, zs, rfl⟩ := List.append_of_mem hx
    exact ⟨_, _, _, DSeg.node h.seg, .inr rfl⟩
theorem DL.not_own {w : World} {d : Nat} {xs : List DN} (h : DL w d xs) {base size n : Nat} {e : TypeId} {v : Value} {vs : List Value} (ho : w.ownsRow base e size v n vs) (h1 : e ≠ 27) (h2 : e ≠ 82) : ∀ k, v.ownBlock = some k → k ∉ d :: xs.map DN.b := by
  intro k hk hm
  obtain ⟨c, t, f, hh, ht⟩ := h.types k hm
  refine own_ne ho hh ?_ hk
  rcases ht with rfl | rfl
  · exact fun e => h1 e.symm
  · exact fun e => h2 e.symm
theorem DL.not_at {w : World} {d : Nat} {xs : List DN} (h : DL w d xs) {k : Nat} {c : Array Value} {t : TypeId} {f : Nat × Nat} (hh : w.heap[k]? = some (.cells c t f)) (h1 : t ≠ 27) (h2 : t ≠ 82) : k ∉ d :: xs.map DN.b := by
  intro hm
  obtain ⟨c', t', f', hh', ht⟩ := h.types k hm
  rw [hh] at hh'
  simp only [Option.some.injEq, Obj.cells.injEq] at hh'
  rcases ht with rfl | rfl
  · exact h1 hh'.2.1
  · exact h2 hh'.2.1

structure PS (W : World) (ds : List DN) (L : List (Int × Int)) (xv : Value) (w : World) : Prop where
  di : DI W w W.heap.size ds
  dr : DR ds L
  rd : RD w W.heap.size xv L
  box : w.heap[W.heap.size + 1]? = some (.cells [xv].toArray 30 (0, 0))
theorem PS.new {W w w' : World} {ds : List DN} {L : List (Int × Int)} {xv : Value} (h : PS W ds L xv w) (hu : Upd [] w w') : PS W ds L xv w' := ⟨h.di.keep hu (by simp), h.dr, h.rd.new hu, hu.keepb h.box (by simp)⟩
/-- Behind an operation of the program. -/
theorem PS.prog {W w w' : World} {ds ds' : List DN} {L : List (Int × Int)} {xv : Value} (h : PS W ds L xv w) (hu : Upd (W.heap.size :: ds.map DN.b) w w') (hd : DI W w' W.heap.size ds') : RD w' W.heap.size xv L ∧ w'.heap[W.heap.size + 1]? = some (.cells [xv].toArray 30 (0, 0)) :=
  ⟨own_upd h.rd hu (h.di.dl.not_own h.rd (by decide) (by decide)), hu.keepb h.box (h.di.dl.not_at h.box (by decide) (by decide))⟩
/-- The document's new Delta laid into its variable. -/
theorem ps_store {W w : World} {ds : List DN} {L' : List (Int × Int)} {xv xv' : Value} (hd : DI W w W.heap.size ds) (hb : w.heap[W.heap.size + 1]? = some (.cells [xv].toArray 30 (0, 0))) (hr : RD w W.heap.size xv' L') : DI W (w.setCell ⟨W.heap.size + 1, 0, none⟩ xv') W.heap.size ds ∧ RD (w.setCell ⟨W.heap.size + 1, 0, none⟩ xv') W.heap.size xv' L' ∧ (w.setCell ⟨W.heap.size + 1, 0, none⟩ xv').heap[W.heap.size + 1]? = some (.cells [xv'].toArray 30 (0, 0)) := by
  have hs : Upd [W.heap.size + 1] w (w.setCell ⟨W.heap.size + 1, 0, none⟩ xv') := (Upd.refl _ _).setCell (by simp) _
  refine ⟨hd.keep hs (fun k hk => .inr ?_), own_upd hr hs (fun k hk hm => ?_), heap_set2 hb rfl⟩
  · simp at hk; subst hk
    exact ⟨by omega, hd.dl.not_at hb (by decide) (by decide)⟩
  · simp at hm; subst hm
    exact own_ne hr hb (by decide) hk
theorem PS.store {W w : World} {ds : List DN} {L' : List (Int × Int)} {xv xv' : Value} (hd : DI W w W.heap.size ds) (hb : w.heap[W.heap.size + 1]? = some (.cells [xv].toArray 30 (0, 0))) (hr : RD w W.heap.size xv' L') (hdr : DR ds L') : PS W ds L' xv' (w.setCell ⟨W.heap.size + 1, 0, none⟩ xv') := by
  obtain ⟨h1, h2, h3⟩ := ps_store hd hb hr
  exact ⟨h1, hdr, h2, h3⟩
/-- Behind the document's tick: the program's. -/
theorem PS.tick {W wr w2 w3 : World} {ds : List DN} {L : List (Int × Int)} {xv xv' : Value} {ta : Option Addr} {tc : Nat} {T : List Int} (h : PS W ds L xv wr) (hT : T = (dtold ds).map DN.t) (hu2 : Upd [] wr w2) (hr2 : RD w2 W.heap.size xv' (rRest L)) (ho2 : w2.ownsRow W.heap.size 3 1 (.slice ta T.length tc) T.length (i64s T)) (hw : w3 = (w2.setCell ⟨W.heap.size + 1, 0, none⟩ xv').alloc (.cells #[xv'] 30)) :
    Calls Try.prog 12 #[.pointer (some ⟨W.heap.size, 0, none⟩)] w3 fun e w4 => ∃ a4 c4, e = .returned (.slice a4 T.length c4) ∧ Reads w4 a4 T.length (i64s T) ∧ Reads w4 ta T.length (i64s T) ∧ PS W (drest ds) (rRest L) xv' w4 := by
  subst hw
  have hb2 := hu2.keepb h.box (by simp)
  obtain ⟨d1, r1, b1⟩ := ps_store (h.di.keep hu2 (by simp)) hb2 hr2
  have hs : Upd [W.heap.size + 1] w2 (w2.setCell ⟨W.heap.size + 1, 0, none⟩ xv') := (Upd.refl _ _).setCell (by simp) _
  have o1 := own_upd ho2 hs (fun k hk hm => by
    simp at hm; subst hm
    exact own_ne ho2 hb2 (by decide) hk)
  have hua : Upd [] (w2.setCell ⟨W.heap.size + 1, 0, none⟩ xv') ((w2.setCell ⟨W.heap.size + 1, 0, none⟩ xv').alloc (.cells #[xv'] 30)) := (Upd.refl _ _).alloc _
  have o2 := own_upd o1 hua (fun _ _ hm => by cases hm)
  have d2 := d1.keep hua (by simp)
  have r2 := r1.new hua
  have b2 := hua.keepb b1 (by simp)
  have ht := h.dr.tick h.di
  refine d2.tick.mono ?_
  rintro e w4 ⟨v, rfl, ho, hd, hu, -⟩
  have hn : (dtold ds).length = T.length := by rw [hT, List.length_map]
  rw [dtasks_i64, ← hT, hn] at ho
  obtain ⟨a4, c4, rfl, hr4⟩ := own_reads ho
  have o3 := own_upd o2 hu (d2.dl.not_own o2 (by decide) (by decide))
  obtain ⟨a5, c5, e5, hr5⟩ := own_reads o3
  simp only [Value.slice.injEq, true_and] at e5
  obtain ⟨rfl, rfl⟩ := e5
  exact ⟨a4, c4, rfl, hr4, hr5, hd, ht.1, own_upd r2 hu (d2.dl.not_own r2 (by decide) (by decide)), hu.keepb b2 (d2.dl.not_at b2 (by decide) (by decide))⟩
theorem same_self (a b : Option Addr) (ca cb : Nat) (xs : List Int) (w : World) (hx : Reads w a xs.length (i64s xs)) (hy : Reads w b xs.length (i64s xs)) (hlx : xs.length ≤ 9223372036854775807) :
    Calls Try.prog 11 #[.slice a xs.length ca, .slice b xs.length cb] w fun e w' => e = .returned (.bool true) ∧ Upd [] w w' := by
  refine (same_any a b ca cb xs xs w hx hy hlx hlx).mono ?_
  rintro e w' ⟨rfl, hu⟩
  exact ⟨by simp, hu⟩
theorem PS.list {W w : World} {ds : List DN} {L : List (Int × Int)} {xv : Value} {T : List Int} (h : PS W ds L xv w) (hT : T = ds.map DN.t) : Calls Try.prog 16 #[.pointer (some ⟨W.heap.size, 0, none⟩)] w fun e w' => ∃ a c, e = .returned (.slice a T.length c) ∧ Reads w' a T.length (i64s T) ∧ Upd [] w w' := by
  subst hT
  refine (dlist_any h.di.dl (by have := h.di.len; omega)).mono ?_
  rintro e w' ⟨v, rfl, ho, hu⟩
  rw [dtasks_i64, show ds.length = (ds.map DN.t).length by rw [List.length_map]] at ho
  obtain ⟨a, c, rfl, hr⟩ := own_reads ho
  exact ⟨a, c, rfl, hr, hu⟩
theorem PS.dlist {W w : World} {ds : List DN} {L : List (Int × Int)} {xv : Value} {T : List Int} (h : PS W ds L xv w) (hT : T = ds.map DN.t) : Calls Try.prog 17 #[.agg #[xv]] w fun e w' => ∃ a c, e = .returned (.slice a T.length c) ∧ Reads w' a T.length (i64s T) ∧ Upd [] w w' := by
  subst hT
  refine (doc_list h.dr h.di h.rd).mono ?_
  rintro e w' ⟨v, rfl, ho, hu⟩
  rw [show ds.length = (ds.map DN.t).length by rw [List.length_map]] at ho
  obtain ⟨a, c, rfl, hr⟩ := own_reads ho
  exact ⟨a, c, rfl, hr, hu⟩
theorem PS.dlen {W w : World} {ds : List DN} {L : List (Int × Int)} {xv : Value} (h : PS W ds L xv w) : Calls Try.prog 15 #[.pointer (some ⟨W.heap.size, 0, none⟩)] w fun e w' => e = .returned (.int .i64 L.length) ∧ w = w' := by
  refine (dlen_any h.di.dl).mono ?_
  rintro e w' ⟨rfl, rfl⟩
  exact ⟨by rw [h.dr.len], rfl⟩
def ReadsSt (w : World) (a : Option Addr) (ss : List (Int × Int × Int)) : Prop :=
  0 < ss.length → ∃ b off, a = some ⟨b, off, none⟩ ∧ b < w.heap.size ∧ ∀ j (hj : j < ss.length), w.cell? ⟨b, off + j * 3, none⟩ = some (.int .i64 ss[j].1) ∧ w.cell? ⟨b, off + j * 3 + 1, none⟩ = some (.int .i64 ss[j].2.1) ∧ w.cell? ⟨b, off + j * 3 + 2, none⟩ = some (.int .u32 ss[j].2.2)
theorem reads_steps {w : World} {v : Value} (h : (Sh.slice (.st (.cons (.int .i64) (.cons (.int .i64) (.cons (.int .u32) .nil))))).okV w v) :
    ∃ (a : Option Addr) (cap : Nat) (ss : List (Int × Int × Int)), v = .slice a ss.length cap ∧ ss.length ≤ maxLen ∧ ReadsSt w a ss ∧ ∀ s ∈ ss, 0 ≤ s.2.2 ∧ s.2.2 ≤ 4294967295 := by
  obtain ⟨a, len, cap, hv, hlc, hcm, f, hf, hm, _⟩ : (Sh.slice (.st (.cons (.int .i64) (.cons (.int .i64) (.cons (.int .u32) .nil))))).ok w [v] := h
  obtain rfl : v = .slice a len cap := by simpa using hv
  obtain ⟨ss, hl, hx⟩ := list_of len (fun i (x : Int × Int × Int) => f i = [.int .i64 x.1, .int .i64 x.2.1, .int .u32 x.2.2] ∧ (Lit.int .u32 x.2.2).wf = true) (fun i hi => by
    obtain ⟨_, _, e1, ⟨op, rfl, w1⟩, _, _, rfl, ⟨ai, rfl, w2⟩, _, _, rfl, ⟨x, rfl, w3⟩, rfl⟩ := (hf i hi).1
    exact ⟨(op, ai, x), by rw [e1]; rfl, w3⟩)
  subst hl
  refine ⟨a, cap, ss, rfl, by omega, fun h0 => ?_, fun s hs => ?_⟩
  · obtain ⟨b, off, e, hb, hc⟩ := hm h0
    refine ⟨b, off, e, hb, fun j hj => ?_⟩
    have h1 := hc j hj 0 (.int .i64 ss[j].1) (by rw [(hx j hj).1]; rfl)
    have h2 := hc j hj 1 (.int .i64 ss[j].2.1) (by rw [(hx j hj).1]; rfl)
    have h3 := hc j hj 2 (.int .u32 ss[j].2.2) (by rw [(hx j hj).1]; rfl)
    exact ⟨h1, h2, h3⟩
  · obtain ⟨i, hi, rfl⟩ := List.getElem_of_mem hs
    have := (hx i hi).2
    simpa [Lit.wf, IntKind.min, IntKind.max, IntKind.bits, IntKind.signed] using this
theorem ReadsSt.at {w w' : World} {S : List Nat} {a : Option Addr} {ss : List (Int × Int × Int)} (h : ReadsSt w a ss) (hu : Upd S w w') (hS : ∀ k, k ∈ S → w.heap.size ≤ k) {j : Nat} (hj : j < ss.length) :
    ∃ b off, a = some ⟨b, off, none⟩ ∧ b < w.heap.size ∧ w'.cell? ⟨b, off + j * 3, none⟩ = some (.int .i64 ss[j].1) ∧ w'.cell? ⟨b, off + j * 3 + 1, none⟩ = some (.int .i64 ss[j].2.1) ∧ w'.cell? ⟨b, off + j * 3 + 2, none⟩ = some (.int .u32 ss[j].2.2) := by
  obtain ⟨b, off, e, hb, hc⟩ := h (by omega)
  obtain ⟨c0, c1, c2⟩ := hc j hj
  have hn : b ∉ S := fun hk => by have := hS b hk; omega
  exact ⟨b, off, e, hb, (hu.cell (p := ⟨b, _, none⟩) hb hn).trans c0, (hu.cell (p := ⟨b, _, none⟩) hb hn).trans c1, (hu.cell (p := ⟨b, _, none⟩) hb hn).trans c2⟩
theorem int_okV {W : World} {k : IntKind} {v : Value} (h : Sh.okV W (.int k) v) : ∃ n, v = .int k n ∧ (Lit.int k n).wf = true := by
  obtain ⟨n, hn, hw⟩ := h
  exact ⟨n, by simpa using hn, hw⟩
end Go.Proofs.Ytgmdhjlbedgafaa
