/- Package delta: what its methods do to the list in memory. -/
import Derived.Test.YtgmdhjlbedgafaaDelta
set_option linter.unusedVariables false
set_option linter.unusedSimpArgs false
namespace Go.Proofs.Ytgmdhjlbedgafaa
open Go.RowKit

theorem DSegN.split {w : World} {nx : Value} {p : Int} {ys zs : List DN} : DSegN w nx p (ys ++ zs) ↔ DSegN w (dfirstN nx zs) p ys ∧ DSegN w nx (dlast p ys) zs := by
  induction ys generalizing p with
  | nil => simp [DSegN, dlast]
  | cons y ys ih =>
    rw [List.cons_append]
    simp only [DSegN, dlast]
    rw [ih]
    have : dfirstN nx (ys ++ zs) = dfirstN (dfirstN nx zs) ys := by cases ys <;> rfl
    rw [this, and_assoc]
theorem DSegN.frame {w w' : World} {nx : Value} {p : Int} {xs : List DN} (h : DSegN w nx p xs) (hf : ∀ x ∈ xs, w'.heap[x.b]? = w.heap[x.b]?) : DSegN w' nx p xs := by
  induction xs generalizing p with
  | nil => trivial
  | cons x xs ih => exact ⟨by rw [hf x (by simp)]; exact h.1, ih h.2 fun y hy => hf y (by simp [hy])⟩

/-- The list up to a link, and what the link holds. -/
structure DP (w : World) (d : Nat) (ys : List DN) (nx : Value) (n : Int) : Prop where
  hd : w.heap[d]? = some (.cells #[dfirstN nx ys, .int .i64 n] 27 (0, 0))
  seg : DSegN w nx 0 ys

theorem DP.split {w : World} {d : Nat} {ys zs : List DN} {nx : Value} {n : Int} : DP w d (ys ++ zs) nx n ↔ DP w d ys (dfirstN nx zs) n ∧ DSegN w nx (dlast 0 ys) zs := by
  have : dfirstN nx (ys ++ zs) = dfirstN (dfirstN nx zs) ys := by cases ys <;> rfl
  constructor
  · rintro ⟨h1, h2⟩
    rw [this] at h1
    rw [DSegN.split] at h2
    exact ⟨⟨h1, h2.1⟩, h2.2⟩
  · rintro ⟨⟨h1, h2⟩, h3⟩
    exact ⟨by rw [this]; exact h1, DSegN.split.2 ⟨h2, h3⟩⟩
theorem DL.dp {w : World} {d : Nat} {xs : List DN} (h : DL w d xs) : DP w d xs (Value.pointer none) xs.length := ⟨h.hd, h.seg⟩
theorem DP.dl {w : World} {d : Nat} {xs : List DN} (h : DP w d xs (Value.pointer none) xs.length) (h1 : (d :: xs.map DN.b).Nodup) (h2 : DSorted 0 xs) : DL w d xs := ⟨h.hd, h.seg, h1, h2⟩
theorem DP.frame {w w' : World} {d : Nat} {ys : List DN} {nx : Value} {n : Int} (h : DP w d ys nx n) (hf : ∀ k ∈ d :: ys.map DN.b, w'.heap[k]? = w.heap[k]?) : DP w' d ys nx n :=
  ⟨by rw [hf d (by simp)]; exact h.hd, h.seg.frame fun x hx => hf x.b (by simp; exact .inr ⟨x, hx, rfl⟩)⟩
theorem DP.setN {w : World} {d : Nat} {ys : List DN} {nx : Value} {n : Int} (h : DP w d ys nx n) (hd : d ∉ ys.map DN.b) (m : Int) : DP (w.setCell ⟨d, 1, none⟩ (.int .i64 m)) d ys nx m :=
  ⟨by rw [heap_set h.hd]; rfl, h.seg.frame fun x hx => heap_set_other _ _ _ (by rintro rfl; exact hd (List.mem_map.2 ⟨x, hx, rfl⟩))⟩
theorem DP.setLink {w : World} {d : Nat} {ys : List DN} {nx : Value} {n : Int} (h : DP w d ys nx n) (hd : (d :: ys.map DN.b).Nodup) (v : Value) : DP (w.setCell (dlink ⟨d, 0, none⟩ ys) v) d ys v n := by
  rcases List.eq_nil_or_concat ys with rfl | ⟨l, y, rfl⟩
  · exact ⟨by rw [dlink, heap_set h.hd]; rfl, trivial⟩
  · rw [List.concat_eq_append] at *
    rw [dlink_append]
    have hd' : (d :: (l.map DN.b ++ [y.b])).Nodup := by simpa using hd
    have hne : d ≠ y.b := fun e => (List.nodup_cons.1 hd').1 (by simp [e])
    have hl : ∀ x ∈ l, x.b ≠ y.b := fun x hx => by
      have h3 := (List.nodup_append.1 (List.nodup_cons.1 hd').2).2.2
      exact h3 x.b (List.mem_map.2 ⟨x, hx, rfl⟩) y.b (by simp)
    obtain ⟨h1, h2⟩ := DP.split.1 h
    refine DP.split.2 ⟨⟨?_, ?_⟩, ?_, trivial⟩
    · rw [heap_set_other _ _ _ hne]; exact h1.hd
    · exact h1.seg.frame fun x hx => heap_set_other _ _ _ (hl x hx)
    · rw [heap_set h2.1]; rfl
theorem DSegN.setTicks {w : World} {nx : Value} {p : Int} {z : DN} {zs : List DN} (h : DSegN w nx p (z :: zs)) (hn : (z.b :: zs.map DN.b).Nodup) (q : Int) : DSegN (w.setCell ⟨z.b, 1, none⟩ (.int .u32 (z.a - q))) nx q (z :: zs) :=
  ⟨by rw [heap_set h.1]; rfl, h.2.frame fun x hx => heap_set_other _ _ _ (by rintro e; exact (List.nodup_cons.1 hn).1 (e ▸ List.mem_map.2 ⟨x, hx, rfl⟩))⟩

theorem heap_setCell_ne (w : World) (p : Addr) (v : Value) {k : Nat} (h : k ≠ p.block) : (w.setCell p v).heap[k]? = w.heap[k]? := Below.heap_setCell _ _ _ _ h
theorem dlink_mem (d : Nat) (ys : List DN) : (dlink ⟨d, 0, none⟩ ys).block ∈ d :: ys.map DN.b := by
  rcases List.eq_nil_or_concat ys with rfl | ⟨l, y, rfl⟩
  · simp [dlink]
  · rw [List.concat_eq_append, dlink_append]; simp

theorem DSegN.lt {w : World} {nx : Value} {p : Int} {xs : List DN} (h : DSegN w nx p xs) : ∀ x ∈ xs, x.b < w.heap.size := by
  induction xs generalizing p with
  | nil => simp
  | cons x xs ih =>
    intro y hy
    rcases List.mem_cons.1 hy with rfl | hy
    · exact heap_lt h.1
    · exact ih h.2 y hy
theorem DL.lt {w : World} {d : Nat} {xs : List DN} (h : DL w d xs) : ∀ k ∈ d :: xs.map DN.b, k < w.heap.size := by
  intro k hk
  rcases List.mem_cons.1 hk with rfl | hk
  · exact heap_lt h.hd
  · obtain ⟨x, hx, rfl⟩ := List.mem_map.1 hk
    exact h.seg.lt x hx

def addTick (w1 : World) (a : Int) : List DN → World
  | [] => w1
  | z :: _ => w1.setCell ⟨z.b, 1, none⟩ (.int .u32 (z.a - a))
/-- The world behind 'Add' at a link. -/
def addW (w : World) (d : Nat) (ys zs : List DN) (t a : Int) : World :=
  let w1 := w.alloc (.cells #[.int .i64 t, .int .u32 (a - dlast 0 ys), dfirst zs] 82)
  let w2 := addTick w1 a zs
  (w2.setCell (dlink ⟨d, 0, none⟩ ys) (dptr w.heap.size)).setCell ⟨d, 1, none⟩ (.int .i64 ((ys ++ zs).length + 1))

theorem DSorted.split {p : Int} {ys zs : List DN} : DSorted p (ys ++ zs) ↔ DSorted p ys ∧ DSorted (dlast p ys) zs := by
  induction ys generalizing p with
  | nil => simp [DSorted, dlast]
  | cons y ys ih => simp only [List.cons_append, DSorted, dlast, ih, and_assoc]

theorem DL.add {w : World} {d : Nat} {ys zs : List DN} (h : DL w d (ys ++ zs)) (t a : Int) (h1 : dlast 0 ys ≤ a) (h2 : a ≤ 4294967295) (h3 : ∀ z zs', zs = z :: zs' → a ≤ z.a) :
    DL (addW w d ys zs t a) d (ys ++ ⟨w.heap.size, t, a⟩ :: zs) ∧ Upd (d :: (ys ++ zs).map DN.b) w (addW w d ys zs t a) := by
  have hlt := h.lt
  have hnd := h.nodup
  have hnd' : (d :: (ys.map DN.b ++ zs.map DN.b)).Nodup := by simpa using hnd
  obtain ⟨hdn, happ⟩ := List.nodup_cons.1 hnd'
  obtain ⟨hy, hz, hyz⟩ := List.nodup_append.1 happ
  obtain ⟨hp, hs⟩ := DP.split.1 h.dp
  have hlty : ∀ k ∈ d :: ys.map DN.b, k < w.heap.size := fun k hk => hlt k (by simp at hk ⊢; rcases hk with hk | ⟨x, hx, e⟩; exact .inl hk; exact .inr (.inl ⟨x, hx, e⟩))
  have hltz : ∀ z ∈ zs, z.b < w.heap.size := fun z hzz => hlt z.b (by simp; exact .inr (.inr ⟨z, hzz, rfl⟩))
  -- the new block
  generalize hnew : Obj.cells #[Value.int .i64 t, Value.int .u32 (a - dlast 0 ys), dfirst zs] 82 (0, 0) = new
  have hB : (w.alloc new).heap[w.heap.size]? = some new := heap_alloc_new w new
  have hp1 : DP (w.alloc new) d ys (dfirst zs) (ys ++ zs).length := hp.frame fun k hk => heap_alloc_other _ _ (hlty k hk)
  have hs1 : DSegN (w.alloc new) (Value.pointer none) (dlast 0 ys) zs := hs.frame fun z hzz => heap_alloc_other _ _ (hltz z hzz)
  -- the one behind
  obtain ⟨w2, hw2, hp2, hs2, hB2, hsz2⟩ : ∃ w2, w2 = addTick (w.alloc new) a zs ∧ DP w2 d ys (dfirst zs) (ys ++ zs).length ∧ DSegN w2 (Value.pointer none) a zs ∧ w2.heap[w.heap.size]? = some new ∧ Upd (d :: (ys ++ zs).map DN.b) w w2 := by
    cases zs with
    | nil => exact ⟨_, rfl, hp1, trivial, hB, (Upd.refl _ _).alloc _⟩
    | cons z zs =>
      refine ⟨_, rfl, hp1.frame fun k hk => heap_set_other _ _ _ ?_, hs1.setTicks (by simpa using hz) a, ?_, ((Upd.refl _ _).alloc _).setCell (by simp) _⟩
      · rintro rfl
        rcases List.mem_cons.1 hk with e | hk
        · exact hdn (by rw [← e]; simp)
        · exact hyz _ hk _ (by simp) rfl
      · rw [addTick, heap_set_other _ _ _ (by have := hltz z (by simp); omega)]; exact hB
  have hp3 := hp2.setLink (by simp [hy]; intro x hx e; exact hdn (by rw [← e]; simp; exact .inl ⟨x, hx, rfl⟩)) (dptr w.heap.size)
  have hlb := dlink_mem d ys
  have hlbne : ∀ z ∈ zs, z.b ≠ (dlink ⟨d, 0, none⟩ ys).block := fun z hzz e => by
    rw [← e] at hlb
    rcases List.mem_cons.1 hlb with e | hk
    · exact hdn (by rw [← e]; simp; exact .inr ⟨z, hzz, rfl⟩)
    · exact hyz _ hk _ (List.mem_map.2 ⟨z, hzz, rfl⟩) rfl
  have hs3 := hs2.frame (w' := w2.setCell (dlink ⟨d, 0, none⟩ ys) (dptr w.heap.size)) fun z hzz => heap_setCell_ne _ _ _ (hlbne z hzz)
  have hB3 : (w2.setCell (dlink ⟨d, 0, none⟩ ys) (dptr w.heap.size)).heap[w.heap.size]? = some new := by
    rw [heap_setCell_ne _ _ _ (by have := hlty _ hlb; omega)]; exact hB2
  have hdy : d ∉ ys.map DN.b := fun hm => hdn (by simp at hm ⊢; exact .inl hm)
  have hp4 := hp3.setN hdy ((ys ++ zs).length + 1)
  have hs4 := hs3.frame (w' := (w2.setCell (dlink ⟨d, 0, none⟩ ys) (dptr w.heap.size)).setCell ⟨d, 1, none⟩ (.int .i64 ((ys ++ zs).length + 1))) fun z hzz => heap_set_other _ _ _ (by rintro e; exact hdn (by rw [← e]; simp; exact .inr ⟨z, hzz, rfl⟩))
  have hltd := hlt d (by simp)
  have hB4 : ((w2.setCell (dlink ⟨d, 0, none⟩ ys) (dptr w.heap.size)).setCell ⟨d, 1, none⟩ (.int .i64 ((ys ++ zs).length + 1))).heap[w.heap.size]? = some new := by
    rw [heap_set_other _ _ _ (by omega)]; exact hB3
  have hW : addW w d ys zs t a = (w2.setCell (dlink ⟨d, 0, none⟩ ys) (dptr w.heap.size)).setCell ⟨d, 1, none⟩ (.int .i64 ((ys ++ zs).length + 1)) := by
    unfold addW
    simp only [hw2, ← hnew]
  rw [hW]
  subst hnew
  obtain ⟨hso1, hso2⟩ := DSorted.split.1 h.sorted
  refine ⟨DP.dl (DP.split.2 ⟨by simpa [dfirstN, Int.add_comm, Int.add_assoc, Int.add_left_comm] using hp4, hB4, hs4⟩) ?_ (DSorted.split.2 ⟨hso1, h1, h2, ?_⟩), (hsz2.setCell (.inl ?_) _).setCell (by simp) _⟩
  · have hBy : ∀ x ∈ ys, x.b ≠ w.heap.size := fun x hx e => by have := hlty x.b (by simp; exact .inr ⟨x, hx, rfl⟩); omega
    have hBz : ∀ x ∈ zs, x.b ≠ w.heap.size := fun x hx e => by have := hltz x hx; omega
    simp only [List.map_append, List.map_cons, List.nodup_cons, List.nodup_append, List.mem_append, List.mem_cons, List.mem_map]
    refine ⟨?_, hy, ⟨?_, hz⟩, ?_⟩
    · rintro (⟨x, hx, e⟩ | e | ⟨x, hx, e⟩)
      · exact hdn (by rw [← e]; simp; exact .inl ⟨x, hx, rfl⟩)
      · omega
      · exact hdn (by rw [← e]; simp; exact .inr ⟨x, hx, rfl⟩)
    · rintro ⟨x, hx, e⟩; exact hBz x hx e
    · rintro _ ⟨x, hx, rfl⟩ _ (rfl | ⟨y, hyy, rfl⟩)
      · exact hBy x hx
      · exact hyz _ (List.mem_map.2 ⟨x, hx, rfl⟩) _ (List.mem_map.2 ⟨y, hyy, rfl⟩)
  · cases zs with
    | nil => trivial
    | cons z zs => exact ⟨h3 z zs rfl, hso2.2⟩
  · rcases List.mem_cons.1 hlb with e | hk
    · rw [e]; simp
    · simp at hk ⊢; exact .inr (.inl hk)

/-- The place of new ticks: behind all that are told no later. -/
def dspan (a : Int) : List DN → List DN × List DN
  | [] => ([], [])
  | x :: xs => if x.a ≤ a then (x :: (dspan a xs).1, (dspan a xs).2) else ([], x :: xs)
theorem dspan_append (a : Int) (xs : List DN) : (dspan a xs).1 ++ (dspan a xs).2 = xs := by
  induction xs with
  | nil => rfl
  | cons x xs ih =>
    unfold dspan
    split
    · simp [ih]
    · rfl
theorem dspan_at {a : Int} {ys zs : List DN} (h : ∀ x ∈ ys, x.a ≤ a) (hz : ∀ z zs', zs = z :: zs' → a < z.a) : dspan a (ys ++ zs) = (ys, zs) := by
  induction ys with
  | nil =>
    cases zs with
    | nil => rfl
    | cons z zs => have := hz z zs rfl; simp [dspan]; omega
  | cons y ys ih =>
    have h1 : y.a ≤ a := h y (by simp)
    simp [dspan, h1, ih (fun x hx => h x (by simp [hx]))]
theorem dlast_le {p a : Int} {ys : List DN} (hp : p ≤ a) (h : ∀ x ∈ ys, x.a ≤ a) : dlast p ys ≤ a := by
  induction ys generalizing p with
  | nil => exact hp
  | cons y ys ih => exact ih (h y (by simp)) (fun x hx => h x (by simp [hx]))

/-- 'Add' that is taken. -/
def DAddPost (w : World) (d : Nat) (xs : List DN) (t a : Int) (e : Ending) (w' : World) : Prop :=
  ∃ B, e = .returned (.bool true) ∧ w.heap.size ≤ B ∧ DL w' d ((dspan a xs).1 ++ ⟨B, t, a⟩ :: (dspan a xs).2) ∧ Upd (d :: xs.map DN.b) w w'

theorem dlink_form (d : Nat) (ys : List DN) : ∃ lb lo, dlink ⟨d, 0, none⟩ ys = ⟨lb, lo, none⟩ ∧ lo ≠ 1 := by
  rcases List.eq_nil_or_concat ys with rfl | ⟨l, y, rfl⟩
  · exact ⟨d, 0, rfl, by omega⟩
  · exact ⟨y.b, 2, by rw [List.concat_eq_append, dlink_append], by omega⟩
theorem DL.linkFree {w : World} {d : Nat} {ys zs : List DN} (h : DL w d (ys ++ zs)) : w.frozen? (dlink ⟨d, 0, none⟩ ys) = false := by
  rcases List.eq_nil_or_concat ys with rfl | ⟨l, y, rfl⟩
  · exact frozen_of_heap h.hd 0
  · rw [List.concat_eq_append] at *
    rw [dlink_append]
    have := h.seg
    rw [List.append_assoc] at this
    exact frozen_of_heap (DSeg.node (z := y) (zs := zs) this) 2
theorem cells2 {w : World} {k : Nat} {x y : Value} {t : TypeId} {f : Nat × Nat} (h : w.heap[k]? = some (.cells #[x, y] t f)) : w.cell? ⟨k, 0, none⟩ = some x ∧ w.cell? ⟨k, 1, none⟩ = some y :=
  ⟨by rw [cell_of_heap h]; rfl, by rw [cell_of_heap h]; rfl⟩

/-- The end of 'Add': where the loop has stopped. -/
theorem dadd_end {w : World} {d : Nat} {ys zs : List DN} {t a : Int} (h : DL w d (ys ++ zs)) (ha0 : 0 ≤ a) (ha : a ≤ 4294967295) (hys : ∀ x ∈ ys, x.a ≤ a) (hz : ∀ z zs', zs = z :: zs' → a < z.a) :
    DAddPost w d (ys ++ zs) t a (.returned (.bool true)) (addW w d ys zs t a) := by
  have h1 := dlast_le ha0 hys
  obtain ⟨h2, h3⟩ := h.add t a h1 ha (fun z zs' e => Int.le_of_lt (hz z zs' e))
  refine ⟨w.heap.size, rfl, Nat.le_refl _, ?_, h3⟩
  rw [dspan_at hys hz]
  exact h2

set_option maxRecDepth 100000 in
set_option maxHeartbeats 2000000 in
theorem dadd_yes {w : World} {d : Nat} {xs : List DN} (t a : Int) (h : DL w d xs) (hn : dfind t xs = none) (ht0 : 0 ≤ t) (ht : t < 16) (ha0 : 0 < a) (ha : a ≤ 4294967295) (hlen : xs.length < 1000000) :
    Calls Try.prog 6 #[.pointer (some ⟨d, 0, none⟩), .int .i64 t, .int .u32 a] w (DAddPost w d xs t a) := by
  have hf := dfind_any t h
  rw [hn] at hf
  have HF := Lib.hid hf
  clear hf hn
  have ea : (a == 0) = false := by simp; omega
  go_enter Try.func6, Try.ntmps6
  go_wp2_with (go_at_call 33; refine (HF.out).mono ?_; simp only [findAns]; rintro e w' ⟨rfl, rfl⟩)
  go_loopg [2, 9] xs.length (fun n v2 v9 wr => ∃ ys zs, n = zs.length ∧ wr = w ∧ xs = ys ++ zs ∧ (∀ x ∈ ys, x.a ≤ a) ∧ v2 = .int .u32 (a - dlast 0 ys) ∧ v9 = .pointer (some (dlink ⟨d, 0, none⟩ ys)))
  case atStart => exact ⟨[], xs, rfl, rfl, rfl, by simp, by simp [dlast], rfl⟩
  case round =>
    obtain ⟨ys, zs, rfl, rfl, rfl, hys, rfl, rfl⟩ := hrel
    have hl := h.link (ys := ys) (zs := zs) rfl
    have hlf := h.linkFree (ys := ys) (zs := zs)
    have hlb := h.lt _ (show (dlink ⟨d, 0, none⟩ ys).block ∈ _ by have := dlink_mem d ys; simp at this ⊢; rcases this with e | e; exact .inl e; exact .inr (.inl e))
    obtain ⟨hc0, hc1⟩ := cells2 h.hd
    have hfd := frozen_of_heap h.hd 1
    have hdl := heap_lt h.hd
    have hp := DSorted.last (ys := ys) h.sorted (by omega)
    have hla := dlast_le (Int.le_of_lt ha0) hys
    have HL := Lib.hid h
    have HLEN := Lib.hid hlen
    have HYS := Lib.hid hys
    obtain ⟨n, hn⟩ : ∃ n : Nat, n = (ys ++ zs).length := ⟨_, rfl⟩
    rw [← hn] at hc1 hlen
    have HN := Lib.hid hn
    obtain ⟨lb, lo, hL, hlo⟩ := dlink_form d ys
    have HLK := Lib.hid hL
    rw [hL] at hl hlf hlb ⊢
    clear hc0 hn hL hys HF
    cases zs with
    | nil =>
      simp only [dfirst, dfirstN] at hl
      have hfin := dadd_end (t := t) HL.out (Int.le_of_lt ha0) ha HYS.out (by simp)
      simp only [addW, addTick, HLK.out, dfirst, dfirstN, ← HN.out, dptr] at hfin
      rw [World.setCell_alloc_past _ _ _ _ hlb, World.setCell_alloc_past _ _ _ _ (by rw [size_setCell]; exact hdl), List.append_nil] at hfin
      have HFIN := Lib.hid hfin
      clear h hfin
      go_wp2
      go_ret
      exact HFIN.out
    | cons z zs =>
      have hn := DSeg.node h.seg
      obtain ⟨n0, n1, n2⟩ := cells3 hn
      have nf := frozen_of_heap hn 1
      have hzb := heap_lt hn
      have hs := DSorted.node h.sorted
      have hdz : d ≠ z.b := by
        have := h.nodup
        rintro rfl
        simp at this
      have hzd : z.b ≠ d := Ne.symm hdz
      simp only [dfirst, dfirstN, dptr] at hl
      by_cases hza : z.a ≤ a
      · have hle : z.a - dlast 0 ys ≤ a - dlast 0 ys := by omega
        have hw : IntKind.u32.wrap (a - dlast 0 ys - (z.a - dlast 0 ys)) = a - z.a := by rw [IntKind.wrap_u32]; omega
        clear h hn
        go_wp2
        go_roundg zs.length
        case measure => simp
        case rel =>
          refine ⟨ys ++ [z], zs, rfl, rfl, by simp, ?_, by rw [dlast_append], by rw [dlink_append]⟩
          intro x hx
          rcases List.mem_append.1 hx with h1 | h1
          · exact HYS.out x h1
          · simp at h1; subst h1; exact hza
      · have hle : ¬ (z.a - dlast 0 ys ≤ a - dlast 0 ys) := by omega
        have hw : IntKind.u32.wrap (z.a - dlast 0 ys - (a - dlast 0 ys)) = z.a - a := by rw [IntKind.wrap_u32]; omega
        have hfin := dadd_end (t := t) HL.out (Int.le_of_lt ha0) ha HYS.out (by rintro _ _ ⟨rfl, rfl⟩; omega)
        simp only [addW, addTick, HLK.out, dfirst, dfirstN, ← HN.out, dptr] at hfin
        rw [World.setCell_alloc_past _ _ _ _ hzb, World.setCell_alloc_past _ _ _ _ (by rw [size_setCell]; exact hlb), World.setCell_alloc_past _ _ _ _ (by rw [size_setCell, size_setCell]; exact hdl)] at hfin
        have HFIN := Lib.hid hfin
        clear h hn hfin
        go_wp2
        go_ret
        exact HFIN.out
end Go.Proofs.Ytgmdhjlbedgafaa
