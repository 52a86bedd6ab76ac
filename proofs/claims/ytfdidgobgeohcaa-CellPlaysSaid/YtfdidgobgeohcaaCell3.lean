/- One step on a memory (the law's own helper 'do'), and the chapter's example ('alive'). -/
import Derived.Test.YtfdidgobgeohcaaCell2
set_option linter.unusedVariables false
set_option linter.unusedSimpArgs false
namespace Go.Proofs.Ytfdidgobgeohcaa
open Go.RowKit

structure MS where
  lo : Int
  st : Int
  xs : List Int

def inR (a : Int) (n : Nat) : Bool := decide (0 ≤ a ∧ a < n)
/-- What a step makes of a memory, and what it answers. -/
def stepMS (op a v : Int) (m : MS) : MS × Int × Bool :=
  if inR a m.xs.length = true then
    if op = 1 then (⟨m.lo + 1, m.st, m.xs⟩, m.xs.getD a.toNat 0, true)
    else if op = 2 then (⟨m.lo, m.st + 1, m.xs.set a.toNat v⟩, 0, true)
    else if op = 3 then (⟨m.lo + 1, m.st + 1, m.xs.set a.toNat v⟩, m.xs.getD a.toNat 0, true)
    else if op = 4 then (⟨m.lo + 1, m.st + 1, m.xs.set a.toNat (bits .or .u32 (m.xs.getD a.toNat 0) v)⟩, m.xs.getD a.toNat 0, true)
    else if op = 5 then (⟨m.lo + 1, m.st + 1, m.xs.set a.toNat (bits .and .u32 (m.xs.getD a.toNat 0) v)⟩, m.xs.getD a.toNat 0, true)
    else (m, 0, false)
  else (m, 0, false)

def DoPost (w : World) (b g : Nat) (r : MS × Int × Bool) (e : Ending) (w' : World) : Prop :=
  e = .returned (.tuple #[.int .u32 r.2.1, .bool r.2.2]) ∧ Mem w' b g r.1.lo r.1.st r.1.xs ∧ Upd [b, g] w w'

theorem getD_at (xs : List Int) (i : Nat) (h : i < xs.length) : xs.getD i 0 = xs[i] := by simp [List.getD_eq_getElem?_getD, List.getElem?_eq_getElem h]

set_option maxRecDepth 100000 in
set_option maxHeartbeats 1000000 in
theorem do_in1 {w : World} {b g : Nat} {m : MS} (i : Nat) (v : Int) (h : Mem w b g m.lo m.st m.xs) (hi : i < m.xs.length) (hst0 : 0 ≤ m.st) (hst : m.st < 1000000) (hlo0 : 0 ≤ m.lo) (hlo : m.lo < 1000000) :
    Calls Try.prog 17 #[.pointer (some ⟨b, 0, none⟩), .agg #[.int .i64 1, .int .i64 i, .int .u32 v]] w (DoPost w b g (stepMS 1 i v m)) := by
  have hR : inR (i : Int) m.xs.length = true := by simp [inR]; omega
  have hfin : stepMS 1 i v m = (⟨m.lo + 1, m.st, m.xs⟩, m.xs[i], true) := by simp [stepMS, hR, List.getElem?_eq_getElem hi]
  rw [hfin]
  have hc := load_any i (h.alloc (.cells #[.int .i64 1, .int .i64 i, .int .u32 v] 25)) hi hlo0 hlo
  have hu0 : Upd [b, g] w (w.alloc (.cells #[.int .i64 1, .int .i64 i, .int .u32 v] 25)) := (Upd.refl _ _).alloc _
  have HC := Lib.hid hc
  clear hc hfin h hR
  go_enter Try.func17, Try.ntmps17
  go_wp2_with (go_at_call 19; refine (HC.out).mono ?_; rintro e w' ⟨rfl, hm, hu⟩)
  go_ret2
  exact ⟨rfl, hm, hu0.then hu (by simp)⟩
set_option maxRecDepth 100000 in
set_option maxHeartbeats 1000000 in
theorem do_in2 {w : World} {b g : Nat} {m : MS} (i : Nat) (v : Int) (h : Mem w b g m.lo m.st m.xs) (hi : i < m.xs.length) (hst0 : 0 ≤ m.st) (hst : m.st < 1000000) (hlo0 : 0 ≤ m.lo) (hlo : m.lo < 1000000) :
    Calls Try.prog 17 #[.pointer (some ⟨b, 0, none⟩), .agg #[.int .i64 2, .int .i64 i, .int .u32 v]] w (DoPost w b g (stepMS 2 i v m)) := by
  have hR : inR (i : Int) m.xs.length = true := by simp [inR]; omega
  have hfin : stepMS 2 i v m = (⟨m.lo, m.st + 1, m.xs.set i v⟩, 0, true) := by simp [stepMS, hR, List.getElem?_eq_getElem hi]
  rw [hfin]
  have hc := store_any i v (h.alloc (.cells #[.int .i64 2, .int .i64 i, .int .u32 v] 25)) hi hst0 hst
  have hu0 : Upd [b, g] w (w.alloc (.cells #[.int .i64 2, .int .i64 i, .int .u32 v] 25)) := (Upd.refl _ _).alloc _
  have HC := Lib.hid hc
  clear hc hfin h hR
  go_enter Try.func17, Try.ntmps17
  go_wp2_with (go_at_call 16; refine (HC.out).mono ?_; rintro e w' ⟨rfl, hm, hu⟩)
  go_ret2
  exact ⟨rfl, hm, hu0.then hu (by simp)⟩
set_option maxRecDepth 100000 in
set_option maxHeartbeats 1000000 in
theorem do_in3 {w : World} {b g : Nat} {m : MS} (i : Nat) (v : Int) (h : Mem w b g m.lo m.st m.xs) (hi : i < m.xs.length) (hst0 : 0 ≤ m.st) (hst : m.st < 1000000) (hlo0 : 0 ≤ m.lo) (hlo : m.lo < 1000000) :
    Calls Try.prog 17 #[.pointer (some ⟨b, 0, none⟩), .agg #[.int .i64 3, .int .i64 i, .int .u32 v]] w (DoPost w b g (stepMS 3 i v m)) := by
  have hR : inR (i : Int) m.xs.length = true := by simp [inR]; omega
  have hfin : stepMS 3 i v m = (⟨m.lo + 1, m.st + 1, m.xs.set i v⟩, m.xs[i], true) := by simp [stepMS, hR, List.getElem?_eq_getElem hi]
  rw [hfin]
  have hc := swap_any i v (h.alloc (.cells #[.int .i64 3, .int .i64 i, .int .u32 v] 25)) hi hst0 hst hlo0 hlo
  have hu0 : Upd [b, g] w (w.alloc (.cells #[.int .i64 3, .int .i64 i, .int .u32 v] 25)) := (Upd.refl _ _).alloc _
  have HC := Lib.hid hc
  clear hc hfin h hR
  go_enter Try.func17, Try.ntmps17
  go_wp2_with (go_at_call 87; refine (HC.out).mono ?_; rintro e w' ⟨rfl, hm, hu⟩)
  go_ret2
  exact ⟨rfl, hm, hu0.then hu (by simp)⟩
set_option maxRecDepth 100000 in
set_option maxHeartbeats 1000000 in
theorem do_in4 {w : World} {b g : Nat} {m : MS} (i : Nat) (v : Int) (h : Mem w b g m.lo m.st m.xs) (hi : i < m.xs.length) (hst0 : 0 ≤ m.st) (hst : m.st < 1000000) (hlo0 : 0 ≤ m.lo) (hlo : m.lo < 1000000) :
    Calls Try.prog 17 #[.pointer (some ⟨b, 0, none⟩), .agg #[.int .i64 4, .int .i64 i, .int .u32 v]] w (DoPost w b g (stepMS 4 i v m)) := by
  have hR : inR (i : Int) m.xs.length = true := by simp [inR]; omega
  have hfin : stepMS 4 i v m = (⟨m.lo + 1, m.st + 1, m.xs.set i (bits .or .u32 m.xs[i] v)⟩, m.xs[i], true) := by simp [stepMS, hR, List.getElem?_eq_getElem hi]
  rw [hfin]
  have hc := or_any i v (h.alloc (.cells #[.int .i64 4, .int .i64 i, .int .u32 v] 25)) hi hst0 hst hlo0 hlo
  have hu0 : Upd [b, g] w (w.alloc (.cells #[.int .i64 4, .int .i64 i, .int .u32 v] 25)) := (Upd.refl _ _).alloc _
  have HC := Lib.hid hc
  clear hc hfin h hR
  go_enter Try.func17, Try.ntmps17
  go_wp2_with (go_at_call 84; refine (HC.out).mono ?_; rintro e w' ⟨rfl, hm, hu⟩)
  go_ret2
  exact ⟨rfl, hm, hu0.then hu (by simp)⟩
set_option maxRecDepth 100000 in
set_option maxHeartbeats 1000000 in
theorem do_in5 {w : World} {b g : Nat} {m : MS} (i : Nat) (v : Int) (h : Mem w b g m.lo m.st m.xs) (hi : i < m.xs.length) (hst0 : 0 ≤ m.st) (hst : m.st < 1000000) (hlo0 : 0 ≤ m.lo) (hlo : m.lo < 1000000) :
    Calls Try.prog 17 #[.pointer (some ⟨b, 0, none⟩), .agg #[.int .i64 5, .int .i64 i, .int .u32 v]] w (DoPost w b g (stepMS 5 i v m)) := by
  have hR : inR (i : Int) m.xs.length = true := by simp [inR]; omega
  have hfin : stepMS 5 i v m = (⟨m.lo + 1, m.st + 1, m.xs.set i (bits .and .u32 m.xs[i] v)⟩, m.xs[i], true) := by simp [stepMS, hR, List.getElem?_eq_getElem hi]
  rw [hfin]
  have hc := and_any i v (h.alloc (.cells #[.int .i64 5, .int .i64 i, .int .u32 v] 25)) hi hst0 hst hlo0 hlo
  have hu0 : Upd [b, g] w (w.alloc (.cells #[.int .i64 5, .int .i64 i, .int .u32 v] 25)) := (Upd.refl _ _).alloc _
  have HC := Lib.hid hc
  clear hc hfin h hR
  go_enter Try.func17, Try.ntmps17
  go_wp2_with (go_at_call 85; refine (HC.out).mono ?_; rintro e w' ⟨rfl, hm, hu⟩)
  go_ret2
  exact ⟨rfl, hm, hu0.then hu (by simp)⟩
set_option maxRecDepth 100000 in
set_option maxHeartbeats 1000000 in
theorem do_out1 {w : World} {b g : Nat} {m : MS} (i : Int) (v : Int) (h : Mem w b g m.lo m.st m.xs) (hi : i < 0 ∨ (m.xs.length : Int) ≤ i) :
    Calls Try.prog 17 #[.pointer (some ⟨b, 0, none⟩), .agg #[.int .i64 1, .int .i64 i, .int .u32 v]] w (DoPost w b g (m, 0, false)) := by
  have hm0 := h.alloc (.cells #[.int .i64 1, .int .i64 i, .int .u32 v] 25)
  have hc := load_out i hm0 hi
  have hu0 : Upd [b, g] w (w.alloc (.cells #[.int .i64 1, .int .i64 i, .int .u32 v] 25)) := (Upd.refl _ _).alloc _
  have HC := Lib.hid hc
  clear hc h hi
  go_enter Try.func17, Try.ntmps17
  go_wp2_with (go_at_call 19; refine (HC.out).mono ?_; rintro e w' ⟨rfl, rfl⟩)
  go_ret2
  exact ⟨rfl, hm0, hu0⟩
set_option maxRecDepth 100000 in
set_option maxHeartbeats 1000000 in
theorem do_out2 {w : World} {b g : Nat} {m : MS} (i : Int) (v : Int) (h : Mem w b g m.lo m.st m.xs) (hi : i < 0 ∨ (m.xs.length : Int) ≤ i) :
    Calls Try.prog 17 #[.pointer (some ⟨b, 0, none⟩), .agg #[.int .i64 2, .int .i64 i, .int .u32 v]] w (DoPost w b g (m, 0, false)) := by
  have hm0 := h.alloc (.cells #[.int .i64 2, .int .i64 i, .int .u32 v] 25)
  have hc := store_out i v hm0 hi
  have hu0 : Upd [b, g] w (w.alloc (.cells #[.int .i64 2, .int .i64 i, .int .u32 v] 25)) := (Upd.refl _ _).alloc _
  have HC := Lib.hid hc
  clear hc h hi
  go_enter Try.func17, Try.ntmps17
  go_wp2_with (go_at_call 16; refine (HC.out).mono ?_; rintro e w' ⟨rfl, rfl⟩)
  go_ret2
  exact ⟨rfl, hm0, hu0⟩
set_option maxRecDepth 100000 in
set_option maxHeartbeats 1000000 in
theorem do_out3 {w : World} {b g : Nat} {m : MS} (i : Int) (v : Int) (h : Mem w b g m.lo m.st m.xs) (hi : i < 0 ∨ (m.xs.length : Int) ≤ i) :
    Calls Try.prog 17 #[.pointer (some ⟨b, 0, none⟩), .agg #[.int .i64 3, .int .i64 i, .int .u32 v]] w (DoPost w b g (m, 0, false)) := by
  have hm0 := h.alloc (.cells #[.int .i64 3, .int .i64 i, .int .u32 v] 25)
  have hc := swap_out i v hm0 hi
  have hu0 : Upd [b, g] w (w.alloc (.cells #[.int .i64 3, .int .i64 i, .int .u32 v] 25)) := (Upd.refl _ _).alloc _
  have HC := Lib.hid hc
  clear hc h hi
  go_enter Try.func17, Try.ntmps17
  go_wp2_with (go_at_call 87; refine (HC.out).mono ?_; rintro e w' ⟨rfl, hm, hu⟩)
  go_ret2
  exact ⟨rfl, hm, hu0.then hu (by simp)⟩
set_option maxRecDepth 100000 in
set_option maxHeartbeats 1000000 in
theorem do_out4 {w : World} {b g : Nat} {m : MS} (i : Int) (v : Int) (h : Mem w b g m.lo m.st m.xs) (hi : i < 0 ∨ (m.xs.length : Int) ≤ i) :
    Calls Try.prog 17 #[.pointer (some ⟨b, 0, none⟩), .agg #[.int .i64 4, .int .i64 i, .int .u32 v]] w (DoPost w b g (m, 0, false)) := by
  have hm0 := h.alloc (.cells #[.int .i64 4, .int .i64 i, .int .u32 v] 25)
  have hc := or_out i v hm0 hi
  have hu0 : Upd [b, g] w (w.alloc (.cells #[.int .i64 4, .int .i64 i, .int .u32 v] 25)) := (Upd.refl _ _).alloc _
  have HC := Lib.hid hc
  clear hc h hi
  go_enter Try.func17, Try.ntmps17
  go_wp2_with (go_at_call 84; refine (HC.out).mono ?_; rintro e w' ⟨rfl, hm, hu⟩)
  go_ret2
  exact ⟨rfl, hm, hu0.then hu (by simp)⟩
set_option maxRecDepth 100000 in
set_option maxHeartbeats 1000000 in
theorem do_out5 {w : World} {b g : Nat} {m : MS} (i : Int) (v : Int) (h : Mem w b g m.lo m.st m.xs) (hi : i < 0 ∨ (m.xs.length : Int) ≤ i) :
    Calls Try.prog 17 #[.pointer (some ⟨b, 0, none⟩), .agg #[.int .i64 5, .int .i64 i, .int .u32 v]] w (DoPost w b g (m, 0, false)) := by
  have hm0 := h.alloc (.cells #[.int .i64 5, .int .i64 i, .int .u32 v] 25)
  have hc := and_out i v hm0 hi
  have hu0 : Upd [b, g] w (w.alloc (.cells #[.int .i64 5, .int .i64 i, .int .u32 v] 25)) := (Upd.refl _ _).alloc _
  have HC := Lib.hid hc
  clear hc h hi
  go_enter Try.func17, Try.ntmps17
  go_wp2_with (go_at_call 85; refine (HC.out).mono ?_; rintro e w' ⟨rfl, hm, hu⟩)
  go_ret2
  exact ⟨rfl, hm, hu0.then hu (by simp)⟩

set_option maxRecDepth 100000 in
set_option maxHeartbeats 1000000 in
theorem do_none {w : World} {b g : Nat} {m : MS} (op i v : Int) (h : Mem w b g m.lo m.st m.xs) (h1 : (op == 1) = false) (h2 : (op == 2) = false) (h3 : (op == 3) = false) (h4 : (op == 4) = false) (h5 : (op == 5) = false) :
    Calls Try.prog 17 #[.pointer (some ⟨b, 0, none⟩), .agg #[.int .i64 op, .int .i64 i, .int .u32 v]] w (DoPost w b g (m, 0, false)) := by
  have hm0 := h.alloc (.cells #[.int .i64 op, .int .i64 i, .int .u32 v] 25)
  have hu0 : Upd [b, g] w (w.alloc (.cells #[.int .i64 op, .int .i64 i, .int .u32 v] 25)) := (Upd.refl _ _).alloc _
  clear h
  go_enter Try.func17, Try.ntmps17
  go_wp2
  go_ret2
  exact ⟨rfl, hm0, hu0⟩

theorem do_any {w : World} {b g : Nat} {m : MS} (op i v : Int) (h : Mem w b g m.lo m.st m.xs) (hst0 : 0 ≤ m.st) (hst : m.st < 1000000) (hlo0 : 0 ≤ m.lo) (hlo : m.lo < 1000000) :
    Calls Try.prog 17 #[.pointer (some ⟨b, 0, none⟩), .agg #[.int .i64 op, .int .i64 i, .int .u32 v]] w (DoPost w b g (stepMS op i v m)) := by
  by_cases hi : 0 ≤ i ∧ i < m.xs.length
  · obtain ⟨n, rfl⟩ := Int.eq_ofNat_of_zero_le hi.1
    have hn : n < m.xs.length := by omega
    have hR : inR (n : Int) m.xs.length = true := by simp [inR]; omega
    by_cases e1 : op = 1
    · subst e1; exact do_in1 n v h hn hst0 hst hlo0 hlo
    by_cases e2 : op = 2
    · subst e2; exact do_in2 n v h hn hst0 hst hlo0 hlo
    by_cases e3 : op = 3
    · subst e3; exact do_in3 n v h hn hst0 hst hlo0 hlo
    by_cases e4 : op = 4
    · subst e4; exact do_in4 n v h hn hst0 hst hlo0 hlo
    by_cases e5 : op = 5
    · subst e5; exact do_in5 n v h hn hst0 hst hlo0 hlo
    rw [show stepMS op n v m = (m, 0, false) by simp [stepMS, e1, e2, e3, e4, e5]]
    exact do_none op n v h (by simpa using e1) (by simpa using e2) (by simpa using e3) (by simpa using e4) (by simpa using e5)
  · have hR : inR i m.xs.length = false := by simpa [inR] using hi
    rw [show stepMS op i v m = (m, 0, false) by simp [stepMS, hR]]
    have ho : i < 0 ∨ (m.xs.length : Int) ≤ i := by omega
    by_cases e1 : op = 1
    · subst e1; exact do_out1 i v h ho
    by_cases e2 : op = 2
    · subst e2; exact do_out2 i v h ho
    by_cases e3 : op = 3
    · subst e3; exact do_out3 i v h ho
    by_cases e4 : op = 4
    · subst e4; exact do_out4 i v h ho
    by_cases e5 : op = 5
    · subst e5; exact do_out5 i v h ho
    exact do_none op i v h (by simpa using e1) (by simpa using e2) (by simpa using e3) (by simpa using e4) (by simpa using e5)

end Go.Proofs.Ytfdidgobgeohcaa
