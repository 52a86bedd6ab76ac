/- Package conf: what is wrong with one part of a configuration. -/
import Derived.Test.YtnnakiojfpnphaaCF5
set_option linter.unusedVariables false
set_option linter.unusedSimpArgs false
namespace Go.Proofs.Ytnnakiojfpnphaa
open Go.RowKit

/-- Elements of several cells, one behind the other. -/
def Els (w : World) (a : Option Addr) (sz : Nat) (xs : List (List Value)) : Prop :=
  0 < xs.length → ∃ b off, a = some ⟨b, off, none⟩ ∧ b < w.heap.size ∧ ∀ i (hi : i < xs.length) j v, xs[i][j]? = some v → w.cell? ⟨b, off + i * sz + j, none⟩ = some v
theorem Els.upd {w w' : World} {S : List Nat} {a : Option Addr} {sz : Nat} {xs : List (List Value)} (h : Els w a sz xs) (hu : Upd S w w') (hS : ∀ k, k ∈ S → w.heap.size ≤ k) : Els w' a sz xs := fun h0 => by
  obtain ⟨b, off, e, hb, hc⟩ := h h0
  refine ⟨b, off, e, Nat.lt_of_lt_of_le hb hu.size, fun i hi j v hv => ?_⟩
  rw [hu.cell (p := ⟨b, off + i * sz + j, none⟩) hb (fun hk => by have := hS b hk; omega)]
  exact hc i hi j v hv
structure TK where
  (p : Int) (l : Bool) (ca : Option Addr) (cn cc : Nat)
structure LV where
  (r : Int) (ca : Option Addr) (cn cc : Nat)
structure OBJ where
  (k cap wd rt f t i0 i1 i2 i3 : Int)
def TK.cells (x : TK) : List Value := [.int .i64 x.p, .bool x.l, .slice x.ca x.cn x.cc]
def LV.cells (x : LV) : List Value := [.int .i64 x.r, .slice x.ca x.cn x.cc]
def OBJ.cells (x : OBJ) : List Value := (obA x.k x.cap x.wd x.rt x.f x.t x.i0 x.i1 x.i2 x.i3).toList
structure CF where
  (ts : List TK) (ls : List LV) (os : List OBJ) (tk : Int)
def TK.fault (x : TK) : Int := if decide (0 ≤ x.p) && decide (x.p ≤ 31) then (if 64 < x.cn then 14 else 0) else 2
def LV.fault (x : LV) : Int := if pw7 x.r then (if 64 < x.cn then 14 else 0) else 13
def OBJ.fault (tn ln : Nat) (x : OBJ) : Int :=
  if decide (1 ≤ x.k) && decide (x.k ≤ 4) then
    if x.k == 1 && !pw7 x.cap then 13
    else if rightB x.k x.cap x.wd x.rt then (if ownB tn ln x.k x.f x.t then 0 else 10) else 2
  else 12
def cntF (n a b : Int) : Int := if decide (a ≤ n) && decide (n ≤ b) then 0 else 2
/-- What is wrong with each place of a part, 0 where nothing is. -/
def CF.faults (c : CF) : Nat → List Int
  | 1 => [cntF c.ts.length 1 16, cntF c.ls.length 0 31, cntF c.os.length 0 16, cntF c.tk 0 c.ls.length]
  | 2 => c.ts.map TK.fault
  | 3 => c.ls.map LV.fault
  | 4 => c.os.map (OBJ.fault c.ts.length c.ls.length)
  | _ => []
def ansV : Option Int → Value
  | none => .tuple #[.int .i64 0, .bool false]
  | some f => .tuple #[.int .i64 f, .bool true]
/-- A configuration as it can be read. -/
structure CFR (w : World) (ta : Option Addr) (la : Option Addr) (oa : Option Addr) (c : CF) : Prop where
  t : Els w ta 3 (c.ts.map TK.cells)
  l : Els w la 2 (c.ls.map LV.cells)
  o : Els w oa 10 (c.os.map OBJ.cells)
  tn : c.ts.length ≤ 1000
  ln : c.ls.length ≤ 1000
  on : c.os.length ≤ 1000
  tcn : ∀ x ∈ c.ts, x.cn ≤ maxLen
  lcn : ∀ x ∈ c.ls, x.cn ≤ maxLen
theorem CFR.upd {w w' : World} {ta la oa : Option Addr} {c : CF} (h : CFR w ta la oa c) (hu : Upd [] w w') : CFR w' ta la oa c :=
  ⟨h.t.upd hu (by simp), h.l.upd hu (by simp), h.o.upd hu (by simp), h.tn, h.ln, h.on, h.tcn, h.lcn⟩

section
variable {ta la oa : Option Addr} (tc lc oc : Nat) {c : CF} {w : World}
end
end Go.Proofs.Ytnnakiojfpnphaa
