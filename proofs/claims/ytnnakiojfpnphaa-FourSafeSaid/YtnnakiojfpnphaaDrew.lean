/- A frame that begins behind a draw. -/
import Derived.Test.YtnnakiojfpnphaaLib
namespace Go.Proofs.Ytnnakiojfpnphaa
theorem Upd.of_drew {S : List Nat} {w w' : World} (h : Upd S w.drew w') : Upd S w w' := ⟨h.os, h.tape, h.output, h.size, h.block⟩
theorem Upd.of_drewN {S : List Nat} {w w' : World} {n : Nat} (h : Upd S (w.drewN n) w') : Upd S w w' := ⟨h.os, h.tape, h.output, h.size, h.block⟩
end Go.Proofs.Ytnnakiojfpnphaa
