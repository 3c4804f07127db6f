/- WholeRecords: what is read, opened. -/
import Derived.Test.YtpnghjmphbhkjaaX31
import Derived.Test.YtpnghjmphbhkjaaX19
namespace Go.Proofs.Ytpnghjmphbhkjaa
open Go.Sp Go.Sp.Open
theorem full_ro (w : World) : RoHeap (full w) := fun k o h => by
  unfold full at h
  cases hb : w.heap[k]? with
  | none => rw [hb] at h; cases h
  | some x => rw [hb] at h; cases h; exact ⟨x, rfl⟩
theorem ro_keys {w : World} {A : Option Addr} {c : Nat} {L : List (List ByteArray)} (h : (Kd.slice (Kd.of 1 sC)).C w A L) (hs : ∀ ws ∈ L, ws.length * 16 ≤ 140737488351232) : KeysAt (full w) (.slice A L.length c) L :=
  ⟨A, c, rfl, fun i ws hws => by
    obtain ⟨b, o, x, h1, h2, h3⟩ := ro_lists_of (c := c) (by decide) h i ws hws
    have := hs ws (List.mem_of_getElem? hws)
    exact ⟨b, o, x, h1, h2, h3, by omega⟩⟩
end Go.Proofs.Ytpnghjmphbhkjaa
