/- An argument of bytes. -/
import Derived.Test.YtiimdnachgkomaaActRead
namespace Go.Proofs.Ytiimdnachgkomaa
open Go Go.RowKit
theorem arg_bytes {W : World} {v : Value} (h : Arg Try.prog W 28 v) : ∃ s : Sl UInt8, v = .slice s.A s.l.length s.c ∧ RdB W s.A s.c s.l ∧ Reach s.l.length := by
  obtain ⟨A, n, c, rfl, hr⟩ := h.slice Try.underlying28
  obtain ⟨s, hs, h1, h2⟩ := rv_bytes hr
  injection hs with hs
  exact ⟨s, hs, h1, h2⟩
end Go.Proofs.Ytiimdnachgkomaa
