/- What must come at any rate, in layer 19. -/
import Derived.Test.YtbmdbkjmleimmaaPx3
import Derived.Test.YtbmdbkjmleimmaaEv
namespace Go.Proofs.Ytbmdbkjmleimmaa.Pure
open Go.RowKit Go.Proofs.Ytbmdbkjmleimmaa.P Go.Proofs.Ytbmdbkjmleimmaa.Rp Go.Proofs.YtbmdbkjmleimmaaW.PrintWords Go.Proofs.YtbmdbkjmleimmaaW.PrintLast Go.Proofs.YtbmdbkjmleimmaaW.PrintMore
set_option maxRecDepth 100000 in
theorem heads_at : neumelaw19_heads.f 60 = some true := by decide +kernel
theorem heads_ev : Ev neumelaw19_heads.f true := Ev.of neumelaw19_heads.mono heads_at
theorem heads_bind : Ev (fun k => (neumelaw19_heads.f k).bind fun t => some t) true := Ev.bind heads_ev (Ev.now _)
theorem wf64 {x : Int} (h : (Lit.int .i64 x).wf = true) : -9223372036854775808 ≤ x ∧ x ≤ 9223372036854775807 := by
  simp [Lit.wf] at h
  exact h
end Go.Proofs.Ytbmdbkjmleimmaa.Pure
