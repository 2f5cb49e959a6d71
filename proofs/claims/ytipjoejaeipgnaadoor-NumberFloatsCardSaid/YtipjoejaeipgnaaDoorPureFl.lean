/- The chapter's examples, reckoned. Conditions: none. -/
import Derived.Test.YtipjoejaeipgnaaDoorPFlx8
namespace Go.Proofs.YtipjoejaeipgnaaDoor.Pure
open Go.Proofs.YtipjoejaeipgnaaDoor.PFl Go.Proofs.YtipjoejaeipgnaaDoor.Giv
theorem fl_lives : ∃ k, parterrelaw02_lives.f k = some true := ⟨100, by decide +kernel⟩
end Go.Proofs.YtipjoejaeipgnaaDoor.Pure
