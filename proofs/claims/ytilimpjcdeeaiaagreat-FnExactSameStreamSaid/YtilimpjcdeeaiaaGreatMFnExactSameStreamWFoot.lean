import Derived.Test.YtilimpjcdeeaiaaGreatMFnExactSameStreamWApart
import Derived.Test.YtilimpjcdeeaiaaGreatMFnExactSameStreamWArr
namespace Go.Proofs.YtilimpjcdeeaiaaGreatW.PrintWords
open Go.RowKit
namespace Kd
/-- What a kind reads lies in the blocks: nothing else of the world is looked at. -/
structure Heap {α : Type} (d : Kd α) : Prop where
 K : ∀ {w w1 : World} {x : α} {cs : List Value}, (∀ k, k < w.heap.size → w1.heap[k]? = w.heap[k]?) → d.K w x cs → d.K w1 x cs
end Kd
end Go.Proofs.YtilimpjcdeeaiaaGreatW.PrintWords
