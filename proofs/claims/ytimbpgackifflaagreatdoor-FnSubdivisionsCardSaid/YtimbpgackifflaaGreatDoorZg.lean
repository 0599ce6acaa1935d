/-
 Lemmas. Conditions: as each states them.
-/
import Derived.Shelf.SlSortCmp.KitK
import Derived.Test.YtimbpgackifflaaGreatDoorZb
set_option maxHeartbeats 8000000
namespace Go.Proofs.YtimbpgackifflaaGreatDoor.Vc
open Go.RowKit Go.Sort
theorem ajs{α:Type}[Inhabited α]{enc:α->ab}{w:aa}{g n off:Nat}{os:Array Obj}{cur:Array ab}{e:ad}{fr:Nat×Nat}(d:Array α)(hb:w.heap[g]?=some (.cells cur e fr)):(Go.Sort.grow (putRow enc (Sort.ahead w n) g off d) os).heap[g]?=some (.cells (putCells enc off d cur) e fr):=by
 have hg:g<w.heap.size:=(Array.getElem?_eq_some_iff.1 hb).1;rw[heap_grow_old _ _ (by simpa using hg)];simp[putRow,mapBlock,Sort.ahead,Array.getElem?_modify,hb,onCells]
theorem ahw{α:Type}[Inhabited α]{enc:α->ab}{w:aa}{g n off:Nat}{os:Array Obj}(d:Array α):DB w (Go.Sort.grow (putRow enc (Sort.ahead w n) g off d) os) (some g):=by
 refine⟨⟨O,O,O,by simp,λk hk bN=>?_⟩,Nat.le_add_right _ _⟩;rw[heap_grow_old _ _ (by simpa using hk)];have:g≠k:=λe=>bN (by rw[e])
 simp[putRow,mapBlock,Sort.ahead,Array.getElem?_modify,this]
def sv(ss:List aE)(j:Nat):aE:=ss.getD j bI
end Go.Proofs.YtimbpgackifflaaGreatDoor.Vc
