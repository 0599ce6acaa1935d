/-
 Lemmas. Conditions: as each states them.
-/
import Derived.Test.YtagdamiiececaaaGreatDoorLayc
import Derived.Shelf.SlSortCmp.NoneTotal
import Derived.Test.YtagdamiiececaaaGreatDoorZb
set_option maxHeartbeats 8000000
namespace Go.Proofs.YtagdamiiececaaaGreatDoor.Vc
open Go.RowKit Go.Sort
theorem Z7{α:Type}[Inhabited α]{enc:α->ad}{w:aa}{g n off:Nat}{os:Array Obj}{cur:Array ad}{e:ae}{fr:Nat×Nat}(d:Array α)(hb:w.heap[g]?=some (.cells cur e fr)):(Go.Sort.grow (putRow enc (Sort.ahead w n) g off d) os).heap[g]?=some (.cells (putCells enc off d cur) e fr):=by
 have hg:g<w.heap.size:=(Array.getElem?_eq_some_iff.1 hb).1;rw [heap_grow_old _ _ (by simpa using hg)];simp [putRow,mapBlock,Sort.ahead,Array.getElem?_modify,hb,onCells]
theorem Yq{α:Type}[Inhabited α]{enc:α->ad}{w:aa}{g n off:Nat}{os:Array Obj}(d:Array α):CW w (Go.Sort.grow (putRow enc (Sort.ahead w n) g off d) os) (some g):=by
 refine⟨⟨O,O,O,by simp,fun k hk bt=>?_⟩,Nat.le_add_right _ _⟩;rw [heap_grow_old _ _ (by simpa using hk)];have:g≠k:=fun e=>bt (by rw [e])
 simp [putRow,mapBlock,Sort.ahead,Array.getElem?_modify,this]
def sv(ss:List aN)(j:Nat):aN:=ss.getD j ew
end Go.Proofs.YtagdamiiececaaaGreatDoor.Vc
