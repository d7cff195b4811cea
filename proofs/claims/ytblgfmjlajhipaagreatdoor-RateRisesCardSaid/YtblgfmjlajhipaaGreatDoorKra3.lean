/- RateRises: contracts and the law's walk. Each theorem names its conditions. -/
import Derived.WalkKit
import Derived.Deep.LoopGhost
import Derived.Deep.QuietTactic
import Derived.BigQuiet
import Derived.Test.YtblgfmjlajhipaaGreatDoorProg
import Derived.WalkSpells
import Derived.WalkLawsBesides
import Derived.IntWalk
import Derived.Lib.Hide
import Derived.Laws.BitsAllLaws
import Derived.StillTailTactics
import Derived.Deep.OwnRows
import Derived.Lib.ConvBytes
import Derived.Below
import Derived.Shelf.Strings.Trim
import Derived.Shelf.Small.Utf8
import Derived.Shelf.Small.Bits
import Derived.Shelf.Small.Strs
import Derived.Shelf.Strconv.Itoa0
import Derived.Shelf.Strings.Search1
import Derived.Shelf.Strings.Runes
import Derived.Shelf.Strings.AsciiSet
import Derived.Shelf.Unicode.DecodeSlow
import Derived.Shelf.Unicode.DecodeAny
import Derived.Ground.SlgmProg
import Derived.Shelf.SortM.Plain
import Derived.Shelf.SortM.SortNone
import Derived.Laws.AppendOwn
import Derived.Deep.DeepAppendWide
import Derived.Test.YtblgfmjlajhipaaGreatDoorZb5
import Derived.Test.YtblgfmjlajhipaaGreatDoorZa7
import Derived.Test.YtblgfmjlajhipaaGreatDoorZa6
import Derived.Test.YtblgfmjlajhipaaGreatDoorZa5
import Derived.Test.YtblgfmjlajhipaaGreatDoorZa4
import Derived.Test.YtblgfmjlajhipaaGreatDoorZa3
import Derived.Test.YtblgfmjlajhipaaGreatDoorZa0
import Derived.Test.YtblgfmjlajhipaaGreatDoorZa1
import Derived.Test.YtblgfmjlajhipaaGreatDoorKra0
import Derived.Test.YtblgfmjlajhipaaGreatDoorZa2
import Derived.Test.YtblgfmjlajhipaaGreatDoorKra2
import Derived.Test.YtblgfmjlajhipaaGreatDoorZb9
set_option maxHeartbeats 16000000
set_option linter.unusedVariables false
namespace Go.Proofs.YtblgfmjlajhipaaGreatDoor
open Go Go.RowKit Go.Shelf
open Dgt
structure Sto (W W' :World) (b:Nat):Prop where
 keep:∀c o,b≠c→Hid (W.heap[c]? =some o)→Hid (W'.heap[c]? =some o)
 bel:∀{n A},n≤b→Hid (Below n A W)→Hid (Below n A W')
 row:∀{B e size v n xs},Hid (W.ownsRow B e size v n xs)→Hid (∀g,v.ownBlock=some g→b≠g)→Hid (W'.ownsRow B e size v n xs)
theorem Sto.one {W:World} {b k:Nat} {u:Value}:Sto W (W.setCell ⟨b,k,none⟩ u) b :=
 ⟨fun c o hne h=>hD (row_else h.out hne u),fun hz hb=>hD (hb.out.setCell (p:=⟨b,k,none⟩) hz u),fun h hne=>hD (own_cell h.out hne.out)⟩
theorem Sto.trans {W V U:World} {b:Nat} (h:Sto W V b) (k:Sto V U b):Sto W U b :=
 ⟨fun c o hne x=>k.keep c o hne (h.keep c o hne x),fun hz hb=>k.bel hz (h.bel hz hb),fun x hne=>k.row (h.row x hne) hne⟩
theorem gN {a n b:Nat} (hn:Hid (n=a)) (hg:Hid (n≤b)):a≤b:=by rw [←hn.out];exact hg.out
theorem allR {W W' :World} {b:Nat} {o:Obj} {B:Nat} {e:TypeId} {size:Nat} {v:Value} {n:Nat} {xs:List Value} (hW:W.alloc o=W') (hb:W.heap.size=b) (h:Hid (W.ownsRow B e size v n xs)):Hid (W'.ownsRow B e size v n xs)∧Hid (∀g,v.ownBlock=some g→b≠g):=by
 subst hW hb;exact ⟨hD (h.out.alloc o),hD (own_new h.out)⟩
theorem allB {A W W' :World} {b:Nat} {o:Obj} (hW:W.alloc o=W') (hb:W.heap.size=b) (h:Hid (Below A.heap.size A W)):Hid (Below A.heap.size A W')∧Hid (A.heap.size≤b):=by
 subst hW hb;exact ⟨hD (h.out.alloc h.out.size o),hD h.out.size⟩
theorem k1_ {W:World} {b i:Nat} {cs:Array Value} {u:Value} {t:TypeId} (h:Hid (W.heap[b]? =some (.cells cs t (0,0)))) (hi:cs[i]? =some u):W.cell? ⟨b,i,none⟩=some u:=by rw [Lib.cell_of_heap h.out];exact hi
theorem put3_0_3 {W:World} {b:Nat} {x0 x1 x2:Value} {t:TypeId} (h:Hid (W.heap[b]? =some (.cells #[x0,x1,x2] t (0,0)))) (u0 u1 u2:Value) :
  ∃W',(((W.setCell ⟨b,0,none⟩ u0).setCell ⟨b,1,none⟩ u1).setCell ⟨b,2,none⟩ u2)=W' ∧Hid (W'.heap[b]? =some (.cells #[u0,u1,u2] t (0,0)))∧Sto W W' b∧W.frozen? ⟨b,0,none⟩=false∧W.frozen? ⟨b,1,none⟩=false∧W.frozen? ⟨b,2,none⟩=false∧W.cell? ⟨b,0,none⟩=some x0∧W.cell? ⟨b,1,none⟩=some x1∧W.cell? ⟨b,2,none⟩=some x2 :=
 ⟨_,rfl,hD (by simp [World.setCell,Array.getElem?_modify,h.out]),((Sto.one.trans Sto.one).trans Sto.one),frz0 h.out 0,frz0 h.out 1,frz0 h.out 2,k1_ h rfl,k1_ h rfl,k1_ h rfl⟩
theorem put4_0_4 {W:World} {b:Nat} {x0 x1 x2 x3:Value} {t:TypeId} (h:Hid (W.heap[b]? =some (.cells #[x0,x1,x2,x3] t (0,0)))) (u0 u1 u2 u3:Value) :
  ∃W',((((W.setCell ⟨b,0,none⟩ u0).setCell ⟨b,1,none⟩ u1).setCell ⟨b,2,none⟩ u2).setCell ⟨b,3,none⟩ u3)=W' ∧Hid (W'.heap[b]? =some (.cells #[u0,u1,u2,u3] t (0,0)))∧Sto W W' b∧W.frozen? ⟨b,0,none⟩=false∧W.frozen? ⟨b,1,none⟩=false∧W.frozen? ⟨b,2,none⟩=false∧W.frozen? ⟨b,3,none⟩=false∧W.cell? ⟨b,0,none⟩=some x0∧W.cell? ⟨b,1,none⟩=some x1∧W.cell? ⟨b,2,none⟩=some x2∧W.cell? ⟨b,3,none⟩=some x3 :=
 ⟨_,rfl,hD (by simp [World.setCell,Array.getElem?_modify,h.out]),(((Sto.one.trans Sto.one).trans Sto.one).trans Sto.one),frz0 h.out 0,frz0 h.out 1,frz0 h.out 2,frz0 h.out 3,k1_ h rfl,k1_ h rfl,k1_ h rfl,k1_ h rfl⟩
theorem put4_3_1 {W:World} {b:Nat} {x0 x1 x2 x3:Value} {t:TypeId} (h:Hid (W.heap[b]? =some (.cells #[x0,x1,x2,x3] t (0,0)))) (u0:Value) :
  ∃W',(W.setCell ⟨b,3,none⟩ u0)=W' ∧Hid (W'.heap[b]? =some (.cells #[x0,x1,x2,u0] t (0,0)))∧Sto W W' b∧W.frozen? ⟨b,3,none⟩=false∧W.cell? ⟨b,3,none⟩=some x3 :=
 ⟨_,rfl,hD (by simp [World.setCell,Array.getElem?_modify,h.out]),Sto.one,frz0 h.out 3,k1_ h rfl⟩
theorem put6_0_6 {W:World} {b:Nat} {x0 x1 x2 x3 x4 x5:Value} {t:TypeId} (h:Hid (W.heap[b]? =some (.cells #[x0,x1,x2,x3,x4,x5] t (0,0)))) (u0 u1 u2 u3 u4 u5:Value) :
  ∃W',((((((W.setCell ⟨b,0,none⟩ u0).setCell ⟨b,1,none⟩ u1).setCell ⟨b,2,none⟩ u2).setCell ⟨b,3,none⟩ u3).setCell ⟨b,4,none⟩ u4).setCell ⟨b,5,none⟩ u5)=W' ∧Hid (W'.heap[b]? =some (.cells #[u0,u1,u2,u3,u4,u5] t (0,0)))∧Sto W W' b∧W.frozen? ⟨b,0,none⟩=false∧W.frozen? ⟨b,1,none⟩=false∧W.frozen? ⟨b,2,none⟩=false∧W.frozen? ⟨b,3,none⟩=false∧W.frozen? ⟨b,4,none⟩=false∧W.frozen? ⟨b,5,none⟩=false∧W.cell? ⟨b,0,none⟩=some x0∧W.cell? ⟨b,1,none⟩=some x1∧W.cell? ⟨b,2,none⟩=some x2∧W.cell? ⟨b,3,none⟩=some x3∧W.cell? ⟨b,4,none⟩=some x4∧W.cell? ⟨b,5,none⟩=some x5 :=
 ⟨_,rfl,hD (by simp [World.setCell,Array.getElem?_modify,h.out]),(((((Sto.one.trans Sto.one).trans Sto.one).trans Sto.one).trans Sto.one).trans Sto.one),frz0 h.out 0,frz0 h.out 1,frz0 h.out 2,frz0 h.out 3,frz0 h.out 4,frz0 h.out 5,k1_ h rfl,k1_ h rfl,k1_ h rfl,k1_ h rfl,k1_ h rfl,k1_ h rfl⟩
theorem put6_3_3 {W:World} {b:Nat} {x0 x1 x2 x3 x4 x5:Value} {t:TypeId} (h:Hid (W.heap[b]? =some (.cells #[x0,x1,x2,x3,x4,x5] t (0,0)))) (u0 u1 u2:Value) :
  ∃W',(((W.setCell ⟨b,3,none⟩ u0).setCell ⟨b,4,none⟩ u1).setCell ⟨b,5,none⟩ u2)=W' ∧Hid (W'.heap[b]? =some (.cells #[x0,x1,x2,u0,u1,u2] t (0,0)))∧Sto W W' b∧W.frozen? ⟨b,3,none⟩=false∧W.frozen? ⟨b,4,none⟩=false∧W.frozen? ⟨b,5,none⟩=false∧W.cell? ⟨b,3,none⟩=some x3∧W.cell? ⟨b,4,none⟩=some x4∧W.cell? ⟨b,5,none⟩=some x5 :=
 ⟨_,rfl,hD (by simp [World.setCell,Array.getElem?_modify,h.out]),((Sto.one.trans Sto.one).trans Sto.one),frz0 h.out 3,frz0 h.out 4,frz0 h.out 5,k1_ h rfl,k1_ h rfl,k1_ h rfl⟩
end Go.Proofs.YtblgfmjlajhipaaGreatDoor
