/- Instructions behind instructions; what a nil slice is; an instruction in a block of its own. -/
import Derived.Test.YtljhklblbafjkaaGreatDoorErrQ
import Derived.Test.YtljhklblbafjkaaGreatDoorOpen
import Derived.Laws.AppendOwnNone
namespace Go.Proofs.YtljhklblbafjkaaGreatDoor
open Go.RowKit
theorem cellsI_one(x:B.Ins):∀u∈cellsI x,u.oneCell'=true:=by
 intro u hu;simp[cellsI]at hu
 rcases hu with rfl | rfl | rfl | rfl | rfl<;>rfl
theorem cellsP_ones(ps:List B.Ins):∀u∈cellsP ps,u.oneCell'=true:=by
 intro u hu;unfold cellsP at hu;rw[List.mem_flatMap]at hu;obtain⟨x,_,hx⟩:=hu;exact cellsI_one x u hx
theorem ProgAt.news{w:World}{ad:Addr}{m:Nat}{ps:List B.Ins}(h:ProgAt w (some ad) m ps):∀j u,(cellsP ps)[j]? =some u→w.cell? (ad.add j)=some u:=by
 intro j u hu
 have hj:j<ps.length*5:=by have:=(List.getElem?_eq_some_iff.1 hu).1;rw[cellsP_length]at this;exact this
 obtain⟨i,r,hr,rfl⟩:∃i r,r<5∧j=i*5+r:=⟨j/5,j%5,Nat.mod_lt _ (by omega),by omega⟩
 have hi:i<ps.length:=by omega
 have hx:ps[i]? =some ps[i]:=List.getElem?_eq_getElem _;rw[cellsP_get ps i _ hx r hr]at hu;obtain⟨b,off,e,_,hat⟩:=h.at_ i _ hx;simp only[Option.some.injEq]at e;subst e;obtain⟨h0,h1,h2,h3,h4⟩:=hat
 have e:(⟨b,off,none⟩:Addr).add (i*5+r)=⟨b,off+(i*5+r),none⟩:=by unfold Addr.add;split<;>simp_all
 rw[e,←Nat.add_assoc]
 have:r=0∨r=1∨r=2∨r=3∨r=4:=by omega
 rcases this with rfl | rfl | rfl | rfl | rfl<;>simp[cellsI]at hu<;>subst hu<;>assumption
theorem ProgAt.none_nil{w:World}{m:Nat}{ps:List B.Ins}(h:ProgAt w none m ps):ps=[]∧m=0:=by
 cases ps with
 | nil=>exact⟨rfl,h.len⟩
 | cons x l=>
  obtain⟨b,off,e,_⟩:=h.at_ 0 x rfl;cases e
theorem insAt_new(x:B.Ins)(w:World):InsAt (w.alloc (.cells #[.int .i64 x.op,.int .i64 x.a,.int .i64 x.b,.int .i64 x.n,.int .u64 x.imm] 74)) w.heap.size 0 x:=by
 have hb:=heap_alloc_new w (.cells #[.int .i64 x.op,.int .i64 x.a,.int .i64 x.b,.int .i64 x.n,.int .u64 x.imm] 74);exact⟨cell_of_row _ _ _ _ _ _ hb,cell_of_row _ _ _ _ _ _ hb,cell_of_row _ _ _ _ _ _ hb,cell_of_row _ _ _ _ _ _ hb,cell_of_row _ _ _ _ _ _ hb⟩
end Go.Proofs.YtljhklblbafjkaaGreatDoor
namespace Go.Proofs.YtljhklblbafjkaaGreatDoor
open Go.RowKit
namespace Code
end Code
end Go.Proofs.YtljhklblbafjkaaGreatDoor
