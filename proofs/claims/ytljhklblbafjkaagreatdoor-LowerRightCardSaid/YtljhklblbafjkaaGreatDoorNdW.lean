/- Plain Lean: the number of what is wrong with a message. -/
import Derived.Test.YtljhklblbafjkaaGreatDoorNdI
import Derived.Test.YtljhklblbafjkaaGreatDoorErrW
namespace Go.Proofs.YtljhklblbafjkaaGreatDoor.B
def Ern(n:Int):Prop:=0≤n∧n≤26
theorem Ern.ite{p:Prop}[Decidable p]{a b:Int}(ha:Ern a)(hb:Ern b):Ern (if p then a else b):=by split<;>assumption
theorem Ern.n(n:Int)(h0:0≤n:=by decide)(h1:n≤26:=by decide):Ern n:=⟨h0,h1⟩
theorem firstNo_ern{f:Nat→Int}(h:∀i,Ern (f i))(n:Nat):Ern (firstNo f n):=by
 unfold firstNo;split
 ·exact h _
 ·exact .n 0
theorem wordNo_ern(l:List ByteArray)(i:Nat):Ern (wordNo l i):=by
 unfold wordNo;split
 ·exact .ite (.n 11) (.ite (.n 12) (.n 0))
 ·exact .n 0
theorem textNo_ern(s:ByteArray):Ern (textNo s):=by unfold textNo;exact .ite (.n 5) (.ite (.n 0) (.n 6))
theorem placeNo_ern(s:Sig):Ern s.placeNo:=by
 unfold Sig.placeNo
 repeat' (first | exact .n _ | apply Ern.ite | split)
theorem whereNo_ern(s:Sig)(z:Int):Ern (s.whereNo z):=by unfold Sig.whereNo;exact .ite (placeNo_ern s) (.ite (.n 0) (.n 16))
theorem rangedNo_ern(s:Sig):Ern s.rangedNo:=by unfold Sig.rangedNo;exact .ite (.n 1) (.ite (.n 10) (.ite (.n 18) (.n 0)))
theorem aloneNo_ern(s:Sig)(z:Int):Ern (s.aloneNo z):=by
 unfold Sig.aloneNo;exact .ite (.n 11) (.ite (.n 14) (.ite (whereNo_ern s z) (.ite (rangedNo_ern s) (.ite (textNo_ern _) (.ite (.n 2) (by unfold listNo;exact .ite (.n 5) (firstNo_ern (wordNo_ern _) _)))))))
theorem headNo_ern(m:Msg):Ern m.headNo:=by
 unfold Msg.headNo;exact .ite (.n 11) (.ite (.n 26) (.ite (.n 15) (.ite (.n 11) (.ite (.n 5) (.n 0)))))
theorem sigNo_ern(m:Msg)(i:Nat):Ern (m.sigNo i):=by
 unfold Msg.sigNo;split
 ·exact .ite (aloneNo_ern _ _) (.ite (.n 12) (.ite (.n 14) (.n 0)))
 ·exact .n 0
theorem no_ern(m:Msg):Ern m.no.1:=by
 unfold Msg.no;split
 ·exact headNo_ern m
 ·split
  ·rw[Msg.atSig_fst];exact sigNo_ern m _
  ·split
   ·rw[Msg.atSig_fst];exact .n 14
   ·split
    ·rw[Msg.atSig_fst];exact .n 17
    ·exact .n 0
theorem no_nat{m:Msg}(h:m.no.1≠0):∃n:Nat,m.no.1=(n:Int)∧1≤n∧n≤26:=by
 obtain⟨h0,h1⟩:=no_ern m;exact⟨m.no.1.toNat,by omega,by omega,by omega⟩
end Go.Proofs.YtljhklblbafjkaaGreatDoor.B
namespace Go.Proofs.YtljhklblbafjkaaGreatDoor
open Go.RowKit
namespace Code
def sel4{α:Type}(x0 x1 x2 x3:α)(k:Nat):α:=if k=0 then x0 else if k=1 then x1 else if k=2 then x2 else x3
theorem ownp_btw{w:World}{base n cap t:Nat}{ao:Option Addr}{qs:List B.Ins}(h:OwnP w base ao n cap qs)(ht:w.heap.size≤t):∀g,ao=some ⟨g,0,none⟩→base≤g∧g<t:=fun g e=>by
 rw[e]at h;have:=h.own.lt g rfl;omega
theorem lists4{N L t0 t1 t2 t3 t4:Nat}{a0 a1 a2 a3:Option Addr}{n0 n1 n2 n3 c0 c1 c2 c3:Nat}{p0 p1 p2 p3:List B.Ins}{w:World}
    (h0:OwnP w t0 a0 n0 c0 p0) (h1:OwnP w t1 a1 n1 c1 p1) (h2:OwnP w t2 a2 n2 c2 p2) (h3:OwnP w t3 a3 n3 c3 p3)
    (l0:∀g,a0=some ⟨g,0,none⟩→t0≤g∧g<t1) (l1:∀g,a1=some ⟨g,0,none⟩→t1≤g∧g<t2) (l2:∀g,a2=some ⟨g,0,none⟩→t2≤g∧g<t3) (l3:∀g,a3=some ⟨g,0,none⟩→t3≤g∧g<t4)
    (hN:N≤t0) (h01:t0≤t1) (h12:t1≤t2) (h23:t2≤t3)
    (tab:w.heap[L]? =some (.cells #[.slice a0 n0 c0,.slice a1 n1 c1,.slice a2 n2 c2,.slice a3 n3 c3] 30 (0,0))):
    Lists N L (sel4 a0 a1 a2 a3) (sel4 n0 n1 n2 n3) (sel4 c0 c1 c2 c3) (sel4 p0 p1 p2 p3) w:=by
 refine⟨tab,fun k hk=> ?_,fun j k g hj hk hjk e e2=> ?_⟩
 ·have:k=0∨k=1∨k=2∨k=3:=by omega
  rcases this with rfl | rfl | rfl | rfl
  ·exact own_weaken2 h0 hN
  ·exact own_weaken2 h1 (by omega)
  ·exact own_weaken2 h2 (by omega)
  ·exact own_weaken2 h3 (by omega)
 ·have hj':j=0∨j=1∨j=2∨j=3:=by omega
  have hk':k=0∨k=1∨k=2∨k=3:=by omega
  have hl:∀q,q=0∨q=1∨q=2∨q=3→sel4 a0 a1 a2 a3 q=some ⟨g,0,none⟩→(q=0∧t0≤g∧g<t1)∨(q=1∧t1≤g∧g<t2)∨(q=2∧t2≤g∧g<t3)∨(q=3∧t3≤g∧g<t4):=by
   intro q hq e;rcases hq with rfl | rfl | rfl | rfl
   ·exact .inl ⟨rfl,l0 g e⟩
   ·exact .inr (.inl ⟨rfl,l1 g e⟩)
   ·exact .inr (.inr (.inl ⟨rfl,l2 g e⟩))
   ·exact .inr (.inr (.inr ⟨rfl,l3 g e⟩))
  have:=hl j hj' e;have:=hl k hk' e2;omega
theorem LentAt.sigsAt{w:World}{ao:Option Addr}{n cap:Nat}{l:List B.Sig}(h:LentAt w ao n cap l):SigsAt w ao n l:=by
 obtain⟨g,rfl,hg⟩:=h.blk;refine⟨h.len,fun i s hs=> ?_⟩;obtain⟨tv,hr,ht⟩:=h.sig hs;obtain⟨a,k,c,rfl,hl,hk,_⟩:=ht.toAt;exact⟨g,0,rfl,hg,a,k,c,by rw[Nat.zero_add];exact hr,hl,hk⟩
theorem wf_ofRight{x:B.Ins}(h:x.right=true):x.Wf:=by
 have:=B.right_bounds h
 refine⟨⟨?_, ?_⟩,⟨?_, ?_⟩,⟨?_, ?_⟩,⟨?_, ?_⟩,⟨?_, ?_⟩⟩<;>omega
end Code
end Go.Proofs.YtljhklblbafjkaaGreatDoor
