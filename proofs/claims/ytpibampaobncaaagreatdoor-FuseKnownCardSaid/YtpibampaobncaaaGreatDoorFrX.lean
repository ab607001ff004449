/- busbarref16: what is read from each place on. -/
import Derived.Test.YtpibampaobncaaaGreatDoorLdrQ
import Derived.Test.YtpibampaobncaaaGreatDoorFuX
import Derived.Deep.RegionHeld3
import Derived.Test.YtpibampaobncaaaGreatDoorFrW
open Go.Lib renaming hid→hd'
open Nat renaming le_refl→lR'
open List renaming setIfInBounds_toArray→sA',set_cons_zero→sZ',set_cons_succ→sS'
namespace Go.Proofs.YtpibampaobncaaaGreatDoor
open Go.RowKit
namespace Code
attribute [local go_sem ↓] Go.wp_at_zero Go.wp_at_succ
theorem insRangeR{w:World}{b o:Nat}{x:B.Ins}(h:InsAt w b o x):w.rangeAt b o (cellsI x):=by
 obtain⟨h0,h1,h2,h3,h4⟩:=h;intro j v hv
 have hj:j<5:=by have:=(List.getElem?_eq_some_iff.1 hv).1;rw[cellsI_length]at this;exact this
 have:j=0∨j=1∨j=2∨j=3∨j=4:=by omega
 rcases this with rfl | rfl | rfl | rfl | rfl<;>(simp[cellsI]at hv;subst hv;assumption)
structure LvAt(ps:List B.Ins)(g n c k:Nat)(w wr:World):Prop where
 rd:RgAt wr w.heap.size g n c (fun j r=>decide (k≤j)&&B.ndL ps j r)
 bel:Below w.heap.size w wr
def LvOut(ps:List B.Ins)(w:World)(e:Ending)(w':World):Prop:=
 ∃g c,e= .returned (.slice (some ⟨g,0,none⟩) (ps.length+1) c)∧RgAt w' w.heap.size g (ps.length+1) c (B.ndL ps)∧Below w.heap.size w w'
set_option maxRecDepth 100000 in
set_option maxHeartbeats 12800000 in
theorem live18_any(a:Option Addr)(len cap:Nat)(ps:List B.Ins)(size slots:Int)(w:World)(hp:ProgAt w a len ps)(hok:B.OkTouch ps size slots)(hl:len≤16384):
    Calls Tryz.prog 74 #[.slice a len cap] w (LvOut ps w):=by
 have HP:=hd' hp;have HOK:=hd' hok;clear hp hok;go_enter Tryz.func74,Tryz.ntmps74;go_wp2_with fail
 go_loopw [3,4] (fun v i wr=>∃(q:Nat) (a1:Option Addr) (c1:Nat),i= .int .i64 q∧q≤len+1∧v= .slice a1 q c1∧wr.ownsRow w.heap.size 127 16 (.slice a1 q c1) q (rgV q (fun _ _=>false))∧Below w.heap.size w wr) (fun _ i _=>len+1-(intOf i).toNat)
 case atStart=>exact⟨0,none,0,rfl,Nat.zero_le _,rfl,World.ownsRow_nil _ _ _ _,Below.refl _ _⟩
 case round=>
  obtain⟨q,a1,c1,rfl,hq,rfl,hown,hb⟩:=hrel;have hsz:=hb.size;have HB:=hd' hb;have HOW:=hd' hown;clear hb hown
  by_cases hlt:q≤len
  ·go_wp2_with (at_builtin;refine app_gen Tryz.underlying128 infoI127 rfl (by omega) rfl _ _ rfl w.heap.size rfl HOW.out rfl (by rfl) (by simp[Value.oneCell']) (by omega) (by omega) hsz ?_;intro ao3 cap3 w3 hown3 hg3 hb3 hs3)
   have H3:Hid (w3.ownsRow w.heap.size 127 16 (.slice ao3 (q+1) cap3) (q+1) (rgV (q+1) (fun _ _=>false))):=hd' (by rw[rgV_succ];exact hown3);have HB3:=hd' (HB.out.trans hb3);clear hown3 hg3 hb3;go_wp2_with fail;go_roundw
   case rel=>exact⟨q+1,ao3,cap3,by go_num,by omega,rfl,H3.out,HB3.out⟩
   case measure=>simp[intOf];omega
  ·obtain⟨n,hn⟩:∃n,n=q:=⟨q,rfl⟩
   obtain⟨g,rfl⟩:∃g,a1=some ⟨g,0,none⟩:=by
    rcases HOW.out.2 with⟨h0,h1⟩ | ⟨g,cap',cur,h0,_⟩
    ·exfalso;omega
    ·injection h0 with h0 _ _
     exact⟨g,h0⟩
   subst hn
   have hn1:len+1≤n:=by omega
   have hn2:n≤len+1:=by omega
   have HD:Hid (LvAt ps g n c1 len w wr):=by
    refine hd' ⟨RgAt.congr (rd:=fun _ _=>false) HOW.out (fun j r hj hr=> ?_),HB.out⟩
    by_cases h:len≤j
    ·rw[B.ndL_far _ _ _ (by have:=HP.out.len;omega)];simp
    ·simp[h]
   clear HOW HB;go_wp2_with fail;obtain⟨wo,hwo⟩:∃wo:World,wo=wr:=⟨_,rfl⟩;subst hwo
   go_loopg [5] len (fun k i wr=>i= .int .i64 ((k:Int)-1)∧k≤len∧LvAt ps g n c1 k w wr)
   case atStart=>exact⟨rfl,lR' _,HD.out⟩
   case round=>
    obtain⟨rfl,hk,hd⟩:=hrel;have HDR:=hd' hd;clear hd HD
    by_cases hz:gk=0
    ·subst hz
     rw[show(((0:Nat):Int)-1)=(-1:Int) by omega];have HF:Hid (RgAt wr w.heap.size g n c1 (B.ndL ps)):=hd' (HDR.out.rd.congr (fun j r _ _=>by simp));have HBF:=hd' HDR.out.bel;clear HDR;go_wp2_with fail;go_ret
     obtain rfl:n=len+1:=by omega
     have hle:=HP.out.len;subst hle;exact⟨g,c1,rfl,HF.out,HBF.out⟩
    ·obtain⟨I,rfl⟩:∃I,gk=I+1:=⟨gk-1,by omega⟩
     rw[show(((I+1:Nat):Int)-1)=(I:Int) by omega]
     have hIl:I<len:=by omega
     have hx:ps[I]? =some (ps[I]'(by have:=HP.out.len;omega)):=List.getElem?_eq_getElem _;generalize ps[I]'(by have:=HP.out.len;omega)=x at hx;have HX:=hd' hx;obtain⟨b,off,rfl,hbl,hat⟩:=HP.out.at_ I x hx;have HAT:=hd' hat;have HRT:=hd' (HOK.out.right I x hx);obtain⟨N,hN⟩:∃N:Nat,x.n=N:=⟨x.n.toNat,by have:=B.right_bounds HRT.out;omega⟩;have HN:=hd' hN
     have HGO:Hid (x.skips=true→I+1+x.n.toNat≤len):=by
      refine hd' (fun hs=> ?_)
      have hop:x.op=18∨x.op=19:=by have:=hs;unfold B.Ins.skips at this;simpa using this
      have:=goal_le HOK.out HX.out hop HN.out;rw[HN.out,Int.toNat_natCast];have:=HP.out.len;omega
     have hgl2:=HDR.out.rd.blk;have HBD:=hd' HDR.out.bel.drew;have HRD:Hid (RgAt wr.drew w.heap.size g n c1 (fun j r=>decide (I+1≤j)&&B.ndL ps j r)):=hd' (HDR.out.rd.below (Below.refl _ _).drew);have HC:=hd' (behind_any (some ⟨b,off,none⟩) len cap I ps x g n c1 (fun j r=>decide (I+1≤j)&&B.ndL ps j r) wr.drew (HP.out.below HBD.out (lR' _)) HX.out HRT.out hgl2.2 (fun j hj=>HRD.out.row hj) (by omega) (fun hs=>by have:=HGO.out hs;omega) hl);obtain⟨f,hf⟩:∃f:Nat→Bool,(fun r=>B.behind x I (fun j r=>decide (I+1≤j)&&B.ndL ps j r) r)=f:=⟨_,rfl⟩;rw[hf]at HC
     have HFE:Hid (∀r,B.behind x I (B.ndL ps) r=f r):=hd' (fun r=>by
      rw[←hf]
      exact(B.behind_congr (fun j r hj=>by rw[show decide (I+1≤j)=true from decide_eq_true hj,Bool.true_and]) r).symm)
     have HAH:Hid (∀W,Calls Tryz.prog 98 #[.agg (cellsI x).toArray,.agg (regsF f)] W (RegsOut (aheadF x f) W)):=hd' (fun W=>ahead16_any x HRT.out f W);clear hf hx hat hN hk hz
     have i0:(0:Int)≤(I:Int):=by omega
     have il:(I:Int)<(len:Int):=by omega
     have iN:(I:Int)<(n:Int):=by omega
     go_upto_region 9 with fail
     refine wp_region_held_drew (S:=Below w.heap.size w) (by kernel_rfl) HBD.out (fun hS1=> ?_);refine takeS (i:=0) (d:=23) (v:=.slice (some ⟨g,0,none⟩) n c1) rfl rfl rfl (by kernel_rfl) (by kernel_rfl) (by kernel_rfl) (fun _ _ _ h=>h) (fun w' _=>by go_simp) hS1 ?_;simp only[Act.put,sA',sZ',sS'];refine takeS (i:=1) (d:=24) (v:=.int .i64 (I:Int)) rfl rfl rfl (by kernel_rfl) (by kernel_rfl) (by kernel_rfl) (fun _ _ _ h=>h) (fun w' _=>by go_simp) hS1 ?_;simp only[Act.put,sA',sZ',sS'];refine takeS (i:=2) (d:=25) (v:=.slice (some ⟨b,off,none⟩) len cap) rfl rfl rfl (by kernel_rfl) (by kernel_rfl) (by kernel_rfl) (fun _ _ _ h=>h) (fun w' _=>by go_simp) hS1 ?_;simp only[Act.put,sA',sZ',sS'];refine takeS (i:=3) (d:=26) (v:=.int .i64 (I:Int)) rfl rfl rfl (by kernel_rfl) (by kernel_rfl) (by kernel_rfl) (fun _ _ _ h=>h) (fun w' _=>by go_simp) hS1 ?_;simp only[Act.put,sA',sZ',sS']
     refine takeS (i:=4) (d:=27) (v:=.pointer (some ⟨b,off+I*5,none⟩)) rfl rfl rfl (by kernel_rfl) (by kernel_rfl) (by kernel_rfl) (fun _ _ _ h=>h) (fun w' _=>by go_simp) hS1 ?_;simp only[Act.put,sA',sZ',sS'];refine takeM (i:=5) (d:=28) 25 _ b (off+I*5) (cellsI x).toArray _ rfl rfl rfl rfl (by rfl) Tryz.underlying25 rfl (by kernel_rfl) (by kernel_rfl) (by kernel_rfl) (by kernel_rfl) (fun _ _ _ h=>h) (fun w' h=>insRangeR (HAT.out.below h hbl)) hS1 ?_;simp only[Act.put,sA',sZ',sS'];refine takeS (i:=6) (d:=29) (v:=.slice (some ⟨b,off,none⟩) len cap) rfl rfl rfl (by kernel_rfl) (by kernel_rfl) (by kernel_rfl) (fun _ _ _ h=>h) (fun w' _=>by go_simp) hS1 ?_;simp only[Act.put,sA',sZ',sS'];refine takeS (i:=7) (d:=30) (v:=.int .i64 (I:Int)) rfl rfl rfl (by kernel_rfl) (by kernel_rfl) (by kernel_rfl) (fun _ _ _ h=>h) (fun w' _=>by go_simp) hS1 ?_
     simp only[Act.put,sA',sZ',sS'];refine takeS (i:=8) (d:=31) (v:=.slice (some ⟨g,0,none⟩) n c1) rfl rfl rfl (by kernel_rfl) (by kernel_rfl) (by kernel_rfl) (fun _ _ _ h=>h) (fun w' _=>by go_simp) hS1 ?_;simp only[Act.put,sA',sZ',sS'];refine wpAnyH_ready (rs:=[9]) (by kernel_rfl) (by simp) ?_;refine AllReadyH.cons rfl (fun K hK=> ?_) AllReadyH.nil;go_simp;refine HC.out.mono ?_;rintro e w2 ⟨rfl,hb2⟩;refine hK.out _ _ (hS1.trans (hb2.mono hS1.size)) (fun hS2=> ?_);clear hK K;have HR2:=hd' (HRD.out.below hb2);refine wpAnyH_ready (rs:=[10]) (by kernel_rfl) (by simp) ?_;refine AllReadyH.cons rfl (fun K hK=> ?_) AllReadyH.nil;go_simp;refine(HAH.out _).mono ?_;rintro e w3 ⟨rfl,hb3⟩;refine hK.out _ _ (hS2.trans (hb3.mono hS2.size)) (fun hS3=> ?_);clear hK K;have HR3:=hd' (HR2.out.below hb3)
     refine takeS (i:=11) (d:=34) (v:=.pointer (some ⟨g,I*16,none⟩)) rfl rfl rfl (by kernel_rfl) (by kernel_rfl) (by kernel_rfl) (fun _ _ _ h=>h) (fun w' _=>by go_simp) hS3 ?_;simp only[Act.put,sA',sZ',sS'];refine wpAnyH_ready (rs:=[12]) (by kernel_rfl) (by simp) ?_;refine AllReadyH.cons rfl (fun K hK=> ?_) AllReadyH.nil;rw[if_pos (by rfl)];refine wp_store_mid 127 _ _ (by rfl) g (I*16) (regsF (aheadF x f)) (by rfl) (by rfl) (RgAt.there HR3.out (j:=I) (by omega)) (by rw[info127];rfl) (regsF_ones _) ?_;have hB4:Below w.heap.size w (w3.setCells g (I*16) (regsF (aheadF x f)).toList):=hS3.grown (grownBy_setCells g (regsF (aheadF x f)).toList (I*16) w3) hS3.size (fun k hk=>by have:=Option.some.inj hk;omega)
     have HD4:Hid (LvAt ps g n c1 I w (w3.setCells g (I*16) (regsF (aheadF x f)).toList)):=by
      refine hd' ⟨(RgAt.store HR3.out I (aheadF x f)).congr (fun j r hj hr=> ?_),hB4⟩
      by_cases e:j=I
      ·subst e
       rw[if_pos rfl,B.nd_eq HX.out r];unfold aheadF;rw[HFE.out];simp
      ·rw[if_neg e,show decide (I+1≤j)=decide (I≤j) by rw[decide_eq_decide];omega]
     generalize w3.setCells g (I*16) (regsF (aheadF x f)).toList=w4 at hB4 HD4⊢;refine hK.out _ _ hB4 (fun hS4=> ?_);clear hK K;refine wpAnyH_done (by kernel_rfl) ?_ _;go_wp2_with fail
     go_roundg I
     case measure=>omega
     case rel=>exact⟨rfl,by omega,HD4.out⟩
end Code
end Go.Proofs.YtpibampaobncaaaGreatDoor
namespace Go.Proofs.YtpibampaobncaaaGreatDoor
open Go.RowKit
namespace Code
attribute [local go_sem ↓] Go.wp_at_zero Go.wp_at_succ
theorem takeU{ops:Array Oper}{Q:Exit→Act→World→Prop}{S:World→Prop}{i d fuel:Nat}{listed:Array Bool}{oi:Oper}{a:Act}{w:World}(q:ops[i]? =some oi)(hd:oi.dst=some d)
    (hs:Region.noSelect ops=true) (hf:Region.free .any ops listed i=true) (hr:(Region.ready .any ops listed).contains i=true) (hQ:∀c a w,Q (.panic c) (a.put (some d) undef) w→Q (.panic c) a w)
    (hw:Region.wanted oi (yielded ops a.tmps)=false) (hS:S w) (h:wpAnyH Tryz.prog .any ops Q S fuel (listed.setIfInBounds i true) (a.put (some d) undef) w):wpAnyH Tryz.prog .any ops Q S (fuel+1) listed a w:=by
 refine wpAnyH_take q hs hf hr (fun c a w h=>hQ c a w (by rw[hd]at h;exact h)) (Or.inr ⟨hw,rfl⟩) hS ?_;rw[hd];exact h
theorem takeW{ops:Array Oper}{Q:Exit→Act→World→Prop}{S:World→Prop}{i d fuel:Nat}{listed:Array Bool}{oi:Oper}{v:Value}{a:Act}{w:World}(q:ops[i]? =some oi)(hd:oi.dst=some d)
    (hs:Region.noSelect ops=true) (hf:Region.free .any ops listed i=true) (hr:(Region.ready .any ops listed).contains i=true) (hQ:∀c a w,Q (.panic c) (a.put (some d) v) w→Q (.panic c) a w)
    (hw:Region.wanted oi (yielded ops a.tmps)=true) (hy:∀w',S w'→(execOp a.eval oi).run Tryz.prog w'= .ok (.value v) w') (hS:S w) (h:wpAnyH Tryz.prog .any ops Q S fuel (listed.setIfInBounds i true) (a.put (some d) v) w):wpAnyH Tryz.prog .any ops Q S (fuel+1) listed a w:=by
 refine wpAnyH_take q hs hf hr (fun c a w h=>hQ c a w (by rw[hd]at h;exact h)) (Or.inl ⟨hw,fun w' hw=>hy w' hw⟩) hS ?_;rw[hd];exact h
theorem wpAnyH_weaken{ops:Array Oper}{Q:Exit→Act→World→Prop}{S S':World→Prop}(hS:∀w,S' w→S w):∀(fuel:Nat) (listed:Array Bool) (a:Act) (w:World),wpAnyH Tryz.prog .any ops Q S' fuel listed a w→wpAnyH Tryz.prog .any ops Q S fuel listed a w
 | 0,_,_,_,h=>h
 | f+1,_,_,_,h=>⟨h.1,fun i hi=>wpOp_mono (fun a' w' h'=>⟨hS _ h'.1,wpAnyH_weaken hS f _ a' w' h'.2⟩) (h.2 i hi)⟩
theorem cell_stored{w:World}{b R o:Nat}{v:Value}(h:w.cell? ⟨b,o,none⟩=some v)(hne:b≠R)(vs:List Value):(w.setCells R 0 vs).cell? ⟨b,o,none⟩=some v:=by
 have:=(grownBy_setCells R vs 0 w).block b (World.block_lt_of_cell? w _ h) (fun e=>hne (Option.some.inj e));simp only[World.cell?,this]at h⊢;exact h
theorem results_cell2_tmp{fn:Func}{tmps:Array Value}{w:World}{p q u R1 R2:Nat}{t:TypeId}{A B:Value}{c:Value}(hr:fn.results= #[.cell p t,.cell q t,.tmp u])(hp:tmps.getD p undef= .pointer (some ⟨R1,0,none⟩))(hq:tmps.getD q undef= .pointer (some ⟨R2,0,none⟩))(hu:tmps.getD u undef=c)
    (h1:(loadVar t ⟨R1,0,none⟩).run Tryz.prog w= .ok A w) (h2:(loadVar t ⟨R2,0,none⟩).run Tryz.prog w= .ok B w):(results fn tmps).run Tryz.prog w= .ok (.tuple #[A,B,c]) w:=by
 unfold results;rw[hr];simp only[List.mapM_toArray,List.mapM_cons,List.mapM_nil,Sem.run_bind,hp,hq,hu,asAddr,Sem.run_pure,Result.andThen];simp[h1,h2]
theorem ret88{fn:Func}{p q u:Nat}(hr:fn.results= #[.cell p 93,.cell q 93,.tmp u]){tmps:Array Value}{wz:World}{R1 R2:Nat}{C D:Array Value}(hC:C.size=8)(hD:D.size=8){c:Bool}(hp:tmps.getD p undef= .pointer (some ⟨R1,0,none⟩))(hq:tmps.getD q undef= .pointer (some ⟨R2,0,none⟩))(hu:tmps.getD u undef= .bool c)(h1:R8 wz R1 C)(h2:R8 wz R2 D):
    (results fn tmps).run Tryz.prog wz= .ok (.tuple #[.agg C,.agg D,.bool c]) wz:=
 results_cell2_tmp hr hp hq hu (run_loadVar_mid (P:=Tryz.prog) wz R1 0 93 C.toList _ (R8.range h1 hC) Tryz.underlying93 rfl (by rw[infoM93];simp[hC]))
  (run_loadVar_mid (P:=Tryz.prog) wz R2 0 93 D.toList _ (R8.range h2 hD) Tryz.underlying93 rfl (by rw[infoM93];simp[hD]))
def mvZ:B.Mv:=⟨false,0,0,0,0,0,0,0⟩
theorem mrF_ones(m:B.Mv):(mrF m).all (·.oneCell')=true:=by simp[mrF,Value.oneCell']
def TgOut(o:Option (B.Mv×B.Mv))(w:World)(e:Ending)(w':World):Prop:=
 ∃a b:B.Mv,e= .returned (.tuple #[.agg (mrF a),.agg (mrF b),.bool o.isSome])∧(∀p,o=some p→p=(a,b))∧Below w.heap.size w w'
theorem R8.two{w:World}{R1 R2:Nat}{D1 D2:Array Value}(h1:R8 w R1 D1)(h2:R8 w R2 D2)(hne:R1≠R2)(C1 C2:Array Value)(hC1:C1.size=8)(hC2:C2.size=8){w0:World}(hb:Below w0.heap.size w0 w)(hR1:w0.heap.size≤R1)(hR2:w0.heap.size≤R2):
    R8 (w.setCells R1 0 C1.toList) R2 D2∧R8 ((w.setCells R1 0 C1.toList).setCells R2 0 C2.toList) R1 C1∧R8 ((w.setCells R1 0 C1.toList).setCells R2 0 C2.toList) R2 C2∧Below w0.heap.size w0 ((w.setCells R1 0 C1.toList).setCells R2 0 C2.toList):=by
 have e1:R8 (w.setCells R1 0 C1.toList) R2 D2:=CellsAt.grown h2 (grownBy_setCells R1 C1.toList 0 w) (Ne.symm hne);have b1:Below w0.heap.size w0 (w.setCells R1 0 C1.toList):=hb.grown (grownBy_setCells R1 C1.toList 0 w) hb.size (fun k hk=>by have:=Option.some.inj hk;omega);exact⟨e1,CellsAt.grown (R8.store h1 C1 hC1) (grownBy_setCells R2 C2.toList 0 _) hne,R8.store e1 C2 hC2,b1.grown (grownBy_setCells R2 C2.toList 0 _) b1.size (fun k hk=>by have:=Option.some.inj hk;omega)⟩
set_option maxRecDepth 100000 in
set_option maxHeartbeats 12800000 in
theorem together18_any(a:Option Addr)(len cap:Nat)(ps:List B.Ins)(size slots:Int)(i:Nat)(w:World)(hp:ProgAt w a len ps)(hok:B.OkTouch ps size slots)(hl:len≤16384)(hi:i≤len):
    Calls Tryz.prog 57 #[.slice a len cap,.int .i64 (i:Int)] w (TgOut (B.pairAt ps i) w):=by
 rw[←B.togR_eq];obtain⟨o,ho⟩:∃o,B.togR ps i=o:=⟨_,rfl⟩;rw[ho];unfold B.togR at ho;have hle:=hp.len;have HR:=hd' hok.mem;have HMV:Hid (∀(k:Nat) (n:Int) (W:World),n=(k:Int)→k≤17000→Below w.heap.size w W→Calls Tryz.prog 72 #[.slice a len cap,.int .i64 n] W (MrRet (B.readMv (ps.drop k)) W)):=hd' (fun k n W e hk hb=>by subst e;exact move18_any a len cap ps k W (hp.below hb (lR' _)) hok.mem hl hk);have HEN:Hid (∀(A Z:Nat) (n1 n2:Int) (W:World),n1=(A:Int)→n2=(Z:Int)→Below w.heap.size w W→Calls Tryz.prog 73 #[.slice a len cap,.int .i64 n1,.int .i64 n2] W (BoolOut (B.someIn (B.entd ps) A Z) W)):=hd' (fun A Z n1 n2 W e1 e2 hb=>by subst e1 e2;exact entered18_any a len cap ps A Z W (hp.below hb (lR' _)) hok.mem hl);have HLE:=hd' hle
 have HLV:Hid (∀W,Below w.heap.size w W→Calls Tryz.prog 74 #[.slice a len cap] W (LvOut ps W)):=hd' (fun W hb=>live18_any a len cap ps size slots W (hp.below hb (lR' _)) hok hl);clear hp hok hle;obtain⟨w1,hw1⟩:∃w1,(w.alloc (.cells mr0 93)).alloc (.cells mr0 93)=w1:=⟨_,rfl⟩;have HB1:Hid (Below w.heap.size w w1):=hd' (by rw[←hw1];exact((Below.refl _ _).alloc (lR' _) _).alloc (by simp) _);have HP1:Hid (R8 w1 w.heap.size mr0):=hd' (by rw[←hw1];exact CellsAt.alloc (R8.new mr0 rfl w rfl) _);have HQ1:Hid (R8 w1 (w.heap.size+1) mr0):=hd' (by rw[←hw1];exact R8.new mr0 rfl _ (by simp))
 have hz1:w.heap.size+1<w1.heap.size:=by rw[←hw1];simp
 have hw1':(w.alloc (.cells #[.bool false,.int .i64 0,.int .i64 0,.int .i64 0,.int .i64 0,.int .i64 0,.int .u64 0,.int .i64 0] 93)).alloc (.cells #[.bool false,.int .i64 0,.int .i64 0,.int .i64 0,.int .i64 0,.int .i64 0,.int .u64 0,.int .i64 0] 93)=w1:=hw1;clear hw1;go_enter Tryz.func57,Tryz.ntmps57
 go_upto_region 1 with fail
 try rw[hw1']
 clear hw1';obtain⟨R5,hR5⟩:∃R,w.heap.size+1=R:=⟨_,rfl⟩
 have hRR:w.heap.size<R5:=by omega
 rw[hR5]at HQ1 hz1⊢;clear hR5;go_wp2_with fail;refine(HMV.out i _ w1 rfl (by omega) HB1.out).mono ?_;rintro e w2 ⟨rfl,hb2⟩;obtain⟨ra,hra⟩:∃ra,B.readMv (ps.drop i)=ra:=⟨_,rfl⟩;have HFT:Hid (∀(k:Nat) (m:B.Mv),B.readMv (ps.drop k)=some m→k+m.size≤len∧m.Ok):=hd' (fun k m h=>⟨by have:=(B.readMv_fits h).1;have:=HLE.out;omega,B.read_ok HR.out h⟩);rw[hra]at ho⊢
 cases ra with
 | none=>
  obtain rfl:none=o:=ho;unfold mrOut mr0
  go_upto_region 3 with fail
  obtain⟨v3,hv3⟩:∃v,w2.alloc (.cells #[.bool false,.int .i64 0,.int .i64 0,.int .i64 0,.int .i64 0,.int .i64 0,.int .u64 0,.int .i64 0] 93)=v:=⟨_,rfl⟩
  have hb3:Below w2.heap.size w2 v3:=by rw[←hv3];exact(Below.refl _ _).alloc (lR' _) _
  have hb13:=hb2.trans (hb3.mono hb2.size);have HB3:=hd' (HB1.out.trans (hb13.mono HB1.out.size));have HP3:=hd' (CellsAt.below HP1.out hb13 (by omega));have HQ3:=hd' (CellsAt.below HQ1.out hb13 hz1)
  try rw[hv3]
  clear hv3 hb2 hb3 hb13 hra;have HTW:=hd' (R8.two HP3.out HQ3.out (by omega) mr0 mr0 rfl rfl HB3.out (lR' _) (by omega));have HT1:=hd' (CellsAt.there HP3.out (o:=0) (m:=8) (by omega));have HT2:=hd' (CellsAt.there HTW.out.1 (o:=0) (m:=8) (by omega));go_wp2_with ((refine wpList_store_mid (by rfl) 93 _ _ (by rfl) w.heap.size 0 mr0 (by rfl) (by rfl) HT1.out (by rw[infoM93];rfl) (by simp[mr0,Value.oneCell']) ?_);generalize v3.setCells w.heap.size 0 mr0.toList=vz at*;refine wpList_store_mid (by rfl) 93 _ _ (by rfl) R5 0 mr0 (by rfl) (by rfl) HT2.out (by rw[infoM93];rfl) (by simp[mr0,Value.oneCell']) ?_)
  exact bodyPost_ret (v:=.tuple #[.agg mr0,.agg mr0,.bool false]) (ret88 (p:=4) (q:=5) (u:=6) (by kernel_rfl) rfl rfl (by rfl) (by rfl) (by rfl) HTW.out.2.1 HTW.out.2.2.1) rfl ⟨mvZ,mvZ,rfl,fun p h=>(by cases h),HTW.out.2.2.2⟩
 | some ma=>
  simp only at ho;have HOO:=hd' ho;clear ho;obtain⟨hfa,hka⟩:=HFT.out i ma hra;obtain⟨X7,hX7⟩:∃X,w2.heap.size=X:=⟨_,rfl⟩;obtain⟨v3,hv3⟩:∃v,w2.alloc (.cells #[.bool ma.inn,.int .i64 ma.t,.int .i64 ma.v,.int .i64 ma.way,.int .i64 (ma.b:Int),.int .i64 ((ma.e:Int)-(ma.b:Int)),.int .u64 (ma.bits:Int),.int .i64 (ma.size:Int)] 93)=v:=⟨_,rfl⟩
  have hr3:R8 v3 X7 (mrF ma):=by rw[←hv3];exact R8.new (mrF ma) rfl w2 hX7.symm
  have hb3:Below w2.heap.size w2 v3:=by rw[←hv3];exact(Below.refl _ _).alloc (lR' _) _
  have hb13:=hb2.trans (hb3.mono hb2.size);have HB3:=hd' (HB1.out.trans (hb13.mono HB1.out.size));have HP3:=hd' (CellsAt.below HP1.out hb13 (by omega));have HQ3:=hd' (CellsAt.below HQ1.out hb13 hz1);have hz3:w1.heap.size≤v3.heap.size:=hb13.size
  have hX:w1.heap.size≤X7:=by have:=hb2.size;omega
  have HA3:=hd' hr3;obtain⟨-, -, -, -, -, -, -,a7⟩:=R8.cells hr3;have wa:IntKind.i64.wrap ((i:Int)+(ma.size:Int))=(i:Int)+(ma.size:Int):=IntWalk.i64_in _ (by omega);have HKA:=hd' hka;clear hb2 hb3 hb13 hr3 hra hka HB1 HP1 HQ1;unfold mrOut mrF;go_wp2_with fail;refine(HMV.out (i+ma.size) _ v3 (by omega) (by omega) HB3.out).mono ?_;rintro e w4 ⟨rfl,hb4⟩;obtain⟨rb,hrb⟩:∃rb,B.readMv (ps.drop (i+ma.size))=rb:=⟨_,rfl⟩;rw[hrb]at HOO⊢;clear hX7 hv3
  cases rb with
  | none=>
   obtain rfl:none=o:=HOO.out;clear HOO;unfold mrOut mr0;clear a7
   go_upto_region 6 with fail
   obtain⟨v5,hv5⟩:∃v,w4.alloc (.cells #[.bool false,.int .i64 0,.int .i64 0,.int .i64 0,.int .i64 0,.int .i64 0,.int .u64 0,.int .i64 0] 93)=v:=⟨_,rfl⟩
   have hb5:Below w4.heap.size w4 v5:=by rw[←hv5];exact(Below.refl _ _).alloc (lR' _) _
   have hb35:=hb4.trans (hb5.mono hb4.size);have HB5:=hd' (HB3.out.trans (hb35.mono HB3.out.size));have HP5:=hd' (CellsAt.below HP3.out hb35 (by omega));have HQ5:=hd' (CellsAt.below HQ3.out hb35 (by omega))
   try rw[hv5]
   clear hv5 hb4 hb5 hb35 hrb;have HTW:=hd' (R8.two HP5.out HQ5.out (by omega) mr0 mr0 rfl rfl HB5.out (lR' _) (by omega));have HT1:=hd' (CellsAt.there HP5.out (o:=0) (m:=8) (by omega));have HT2:=hd' (CellsAt.there HTW.out.1 (o:=0) (m:=8) (by omega));go_wp2_with ((refine wpList_store_mid (by rfl) 93 _ _ (by rfl) w.heap.size 0 mr0 (by rfl) (by rfl) HT1.out (by rw[infoM93];rfl) (by simp[mr0,Value.oneCell']) ?_);generalize v5.setCells w.heap.size 0 mr0.toList=vz at*;refine wpList_store_mid (by rfl) 93 _ _ (by rfl) R5 0 mr0 (by rfl) (by rfl) HT2.out (by rw[infoM93];rfl) (by simp[mr0,Value.oneCell']) ?_)
   exact bodyPost_ret (v:=.tuple #[.agg mr0,.agg mr0,.bool false]) (ret88 (p:=4) (q:=5) (u:=6) (by kernel_rfl) rfl rfl (by rfl) (by rfl) (by rfl) HTW.out.2.1 HTW.out.2.2.1) rfl ⟨mvZ,mvZ,rfl,fun p h=>(by cases h),HTW.out.2.2.2⟩
  | some mb=>
   have ho:=HOO.out;simp only at ho;have HOP:=hd' ho;clear HOO ho;obtain⟨hfb,hkb⟩:=HFT.out (i+ma.size) mb hrb;obtain⟨X9,hX9⟩:∃X,w4.heap.size=X:=⟨_,rfl⟩;obtain⟨v5,hv5⟩:∃v,w4.alloc (.cells #[.bool mb.inn,.int .i64 mb.t,.int .i64 mb.v,.int .i64 mb.way,.int .i64 (mb.b:Int),.int .i64 ((mb.e:Int)-(mb.b:Int)),.int .u64 (mb.bits:Int),.int .i64 (mb.size:Int)] 93)=v:=⟨_,rfl⟩
   have hr5:R8 v5 X9 (mrF mb):=by rw[←hv5];exact R8.new (mrF mb) rfl w4 hX9.symm
   have hb5:Below w4.heap.size w4 v5:=by rw[←hv5];exact(Below.refl _ _).alloc (lR' _) _
   have hb35:=hb4.trans (hb5.mono hb4.size);have HB5:=hd' (HB3.out.trans (hb35.mono HB3.out.size));have HP5:=hd' (CellsAt.below HP3.out hb35 (by omega));have HQ5:=hd' (CellsAt.below HQ3.out hb35 (by omega));have HA5:Hid (R8 v5 X7 (mrF ma)):=hd' (CellsAt.below HA3.out hb35 (CellsAt.blk HA3.out));have HC5:=hd' hr5
   have hX2:w1.heap.size≤X9:=by have:=hb4.size;omega
   obtain⟨b0,b1,b2,b3, -, -, -,b7⟩:=R8.cells hr5;obtain⟨a0,a1,a2,a3, -, -, -,a7'⟩:=R8.cells HA5.out;have wb:IntKind.i64.wrap ((i:Int)+(ma.size:Int)+(mb.size:Int))=(i:Int)+(ma.size:Int)+(mb.size:Int):=IntWalk.i64_in _ (by omega);clear hb4 hb5 hb35 hr5 hrb hkb HB3 HP3 HQ3 HA3;unfold mrOut mrF;clear a7
   by_cases h0:ma.inn=mb.inn
   ·by_cases h1:ma.t=mb.t
    ·by_cases h2:ma.v=mb.v
     ·by_cases h3:ma.way=mb.way
      ·have hs:B.sameWay ma mb=true:=B.sameWay_iff.2 ⟨h0,h1,h2,h3⟩
       have q0:(ma.inn==mb.inn)=true:=by simp[h0]
       have q1:(ma.t !=mb.t)=false:=by simp[h1]
       have q2:(ma.v !=mb.v)=false:=by simp[h2]
       have q3:(ma.way !=mb.way)=false:=by simp[h3]
       have ho:=HOP.out;simp only[hs,true_and]at ho;have HOQ:=hd' ho;clear HOP ho;clear h0 h1 h2 h3 hs;obtain⟨E,hE⟩:∃E:Nat,E=i+ma.size+mb.size:=⟨_,rfl⟩
       have hEI:(i:Int)+(ma.size:Int)+(mb.size:Int)=(E:Int):=by omega
       have hEl:E≤len:=by omega
       have HOR:Hid ((if B.someIn (B.entd ps) (i+1) E=false∧B.ndL ps E ma.t.toNat=false then some (ma,mb)else none)=o):=hd' (by rw[hE];exact HOQ.out);obtain⟨T,hT⟩:∃T:Nat,ma.t=(T:Int):=⟨ma.t.toNat,by have:=HKA.out.t0;omega⟩
       have hT16:T<16:=by have:=HKA.out.t15;omega
       have HT:=hd' hT;have w1':IntKind.i64.wrap ((i:Int)+1)=(i:Int)+1:=IntWalk.i64_in _ (by omega);rw[hT]at HOR;simp only[Int.toNat_natCast]at HOR;clear HOQ hE hT
       go_upto_region 8 with fail
       try rw[hEI]
       clear hEI a0 a1 a2 a3 a7' b0 b1 b2 b3 b7 q0 q1 q2 q3 wa wb
       have hzz:w.heap.size<X7∧w.heap.size<X9∧R5<X7∧R5<X9:=by omega
       have HTW:∀u:World,Below v5.heap.size v5 u→R8 u w.heap.size mr0∧R8 u R5 mr0∧Below w.heap.size w u:=fun u hb=>⟨CellsAt.below HP5.out hb (CellsAt.blk HP5.out),CellsAt.below HQ5.out hb (CellsAt.blk HQ5.out),HB5.out.trans (hb.mono HB5.out.size)⟩
       have HTWH:=hd' HTW;clear HTW;have HSS:Hid (R8 v5.drew X7 (mrF ma)∧R8 v5.drew X9 (mrF mb)):=hd' ⟨CellsAt.of HA5.out rfl,CellsAt.of HC5.out rfl⟩;refine wp_region_held_drew (S:=fun w'=>R8 w' X7 (mrF ma)∧R8 w' X9 (mrF mb)) (by kernel_rfl) HSS.out (fun hS1=> ?_);refine takeM (i:=0) (d:=70) 93 _ X7 0 (mrF ma) _ rfl rfl rfl rfl (by rfl) Tryz.underlying93 rfl (by rw[infoM93];rfl) (by kernel_rfl) (by kernel_rfl) (by kernel_rfl) (fun _ _ _ h=>h) (fun w' h=>R8.range h.1 rfl) hS1 ?_;simp only[Act.put,sA',sZ',sS'];refine takeM (i:=1) (d:=71) 93 _ X9 0 (mrF mb) _ rfl rfl rfl rfl (by rfl) Tryz.underlying93 rfl (by rw[infoM93];rfl) (by kernel_rfl) (by kernel_rfl) (by kernel_rfl) (fun _ _ _ h=>h) (fun w' h=>R8.range h.2 rfl) hS1 ?_;simp only[Act.put,sA',sZ',sS']
       refine takeS (i:=2) (d:=72) (v:=.slice a len cap) rfl rfl rfl (by kernel_rfl) (by kernel_rfl) (by kernel_rfl) (fun _ _ _ h=>h) (fun w' _=>by go_simp) hS1 ?_;simp only[Act.put,sA',sZ',sS'];refine takeS (i:=3) (d:=73) (v:=.int .i64 (i:Int)) rfl rfl rfl (by kernel_rfl) (by kernel_rfl) (by kernel_rfl) (fun _ _ _ h=>h) (fun w' _=>by go_simp) hS1 ?_;simp only[Act.put,sA',sZ',sS'];refine takeS (i:=4) (d:=74) (v:=.int .i64 ((i:Int)+1)) rfl rfl rfl (by kernel_rfl) (by kernel_rfl) (by kernel_rfl) (fun _ _ _ h=>h) (fun w' _=>by go_simp) hS1 ?_;simp only[Act.put,sA',sZ',sS'];refine takeS (i:=5) (d:=75) (v:=.int .i64 (E:Int)) rfl rfl rfl (by kernel_rfl) (by kernel_rfl) (by kernel_rfl) (fun _ _ _ h=>h) (fun w' _=>by go_simp) hS1 ?_;simp only[Act.put,sA',sZ',sS'];refine wpAnyH_ready (rs:=[6]) (by kernel_rfl) (by simp) ?_;refine AllReadyH.cons rfl (fun K hK=> ?_) AllReadyH.nil;go_simp
       refine(HEN.out (i+1) E _ _ _ (by omega) rfl HB5.out.drew).mono ?_;rintro e w6 ⟨rfl,hb6⟩;have hb6':Below v5.heap.size v5 w6:=(Below.refl _ _).drew.trans hb6;refine hK.out _ _ ⟨CellsAt.below hS1.1 hb6 (CellsAt.blk HA5.out),CellsAt.below hS1.2 hb6 (CellsAt.blk HC5.out)⟩ (fun hS2=> ?_);clear hK K;obtain⟨hit,hh⟩:∃hit,B.someIn (B.entd ps) (i+1) E=hit:=⟨_,rfl⟩;rw[hh]at HOR⊢;clear hh
       cases hit with
       | true=>
        have ho:none=o:=by have:=HOR.out;simpa using this
        subst ho;clear HOR;refine takeS (i:=7) (d:=77) (v:=.bool false) rfl rfl rfl (by kernel_rfl) (by kernel_rfl) (by kernel_rfl) (fun _ _ _ h=>h) (fun w' _=>by go_simp) hS2 ?_;simp only[Act.put,sA',sZ',sS'];refine takeS (i:=8) (d:=78) (v:=.bool false) rfl rfl rfl (by kernel_rfl) (by kernel_rfl) (by kernel_rfl) (fun _ _ _ h=>h) (fun w' _=>by go_simp) hS2 ?_;simp only[Act.put,sA',sZ',sS'];refine takeU (i:=9) (d:=79) rfl rfl (by kernel_rfl) (by kernel_rfl) (by kernel_rfl) (fun _ _ _ h=>h) (by rfl) hS2 ?_;simp only[Act.put,sA',sZ',sS'];refine takeU (i:=10) (d:=80) rfl rfl (by kernel_rfl) (by kernel_rfl) (by kernel_rfl) (fun _ _ _ h=>h) (by rfl) hS2 ?_;simp only[Act.put,sA',sZ',sS'];refine takeU (i:=11) (d:=81) rfl rfl (by kernel_rfl) (by kernel_rfl) (by kernel_rfl) (fun _ _ _ h=>h) (by rfl) hS2 ?_;simp only[Act.put,sA',sZ',sS']
        refine takeU (i:=12) (d:=82) rfl rfl (by kernel_rfl) (by kernel_rfl) (by kernel_rfl) (fun _ _ _ h=>h) (by rfl) hS2 ?_;simp only[Act.put,sA',sZ',sS'];refine takeU (i:=13) (d:=83) rfl rfl (by kernel_rfl) (by kernel_rfl) (by kernel_rfl) (fun _ _ _ h=>h) (by rfl) hS2 ?_;simp only[Act.put,sA',sZ',sS'];refine takeU (i:=14) (d:=84) rfl rfl (by kernel_rfl) (by kernel_rfl) (by kernel_rfl) (fun _ _ _ h=>h) (by rfl) hS2 ?_;simp only[Act.put,sA',sZ',sS'];refine takeU (i:=15) (d:=85) rfl rfl (by kernel_rfl) (by kernel_rfl) (by kernel_rfl) (fun _ _ _ h=>h) (by rfl) hS2 ?_;simp only[Act.put,sA',sZ',sS'];refine takeU (i:=16) (d:=86) rfl rfl (by kernel_rfl) (by kernel_rfl) (by kernel_rfl) (fun _ _ _ h=>h) (by rfl) hS2 ?_;simp only[Act.put,sA',sZ',sS'];refine takeU (i:=17) (d:=87) rfl rfl (by kernel_rfl) (by kernel_rfl) (by kernel_rfl) (fun _ _ _ h=>h) (by rfl) hS2 ?_
        simp only[Act.put,sA',sZ',sS'];refine takeS (i:=18) (d:=88) (v:=.bool false) rfl rfl rfl (by kernel_rfl) (by kernel_rfl) (by kernel_rfl) (fun _ _ _ h=>h) (fun w' _=>by go_simp) hS2 ?_;simp only[Act.put,sA',sZ',sS'];have hS3:=hS2;have hA4:=hS3.1;have hC4:=hS3.2;obtain⟨hp6,hq6,hbw⟩:=HTWH.out w6 hb6';have HTW:=hd' (R8.two hp6 hq6 (by omega) (mrF ma) (mrF mb) rfl rfl hbw (lR' _) (by omega));refine wpAnyH_ready (rs:=[19]) (by kernel_rfl) (by simp) ?_;refine AllReadyH.cons rfl (fun K hK=> ?_) AllReadyH.nil;rw[if_pos (by rfl)];refine wp_store_mid 93 _ _ (by rfl) w.heap.size 0 (mrF ma) (by rfl) (by rfl) (CellsAt.there hp6 (o:=0) (m:=8) (by omega)) (by rw[infoM93];rfl) (mrF_ones _) ?_
        have hSz:R8 (w6.setCells w.heap.size 0 (mrF ma).toList) X7 (mrF ma)∧R8 (w6.setCells w.heap.size 0 (mrF ma).toList) X9 (mrF mb):=⟨CellsAt.grown hA4 (grownBy_setCells _ _ _ _) (by omega),CellsAt.grown hC4 (grownBy_setCells _ _ _ _) (by omega)⟩;generalize w6.setCells w.heap.size 0 (mrF ma).toList=wy at hSz HTW⊢;refine hK.out _ _ hSz (fun _=> ?_);clear hK K;refine wpAnyH_ready (rs:=[20]) (by kernel_rfl) (by simp) ?_;refine AllReadyH.cons rfl (fun K hK=> ?_) AllReadyH.nil;rw[if_pos (by rfl)];refine wp_store_mid 93 _ _ (by rfl) R5 0 (mrF mb) (by rfl) (by rfl) (CellsAt.there HTW.out.1 (o:=0) (m:=8) (by omega)) (by rw[infoM93];rfl) (mrF_ones _) ?_
        have hSy:R8 (wy.setCells R5 0 (mrF mb).toList) X7 (mrF ma)∧R8 (wy.setCells R5 0 (mrF mb).toList) X9 (mrF mb):=⟨CellsAt.grown hSz.1 (grownBy_setCells _ _ _ _) (by omega),CellsAt.grown hSz.2 (grownBy_setCells _ _ _ _) (by omega)⟩;generalize wy.setCells R5 0 (mrF mb).toList=wz at hSy HTW⊢;refine hK.out _ _ hSy (fun hS5=> ?_);clear hK K;refine wpAnyH_ready (rs:=[21]) (by kernel_rfl) (by simp) ?_;refine AllReadyH.cons rfl (fun K hK=> ?_) AllReadyH.nil;go_simp;refine hK.out _ _ hS5 (fun hS6=> ?_);clear hK K;refine wpAnyH_done (by kernel_rfl) ?_ _;go_wp2_with fail;refine bodyPost_ret (v:=.tuple #[.agg (mrF ma),.agg (mrF mb),.bool false]) (ret88 (p:=4) (q:=5) (u:=6) (by kernel_rfl) rfl rfl (by rfl) (by rfl) (by rfl) HTW.out.2.1 HTW.out.2.2.1) rfl ⟨ma,mb, ?_, ?_,HTW.out.2.2.2⟩
        ·rfl
        ·intro p hp;cases hp
       | false=>
        refine takeS (i:=7) (d:=77) (v:=.bool true) rfl rfl rfl (by kernel_rfl) (by kernel_rfl) (by kernel_rfl) (fun _ _ _ h=>h) (fun w' _=>by go_simp) hS2 ?_;simp only[Act.put,sA',sZ',sS'];refine takeS (i:=8) (d:=78) (v:=.bool true) rfl rfl rfl (by kernel_rfl) (by kernel_rfl) (by kernel_rfl) (fun _ _ _ h=>h) (fun w' _=>by go_simp) hS2 ?_;simp only[Act.put,sA',sZ',sS'];refine takeW (i:=9) (d:=79) (v:=.slice a len cap) rfl rfl (by kernel_rfl) (by kernel_rfl) (by kernel_rfl) (fun _ _ _ h=>h) (by rfl) (fun w' _=>by go_simp) hS2 ?_;simp only[Act.put,sA',sZ',sS'];refine takeW (i:=11) (d:=81) (v:=.int .i64 (E:Int)) rfl rfl (by kernel_rfl) (by kernel_rfl) (by kernel_rfl) (fun _ _ _ h=>h) (by rfl) (fun w' _=>by go_simp) hS2 ?_;simp only[Act.put,sA',sZ',sS']
        refine takeW (i:=12) (d:=82) (v:=.pointer (some ⟨X7,1,none⟩)) rfl rfl (by kernel_rfl) (by kernel_rfl) (by kernel_rfl) (fun _ _ _ h=>h) (by rfl) (fun w' _=>by go_simp) hS2 ?_;simp only[Act.put,sA',sZ',sS'];refine takeW (i:=13) (d:=83) (v:=.int .i64 (T:Int)) rfl rfl (by kernel_rfl) (by kernel_rfl) (by kernel_rfl) (fun _ _ _ h=>h) (by rfl) (fun w' h=>by(have c:w'.cell? ⟨X7,1,none⟩=some (.int .i64 ma.t):=CellsAt.cell h.1 (j:=1) (by omega);rw[HT.out]at c;go_simp)) hS2 ?_;simp only[Act.put,sA',sZ',sS'];refine wpAnyH_ready (rs:=[10]) (by kernel_rfl) (by simp) ?_;refine AllReadyH.cons rfl (fun K hK=> ?_) AllReadyH.nil;go_simp;refine(HLV.out w6 (HB5.out.trans (hb6'.mono HB5.out.size))).mono ?_;rintro e w7 ⟨g,c,rfl,hrg,hb7⟩;have hb7':Below v5.heap.size v5 w7:=hb6'.trans (hb7.mono hb6'.size)
        refine hK.out _ _ ⟨CellsAt.below hS2.1 hb7 (CellsAt.blk hS2.1),CellsAt.below hS2.2 hb7 (CellsAt.blk hS2.2)⟩ (fun hS7=> ?_);clear hK K;have hgb:=hrg.blk;have hs6:=hb6'.size;have hx7l:X7<v5.heap.size:=CellsAt.blk HA5.out;have hx9l:X9<v5.heap.size:=CellsAt.blk HC5.out
        have hzg:w.heap.size<g∧R5<g:=by omega
        have hgc:w7.cell? ⟨g,E*16+T,none⟩=some (.bool (B.ndL ps E T)):=by
         rw[World.ownsRow.cellAt hrg (E*16+T) (by have:=HLE.out;omega),rgV_get _ _ E T (by have:=HLE.out;omega) hT16,Array.getElem?_toList,regsF_get _ _ hT16]
        obtain⟨nd,hnd⟩:∃nd,B.ndL ps E T=nd:=⟨_,rfl⟩;simp only[hnd]at hgc HOR;clear hnd
        have k0:(0:Int)≤(E:Int):=by omega
        have k1:(E:Int)<(ps.length:Int)+1:=by have:=HLE.out;omega
        have k2:(0:Int)≤(T:Int):=by omega
        have k3:(T:Int)<16:=by omega
        refine wpAnyH_weaken (S':=fun w'=>R8 w' X7 (mrF ma)∧R8 w' X9 (mrF mb)∧w'.cell? ⟨g,E*16+T,none⟩=some (.bool nd)) (fun w' h=>⟨h.1,h.2.1⟩) _ _ _ _ ?_;have hS3:R8 w7 X7 (mrF ma)∧R8 w7 X9 (mrF mb)∧w7.cell? ⟨g,E*16+T,none⟩=some (.bool nd):=⟨hS7.1,hS7.2,hgc⟩;refine takeW (i:=14) (d:=84) (v:=.pointer (some ⟨g,E*16,none⟩)) rfl rfl (by kernel_rfl) (by kernel_rfl) (by kernel_rfl) (fun _ _ _ h=>h) (by rfl) (fun w' _=>by go_simp) hS3 ?_;simp only[Act.put,sA',sZ',sS'];refine takeW (i:=15) (d:=85) (v:=.pointer (some ⟨g,E*16+T,none⟩)) rfl rfl (by kernel_rfl) (by kernel_rfl) (by kernel_rfl) (fun _ _ _ h=>h) (by rfl) (fun w' _=>by go_simp) hS3 ?_;simp only[Act.put,sA',sZ',sS'];refine takeW (i:=16) (d:=86) (v:=.bool nd) rfl rfl (by kernel_rfl) (by kernel_rfl) (by kernel_rfl) (fun _ _ _ h=>h) (by rfl) (fun w' h=>by(have c:=h.2.2;go_simp)) hS3 ?_;simp only[Act.put,sA',sZ',sS']
        refine takeW (i:=17) (d:=87) (v:=.bool !nd) rfl rfl (by kernel_rfl) (by kernel_rfl) (by kernel_rfl) (fun _ _ _ h=>h) (by rfl) (fun w' _=>by go_simp) hS3 ?_;simp only[Act.put,sA',sZ',sS'];refine takeS (i:=18) (d:=88) (v:=.bool !nd) rfl rfl rfl (by kernel_rfl) (by kernel_rfl) (by kernel_rfl) (fun _ _ _ h=>h) (fun w' _=>by go_simp) hS3 ?_;simp only[Act.put,sA',sZ',sS'];have hb7:=hb7';have hA4:=hS3.1;have hC4:=hS3.2.1;have hG4:=hS3.2.2;obtain⟨hp6,hq6,hbw⟩:=HTWH.out w7 hb7;have HTW:=hd' (R8.two hp6 hq6 (by omega) (mrF ma) (mrF mb) rfl rfl hbw (lR' _) (by omega));refine wpAnyH_ready (rs:=[19]) (by kernel_rfl) (by simp) ?_;refine AllReadyH.cons rfl (fun K hK=> ?_) AllReadyH.nil;rw[if_pos (by rfl)]
        refine wp_store_mid 93 _ _ (by rfl) w.heap.size 0 (mrF ma) (by rfl) (by rfl) (CellsAt.there hp6 (o:=0) (m:=8) (by omega)) (by rw[infoM93];rfl) (mrF_ones _) ?_;have hSz:R8 (w7.setCells w.heap.size 0 (mrF ma).toList) X7 (mrF ma)∧R8 (w7.setCells w.heap.size 0 (mrF ma).toList) X9 (mrF mb)∧(w7.setCells w.heap.size 0 (mrF ma).toList).cell? ⟨g,E*16+T,none⟩=some (.bool nd):=⟨CellsAt.grown hA4 (grownBy_setCells _ _ _ _) (by omega),CellsAt.grown hC4 (grownBy_setCells _ _ _ _) (by omega),cell_stored hG4 (by omega) _⟩;generalize w7.setCells w.heap.size 0 (mrF ma).toList=wy at hSz HTW⊢;refine hK.out _ _ hSz (fun _=> ?_);clear hK K;refine wpAnyH_ready (rs:=[20]) (by kernel_rfl) (by simp) ?_;refine AllReadyH.cons rfl (fun K hK=> ?_) AllReadyH.nil;rw[if_pos (by rfl)]
        refine wp_store_mid 93 _ _ (by rfl) R5 0 (mrF mb) (by rfl) (by rfl) (CellsAt.there HTW.out.1 (o:=0) (m:=8) (by omega)) (by rw[infoM93];rfl) (mrF_ones _) ?_;have hSy:R8 (wy.setCells R5 0 (mrF mb).toList) X7 (mrF ma)∧R8 (wy.setCells R5 0 (mrF mb).toList) X9 (mrF mb)∧(wy.setCells R5 0 (mrF mb).toList).cell? ⟨g,E*16+T,none⟩=some (.bool nd):=⟨CellsAt.grown hSz.1 (grownBy_setCells _ _ _ _) (by omega),CellsAt.grown hSz.2.1 (grownBy_setCells _ _ _ _) (by omega),cell_stored hSz.2.2 (by omega) _⟩;generalize wy.setCells R5 0 (mrF mb).toList=wz at hSy HTW⊢;refine hK.out _ _ hSy (fun hS5=> ?_);clear hK K;refine wpAnyH_ready (rs:=[21]) (by kernel_rfl) (by simp) ?_;refine AllReadyH.cons rfl (fun K hK=> ?_) AllReadyH.nil;go_simp;refine hK.out _ _ hS5 (fun hS6=> ?_);clear hK K;refine wpAnyH_done (by kernel_rfl) ?_ _;go_wp2_with fail
        refine bodyPost_ret (v:=.tuple #[.agg (mrF ma),.agg (mrF mb),.bool (!nd)]) (ret88 (p:=4) (q:=5) (u:=6) (by kernel_rfl) rfl rfl (by rfl) (by rfl) (by rfl) HTW.out.2.1 HTW.out.2.2.1) rfl ⟨ma,mb, ?_, ?_,HTW.out.2.2.2⟩
        ·have:=HOR.out
         cases nd<;>(simp at this;subst this;rfl)
        ·intro p hp
         have:=HOR.out
         cases nd<;>simp at this
         ·rw[←this]at hp;exact(Option.some.inj hp).symm
         ·rw[←this]at hp;cases hp
      ·have ho:none=o:=by have ho:=HOP.out;rw[if_neg (fun h=>h3 (B.sameWay_iff.1 h.1).2.2.2)]at ho;exact ho
       clear HOP;subst ho
       have q0:(ma.inn==mb.inn)=true:=by simp[h0]
       have q1:(ma.t !=mb.t)=false:=by simp[h1]
       have q2:(ma.v !=mb.v)=false:=by simp[h2]
       have q3:(ma.way !=mb.way)=true:=by simp[h3]
       clear h0 h1 h2 h3
       go_upto_region 6 with fail
       clear a0 a1 a2 a3 a7' b0 b1 b2 b3 b7;have HTW:=hd' (R8.two HP5.out HQ5.out (by omega) mr0 mr0 rfl rfl HB5.out (lR' _) (by omega));have HT1:=hd' (CellsAt.there HP5.out (o:=0) (m:=8) (by omega));have HT2:=hd' (CellsAt.there HTW.out.1 (o:=0) (m:=8) (by omega));go_wp2_with ((refine wpList_store_mid (by rfl) 93 _ _ (by rfl) w.heap.size 0 mr0 (by rfl) (by rfl) HT1.out (by rw[infoM93];rfl) (by simp[mr0,Value.oneCell']) ?_);generalize v5.setCells w.heap.size 0 mr0.toList=vz at*;refine wpList_store_mid (by rfl) 93 _ _ (by rfl) R5 0 mr0 (by rfl) (by rfl) HT2.out (by rw[infoM93];rfl) (by simp[mr0,Value.oneCell']) ?_)
       exact bodyPost_ret (v:=.tuple #[.agg mr0,.agg mr0,.bool false]) (ret88 (p:=4) (q:=5) (u:=6) (by kernel_rfl) rfl rfl (by rfl) (by rfl) (by rfl) HTW.out.2.1 HTW.out.2.2.1) rfl ⟨mvZ,mvZ,rfl,fun p h=>(by cases h),HTW.out.2.2.2⟩
     ·have ho:none=o:=by have ho:=HOP.out;rw[if_neg (fun h=>h2 (B.sameWay_iff.1 h.1).2.2.1)]at ho;exact ho
      clear HOP;subst ho
      have q0:(ma.inn==mb.inn)=true:=by simp[h0]
      have q1:(ma.t !=mb.t)=false:=by simp[h1]
      have q2:(ma.v !=mb.v)=true:=by simp[h2]
      clear h0 h1 h2
      go_upto_region 6 with fail
      clear a0 a1 a2 a3 a7' b0 b1 b2 b3 b7;have HTW:=hd' (R8.two HP5.out HQ5.out (by omega) mr0 mr0 rfl rfl HB5.out (lR' _) (by omega));have HT1:=hd' (CellsAt.there HP5.out (o:=0) (m:=8) (by omega));have HT2:=hd' (CellsAt.there HTW.out.1 (o:=0) (m:=8) (by omega));go_wp2_with ((refine wpList_store_mid (by rfl) 93 _ _ (by rfl) w.heap.size 0 mr0 (by rfl) (by rfl) HT1.out (by rw[infoM93];rfl) (by simp[mr0,Value.oneCell']) ?_);generalize v5.setCells w.heap.size 0 mr0.toList=vz at*;refine wpList_store_mid (by rfl) 93 _ _ (by rfl) R5 0 mr0 (by rfl) (by rfl) HT2.out (by rw[infoM93];rfl) (by simp[mr0,Value.oneCell']) ?_)
      exact bodyPost_ret (v:=.tuple #[.agg mr0,.agg mr0,.bool false]) (ret88 (p:=4) (q:=5) (u:=6) (by kernel_rfl) rfl rfl (by rfl) (by rfl) (by rfl) HTW.out.2.1 HTW.out.2.2.1) rfl ⟨mvZ,mvZ,rfl,fun p h=>(by cases h),HTW.out.2.2.2⟩
    ·have ho:none=o:=by have ho:=HOP.out;rw[if_neg (fun h=>h1 (B.sameWay_iff.1 h.1).2.1)]at ho;exact ho
     clear HOP;subst ho
     have q0:(ma.inn==mb.inn)=true:=by simp[h0]
     have q1:(ma.t !=mb.t)=true:=by simp[h1]
     clear h0 h1
     go_upto_region 6 with fail
     clear a0 a1 a2 a3 a7' b0 b1 b2 b3 b7;have HTW:=hd' (R8.two HP5.out HQ5.out (by omega) mr0 mr0 rfl rfl HB5.out (lR' _) (by omega));have HT1:=hd' (CellsAt.there HP5.out (o:=0) (m:=8) (by omega));have HT2:=hd' (CellsAt.there HTW.out.1 (o:=0) (m:=8) (by omega));go_wp2_with ((refine wpList_store_mid (by rfl) 93 _ _ (by rfl) w.heap.size 0 mr0 (by rfl) (by rfl) HT1.out (by rw[infoM93];rfl) (by simp[mr0,Value.oneCell']) ?_);generalize v5.setCells w.heap.size 0 mr0.toList=vz at*;refine wpList_store_mid (by rfl) 93 _ _ (by rfl) R5 0 mr0 (by rfl) (by rfl) HT2.out (by rw[infoM93];rfl) (by simp[mr0,Value.oneCell']) ?_)
     exact bodyPost_ret (v:=.tuple #[.agg mr0,.agg mr0,.bool false]) (ret88 (p:=4) (q:=5) (u:=6) (by kernel_rfl) rfl rfl (by rfl) (by rfl) (by rfl) HTW.out.2.1 HTW.out.2.2.1) rfl ⟨mvZ,mvZ,rfl,fun p h=>(by cases h),HTW.out.2.2.2⟩
   ·have ho:none=o:=by have ho:=HOP.out;rw[if_neg (fun h=>h0 (B.sameWay_iff.1 h.1).1)]at ho;exact ho
    clear HOP;subst ho
    have q0:(ma.inn==mb.inn)=false:=by simp[h0]
    clear h0
    go_upto_region 6 with fail
    clear a0 a1 a2 a3 a7' b0 b1 b2 b3 b7;have HTW:=hd' (R8.two HP5.out HQ5.out (by omega) mr0 mr0 rfl rfl HB5.out (lR' _) (by omega));have HT1:=hd' (CellsAt.there HP5.out (o:=0) (m:=8) (by omega));have HT2:=hd' (CellsAt.there HTW.out.1 (o:=0) (m:=8) (by omega));go_wp2_with ((refine wpList_store_mid (by rfl) 93 _ _ (by rfl) w.heap.size 0 mr0 (by rfl) (by rfl) HT1.out (by rw[infoM93];rfl) (by simp[mr0,Value.oneCell']) ?_);generalize v5.setCells w.heap.size 0 mr0.toList=vz at*;refine wpList_store_mid (by rfl) 93 _ _ (by rfl) R5 0 mr0 (by rfl) (by rfl) HT2.out (by rw[infoM93];rfl) (by simp[mr0,Value.oneCell']) ?_)
    exact bodyPost_ret (v:=.tuple #[.agg mr0,.agg mr0,.bool false]) (ret88 (p:=4) (q:=5) (u:=6) (by kernel_rfl) rfl rfl (by rfl) (by rfl) (by rfl) HTW.out.2.1 HTW.out.2.2.1) rfl ⟨mvZ,mvZ,rfl,fun p h=>(by cases h),HTW.out.2.2.2⟩
end Code
end Go.Proofs.YtpibampaobncaaaGreatDoor
