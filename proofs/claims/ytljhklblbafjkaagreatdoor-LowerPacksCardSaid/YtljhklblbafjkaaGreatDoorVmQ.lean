/- Package vm: Run's loop, a theorem for each operation (11, 12, 13). -/
import Derived.Test.YtljhklblbafjkaaGreatDoorVmP
import Derived.StillTailTactics
open Go.Lib renaming hid→hd'
open Nat renaming le_refl→lR'
open List renaming setIfInBounds_toArray→sA',set_cons_zero→sZ',set_cons_succ→sS'
namespace Go.Proofs.YtljhklblbafjkaaGreatDoor
open Go.RowKit
namespace Code
attribute [local go_sem ↓] Go.wp_at_zero Go.wp_at_succ
variable {Q:Exit→Act→World→Prop} {a pa ia:Option Addr} {len cap pn pc im ic b off k n L R G an bn nn mm:Nat} {o:Int} {pv ov hv x:Value} {ps:List B.Ins} {pay inp:List Nat} {s:B.St} {w wr:World} {f:Act}
set_option maxRecDepth 1000000 in
set_option maxHeartbeats 12800000 in
theorem case11(hd:Hd (some ⟨b,off,none⟩) pa ia len cap pn pc im ic k n R G pv ov hv ps pay inp s w wr f)(hlt:k<len)(hx:ps[k]? =some ⟨11,an,bn,nn,mm⟩)(hok:B.OpOk 11 an bn nn mm pn im (len-k-1))
 (hn:Nx Q (some ⟨b,off,none⟩) pa ia len cap pn pc im ic R G pv ov hv ps pay inp w k n):Code.wp Tryz.prog bodyRun Q f wr:=by
 obtain⟨⟨h0,h1,h2,h3,h4⟩,g5,gf5,hGlt⟩:=hd.ahead hx;have HX:=hd' hx;have hnk:=hd.hnk;have hl:=hd.hl;rw[hd.fr.lit];clear hx;simp only at h0 h1 h2 h3 h4
 conv=>arg 2;whnf
 go_upto_region 12 with fail
 obtain⟨w5,hw5,HV5,HB5,⟨d0,d1,d2,d3,d4⟩,hXlt,HREG,fr,hbR,ra,c2,c3',c4',c5',ia0,ia1,HHG,HHD,HXO,HXH,HINP,HWI,HRUN,HOK⟩:=hd.behind HX.out hok.ha;rw[hw5];clear hw5 h0 h1 h2 h3 h4 g5 gf5 hGlt hd;generalize wr.heap.size=X at*;simp only[Nat.zero_add]at d0 d1 d2 d3 d4;obtain⟨n1,n8,hbn⟩:=hok.bytes (by omega);have hpy:=HV5.out.pay;rw[HOK.out.payl]at hpy;obtain⟨g,c,rfl,hpc,hcm⟩:=own_some hpy (by omega);have HOWN:Hid (BytesOf w5 w.heap.size g pn c s.pay):=hpy;clear hpy
 have ib0:(0:Int)≤(bn:Int):=by omega
 have ib1:(bn:Int)≤(bn:Int)+(nn:Int):=by omega
 have ib2:(bn:Int)+(nn:Int)≤(c:Int):=by omega
 have ib3:¬(c=bn):=by omega
 have ib4:IntKind.i64.wrap ((bn:Int)+(nn:Int))=(bn:Int)+(nn:Int):=IntWalk.i64_in _ (by omega)
 have ib5:((bn:Int)+(nn:Int)).toNat=bn+nn:=by omega
 go_wp2_with fail
 go_still_tail 17,(by kernel_rfl)
 go_wp2_with fail;refine(store_any w.heap.size g bn nn _ pn c s.pay false (s.r an) B.all64 _ (bytesOf_drew HOWN.out) HOK.out.pay n8 hbn).mono ?_;rintro e w6 ⟨rfl,hown6,hg6⟩;have HO6:=hd' hown6;have HG6:=hd' hg6;clear hown6 hg6;go_wp2_with fail;exact hn (k+1) FrIs.mk' (by first | rfl | (push_cast;omega)) (by omega) (by omega) ⟨{ s with pay:=B.patch s.pay bn (B.storeL (s.r an) B.all64 0 ((s.pay.drop bn).take nn))},VmAt.lay HV5.out.drew HOK.out.payl.symm HO6.out HG6.out,HRUN.out.step HX.out B.exec_11,HOK.out.patch (B.storeL_bytes _ _ _ _ (B.bytes_take (B.bytes_drop HOK.out.pay bn) nn)) (by rw[B.storeL_length,B.part_len (by rw[HOK.out.payl];exact hbn)];exact hbn),HB5.out.drew.grown HG6.out (by have:=HB5.out.size;exact this) (fun q hq=>by simp at hq;have:=own_base HOWN.out;omega)⟩
set_option maxRecDepth 1000000 in
set_option maxHeartbeats 12800000 in
theorem case12(hd:Hd (some ⟨b,off,none⟩) pa ia len cap pn pc im ic k n R G pv ov hv ps pay inp s w wr f)(hlt:k<len)(hx:ps[k]? =some ⟨12,an,bn,nn,mm⟩)(hok:B.OpOk 12 an bn nn mm pn im (len-k-1))
 (hn:Nx Q (some ⟨b,off,none⟩) pa ia len cap pn pc im ic R G pv ov hv ps pay inp w k n):Code.wp Tryz.prog bodyRun Q f wr:=by
 obtain⟨⟨h0,h1,h2,h3,h4⟩,g5,gf5,hGlt⟩:=hd.ahead hx;have HX:=hd' hx;have hnk:=hd.hnk;have hl:=hd.hl;rw[hd.fr.lit];clear hx;simp only at h0 h1 h2 h3 h4
 conv=>arg 2;whnf
 go_upto_region 12 with fail
 obtain⟨w5,hw5,HV5,HB5,⟨d0,d1,d2,d3,d4⟩,hXlt,HREG,fr,hbR,ra,c2,c3',c4',c5',ia0,ia1,HHG,HHD,HXO,HXH,HINP,HWI,HRUN,HOK⟩:=hd.behind HX.out hok.ha;rw[hw5];clear hw5 h0 h1 h2 h3 h4 g5 gf5 hGlt hd;generalize wr.heap.size=X at*;simp only[Nat.zero_add]at d0 d1 d2 d3 d4;obtain⟨n1,n8,hbn⟩:=hok.bytes (by omega);have hpy:=HV5.out.pay;rw[HOK.out.payl]at hpy;obtain⟨g,c,rfl,hpc,hcm⟩:=own_some hpy (by omega);have HOWN:Hid (BytesOf w5 w.heap.size g pn c s.pay):=hpy;clear hpy
 have ib0:(0:Int)≤(bn:Int):=by omega
 have ib1:(bn:Int)≤(bn:Int)+(nn:Int):=by omega
 have ib2:(bn:Int)+(nn:Int)≤(c:Int):=by omega
 have ib3:¬(c=bn):=by omega
 have ib4:IntKind.i64.wrap ((bn:Int)+(nn:Int))=(bn:Int)+(nn:Int):=IntWalk.i64_in _ (by omega)
 have ib5:((bn:Int)+(nn:Int)).toNat=bn+nn:=by omega
 go_wp2_with fail
 go_still_tail 17,(by kernel_rfl)
 go_wp2_with fail;refine(store_any w.heap.size g bn nn _ pn c s.pay true (s.r an) B.all64 _ (bytesOf_drew HOWN.out) HOK.out.pay n8 hbn).mono ?_;rintro e w6 ⟨rfl,hown6,hg6⟩;have HO6:=hd' hown6;have HG6:=hd' hg6;clear hown6 hg6;go_wp2_with fail;exact hn (k+1) FrIs.mk' (by first | rfl | (push_cast;omega)) (by omega) (by omega) ⟨{ s with pay:=B.patch s.pay bn (B.storeB (s.r an) B.all64 ((s.pay.drop bn).take nn))},VmAt.lay HV5.out.drew HOK.out.payl.symm HO6.out HG6.out,HRUN.out.step HX.out B.exec_12,HOK.out.patch (B.storeB_bytes _ _ _ (B.bytes_take (B.bytes_drop HOK.out.pay bn) nn)) (by rw[B.storeB_length,B.part_len (by rw[HOK.out.payl];exact hbn)];exact hbn),HB5.out.drew.grown HG6.out (by have:=HB5.out.size;exact this) (fun q hq=>by simp at hq;have:=own_base HOWN.out;omega)⟩
set_option maxRecDepth 1000000 in
set_option maxHeartbeats 12800000 in
theorem case13(hd:Hd (some ⟨b,off,none⟩) pa ia len cap pn pc im ic k n R G pv ov hv ps pay inp s w wr f)(hlt:k<len)(hx:ps[k]? =some ⟨13,an,bn,nn,mm⟩)(hok:B.OpOk 13 an bn nn mm pn im (len-k-1))
 (hn:Nx Q (some ⟨b,off,none⟩) pa ia len cap pn pc im ic R G pv ov hv ps pay inp w k n):Code.wp Tryz.prog bodyRun Q f wr:=by
 obtain⟨⟨h0,h1,h2,h3,h4⟩,g5,gf5,hGlt⟩:=hd.ahead hx;have HX:=hd' hx;have hnk:=hd.hnk;have hl:=hd.hl;rw[hd.fr.lit];clear hx;simp only at h0 h1 h2 h3 h4
 conv=>arg 2;whnf
 go_upto_region 12 with fail
 obtain⟨w5,hw5,HV5,HB5,⟨d0,d1,d2,d3,d4⟩,hXlt,HREG,fr,hbR,ra,c2,c3',c4',c5',ia0,ia1,HHG,HHD,HXO,HXH,HINP,HWI,HRUN,HOK⟩:=hd.behind HX.out hok.ha;rw[hw5];clear hw5 h0 h1 h2 h3 h4 g5 gf5 hGlt hd;generalize wr.heap.size=X at*;simp only[Nat.zero_add]at d0 d1 d2 d3 d4;obtain⟨n1,n8,hbn⟩:=hok.bytes (by omega);have hpy:=HV5.out.pay;rw[HOK.out.payl]at hpy;obtain⟨g,c,rfl,hpc,hcm⟩:=own_some hpy (by omega);have HOWN:Hid (BytesOf w5 w.heap.size g pn c s.pay):=hpy;clear hpy
 have ib0:(0:Int)≤(bn:Int):=by omega
 have ib1:(bn:Int)≤(bn:Int)+(nn:Int):=by omega
 have ib2:(bn:Int)+(nn:Int)≤(c:Int):=by omega
 have ib3:¬(c=bn):=by omega
 have ib4:IntKind.i64.wrap ((bn:Int)+(nn:Int))=(bn:Int)+(nn:Int):=IntWalk.i64_in _ (by omega)
 have ib5:((bn:Int)+(nn:Int)).toNat=bn+nn:=by omega
 go_wp2_with fail
 go_still_tail 16,(by kernel_rfl)
 go_wp2_with fail;refine(store_any w.heap.size g bn nn _ pn c s.pay false (s.r an) mm _ (bytesOf_drew HOWN.out) HOK.out.pay n8 hbn).mono ?_;rintro e w6 ⟨rfl,hown6,hg6⟩;have HO6:=hd' hown6;have HG6:=hd' hg6;clear hown6 hg6;go_wp2_with fail;exact hn (k+1) FrIs.mk' (by first | rfl | (push_cast;omega)) (by omega) (by omega) ⟨{ s with pay:=B.patch s.pay bn (B.storeL (s.r an) mm 0 ((s.pay.drop bn).take nn))},VmAt.lay HV5.out.drew HOK.out.payl.symm HO6.out HG6.out,HRUN.out.step HX.out B.exec_13,HOK.out.patch (B.storeL_bytes _ _ _ _ (B.bytes_take (B.bytes_drop HOK.out.pay bn) nn)) (by rw[B.storeL_length,B.part_len (by rw[HOK.out.payl];exact hbn)];exact hbn),HB5.out.drew.grown HG6.out (by have:=HB5.out.size;exact this) (fun q hq=>by simp at hq;have:=own_base HOWN.out;omega)⟩
end Code
end Go.Proofs.YtljhklblbafjkaaGreatDoor
namespace Go.Proofs.YtljhklblbafjkaaGreatDoor
open Go.RowKit
namespace Code
attribute [local go_sem ↓] Go.wp_at_zero Go.wp_at_succ
variable {Q:Exit→Act→World→Prop} {a pa ia:Option Addr} {len cap pn pc im ic b off k n L R G an bn nn mm:Nat} {o:Int} {pv ov hv x:Value} {ps:List B.Ins} {pay inp:List Nat} {s:B.St} {w wr:World} {f:Act}
set_option maxRecDepth 1000000 in
set_option maxHeartbeats 12800000 in
theorem case16(hd:Hd (some ⟨b,off,none⟩) pa ia len cap pn pc im ic k n R G pv ov hv ps pay inp s w wr f)(hlt:k<len)(hx:ps[k]? =some ⟨16,an,bn,nn,mm⟩)(hok:B.OpOk 16 an bn nn mm pn im (len-k-1))
 (hpan:∀c (a:Act) d v w,Q (.panic c) (a.put (some d) v) w→Q (.panic c) a w)
 (hn:Nx Q (some ⟨b,off,none⟩) pa ia len cap pn pc im ic R G pv ov hv ps pay inp w k n):Code.wp Tryz.prog bodyRun Q f wr:=by
 obtain⟨⟨h0,h1,h2,h3,h4⟩,g5,gf5,hGlt⟩:=hd.ahead hx;have HX:=hd' hx;have hnk:=hd.hnk;have hl:=hd.hl;rw[hd.fr.lit];clear hx;simp only at h0 h1 h2 h3 h4
 conv=>arg 2;whnf
 go_upto_region 12 with fail
 obtain⟨w5,hw5,HV5,HB5,⟨d0,d1,d2,d3,d4⟩,hXlt,HREG,fr,hbR,ra,c2,c3',c4',c5',ia0,ia1,HHG,HHD,HXO,HXH,HINP,HWI,HRUN,HOK⟩:=hd.behind HX.out hok.ha;rw[hw5];clear hw5 h0 h1 h2 h3 h4 g5 gf5 hGlt hd;generalize wr.heap.size=X at*;simp only[Nat.zero_add]at d0 d1 d2 d3 d4;have hsl:=hok.slot (by omega);have hov:=HV5.out.out;rw[HOK.out.outl]at hov;have hhv:=HV5.out.has;rw[HOK.out.hasl]at hhv;obtain⟨g1,q1,rfl,hoc,hocm⟩:=own_some hov (by omega);obtain⟨g2,q2,rfl,hhc,hhcm⟩:=own_some hhv (by omega);obtain⟨⟨v1,x1⟩,f1,⟨v2,x2⟩,f2,hne⟩:=hand_cells HV5.out (k:=bn) (by rw[HOK.out.outl];exact hsl) (by rw[HOK.out.hasl];exact hsl)
 have ib0:(0:Int)≤(bn:Int):=by omega
 have ib1:(bn:Int)<(im:Int):=by omega
 have hgX:g1≠X:=by have:=HXO.out g1 rfl;omega
 obtain⟨D,hD⟩:=HHD.out;have hgR:g1≠R:=own_ne' hov hD (by decide) g1 rfl;have hgG:g1≠G:=own_ne' hov HHG.out (by decide) g1 rfl
 have hhX:g2≠X:=by have:=HXH.out g2 rfl;omega
 have hhR:g2≠R:=own_ne' hhv hD (by decide) g2 rfl;have hhG:g2≠G:=own_ne' hhv HHG.out (by decide) g2 rfl;clear hov hhv hD;go_wp2_with fail;have hS0:(fun w':World=>w'.cell? ⟨G,3,none⟩=some (.slice (some ⟨g1,0,none⟩) im q1)∧w'.cell? ⟨G,4,none⟩=some (.slice (some ⟨g2,0,none⟩) im q2)∧w'.cell? ⟨X,1,none⟩=some (.int .i64 (an:Int))∧w'.cell? ⟨X,2,none⟩=some (.int .i64 (bn:Int))∧w'.cell? ⟨R,an,none⟩=some (.int .u64 (s.r an:Int))) w5.drew:=⟨c3',c4',d1,d2,ra⟩;refine wp_region_held_drew (S:=fun w':World=>w'.cell? ⟨G,3,none⟩=some (.slice (some ⟨g1,0,none⟩) im q1)∧w'.cell? ⟨G,4,none⟩=some (.slice (some ⟨g2,0,none⟩) im q2)∧w'.cell? ⟨X,1,none⟩=some (.int .i64 (an:Int))∧w'.cell? ⟨X,2,none⟩=some (.int .i64 (bn:Int))∧w'.cell? ⟨R,an,none⟩=some (.int .u64 (s.r an:Int))) (by kernel_rfl) hS0 (fun hS1=> ?_)
 refine take_slot (i:=0) (d:=216) (v:=.pointer (some ⟨G,3,none⟩)) rfl rfl (by kernel_rfl) (by kernel_rfl) (by kernel_rfl) (fun c a w h=>hpan c a _ _ w h) (Or.inl ⟨by rfl,fun w' h=>by go_simp⟩) hS1 ?_;simp only[Act.put,sA',sZ',sS'];refine take_slot (i:=1) (d:=217) (v:=.slice (some ⟨g1,0,none⟩) im q1) rfl rfl (by kernel_rfl) (by kernel_rfl) (by kernel_rfl) (fun c a w h=>hpan c a _ _ w h) (Or.inl ⟨by rfl,fun w' h=>by have e:=h.1;go_simp⟩) hS1 ?_;simp only[Act.put,sA',sZ',sS'];refine take_slot (i:=2) (d:=218) (v:=.pointer (some ⟨X,2,none⟩)) rfl rfl (by kernel_rfl) (by kernel_rfl) (by kernel_rfl) (fun c a w h=>hpan c a _ _ w h) (Or.inl ⟨by rfl,fun w' h=>by go_simp⟩) hS1 ?_;simp only[Act.put,sA',sZ',sS']
 refine take_slot (i:=3) (d:=219) (v:=.int .i64 (bn:Int)) rfl rfl (by kernel_rfl) (by kernel_rfl) (by kernel_rfl) (fun c a w h=>hpan c a _ _ w h) (Or.inl ⟨by rfl,fun w' h=>by have e:=h.2.2.2.1;go_simp⟩) hS1 ?_;simp only[Act.put,sA',sZ',sS'];refine take_slot (i:=4) (d:=220) (v:=.pointer (some ⟨G,4,none⟩)) rfl rfl (by kernel_rfl) (by kernel_rfl) (by kernel_rfl) (fun c a w h=>hpan c a _ _ w h) (Or.inl ⟨by rfl,fun w' h=>by go_simp⟩) hS1 ?_;simp only[Act.put,sA',sZ',sS'];refine take_slot (i:=5) (d:=221) (v:=.slice (some ⟨g2,0,none⟩) im q2) rfl rfl (by kernel_rfl) (by kernel_rfl) (by kernel_rfl) (fun c a w h=>hpan c a _ _ w h) (Or.inl ⟨by rfl,fun w' h=>by have e:=h.2.1;go_simp⟩) hS1 ?_;simp only[Act.put,sA',sZ',sS']
 refine take_slot (i:=6) (d:=222) (v:=.pointer (some ⟨X,2,none⟩)) rfl rfl (by kernel_rfl) (by kernel_rfl) (by kernel_rfl) (fun c a w h=>hpan c a _ _ w h) (Or.inl ⟨by rfl,fun w' h=>by go_simp⟩) hS1 ?_;simp only[Act.put,sA',sZ',sS'];refine take_slot (i:=7) (d:=223) (v:=.int .i64 (bn:Int)) rfl rfl (by kernel_rfl) (by kernel_rfl) (by kernel_rfl) (fun c a w h=>hpan c a _ _ w h) (Or.inl ⟨by rfl,fun w' h=>by have e:=h.2.2.2.1;go_simp⟩) hS1 ?_;simp only[Act.put,sA',sZ',sS'];refine take_slot (i:=8) (d:=224) (v:=.pointer (some ⟨X,1,none⟩)) rfl rfl (by kernel_rfl) (by kernel_rfl) (by kernel_rfl) (fun c a w h=>hpan c a _ _ w h) (Or.inl ⟨by rfl,fun w' h=>by go_simp⟩) hS1 ?_;simp only[Act.put,sA',sZ',sS']
 refine take_slot (i:=9) (d:=225) (v:=.int .i64 (an:Int)) rfl rfl (by kernel_rfl) (by kernel_rfl) (by kernel_rfl) (fun c a w h=>hpan c a _ _ w h) (Or.inl ⟨by rfl,fun w' h=>by have e:=h.2.2.1;go_simp⟩) hS1 ?_;simp only[Act.put,sA',sZ',sS'];refine take_slot (i:=10) (d:=226) (v:=.pointer (some ⟨R,an,none⟩)) rfl rfl (by kernel_rfl) (by kernel_rfl) (by kernel_rfl) (fun c a w h=>hpan c a _ _ w h) (Or.inl ⟨by rfl,fun w' h=>by go_simp⟩) hS1 ?_;simp only[Act.put,sA',sZ',sS'];refine take_slot (i:=11) (d:=227) (v:=.int .u64 (s.r an:Int)) rfl rfl (by kernel_rfl) (by kernel_rfl) (by kernel_rfl) (fun c a w h=>hpan c a _ _ w h) (Or.inl ⟨by rfl,fun w' h=>by have e:=h.2.2.2.2;go_simp⟩) hS1 ?_;simp only[Act.put,sA',sZ',sS']
 refine take_slot (i:=12) (d:=228) (v:=.pointer (some ⟨g1,bn,none⟩)) rfl rfl (by kernel_rfl) (by kernel_rfl) (by kernel_rfl) (fun c a w h=>hpan c a _ _ w h) (Or.inl ⟨by rfl,fun w' h=>by go_simp⟩) hS1 ?_;simp only[Act.put,sA',sZ',sS'];refine wpAnyH_ready (rs:=[13]) (by kernel_rfl) (by simp) ?_;refine AllReadyH.cons rfl (fun K hK=> ?_) AllReadyH.nil;go_simp;refine hK.out _ _ ⟨(World.cell?_setCell_other _ _ _ _ (by simp<;>omega)).trans c3',(World.cell?_setCell_other _ _ _ _ (by simp<;>omega)).trans c4',(World.cell?_setCell_other _ _ _ _ (by simp<;>omega)).trans d1,(World.cell?_setCell_other _ _ _ _ (by simp<;>omega)).trans d2,(World.cell?_setCell_other _ _ _ _ (by simp<;>omega)).trans ra⟩ (fun hS2=> ?_);clear hK K
 refine take_slot (i:=14) (d:=229) (v:=.pointer (some ⟨g2,bn,none⟩)) rfl rfl (by kernel_rfl) (by kernel_rfl) (by kernel_rfl) (fun c a w h=>hpan c a _ _ w h) (Or.inl ⟨by rfl,fun w' h=>by go_simp⟩) hS2 ?_;simp only[Act.put,sA',sZ',sS'];refine wpAnyH_ready (rs:=[15]) (by kernel_rfl) (by simp) ?_;refine AllReadyH.cons rfl (fun K hK=> ?_) AllReadyH.nil;go_simp
 refine hK.out _ _ ⟨(World.cell?_setCell_other _ _ _ _ (by simp<;>omega)).trans ((World.cell?_setCell_other _ _ _ _ (by simp<;>omega)).trans c3'),(World.cell?_setCell_other _ _ _ _ (by simp<;>omega)).trans ((World.cell?_setCell_other _ _ _ _ (by simp<;>omega)).trans c4'),(World.cell?_setCell_other _ _ _ _ (by simp<;>omega)).trans ((World.cell?_setCell_other _ _ _ _ (by simp<;>omega)).trans d1),(World.cell?_setCell_other _ _ _ _ (by simp<;>omega)).trans ((World.cell?_setCell_other _ _ _ _ (by simp<;>omega)).trans d2),(World.cell?_setCell_other _ _ _ _ (by simp<;>omega)).trans ((World.cell?_setCell_other _ _ _ _ (by simp<;>omega)).trans ra)⟩ (fun hS3=> ?_);clear hK K hS0 hS1 hS2 hS3;refine wpAnyH_done (by kernel_rfl) ?_ _;go_wp2_with fail
 exact hn (k+1) FrIs.mk' (by first | rfl | (push_cast;omega)) (by omega) (by omega) ⟨{ s with out:=s.out.set bn (s.r an),has:=s.has.set bn true},(VmAt.hand HV5.out bn (s.r an)).drew,HRUN.out.step HX.out B.exec_16,HOK.out.hand bn _ (HOK.out.reg an),((HB5.out.setCell (hand_base HV5.out).1 _).setCell (hand_base HV5.out).2 _).drew⟩
set_option maxRecDepth 1000000 in
set_option maxHeartbeats 12800000 in
theorem case17(hd:Hd (some ⟨b,off,none⟩) pa ia len cap pn pc im ic k n R G pv ov hv ps pay inp s w wr f)(hlt:k<len)(hx:ps[k]? =some ⟨17,an,bn,nn,mm⟩)(hok:B.OpOk 17 an bn nn mm pn im (len-k-1))
 (hn:Nx Q (some ⟨b,off,none⟩) pa ia len cap pn pc im ic R G pv ov hv ps pay inp w k n) (hr:Rt Q (some ⟨b,off,none⟩) pa ia len cap pn pc im ic R G ps pay inp w):Code.wp Tryz.prog bodyRun Q f wr:=by
 obtain⟨⟨h0,h1,h2,h3,h4⟩,g5,gf5,hGlt⟩:=hd.ahead hx;have HX:=hd' hx;have hnk:=hd.hnk;have hl:=hd.hl;rw[hd.fr.lit];clear hx;simp only at h0 h1 h2 h3 h4
 conv=>arg 2;whnf
 go_upto_region 12 with fail
 obtain⟨w5,hw5,HV5,HB5,⟨d0,d1,d2,d3,d4⟩,hXlt,HREG,fr,hbR,ra,c2,c3',c4',c5',ia0,ia1,HHG,HHD,HXO,HXH,HINP,HWI,HRUN,HOK⟩:=hd.behind HX.out hok.ha;rw[hw5];clear hw5 h0 h1 h2 h3 h4 g5 gf5 hGlt hd;generalize wr.heap.size=X at*;simp only[Nat.zero_add]at d0 d1 d2 d3 d4;have hsl:=hok.slot (by omega);obtain⟨n1,n64⟩:=hok.width (by omega)
 by_cases hm1:mm=1
 ·subst hm1
  have HD:Hid (decide (1=1)=true):=by show decide _=_;simp
  cases hf:B.fits (s.r an) nn true with
  | true=>
   have HF:=hd' hf;clear hf;go_wp2_with fail;refine wp_region_still_lit (by kernel_rfl) (by kernel_rfl) ?_
   repeat (first | still_step | still_call (fits_still (s.r an) nn _ _ _ n1 n64 (HOK.out.reg an) HF.out))
   refine wpStill_nil ?_;go_wp2_with fail;exact hn (k+1) FrIs.mk' (by first | rfl | (push_cast;omega)) (by omega) (by omega) ⟨s,HV5.out.drew,HRUN.out.step HX.out (B.exec_17y (by first | (rw[HD.out];exact HF.out) | simpa using HF.out)),HOK.out,HB5.out.drew⟩
  | false=>
   have HF:=hd' hf;clear hf;go_wp2_with fail;refine wp_region_still_lit (by kernel_rfl) (by kernel_rfl) ?_
   repeat (first | still_step | still_call (fits_still (s.r an) nn _ _ _ n1 n64 (HOK.out.reg an) HF.out))
   refine wpStill_nil ?_;have HV6:=hd' HV5.out.drew;go_wp2_with (refine store_ran (by rfl) _ _ (by rfl) (by rfl) (by rfl) HV6.out.res (by simp[Value.oneCell']) ?_;intro w6 l6 g6;have HG6:=hd' g6;have HL6:=hd' l6;clear l6 g6);exact hr FrIs.mk' rfl (fun j=>cell_of_row _ _ _ _ _ _ HL6.out) (run_met_fail (n:=n+1) (HRUN.out.fail HX.out (B.exec_17n (by first | (rw[HD.out];exact HF.out) | simpa using HF.out))) HG6.out HB5.out.drew (lR' _))
 ·have q1:((mm:Int)==1)=false:=by simp;omega
  have HD:Hid (decide (mm=1)=false):=by show decide _=_;simp;exact hm1
  clear hm1
  cases hf:B.fits (s.r an) nn false with
  | true=>
   have HF:=hd' hf;clear hf;go_wp2_with fail;refine wp_region_still_lit (by kernel_rfl) (by kernel_rfl) ?_
   repeat (first | still_step | still_call (fits_still (s.r an) nn _ _ _ n1 n64 (HOK.out.reg an) HF.out))
   refine wpStill_nil ?_;go_wp2_with fail;exact hn (k+1) FrIs.mk' (by first | rfl | (push_cast;omega)) (by omega) (by omega) ⟨s,HV5.out.drew,HRUN.out.step HX.out (B.exec_17y (by first | (rw[HD.out];exact HF.out) | simpa using HF.out)),HOK.out,HB5.out.drew⟩
  | false=>
   have HF:=hd' hf;clear hf;go_wp2_with fail;refine wp_region_still_lit (by kernel_rfl) (by kernel_rfl) ?_
   repeat (first | still_step | still_call (fits_still (s.r an) nn _ _ _ n1 n64 (HOK.out.reg an) HF.out))
   refine wpStill_nil ?_;have HV6:=hd' HV5.out.drew;go_wp2_with (refine store_ran (by rfl) _ _ (by rfl) (by rfl) (by rfl) HV6.out.res (by simp[Value.oneCell']) ?_;intro w6 l6 g6;have HG6:=hd' g6;have HL6:=hd' l6;clear l6 g6);exact hr FrIs.mk' rfl (fun j=>cell_of_row _ _ _ _ _ _ HL6.out) (run_met_fail (n:=n+1) (HRUN.out.fail HX.out (B.exec_17n (by first | (rw[HD.out];exact HF.out) | simpa using HF.out))) HG6.out HB5.out.drew (lR' _))
end Code
end Go.Proofs.YtljhklblbafjkaaGreatDoor
namespace Go.Proofs.YtljhklblbafjkaaGreatDoor
open Go.RowKit
namespace Code
def leftOf(len:Nat)(f:Act)(_:World):Nat:=len-(intOf (fsl f 11)).toNat
def VmI(a pa ia:Option Addr)(len cap pn pc im ic R G:Nat)(pv ov hv:Value)(ps:List B.Ins)(pay inp:List Nat)(w:World)(f:Act)(wr:World):Prop:=
 ∃k n:Nat,FrIs a pa ia len cap pn pc im ic w.heap.size R G (.int .i64 (k:Int)) f∧n≤k∧k≤len∧VmRel ps pay inp pn im w R G pv ov hv k n wr
theorem VmI.next{a pa ia:Option Addr}{len cap pn pc im ic R G:Nat}{pv ov hv:Value}{ps:List B.Ins}{pay inp:List Nat}{w:World}{Q0:Exit→Act→World→Prop}{f g:Act}{wr w':World}{k k' n:Nat}(hf:FrIs a pa ia len cap pn pc im ic w.heap.size R G (.int .i64 (k:Int)) f)(hg:FrIs a pa ia len cap pn pc im ic w.heap.size R G (.int .i64 (k':Int)) g)
    (hk:k<k') (hk':k'≤len) (hn:n≤k') (h:VmRel ps pay inp pn im w R G pv ov hv k' n w'):
    Exit.then (fun f' w'=>VmI a pa ia len cap pn pc im ic R G pv ov hv ps pay inp w f' w'∧leftOf len f' w'<leftOf len f wr) Q0 .normal g w':=by
 refine⟨⟨k',n,hg,hn,hk',h⟩, ?_⟩;unfold leftOf;rw[hf.h11,hg.h11];simp[intOf];omega
set_option maxRecDepth 1000000 in
set_option maxHeartbeats 12800000 in
theorem round_any(a pa ia:Option Addr)(len cap pn pc im ic R G:Nat)(pv ov hv:Value)(ps:List B.Ins)(pay inp:List Nat)(w:World)(hp:ProgAt w a len ps)(hm:B.MayRun ps pn im)(hinp:ListAt w ia im (inp.map u64V))(hwi:B.Words inp)(hl:len≤16384)(Q:Exit→Act→World→Prop)
    (hx0:Xt Q a pa ia len cap pn pc im ic R G pv ov hv ps pay inp w) (hr:Rt Q a pa ia len cap pn pc im ic R G ps pay inp w)
    (hpan:∀c (a:Act) d v w,Q (.panic c) (a.put (some d) v) w→Q (.panic c) a w)
    (f:Act) (wr:World) (hI:VmI a pa ia len cap pn pc im ic R G pv ov hv ps pay inp w f wr):Code.wp Tryz.prog bodyRun (Exit.then (fun f' w'=>VmI a pa ia len cap pn pc im ic R G pv ov hv ps pay inp w f' w'∧leftOf len f' w'<leftOf len f wr) Q) f wr:=by
 obtain⟨k,n,hf,hnk,hkl,s,hvm,hrun,hst,hb⟩:=hI;obtain⟨T,hT⟩:∃T,(Exit.then (fun f' w'=>VmI a pa ia len cap pn pc im ic R G pv ov hv ps pay inp w f' w'∧leftOf len f' w'<leftOf len f wr) Q)=T:=⟨_,rfl⟩
 have hn:Nx T a pa ia len cap pn pc im ic R G pv ov hv ps pay inp w k n:=by
  intro g i k' w' hg he h1 h2 h3;subst he;rw[←hT];exact VmI.next hf hg h1 h2 (by omega) h3
 have hex:Xt T a pa ia len cap pn pc im ic R G pv ov hv ps pay inp w:=by
  intro g x w' h1 h2;rw[←hT];exact hx0 h1 h2
 have hrt:Rt T a pa ia len cap pn pc im ic R G ps pay inp w:=by
  intro g x w' bn n h1 h2 h3 h4;rw[←hT];exact hr h1 h2 h3 h4
 have hpt:∀c (a:Act) d v w,T (.panic c) (a.put (some d) v) w→T (.panic c) a w:=by
  intro c a d v w h;rw[←hT]at h⊢;exact hpan c a d v w h
 rw[hT];have hd:Hd a pa ia len cap pn pc im ic k n R G pv ov hv ps pay inp s w wr f:=⟨hf,hp,hinp,hwi,hl,hnk,hvm,hrun,hst,hb⟩;clear hT hf hvm hrun hst hb
 by_cases hlt:k<len
 ·have hx:ps[k]? =some (ps[k]'(by have:=hp.len;omega)):=List.getElem?_eq_getElem _
  generalize ps[k]'(by have:=hp.len;omega)=x at hx;obtain⟨b,off,rfl,_,_⟩:=hp.at_ k x hx;have hr:=hm.ok.right k x hx;obtain⟨an,bn,nn,mm,hxe,hok⟩:=B.op_ok (size:=pn) (slots:=im) (left:=len-k-1) hr (by have:=hm.ok.touch k x hx;rw[show((len-k-1:Nat):Int)=(ps.length:Int)-k-1 by have:=hp.len;omega];exact this);have ho':=B.op_cases hr;clear hr;generalize x.op=o at hxe hok ho';subst hxe;rcases ho' with rfl | rfl | rfl | rfl | rfl | rfl | rfl | rfl | rfl | rfl | rfl | rfl | rfl | rfl | rfl | rfl | rfl | rfl | rfl | rfl
  ·exact case0 hd hlt hx hok hex
  ·exact case1 hd hlt hx hok hn
  ·exact case2 hd hlt hx hok hn
  ·exact case3 hd hlt hx hok hn
  ·exact case4 hd hlt hx hok hn
  ·exact case5 hd hlt hx hok hn
  ·exact case6 hd hlt hx hok hn
  ·exact case7 hd hlt hx hok hn
  ·exact case8 hd hlt hx hok hn
  ·exact case9 hd hlt hx hok hn
  ·exact case10 hd hlt hx hok hn
  ·exact case11 hd hlt hx hok hn
  ·exact case12 hd hlt hx hok hn
  ·exact case13 hd hlt hx hok hn
  ·exact case14 hd hlt hx hok hn
  ·exact case15 hd hlt hx hok hn
  ·exact case16 hd hlt hx hok hpt hn
  ·exact case17 hd hlt hx hok hn hrt
  ·exact case18 hd hlt hx hok hn
  ·exact case19 hd hlt hx hok hn
 ·exact caseEnd hd (by omega) hex
set_option maxRecDepth 1000000 in
set_option maxHeartbeats 12800000 in
theorem loop_any(a pa ia:Option Addr)(len cap pn pc im ic R G:Nat)(pv ov hv:Value)(ps:List B.Ins)(pay inp:List Nat)(w:World)(hp:ProgAt w a len ps)(hm:B.MayRun ps pn im)(hinp:ListAt w ia im (inp.map u64V))(hwi:B.Words inp)(hl:len≤16384)(Q:Exit→Act→World→Prop)
    (hx0:Xt Q a pa ia len cap pn pc im ic R G pv ov hv ps pay inp w) (hr:Rt Q a pa ia len cap pn pc im ic R G ps pay inp w)
    (hpan:∀c (a:Act) d v w,Q (.panic c) (a.put (some d) v) w→Q (.panic c) a w)
    (f:Act) (hf:FrIs a pa ia len cap pn pc im ic w.heap.size R G (.int .i64 0) f) (wr:World) (h:VmRel ps pay inp pn im w R G pv ov hv 0 0 wr):Code.wp Tryz.prog (Code.loop bodyRun) Q f wr:=
 wp_loop (VmI a pa ia len cap pn pc im ic R G pv ov hv ps pay inp w) (leftOf len) ⟨0,0,hf,lR' _,Nat.zero_le _,h⟩ (fun f w' hI=>round_any a pa ia len cap pn pc im ic R G pv ov hv ps pay inp w hp hm hinp hwi hl Q hx0 hr hpan f w' hI)
 end Code
 end Go.Proofs.YtljhklblbafjkaaGreatDoor
namespace Go.Proofs.YtljhklblbafjkaaGreatDoor
open Go.RowKit
namespace Code
attribute [local go_sem ↓] Go.wp_at_zero Go.wp_at_succ
set_option maxRecDepth 100000 in
set_option maxHeartbeats 1600000 in
theorem sameBytes_any(a b:Option Addr)(n ca m cb:Nat)(xs ys:List Nat)(w:World)(ha:ListAt w a n (xs.map u8V))(hb:ListAt w b m (ys.map u8V))(hn:n≤9223372036854775807):
    Calls Tryz.prog 12 #[.slice a n ca,.slice b m cb] w (fun e w'=>e= .returned (.bool (decide (xs=ys)))∧Below w.heap.size w w'):=by
 have hla:=ha.len;have hlb:=hb.len;rw[List.length_map]at hla hlb;have HA:=hd' ha;have HB:=hd' hb;have HLA:=hd' hla;have HLB:=hd' hlb;clear ha hb hla hlb
 by_cases hnm:n=m
 ·subst hnm
  go_enter Tryz.func12,Tryz.ntmps12;go_wp2_with fail
  go_loopw [5] (fun i wr=>∃k:Nat,k≤n∧i= .int .i64 k∧xs.take k=ys.take k∧Below w.heap.size w wr) (fun i _=>n-(intOf i).toNat)
  case atStart=>exact⟨0,Nat.zero_le _,rfl,by simp,Below.refl _ _⟩
  case round=>
   obtain⟨k,hk,rfl,he,hbl⟩:=hrel;have HE:=hd' he;have HBL:=hd' hbl;clear he hbl
   by_cases hlt:k<n
   ·have hx:xs[k]? =some (xs[k]'(by have:=HLA.out;omega)):=List.getElem?_eq_getElem _
    have hy:ys[k]? =some (ys[k]'(by have:=HLB.out;omega)):=List.getElem?_eq_getElem _;generalize xs[k]'(by have:=HLA.out;omega)=x at hx;generalize ys[k]'(by have:=HLB.out;omega)=y at hy;obtain⟨b1,o1,rfl,hl1,hc1⟩:=HA.out.at_ k (u8V x) (by rw[List.getElem?_map,hx];rfl);obtain⟨b2,o2,rfl,hl2,hc2⟩:=HB.out.at_ k (u8V y) (by rw[List.getElem?_map,hy];rfl);replace hc1:=(HBL.out.cell (p:=⟨b1,o1+k,none⟩) hl1).trans hc1;replace hc2:=(HBL.out.cell (p:=⟨b2,o2+k,none⟩) hl2).trans hc2;unfold u8V at hc1 hc2;have HX:=hd' hx;have HY:=hd' hy;clear hx hy hl1 hl2
    by_cases hxy:x=y
    ·have q1:((x:Int) !=(y:Int))=false:=by simp;omega
     have HXY:=hd' hxy;clear hxy;go_wp2_with fail;refine wp_region_still_lit (by kernel_rfl) (by kernel_rfl) ?_
     repeat still_step
     refine wpStill_nil ?_;go_wp2_with fail;go_roundw
     case rel=>exact⟨k+1,by omega,by go_num,by rw[List.take_add_one,List.take_add_one,HX.out,HY.out,HE.out,HXY.out],HBL.out.drew⟩
     case measure=>simp[intOf];omega
    ·have q1:((x:Int) !=(y:Int))=true:=by simp;omega
     have HXY:=hd' hxy;clear hxy;go_wp2_with fail;refine wp_region_still_lit (by kernel_rfl) (by kernel_rfl) ?_
     repeat still_step
     refine wpStill_nil ?_;go_wp2_with fail;go_ret;refine⟨ret_bool ?_,HBL.out.drew⟩
     symm
     rw[decide_eq_false_iff_not];rintro rfl;have:=HX.out.symm.trans HY.out;exact HXY.out (by simpa using this)
   ·obtain rfl:k=n:=by omega
    go_wp2_with fail;go_ret;refine⟨ret_bool ?_,HBL.out⟩
    symm
    rw[decide_eq_true_iff];have:=HE.out;rw[List.take_of_length_le (by have:=HLA.out;omega),List.take_of_length_le (by have:=HLB.out;omega)]at this;exact this
 ·have q0:((n:Int) !=(m:Int))=true:=by simp;omega
  have HNM:=hd' hnm;clear hnm;go_enter Tryz.func12,Tryz.ntmps12;go_wp2_with fail;go_ret;refine⟨ret_bool ?_,Below.refl _ _⟩
  symm
  rw[decide_eq_false_iff_not];rintro rfl;exact HNM.out (HLA.out.trans HLB.out.symm)
end Code
end Go.Proofs.YtljhklblbafjkaaGreatDoor
namespace Go.Proofs.YtljhklblbafjkaaGreatDoor
open Go.RowKit
namespace Code
attribute [local go_sem ↓] Go.wp_at_zero Go.wp_at_succ
set_option maxRecDepth 1000000 in
set_option maxHeartbeats 12800000 in
theorem run_yes(a pa ia:Option Addr)(len cap pn pc im ic:Nat)(ps:List B.Ins)(pay inp:List Nat)(w:World)(hp:ProgAt w a len ps)(hwf:∀y∈ps,y.Wf)(ht:Tabs w)(hr:len≤9223372036854775807)(hm:B.MayRun ps pn im)
    (hpay:ListAt w pa pn (pay.map u8V)) (hinp:ListAt w ia im (inp.map u64V)) (hby:B.Bytes pay) (hwi:B.Words inp):
    Calls Tryz.prog 9 #[.slice a len cap,.slice pa pn pc,.slice ia im ic] w (RunOut (B.run ps inp 0 (B.start pay im)) pn im w):=by
 have HP:=hd' hp;have HT:=hd' ht;have HM:=hd' hm;have HWF:=hd' hwf;have HPAY:=hd' hpay;have HINP:=hd' hinp;have HWI:=hd' hwi;have HST:=hd' (by have:=hpay.len;rw[List.length_map]at this;subst this;exact B.start_ok im hby:B.StOk pn im (B.start pay im))
 have hpn:pn≤8:=by have:=hm.hsize;omega
 have him:im≤64:=by have:=hm.hslots;omega
 clear hp ht hm hwf hpay hinp hby hwi;go_enter Tryz.func9,Tryz.ntmps9;go_wp2_with fail
 go_step3
 go_wp2_with fail;refine(program_yes a len cap ps pn im _ (HP.out.below ((Below.refl _ _).alloc (lR' _) _) (lR' _)) HWF.out (HT.out.alloc _) hr HM.out).mono ?_;rintro e w1 ⟨rfl,hb1⟩;have hL1:=(hb1.block w.heap.size (by simp)).trans (heap_alloc_new w _);have hs1:=hb1.size
 have HX1:Hid (Frst w (w1.alloc (.cells #[.int .u64 0,.int .u64 0,.int .u64 0,.int .u64 0,.int .u64 0,.int .u64 0,.int .u64 0,.int .u64 0,.int .u64 0,.int .u64 0,.int .u64 0,.int .u64 0,.int .u64 0,.int .u64 0,.int .u64 0,.int .u64 0] 80)) w.heap.size w1.heap.size):=
  ⟨⟨_,blk_ext hL1 (World.grownBy_alloc _ _ _),rfl⟩,heap_alloc_new w1 _,lR' _,by simp at hs1;omega,(((Below.refl w.heap.size w).alloc (lR' _) _).trans (hb1.mono (by simp))).alloc (by simp at hs1;omega) _⟩
 clear hb1 hL1 hs1
 go_upto_region 5 with fail
 obtain⟨w2,hw2⟩:∃w2,w1.alloc (.cells #[.int .u64 0,.int .u64 0,.int .u64 0,.int .u64 0,.int .u64 0,.int .u64 0,.int .u64 0,.int .u64 0,.int .u64 0,.int .u64 0,.int .u64 0,.int .u64 0,.int .u64 0,.int .u64 0,.int .u64 0,.int .u64 0] 80)=w2:=⟨_,rfl⟩;rw[hw2]
 have HX:Hid (Frst w w2 w.heap.size w1.heap.size):=by have:=HX1.out;rw[hw2]at this;exact this
 clear hw2 HX1;generalize w1.heap.size=R at*;have hs2:w.heap.size≤w2.heap.size:=HX.out.below.size;have HL:Hid (ListAt w2 pa pn (pay.map u8V)):=HPAY.out.below HX.out.below (lR' _)
 go_cut [10] (fun s10 wx=>Made w w.heap.size R pay im s10 wx)
 case first=>
  have hT:Hid (∀(G:Nat) {w8 w9:World},w2.heap.size≤G→w2.grownBy w8 none→w8.grownBy w9 (some G)→w2.grownBy w9 none):=by
   show∀(G:Nat) {w8 w9:World},_
   intro G w8 w9 hG h1 h2;exact⟨h2.os.trans h1.os,h2.tape.trans h1.tape,h2.output.trans h1.output,Nat.le_trans h1.size h2.size,fun k hk _=>(h2.block k (Nat.lt_of_lt_of_le hk h1.size) (by simp;omega)).trans (h1.block k hk (by simp))⟩
  refine wp_region_held_drew (S:=fun w'=>w2.grownBy w' none) (by kernel_rfl) ⟨rfl,rfl,rfl,lR' _,fun _ _ _=>rfl⟩ (fun hS0=> ?_);refine take_val (i:=0) (d:=23) (v:=.slice pa pn pc) rfl rfl rfl (by kernel_rfl) (by kernel_rfl) (by kernel_rfl) (fun _ _ _ h=>h) (fun w'=>by go_simp) hS0 ?_;simp only[Act.put,sA',sZ',sS'];refine take_val (i:=2) (d:=25) (v:=.slice ia im ic) rfl rfl rfl (by kernel_rfl) (by kernel_rfl) (by kernel_rfl) (fun _ _ _ h=>h) (fun w'=>by go_simp) hS0 ?_;simp only[Act.put,sA',sZ',sS'];refine take_val (i:=3) (d:=26) (v:=.int .i64 im) rfl rfl rfl (by kernel_rfl) (by kernel_rfl) (by kernel_rfl) (fun _ _ _ h=>h) (fun w'=>by go_simp) hS0 ?_;simp only[Act.put,sA',sZ',sS'];refine take_val (i:=5) (d:=28) (v:=.slice ia im ic) rfl rfl rfl (by kernel_rfl) (by kernel_rfl) (by kernel_rfl) (fun _ _ _ h=>h) (fun w'=>by go_simp) hS0 ?_;simp only[Act.put,sA',sZ',sS']
  refine take_val (i:=6) (d:=29) (v:=.int .i64 im) rfl rfl rfl (by kernel_rfl) (by kernel_rfl) (by kernel_rfl) (fun _ _ _ h=>h) (fun w'=>by go_simp) hS0 ?_;simp only[Act.put,sA',sZ',sS'];refine region5 rfl rfl rfl rfl rfl rfl rfl rfl rfl rfl rfl rfl rfl rfl rfl rfl (by kernel_rfl) (by kernel_rfl) (by kernel_rfl) (by kernel_rfl) (by kernel_rfl) (by kernel_rfl) (by kernel_rfl) (by kernel_rfl) (by kernel_rfl) (by kernel_rfl) (by kernel_rfl) (by kernel_rfl) (by kernel_rfl) (by kernel_rfl) w.heap.size rfl rfl rfl HL.out (by omega) (by omega) hs2 hS0 ?_ ?_
  ·intro ao' cap' b1 b2 G w8 f1 f4 f7 f9 hGs hS8
   simp only[Act.put,sA',sZ',sS'];refine region5b (a2:=ao') (n2:=pn) (k2:=cap') (a3:=some ⟨b1,0,none⟩) (n3:=im) (k3:=im) (a4:=some ⟨b2,0,none⟩) (n4:=im) (k4:=im) rfl rfl rfl rfl rfl rfl rfl rfl (by kernel_rfl) (by kernel_rfl) (by kernel_rfl) (by kernel_rfl) (by kernel_rfl) ?hQ ?hsz ?e2 ?e3 ?e4 ?e10 f9 rfl hS8 (fun w9 hg9=>hT.out G hGs hS8 hg9) ?hrest
   case hQ=>exact fun _ _ _ _ h=>h
   case hsz=>simp
   case e2=>simp[Act.eval]
   case e3=>simp[Act.eval]
   case e4=>simp[Act.eval]
   case e10=>simp[Act.eval]
   intro w9 f9' hg9;simp only[Act.put,sA',sZ',sS'];go_wp2_with fail;go_meet;exact vm_met HX.out hS8 hGs f1 f4 f7 f9 f9' hg9
  ·intro ao' cap' b1 b2 w7 f1 f4 f7 hS7
   simp only[Act.put,sA',sZ',sS'];refine region5c (a2:=ao') (n2:=pn) (k2:=cap') (a3:=some ⟨b1,0,none⟩) (n3:=im) (k3:=im) (a4:=some ⟨b2,0,none⟩) (n4:=im) (k4:=im) rfl rfl rfl rfl rfl rfl rfl rfl rfl rfl rfl rfl (by kernel_rfl) (by kernel_rfl) (by kernel_rfl) (by kernel_rfl) (by kernel_rfl) (by kernel_rfl) ?hQ2 ?hsz2 ?e22 ?e32 ?e42 hS7 hT.out ?hrest2
   case hQ2=>exact fun _ _ _ _ h=>h
   case hsz2=>simp
   case e22=>simp[Act.eval]
   case e32=>simp[Act.eval]
   case e42=>simp[Act.eval]
   intro G w8 w9 hg8 hS8 hGs f9 f9' hg9;simp only[Act.put,sA',sZ',sS'];go_wp2_with fail;go_meet;exact vm_met HX.out hS8 hGs (own_ext f1 hg8) (own_ext f4 hg8) (own_ext f7 hg8) f9 f9' hg9
 case rest=>
  obtain⟨G,pv,ov,hv,rfl,hvm,hbx⟩:=hcut;have HREL:=hd' (show VmRel ps pay inp pn im w _ G pv ov hv 0 0 _ from⟨_,hvm,B.RunTo.zero _ _ _,HST.out,hbx⟩)
  have hl16:len≤16384:=by have:=HM.out.len;have:=HP.out.len;omega
  clear hvm hbx;go_wp2_with fail
  go_step3
  go_wp2_with fail;refine loop_any a pa ia len cap pn pc im ic _ _ _ _ _ ps pay inp w HP.out HM.out HINP.out HWI.out hl16 _ ?hex ?hrt ?hpan _ FrIs.mk' _ HREL.out
  case hex=>
   intro g x w' hg ⟨s,n,hvm,hrun,hst,hb⟩;rw[hg.lit];clear hg;have HV:=hd' hvm;have HRUN:=hd' hrun;have HOK:=hd' hst;have HB:=hd' hb;have hG:=hvm.ran
   have c0:w'.cell? ⟨G,0,none⟩=some (.bool false):=by rw[cell_of_row _ _ _ _ _ _ hG];rfl
   have c1:w'.cell? ⟨G,1,none⟩=some (.int .i64 0):=by rw[cell_of_row _ _ _ _ _ _ hG];rfl
   have c2:w'.cell? ⟨G,2,none⟩=some pv:=by rw[cell_of_row _ _ _ _ _ _ hG];rfl
   have c3:w'.cell? ⟨G,3,none⟩=some ov:=by rw[cell_of_row _ _ _ _ _ _ hG];rfl
   have c4:w'.cell? ⟨G,4,none⟩=some hv:=by rw[cell_of_row _ _ _ _ _ _ hG];rfl
   have c5:w'.cell? ⟨G,5,none⟩=some (.int .i64 (n:Int)):=by rw[cell_of_row _ _ _ _ _ _ hG];rfl
   clear hvm hrun hst hb hG HREL;go_wp2_with (refine store_ran (by rfl) _ _ (by rfl) (by rfl) (by rfl) HV.out.res (vm_ones HV.out _) ?_;intro w6 l6 g6;have HG6:=hd' g6;have HL6:=hd' l6;clear l6 g6);refine bodyPost_ret (v:=.tuple #[.agg #[.bool false,.int .i64 0,pv,ov,hv,.int .i64 (n:Int)],.nilIface]) ?_ rfl (run_met_done HRUN.out HOK.out HV.out HG6.out HB.out)
   have hk:∀j:Nat,w6.cell? ⟨w.heap.size,j,none⟩=(#[.bool false,.int .i64 0,pv,ov,hv,.int .i64 (n:Int)]:Array Value)[j]? :=fun j=>cell_of_row _ _ _ _ _ _ HL6.out
   have k0:=(hk 0).trans rfl;have k1:=(hk 1).trans rfl;have k2:=(hk 2).trans rfl;have k3:=(hk 3).trans rfl;have k4:=(hk 4).trans rfl;have k5:=(hk 5).trans rfl;simp[results,Tryz.results9,go_sem,k0,k1,k2,k3,k4,k5]
  case hpan=>exact fun _ _ _ _ _ h=>h
  case hrt=>
   intro g x w' bn n hg h7 hk hrun;rw[hg.lit,h7];clear hg h7;have k0:=(hk 0).trans rfl;have k1:=(hk 1).trans rfl;have k2:=(hk 2).trans rfl;have k3:=(hk 3).trans rfl;have k4:=(hk 4).trans rfl;have k5:=(hk 5).trans rfl;exact bodyPost_ret (v:=.tuple #[.agg #[.bool true,.int .i64 (bn:Int),.slice none 0 0,.slice none 0 0,.slice none 0 0,.int .i64 ((n:Int)+1)],.nilIface]) (by simp[results,Tryz.results9,go_sem,k0,k1,k2,k3,k4,k5]) rfl hrun
end Code
end Go.Proofs.YtljhklblbafjkaaGreatDoor
namespace Go.Proofs.YtljhklblbafjkaaGreatDoor
open Go.RowKit
namespace Code
attribute [local go_sem ↓] Go.wp_at_zero Go.wp_at_succ
theorem own_form{w:World}{base E n:Nat}{v:Value}{xs:List Value}(h:w.ownsRow base E 1 v n xs):∃a c,v= .slice a n c:=by
 rcases h.2 with⟨rfl,h0⟩ | ⟨g,c,cur,rfl,_⟩
 ·subst h0
  exact⟨_,_,rfl⟩
 ·exact⟨_,_,rfl⟩
def fl(r:B.Out):Bool:=r.failed.isSome
def slotOf(r:B.Out):Int:=r.failed.getD 0
def payL(r:B.Out):List Nat:=if r.failed.isSome then []else r.st.pay
def outL(r:B.Out):List Nat:=if r.failed.isSome then []else r.st.out
def hasL(r:B.Out):List Bool:=if r.failed.isSome then []else r.st.has
structure Same(r r':B.Out):Prop where
 fl:fl r'=fl r
 slot:slotOf r'=slotOf r
 pay:payL r'=payL r
 out:outL r'=outL r
 has:hasL r'=hasL r
theorem Same.refl(r:B.Out):Same r r:=⟨rfl,rfl,rfl,rfl,rfl⟩
end Code
end Go.Proofs.YtljhklblbafjkaaGreatDoor
