/- FuseRuns, as a contract: the law of every input, without card. -/
import Derived.Test.YtpibampaobncaaaGreatDoorFrQ
import Derived.Test.YtpibampaobncaaaGreatDoorFusQ
import Derived.Test.YtpibampaobncaaaGreatDoorMoreQ
import Derived.Test.YtpibampaobncaaaGreatDoorLdrQ
import Derived.Test.YtpibampaobncaaaGreatDoorRefW
import Derived.Test.YtpibampaobncaaaGreatDoorBaseQ
import Derived.Test.YtpibampaobncaaaGreatDoorErrQ
open Go.Lib renaming hid→hd'
open Nat renaming le_refl→lR'
namespace Go.Proofs.YtpibampaobncaaaGreatDoor
open Go.RowKit Go.Proofs.YtpibampaobncaaaGreatDoor.Code
namespace LawFuseRuns
attribute [local go_sem ↓] Go.wp_at_zero Go.wp_at_succ
theorem er_plain{n:Int}(h:0≤n∧n≤26):plainB (erOf (n,none)) n=true:=by
 unfold plainB erOf
 by_cases h0:n=0
 ·subst h0;rfl
 ·simp only[if_neg h0,Er.num,Er.place]
  have:((n.toNat:Nat):Int)=n:=by omega
  simp[this]
theorem er_at{n:Int}(h:0≤n∧n≤26)(i:Nat):atB (erOf (n,some i)) n 0 i=true:=by
 unfold atB erOf
 by_cases h0:n=0
 ·subst h0;rfl
 ·simp only[if_neg h0,Er.num,Er.place]
  have:((n.toNat:Nat):Int)=n:=by omega
  simp[this]
set_option maxRecDepth 100000 in
set_option maxHeartbeats 1600000 in
theorem told_plain(e:Er)(h:e.ok)(n:Int)(w:World)(hg:ErrVar w):Calls Tryz.prog 22 #[e.val,.int .i64 n,.int .i64 (-1)] w (BoolOut (plainB e n) w):=by
 have HC:=hd' (plain_any e h n w hg);generalize e.val=v at*;clear hg;go_enter Tryz.func22,Tryz.ntmps22;go_wp2_with fail;refine HC.out.mono ?_;rintro e w1 ⟨rfl,hb1⟩;have HB:=hd' hb1;clear hb1 HC;go_wp2_with fail;go_ret;exact⟨rfl,HB.out⟩
set_option maxRecDepth 100000 in
set_option maxHeartbeats 1600000 in
theorem told_at(e:Er)(h:e.ok)(n:Int)(i:Nat)(w:World)(hg:ErrVar w):Calls Tryz.prog 22 #[e.val,.int .i64 n,.int .i64 (i:Int)] w (BoolOut (atB e n 0 i) w):=by
 have HC:=hd' (at_any e h n 0 i w hg);generalize e.val=v at*;clear hg
 have i0:¬((i:Int)<0):=by omega
 go_enter Tryz.func22,Tryz.ntmps22;go_wp2_with fail;refine HC.out.mono ?_;rintro e w1 ⟨rfl,hb1⟩;have HB:=hd' hb1;clear hb1 HC;go_wp2_with fail;go_ret;exact⟨rfl,HB.out⟩
theorem program_nz{ps:List B.Ins}{size slots:Int}(hm:¬B.MayRun ps size slots):(B.program ps size slots).1≠0:=by
 intro h0;apply hm;rw[←B.program_ok];generalize hq:B.program ps size slots=r at h0⊢;obtain⟨n,o⟩:=r;simp only at h0;subst h0
 cases o with
 | none=>rfl
 | some i=>
  exfalso;unfold B.program at hq;split at hq
  ·simp at hq
  ·split at hq
   ·simp at hq
   ·cases hf:B.firstTouch size slots ps.length 0 ps with
    | some p=>
     obtain⟨e,j⟩:=p;rw[hf]at hq;simp at hq;exact firstTouch_ne _ _ _ _ hf hq.1
    | none=>
     rw[hf]at hq
     cases hfr:B.firstRead ps with
     | none=>rw[hfr]at hq;simp at hq
     | some k=>rw[hfr]at hq;simp at hq
theorem lists_two{w:World}{N:Nat}{a1 a2:Option Addr}{m c1 c2:Nat}{q:List B.Ins}(h1:OwnP w N a1 m c1 q)(h2:OwnP w N a2 m c2 q)(hne:∀g,a1=some ⟨g,0,none⟩→a2≠some ⟨g,0,none⟩):
    Lists N w.heap.size (fun k=>if k=0 then a1 else a2) (fun _=>m) (fun k=>if k=0 then c1 else c2) (fun _=>q) (w.alloc (.cells #[.slice a1 m c1,.slice a2 m c2] 26)):=by
 refine⟨heap_alloc_new w _,fun k hk=> ?_,fun j k g hj hk hjk=> ?_⟩
 ·by_cases e:k=0
  ·subst e;exact h1.kept ((Below.refl _ _).alloc (lR' _) _)
  ·simp only[if_neg e];exact h2.kept ((Below.refl _ _).alloc (lR' _) _)
 ·have:(j=0∧k=1)∨(j=1∧k=0):=by omega
  rcases this with⟨rfl,rfl⟩ | ⟨rfl,rfl⟩
  ·exact hne g
  ·intro h2 h1;exact hne g h1 h2
theorem progAt_nil(w:World):ProgAt w none 0 []:=⟨rfl,fun i x h=>by simp at h⟩
set_option maxRecDepth 100000 in
set_option maxHeartbeats 3200000 in
theorem law(a0:Option Addr)(len0 cap0:Nat)(ps0:List B.Ins)(n1:Int)(n2:Int)(w:World)(hp0:ProgAt w a0 len0 ps0)(hwf0:∀y∈ps0,y.Wf)(hl0:len0*40≤140737488351232)(hn0:a0=none→cap0=0)(hR:Ready w)(hi1:B.In64 n1)(hi2:B.In64 n2):
    Calls Tryz.prog 14 #[.slice a0 len0 cap0,.int .i64 n1,.int .i64 n2] w (BoolOut true w):=by
 have _U0:=hd' hn0;have _U1:=hd' hi1;have _U2:=hd' hi2;have HP:=hd' hp0;have HWF:=hd' hwf0;have HR:=hd' hR;have HL0:=hd' hl0
 have hlw:len0≤9223372036854775807:=by omega
 clear hp0 hwf0 hn0 hR hi1 hi2 hl0
 by_cases hm:B.MayRun ps0 n1 n2
 ·have HM:=hd' hm
  have hlen:len0≤16384:=by rw[HP.out.len];exact hm.len
  have hql:(B.fuse ps0).length≤16384:=by have h1:=B.fuse_len hm.ok;have:=hm.len;omega
  clear hm;go_enter Tryz.func14,Tryz.ntmps14;go_wp2_with fail;refine(lent_any a0 len0 cap0 ps0 _ HP.out HL0.out).mono ?_;rintro e w1 ⟨ao,cp,rfl,hown,hb1⟩;have HO:=hd' hown;have HCP:Hid (len0≤cp):=hd' (by have:=hown.capLe2;omega);have HB1:=hd' hb1;have hs1:=hb1.size;clear hown hb1;go_wp2_with fail;refine(fuse_yes ao len0 cp HCP.out ps0 n1 n2 _ (HO.out.ahead HP.out.len) HWF.out (HR.out.tabs.below HB1.out (lR' _)) HM.out).mono ?_;rintro e w2 ⟨ao1,cp1,rfl,hown,hb2⟩;have HX2:=hd' (HO.out.kept hb2);have HD1:=hd' hown;have HN2:=hd' hb2;have HB2:=hd' (HB1.out.trans (hb2.mono hs1));have hs2:=HB2.out.size;have hs12:=hb2.size;clear hown hb2;go_wp2_with fail;refine(fuse_yes ao len0 cp HCP.out ps0 n1 n2 _ (HX2.out.ahead HP.out.len) HWF.out (HR.out.tabs.below HB2.out (lR' _)) HM.out).mono ?_;rintro e w3 ⟨ao2,cp2,rfl,hown,hb3⟩
  have HD13:=hd' (HD1.out.kept hb3)
  have HNE:Hid (∀g,ao1=some ⟨g,0,none⟩→ao2≠some ⟨g,0,none⟩):=hd' (fun g h1 h2=>by
   have q1:=HD1.out.own.lt g (by rw[h1];rfl);have q2:=hown.own.lt g (by rw[h2];rfl)
   omega)
  have HD2:Hid (OwnP w3 w1.heap.size ao2 (B.fuse ps0).length cp2 (B.fuse ps0)):=hd' ⟨hown.len,own_mono18 hown.own hs12⟩;have HN3:=hd' (HN2.out.trans (hb3.mono hs12));have HB3:=hd' (HB2.out.trans (hb3.mono hs2));have hs3:=HB3.out.size;clear hown hb3 HX2 HN2 HD1;go_wp2_with fail;refine(fuse18_yes a0 len0 cap0 ps0 n1 n2 _ (HP.out.below HB3.out (lR' _)) HWF.out HM.out).mono ?_;rintro e w4 ⟨ao3,cp3,rfl,hown,hb4⟩;have HD3:=hd' hown;have HN4:=hd' (HN3.out.trans (hb4.mono HN3.out.size));have HB4:=hd' (HB3.out.trans (hb4.mono hs3));have HE1:=hd' (HD13.out.kept hb4);have HE2:=hd' (HD2.out.kept hb4);have hs4:=HB4.out.size;clear hown hb4 HN3 HD13 HD2;go_wp2_with fail;refine(sameInstrs_yes ao1 ao3 _ cp1 _ cp3 (B.fuse ps0) _ HE1.out.progAt HD3.out.progAt (by omega)).mono ?_;rintro e w5 ⟨rfl,hb⟩;have HN5:=hd' (HN4.out.trans (hb.mono HN4.out.size));have HB5:=hd' (HB4.out.trans (hb.mono hs4))
  have HF1:=hd' (HE1.out.kept hb);have HF2:=hd' (HE2.out.kept hb);have HF3:=hd' (HD3.out.kept hb);have hs5:=HB5.out.size;clear hb HN4 HE1 HE2 HD3;have HE1:=HF1;have HE2:=HF2;have HD3:=HF3;clear HF1 HF2 HF3;go_wp2_with fail;refine(sameInstrs_yes ao2 ao3 _ cp2 _ cp3 (B.fuse ps0) _ HE2.out.progAt HD3.out.progAt (by omega)).mono ?_;rintro e w6 ⟨rfl,hb⟩;have HN6:=hd' (HN5.out.trans (hb.mono HN5.out.size));have HB6:=hd' (HB5.out.trans (hb.mono hs5));have HF1:=hd' (HE1.out.kept hb);have HF2:=hd' (HE2.out.kept hb);have hs6:=HB6.out.size;clear hb HN5 HE1 HE2;have HE1:=HF1;have HE2:=HF2;clear HF1 HF2;go_wp2_with fail;refine(told_plain .nil trivial 0 _ (HR.out.err.below HB6.out (lR' _))).mono ?_;rintro e w7 ⟨rfl,hb⟩;have HN7:=hd' (HN6.out.trans (hb.mono HN6.out.size));have HB7:=hd' (HB6.out.trans (hb.mono hs6));have HF1:=hd' (HE1.out.kept hb);have HF2:=hd' (HE2.out.kept hb);have hs7:=HB7.out.size
  clear hb HN6 HE1 HE2;have HE1:=HF1;have HE2:=HF2;clear HF1 HF2;rw[show plainB .nil 0=true from rfl];go_wp2_with fail;refine(told_plain .nil trivial 0 _ (HR.out.err.below HB7.out (lR' _))).mono ?_;rintro e w8 ⟨rfl,hb⟩;have HN8:=hd' (HN7.out.trans (hb.mono HN7.out.size));have HB8:=hd' (HB7.out.trans (hb.mono hs7));have HF1:=hd' (HE1.out.kept hb);have HF2:=hd' (HE2.out.kept hb);have hs8:=HB8.out.size;clear hb HN7 HE1 HE2;have HE1:=HF1;have HE2:=HF2;clear HF1 HF2;rw[show plainB .nil 0=true from rfl];have HLS:=hd' (lists_two HE1.out HE2.out HNE.out);have hn18:=HN8.out.size;have HAP:=hd' (apart_any w1.heap.size w8.heap.size _ _ _ _ _ HLS.out (fun _=>by omega) (by simp;omega) (by simp) hn18);have HN9:=hd' (HN8.out.alloc hn18 (.cells #[.slice ao1 (B.fuse ps0).length cp1,.slice ao2 (B.fuse ps0).length cp2] 26));clear HLS;go_wp2_with fail;refine HAP.out.mono ?_
  rintro e w9 ⟨rfl,hb⟩;have HX9:=hd' (HO.out.kept (HN9.out.trans hb));have HB9:=hd' (HB1.out.trans ((HN9.out.trans hb).mono hs1));have hs9:=HB9.out.size;clear hb HAP HN9;go_wp2_with fail;refine(kept_any ao cp a0 len0 cap0 _ ps0 _ HX9.out (HP.out.below HB9.out (lR' _)) HL0.out).mono ?_;rintro e w10 ⟨rfl,hb⟩;have HB10:=hd' (HB9.out.trans (hb.mono hs9));clear hb;go_wp2_with fail;go_ret;exact⟨rfl,HB10.out⟩
 ·have HMN:=hd' hm
  have HZ:=hd' (program_nz hm);have HRG:=hd' (program_range ps0 n1 n2);have HOK:=hd' (progEr_ok ps0 n1 n2);have HER:Hid (progEr ps0 n1 n2=erOf (B.program ps0 n1 n2)):=hd' rfl;have HRF:Hid (∀w1,ProgAt w1 a0 len0 ps0→Calls Tryz.prog 21 #[.slice a0 len0 cap0,.int .i64 n1,.int .i64 n2] w1 (RFuseNo (B.program ps0 n1 n2) w1)):=hd' (fun w1 h1=>fuse18_no a0 len0 cap0 ps0 n1 n2 w1 h1 HWF.out hlw HZ.out);obtain⟨r,hr⟩:∃r,B.program ps0 n1 n2=r:=⟨_,rfl⟩;rw[hr]at HRF HRG HER;clear hr hm HZ;obtain⟨no,o⟩:=r;go_enter Tryz.func14,Tryz.ntmps14;go_wp2_with fail;refine(lent_any a0 len0 cap0 ps0 _ HP.out HL0.out).mono ?_;rintro e w1 ⟨ao,cp,rfl,hown,hb1⟩;have HO:=hd' hown;have HB1:=hd' hb1;have hs1:=hb1.size;clear hown hb1;go_wp2_with fail
  refine(fuse_no ao len0 cp ps0 n1 n2 _ (HO.out.ahead HP.out.len) HWF.out (HR.out.tabs.below HB1.out (lR' _)) hlw HMN.out).mono ?_;rintro e w2 ⟨rfl,hb⟩;have HN2:=hd' hb;have HX2:=hd' (HO.out.kept hb);have HB2:=hd' (HB1.out.trans (hb.mono hs1));have hs2:=HB2.out.size;clear hb;go_wp2_with fail;refine(fuse_no ao len0 cp ps0 n1 n2 _ (HX2.out.ahead HP.out.len) HWF.out (HR.out.tabs.below HB2.out (lR' _)) hlw HMN.out).mono ?_;rintro e w3 ⟨rfl,hb⟩;have HN3:=hd' (HN2.out.trans (hb.mono HN2.out.size));have HB3:=hd' (HB2.out.trans (hb.mono hs2));have hs3:=HB3.out.size;clear hb HN2;clear HX2;go_wp2_with fail;refine(HRF.out _ (HP.out.below HB3.out (lR' _))).mono ?_;rintro e w4 ⟨rfl,hb⟩;have HN4:=hd' (HN3.out.trans (hb.mono HN3.out.size));have HB4:=hd' (HB3.out.trans (hb.mono hs3));have hs4:=HB4.out.size;clear hb HN3;clear HRF;go_wp2_with fail
  refine(sameInstrs_yes none none 0 0 0 0 [] _ (progAt_nil _) (progAt_nil _) (by omega)).mono ?_;rintro e w5 ⟨rfl,hb⟩;have HN5:=hd' (HN4.out.trans (hb.mono HN4.out.size));have HB5:=hd' (HB4.out.trans (hb.mono hs4));have hs5:=HB5.out.size;clear hb HN4;go_wp2_with fail;refine(sameInstrs_yes none none 0 0 0 0 [] _ (progAt_nil _) (progAt_nil _) (by omega)).mono ?_;rintro e w6 ⟨rfl,hb⟩;have HN6:=hd' (HN5.out.trans (hb.mono HN5.out.size));have HB6:=hd' (HB5.out.trans (hb.mono hs5));have hs6:=HB6.out.size;clear hb HN5;go_wp2_with fail
  cases o with
  | none=>
   have HPL:=hd' (er_plain HRG.out);rw[←HER.out]at HPL;refine(told_plain (progEr ps0 n1 n2) HOK.out no _ (HR.out.err.below HB6.out (lR' _))).mono ?_;rintro e w7 ⟨rfl,hb⟩;have HN7:=hd' (HN6.out.trans (hb.mono HN6.out.size));have HB7:=hd' (HB6.out.trans (hb.mono hs6));have hs7:=HB7.out.size;clear hb HN6;rw[HPL.out];go_wp2_with fail;refine(told_plain (progEr ps0 n1 n2) HOK.out no _ (HR.out.err.below HB7.out (lR' _))).mono ?_;rintro e w8 ⟨rfl,hb⟩;have HN8:=hd' (HN7.out.trans (hb.mono HN7.out.size));have HB8:=hd' (HB7.out.trans (hb.mono hs7));have hs8:=HB8.out.size;clear hb HN7;rw[HPL.out];have HLS:=hd' (lists_two (OwnP.nil w8 w1.heap.size) (OwnP.nil w8 w1.heap.size) (fun g h=>by cases h));have hn18:=HN8.out.size;have HAP:=hd' (apart_any w1.heap.size w8.heap.size _ _ _ _ _ HLS.out (fun _=>by simp) (by simp;omega) (by simp) hn18)
   have HN9:=hd' (HN8.out.alloc hn18 (.cells #[.slice none 0 0,.slice none 0 0] 26));clear HLS;go_wp2_with fail;refine HAP.out.mono ?_;rintro e w9 ⟨rfl,hb⟩;have HX9:=hd' (HO.out.kept (HN9.out.trans hb));have HB9:=hd' (HB1.out.trans ((HN9.out.trans hb).mono hs1));have hs9:=HB9.out.size;clear hb HAP HN9;go_wp2_with fail;refine(kept_any ao cp a0 len0 cap0 _ ps0 _ HX9.out (HP.out.below HB9.out (lR' _)) HL0.out).mono ?_;rintro e w10 ⟨rfl,hb⟩;have HB10:=hd' (HB9.out.trans (hb.mono hs9));clear hb;go_wp2_with fail;go_ret;exact⟨rfl,HB10.out⟩
  | some i=>
   have HPL:=hd' (er_at HRG.out i);rw[←HER.out]at HPL;refine(told_at (progEr ps0 n1 n2) HOK.out no i _ (HR.out.err.below HB6.out (lR' _))).mono ?_;rintro e w7 ⟨rfl,hb⟩;have HN7:=hd' (HN6.out.trans (hb.mono HN6.out.size));have HB7:=hd' (HB6.out.trans (hb.mono hs6));have hs7:=HB7.out.size;clear hb HN6;rw[HPL.out];go_wp2_with fail;refine(told_at (progEr ps0 n1 n2) HOK.out no i _ (HR.out.err.below HB7.out (lR' _))).mono ?_;rintro e w8 ⟨rfl,hb⟩;have HN8:=hd' (HN7.out.trans (hb.mono HN7.out.size));have HB8:=hd' (HB7.out.trans (hb.mono hs7));have hs8:=HB8.out.size;clear hb HN7;rw[HPL.out];have HLS:=hd' (lists_two (OwnP.nil w8 w1.heap.size) (OwnP.nil w8 w1.heap.size) (fun g h=>by cases h));have hn18:=HN8.out.size;have HAP:=hd' (apart_any w1.heap.size w8.heap.size _ _ _ _ _ HLS.out (fun _=>by simp) (by simp;omega) (by simp) hn18)
   have HN9:=hd' (HN8.out.alloc hn18 (.cells #[.slice none 0 0,.slice none 0 0] 26));clear HLS;go_wp2_with fail;refine HAP.out.mono ?_;rintro e w9 ⟨rfl,hb⟩;have HX9:=hd' (HO.out.kept (HN9.out.trans hb));have HB9:=hd' (HB1.out.trans ((HN9.out.trans hb).mono hs1));have hs9:=HB9.out.size;clear hb HAP HN9;go_wp2_with fail;refine(kept_any ao cp a0 len0 cap0 _ ps0 _ HX9.out (HP.out.below HB9.out (lR' _)) HL0.out).mono ?_;rintro e w10 ⟨rfl,hb⟩;have HB10:=hd' (HB9.out.trans (hb.mono hs9));clear hb;go_wp2_with fail;go_ret;exact⟨rfl,HB10.out⟩
end LawFuseRuns
end Go.Proofs.YtpibampaobncaaaGreatDoor
