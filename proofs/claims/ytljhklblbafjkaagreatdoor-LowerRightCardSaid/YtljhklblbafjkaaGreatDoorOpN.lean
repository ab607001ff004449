/- A message that came in, opened, with how far its lists reach: its cells, its signals in memory, each with its takers. -/
import Derived.Test.YtljhklblbafjkaaGreatDoorLwO
import Derived.Test.YtljhklblbafjkaaGreatDoorNdQ
import Derived.Test.YtljhklblbafjkaaGreatDoorOpen
import Derived.SliceStrings
import Derived.SizedLaws
namespace Go.Proofs.YtljhklblbafjkaaGreatDoor
open Go.ChangeShapes Go.WideShapes Go.ChangeAt Go.RowKit Go.Proofs.YtljhklblbafjkaaGreatDoor.Code
theorem cells9:Tryz.prog.cellsOf 9=1:=by kernel_rfl
theorem cells4:Tryz.prog.cellsOf 4=1:=by kernel_rfl
theorem cells2:Tryz.prog.cellsOf 2=1:=by kernel_rfl
theorem cells24:Tryz.prog.cellsOf 24=1:=by kernel_rfl
theorem cells69:Tryz.prog.cellsOf 69=1:=by kernel_rfl
theorem cells25:Tryz.prog.cellsOf 25=1:=by kernel_rfl
theorem cells23:Tryz.prog.cellsOf 23=2:=by kernel_rfl
theorem cells68:Tryz.prog.cellsOf 68=2:=by kernel_rfl
theorem cells71:Tryz.prog.cellsOf 71=19:=by kernel_rfl
theorem cells27:Tryz.prog.cellsOf 27=8:=by kernel_rfl
theorem wf_u32_in{n:Int}(h:(Lit.int .u32 n).wf=true):0≤n∧n≤4294967295:=by
 simp[Lit.wf,IntKind.min,IntKind.max,IntKind.signed,IntKind.bits]at h;omega
theorem len2{α:Type}{l:List α}(h:l.length=2):∃a b,l=[a,b]:=by
 match l,h with
 | [a,b],_=>exact⟨a,b,rfl⟩
theorem len8{α:Type}{l:List α}(h:l.length=8):∃a0 a1 a2 a3 a4 a5 a6 a7,l=[a0,a1,a2,a3,a4,a5,a6,a7]:=by
 match l,h with
 | [a0,a1,a2,a3,a4,a5,a6,a7],_=>exact⟨a0,a1,a2,a3,a4,a5,a6,a7,rfl⟩
theorem len19{α:Type}{l:List α}(h:l.length=19):∃a0 a1 a2 a3 a4 a5 a6 a7 a8 a9 b0 b1 b2 b3 b4 b5 b6 b7 b8,l=[a0,a1,a2,a3,a4,a5,a6,a7,a8,a9,b0,b1,b2,b3,b4,b5,b6,b7,b8]:=by
 match l,h with
 | [a0,a1,a2,a3,a4,a5,a6,a7,a8,a9,b0,b1,b2,b3,b4,b5,b6,b7,b8],_=>exact⟨a0,a1,a2,a3,a4,a5,a6,a7,a8,a9,b0,b1,b2,b3,b4,b5,b6,b7,b8,rfl⟩
def Far(l:List Nat):Prop:=l.all (·≤reachBytes)=true
theorem Far.mem{l l':List Nat}(h:Far l)(hs:∀n∈l',n∈l):Far l':=List.all_eq_true.2 fun n hn=>List.all_eq_true.1 h n (hs n hn)
theorem Far.le{l:List Nat}(h:Far l){n:Nat}(hn:n∈l):n≤140737488351232:=by
 have:=List.all_eq_true.1 h n hn;exact of_decide_eq_true this
theorem bytesS:Tryz.prog.bytesOf 9=16:=by kernel_rfl
theorem bytesSg:Tryz.prog.bytesOf 71=176:=by kernel_rfl
section
variable {H:Type}
theorem far_slice{t e:TypeId}{es sp:List (DataW H)}(hu:Tryz.prog.underlying t=some (.slice e))(h:Far (DataW.weights Tryz.prog t (.slice es sp))):(es.length+sp.length)*Tryz.prog.bytesOf e≤140737488351232:=
 h.le (by simp[DataW.weights,hu])
theorem mem_all{e:TypeId}:∀ {ds:List (DataW H)} {d:DataW H},d∈ds→∀n∈d.weights Tryz.prog e,n∈DataW.weightsAll Tryz.prog e ds
 | d0::ds,d,hd,n,hn=>by
  simp only[DataW.weightsAll,List.mem_append];rcases List.mem_cons.1 hd with rfl | hd
  ·exact .inl hn
  ·exact .inr (mem_all hd n hn)
 | [],_,hd,_,_=>by cases hd
theorem far_elem{t e:TypeId}{es sp:List (DataW H)}(hu:Tryz.prog.underlying t=some (.slice e))(h:Far (DataW.weights Tryz.prog t (.slice es sp))){d:DataW H}(hd:d∈es):Far (DataW.weights Tryz.prog e d):=
 h.mem fun n hn=>by simp[DataW.weights,hu];exact .inr (.inl (mem_all hd n hn))
theorem far_part{t u:TypeId}{fs:Array Field}{ps:List (DataW H)}(hu:Tryz.prog.underlying t=some (.struct fs)){j:Nat}{d:DataW H}(ht:(fs.toList.map (·.type))[j]? =some u)(hd:ps[j]? =some d)(h:Far (DataW.weights Tryz.prog t (.agg ps))):Far (DataW.weights Tryz.prog u d):=
 h.mem fun n hn=>by
  have:=DataW.weights_mem_each ht hd n hn;simp only[DataW.weights,hu];exact this
theorem strs_len(l r:List ByteArray):(strs (H:=H) l).length+(strs (H:=H) r).length=l.length+r.length:=by simp[strs]
end
section
variable {H:Type} {enc:TypeId×Value→H} {w:World} {held:Bool}
theorem open_rat{fuel:Nat}{cs:List Value}{x:DataW H×List MemPlace}(h:DataW.trod enc Tryz.prog w 0 (fun _=>true) held fuel 68 cs=some x):∃a b:Int,cs=[.int .i64 a,.int .i64 b]∧B.In64 a∧B.In64 b:=by
 obtain⟨xs,n,_,_,hl,hn,hg⟩:=DataW.trod_struct Tryz.underlying68 h;rw[cells68]at hl;have h2:xs.length=2:=hn;obtain⟨v0,v1,rfl⟩:=len2 hl;obtain⟨x0,x1,rfl⟩:=len2 h2;have g0:=hg 0 _ rfl;have g1:=hg 1 _ rfl;simp[cells2]at g0 g1;obtain⟨m0,e0,_,w0⟩:=DataW.trod_int Tryz.underlying2 (x:=x0) (by simpa using g0);obtain⟨m1,e1,_,w1⟩:=DataW.trod_int Tryz.underlying2 (x:=x1) (by simpa using g1);simp only[List.cons.injEq,and_true]at e0 e1;subst e0 e1;exact⟨m0,m1,rfl,wf_i64_in w0,wf_i64_in w1⟩
theorem open_at{fuel:Nat}{cs:List Value}{x:DataW H×List MemPlace}(h:DataW.trod enc Tryz.prog w 0 (fun _=>true) held fuel 23 cs=some x):∃a b:Int,cs=[.int .i64 a,.int .i64 b]∧B.In64 a∧B.In64 b:=by
 obtain⟨xs,n,_,_,hl,hn,hg⟩:=DataW.trod_struct Tryz.underlying23 h;rw[cells23]at hl;have h2:xs.length=2:=hn;obtain⟨v0,v1,rfl⟩:=len2 hl;obtain⟨x0,x1,rfl⟩:=len2 h2;have g0:=hg 0 _ rfl;have g1:=hg 1 _ rfl;simp[cells3]at g0 g1;obtain⟨m0,e0,_,w0⟩:=DataW.trod_int Tryz.underlying3 (x:=x0) (by simpa using g0);obtain⟨m1,e1,_,w1⟩:=DataW.trod_int Tryz.underlying3 (x:=x1) (by simpa using g1);simp only[List.cons.injEq,and_true]at e0 e1;subst e0 e1;exact⟨m0,m1,rfl,wf_i64_in w0,wf_i64_in w1⟩
theorem addr_flat{ad:Addr}(h:ad.spot=none)(k:Nat):ad.add k=⟨ad.block,ad.off+k,none⟩:=by
 obtain⟨blk,off,spot⟩:=ad;simp only at h;subst h;unfold Addr.add;split
 ·rename_i hz;simp_all
 ·rfl
theorem open_texts{fuel:Nat}{v:Value}{x:DataW H×List MemPlace}(h:DataW.trod enc Tryz.prog w 0 (fun _=>true) held fuel 69 [v]=some x):
    ∃(a:Option Addr) (k cap:Nat) (l:List ByteArray),v= .slice a k cap∧ListAt w a k (l.map Value.string)∧k≤9223372036854775807∧(∀t∈l,t.size≤9223372036854775807)∧(Far (DataW.weights Tryz.prog 69 x.1)→k*16≤140737488351232):=by
 rcases Go.ChangeShapes.open_strings Tryz.underlying69 Tryz.underlying9 cells9 h with⟨hcs,_⟩ | ⟨ad,len,cap,ss,hcs,_,hl,hm,hlen,hx,hat,hwf⟩
 ·obtain rfl:v= .slice none 0 0:=by simpa using hcs
  exact⟨none,0,0,[],rfl,⟨rfl,fun i v hv=>by simp at hv⟩,by omega,fun t ht=>(by cases ht),fun _=>by omega⟩
 ·obtain rfl:v= .slice (some ad) len cap:=by simpa using hcs
  simp only[if_true]at hlen;unfold maxLen at hm hwf;refine⟨some ad,len,cap,ss.take len,rfl,⟨by simp;omega,fun i v hv=> ?_⟩,by omega,fun t ht=>hwf t (List.mem_of_mem_take ht),fun hw=> ?_⟩
  case' refine_2=>
   rw[hx]at hw;have:=far_slice Tryz.underlying69 hw;rw[bytesS]at this;rw[strs_len,List.length_take]at this;refine Nat.le_trans (Nat.mul_le_mul_right _ ?_) this;omega
  have hi:i<len:=by have:=(List.getElem?_eq_some_iff.1 hv).1;simp at this;omega
  have hi2:=hat i (by omega)
  have sp:ad.spot=none:=by
   have h0:=hat 0 (by omega);have:=World.cell?_spot h0;rwa[show ad.add 0=ad by unfold Addr.add;simp]at this
  rw[addr_flat sp]at hi2;rw[List.getElem?_map,List.getElem?_take,if_pos hi,List.getElem?_eq_getElem (by omega)]at hv;simp only[Option.map_some,Option.some.injEq]at hv;subst hv;obtain⟨blk,off,spot⟩:=ad;simp only at sp;subst sp;refine⟨blk,off,rfl,World.block_lt_of_cell? w _ hi2, ?_⟩;rw[hi2];simp[List.getD,List.getElem?_eq_getElem (show i<ss.length by omega)]
set_option maxRecDepth 100000 in
theorem open_sig{fuel:Nat}{cs:List Value}{x:DataW H×List MemPlace}(h:DataW.trod enc Tryz.prog w 0 (fun _=>true) held fuel 71 cs=some x):
    ∃(s:B.Sig) (a:Option Addr) (k cap:Nat),cs=(sigC s (.slice a k cap)).toList∧ListAt w a k (s.dest.map Value.string)∧k≤9223372036854775807∧SigWf s∧(Far (DataW.weights Tryz.prog 71 x.1)→k*16≤140737488351232):=by
 obtain⟨xs,n,_,hxe,hl,hn,hg⟩:=DataW.trod_struct Tryz.underlying71 h;rw[cells71]at hl;have hn14:xs.length=14:=hn
 have at':∀i,i<14→∃y,xs[i]? =some y:=fun i hi=>⟨_,List.getElem?_eq_getElem (by omega)⟩
 obtain⟨v0,v1,v2,v3,v4,v5,v6,v7,v8,v9,u0,u1,u2,u3,u4,u5,u6,u7,u8,rfl⟩:=len19 hl;have g0:=hg 0 _ rfl;obtain⟨y0,e0⟩:=at' 0 (by omega);rw[e0]at g0;have g1:=hg 1 _ rfl;obtain⟨y1,e1⟩:=at' 1 (by omega);rw[e1]at g1;have g2:=hg 2 _ rfl;obtain⟨y2,e2⟩:=at' 2 (by omega);rw[e2]at g2;have g3:=hg 3 _ rfl;obtain⟨y3,e3⟩:=at' 3 (by omega);rw[e3]at g3;have g4:=hg 4 _ rfl;obtain⟨y4,e4⟩:=at' 4 (by omega);rw[e4]at g4;have g5:=hg 5 _ rfl;obtain⟨y5,e5⟩:=at' 5 (by omega);rw[e5]at g5;have g6:=hg 6 _ rfl;obtain⟨y6,e6⟩:=at' 6 (by omega);rw[e6]at g6;have g7:=hg 7 _ rfl;obtain⟨y7,e7⟩:=at' 7 (by omega);rw[e7]at g7;have g8:=hg 8 _ rfl;obtain⟨y8,e8⟩:=at' 8 (by omega);rw[e8]at g8;have g9:=hg 9 _ rfl;obtain⟨y9,e9⟩:=at' 9 (by omega);rw[e9]at g9;have g10:=hg 10 _ rfl;obtain⟨y10,e10⟩:=at' 10 (by omega);rw[e10]at g10;have g11:=hg 11 _ rfl;obtain⟨y11,e11⟩:=at' 11 (by omega);rw[e11]at g11;have g12:=hg 12 _ rfl
 obtain⟨y12,e12⟩:=at' 12 (by omega);rw[e12]at g12;have g13:=hg 13 _ rfl;obtain⟨y13,e13⟩:=at' 13 (by omega);rw[e13]at g13
 have hfar:Far (DataW.weights Tryz.prog 71 x.1)→Far (DataW.weights Tryz.prog 69 y13.1):=fun hw=>by
  rw[hxe]at hw;exact far_part Tryz.underlying71 (j:=13) rfl (by rw[List.getElem?_map,e13];rfl) hw
 clear hg at' e0 e1 e2 e3 e4 e5 e6 e7 e8 e9 e10 e11 e12 e13;replace g0:DataW.trod enc Tryz.prog w 0 (fun _=>true) held n 23 (List.take (Tryz.prog.cellsOf 23) (List.drop 0 [v0,v1,v2,v3,v4,v5,v6,v7,v8,v9,u0,u1,u2,u3,u4,u5,u6,u7,u8]))=some y0:=g0;rw[cells23]at g0;replace g0:DataW.trod enc Tryz.prog w 0 (fun _=>true) held n 23 [v0,v1]=some y0:=g0;replace g1:DataW.trod enc Tryz.prog w 0 (fun _=>true) held n 9 (List.take (Tryz.prog.cellsOf 9) (List.drop 2 [v0,v1,v2,v3,v4,v5,v6,v7,v8,v9,u0,u1,u2,u3,u4,u5,u6,u7,u8]))=some y1:=g1;rw[cells9]at g1;replace g1:DataW.trod enc Tryz.prog w 0 (fun _=>true) held n 9 [v2]=some y1:=g1;replace g2:DataW.trod enc Tryz.prog w 0 (fun _=>true) held n 3 (List.take (Tryz.prog.cellsOf 3) (List.drop 3 [v0,v1,v2,v3,v4,v5,v6,v7,v8,v9,u0,u1,u2,u3,u4,u5,u6,u7,u8]))=some y2:=g2
 rw[cells3]at g2;replace g2:DataW.trod enc Tryz.prog w 0 (fun _=>true) held n 3 [v3]=some y2:=g2;replace g3:DataW.trod enc Tryz.prog w 0 (fun _=>true) held n 49 (List.take (Tryz.prog.cellsOf 49) (List.drop 4 [v0,v1,v2,v3,v4,v5,v6,v7,v8,v9,u0,u1,u2,u3,u4,u5,u6,u7,u8]))=some y3:=g3;rw[cells49]at g3;replace g3:DataW.trod enc Tryz.prog w 0 (fun _=>true) held n 49 [v4]=some y3:=g3;replace g4:DataW.trod enc Tryz.prog w 0 (fun _=>true) held n 3 (List.take (Tryz.prog.cellsOf 3) (List.drop 5 [v0,v1,v2,v3,v4,v5,v6,v7,v8,v9,u0,u1,u2,u3,u4,u5,u6,u7,u8]))=some y4:=g4;rw[cells3]at g4;replace g4:DataW.trod enc Tryz.prog w 0 (fun _=>true) held n 3 [v5]=some y4:=g4
 replace g5:DataW.trod enc Tryz.prog w 0 (fun _=>true) held n 3 (List.take (Tryz.prog.cellsOf 3) (List.drop 6 [v0,v1,v2,v3,v4,v5,v6,v7,v8,v9,u0,u1,u2,u3,u4,u5,u6,u7,u8]))=some y5:=g5;rw[cells3]at g5;replace g5:DataW.trod enc Tryz.prog w 0 (fun _=>true) held n 3 [v6]=some y5:=g5;replace g6:DataW.trod enc Tryz.prog w 0 (fun _=>true) held n 4 (List.take (Tryz.prog.cellsOf 4) (List.drop 7 [v0,v1,v2,v3,v4,v5,v6,v7,v8,v9,u0,u1,u2,u3,u4,u5,u6,u7,u8]))=some y6:=g6;rw[cells4]at g6;replace g6:DataW.trod enc Tryz.prog w 0 (fun _=>true) held n 4 [v7]=some y6:=g6;replace g7:DataW.trod enc Tryz.prog w 0 (fun _=>true) held n 4 (List.take (Tryz.prog.cellsOf 4) (List.drop 8 [v0,v1,v2,v3,v4,v5,v6,v7,v8,v9,u0,u1,u2,u3,u4,u5,u6,u7,u8]))=some y7:=g7;rw[cells4]at g7
 replace g7:DataW.trod enc Tryz.prog w 0 (fun _=>true) held n 4 [v8]=some y7:=g7;replace g8:DataW.trod enc Tryz.prog w 0 (fun _=>true) held n 68 (List.take (Tryz.prog.cellsOf 68) (List.drop 9 [v0,v1,v2,v3,v4,v5,v6,v7,v8,v9,u0,u1,u2,u3,u4,u5,u6,u7,u8]))=some y8:=g8;rw[cells68]at g8;replace g8:DataW.trod enc Tryz.prog w 0 (fun _=>true) held n 68 [v9,u0]=some y8:=g8;replace g9:DataW.trod enc Tryz.prog w 0 (fun _=>true) held n 68 (List.take (Tryz.prog.cellsOf 68) (List.drop 11 [v0,v1,v2,v3,v4,v5,v6,v7,v8,v9,u0,u1,u2,u3,u4,u5,u6,u7,u8]))=some y9:=g9;rw[cells68]at g9;replace g9:DataW.trod enc Tryz.prog w 0 (fun _=>true) held n 68 [u1,u2]=some y9:=g9
 replace g10:DataW.trod enc Tryz.prog w 0 (fun _=>true) held n 68 (List.take (Tryz.prog.cellsOf 68) (List.drop 13 [v0,v1,v2,v3,v4,v5,v6,v7,v8,v9,u0,u1,u2,u3,u4,u5,u6,u7,u8]))=some y10:=g10;rw[cells68]at g10;replace g10:DataW.trod enc Tryz.prog w 0 (fun _=>true) held n 68 [u3,u4]=some y10:=g10;replace g11:DataW.trod enc Tryz.prog w 0 (fun _=>true) held n 68 (List.take (Tryz.prog.cellsOf 68) (List.drop 15 [v0,v1,v2,v3,v4,v5,v6,v7,v8,v9,u0,u1,u2,u3,u4,u5,u6,u7,u8]))=some y11:=g11;rw[cells68]at g11;replace g11:DataW.trod enc Tryz.prog w 0 (fun _=>true) held n 68 [u5,u6]=some y11:=g11;replace g12:DataW.trod enc Tryz.prog w 0 (fun _=>true) held n 9 (List.take (Tryz.prog.cellsOf 9) (List.drop 17 [v0,v1,v2,v3,v4,v5,v6,v7,v8,v9,u0,u1,u2,u3,u4,u5,u6,u7,u8]))=some y12:=g12;rw[cells9]at g12
 replace g12:DataW.trod enc Tryz.prog w 0 (fun _=>true) held n 9 [u7]=some y12:=g12;replace g13:DataW.trod enc Tryz.prog w 0 (fun _=>true) held n 69 (List.take (Tryz.prog.cellsOf 69) (List.drop 18 [v0,v1,v2,v3,v4,v5,v6,v7,v8,v9,u0,u1,u2,u3,u4,u5,u6,u7,u8]))=some y13:=g13;rw[cells69]at g13;replace g13:DataW.trod enc Tryz.prog w 0 (fun _=>true) held n 69 [u8]=some y13:=g13;obtain⟨line,col,h0,wl,wc⟩:=open_at g0;obtain⟨name,h1,_,wname⟩:=DataW.trod_string Tryz.underlying9 g1;obtain⟨role,h2,_,wrole⟩:=DataW.trod_int Tryz.underlying3 g2;obtain⟨branch,h3,_,wbranch⟩:=DataW.trod_int Tryz.underlying49 g3;obtain⟨start,h4,_,wstart⟩:=DataW.trod_int Tryz.underlying3 g4;obtain⟨size,h5,_,wsize⟩:=DataW.trod_int Tryz.underlying3 g5;obtain⟨moto,h6,_⟩:=DataW.trod_bool Tryz.underlying4 g6
 obtain⟨signed,h7,_⟩:=DataW.trod_bool Tryz.underlying4 g7;obtain⟨scaleN,scaleD,h8,wscaleN,wscaleD⟩:=open_rat g8;obtain⟨offsetN,offsetD,h9,woffsetN,woffsetD⟩:=open_rat g9;obtain⟨minN,minD,h10,wminN,wminD⟩:=open_rat g10;obtain⟨maxN,maxD,h11,wmaxN,wmaxD⟩:=open_rat g11;obtain⟨unit,h12,_,wunit⟩:=DataW.trod_string Tryz.underlying9 g12;obtain⟨ta,tk,tc,dest,h13,hto,htk,htw,htf⟩:=open_texts g13;simp only[List.cons.injEq,and_true]at h0 h1 h2 h3 h4 h5 h6 h7 h8 h9 h10 h11 h12;obtain⟨rfl,rfl⟩:=h0;subst h1;subst h2;subst h3;subst h4;subst h5;subst h6;subst h7;obtain⟨rfl,rfl⟩:=h8;obtain⟨rfl,rfl⟩:=h9;obtain⟨rfl,rfl⟩:=h10;obtain⟨rfl,rfl⟩:=h11;subst h12;subst h13;unfold maxLen at wname wunit
 exact⟨⟨line,col,name,role,branch,start,size,moto,signed,⟨scaleN,scaleD⟩,⟨offsetN,offsetD⟩,⟨minN,minD⟩,⟨maxN,maxD⟩,unit,dest⟩,ta,tk,tc,rfl,hto,htk,
  ⟨wl,wc,by omega,wf_i64_in wrole,wf_u64_in wbranch,wf_i64_in wstart,wf_i64_in wsize,⟨wscaleN,wscaleD⟩,⟨woffsetN,woffsetD⟩,⟨wminN,wminD⟩,⟨wmaxN,wmaxD⟩,by omega,htw⟩,fun hw=>htf (hfar hw)⟩
theorem open_sigs{fuel:Nat}{v:Value}{x:DataW H×List MemPlace}(h:DataW.trod enc Tryz.prog w 0 (fun _=>true) held fuel 25 [v]=some x):
    ∃(sa:Option Addr) (n cap:Nat) (l:List B.Sig),v= .slice sa n cap∧SigsAt w sa n l∧n≤9223372036854775807∧(∀s∈l,SigWf s)∧(Far (DataW.weights Tryz.prog 25 x.1)→n*176≤140737488351232∧∀s∈l,s.dest.length*16≤140737488351232):=by
 rcases Deep.open_slice Tryz.underlying25 h with⟨hcs,_⟩ | ⟨ad,len,cap,m,n,D,Pl,hcs,_,hl,hm,hmm,hxe,hel⟩
 ·obtain rfl:v= .slice none 0 0:=by simpa using hcs
  exact⟨none,0,0,[],rfl,⟨rfl,fun i s hs=>by simp at hs⟩,by omega,fun s hs=>(by cases hs),fun _=>⟨by omega,fun s hs=>(by cases hs)⟩⟩
 ·obtain rfl:v= .slice (some ad) len cap:=by simpa using hcs
  simp only[if_true]at hmm;subst hmm;rw[cells71]at hel;unfold maxLen at hm
  have one:∀i,i<len→∃s:B.Sig,SigWf s∧ad.spot=none∧ad.block<w.heap.size∧∃a k c,w.rangeAt ad.block (ad.off+i*19) (sigC s (.slice a k c)).toList∧ListAt w a k (s.dest.map Value.string)∧k≤9223372036854775807∧(Far (DataW.weights Tryz.prog 71 (D i))→k*16≤140737488351232):=by
   intro i hi
   have sp:ad.spot=none:=by
    obtain⟨cs0,k1,k2⟩:=hel 0 (by omega);obtain⟨s0,_,_,_,rfl,_⟩:=open_sig k2;obtain⟨_,_,k3⟩:=World.cells?_some k1;have k4:=World.cell?_spot ((k3 0 (by omega)).trans (show _=some (.int .i64 s0.line)from rfl));rwa[show(ad.add (0*19)).add 0=ad by unfold Addr.add;simp]at k4
   obtain⟨cs',h1,h2⟩:=hel i (by omega);obtain⟨s,a,k,c,rfl,hto,hk,hwf,hfr⟩:=open_sig h2;obtain⟨_,_,hc⟩:=World.cells?_some h1
   have hr:w.rangeAt ad.block (ad.off+i*19) (sigC s (.slice a k c)).toList:=fun j v hv=>by
    have hj:j<19:=by have:=(List.getElem?_eq_some_iff.1 hv).1;simpa[sigC]using this
    have:=hc j hj;rw[Deep.add_add,addr_flat sp,←Nat.add_assoc]at this;rw[this];exact hv
   exact⟨s,hwf,sp,World.block_lt_of_cell? w ⟨ad.block,ad.off+i*19+0,none⟩ (hr 0 _ rfl),a,k,c,hr,hto,hk,hfr⟩
  have _:Inhabited B.Sig:=⟨⟨0,0,⟨#[]⟩,0,0,0,0,false,false,⟨0,0⟩,⟨0,0⟩,⟨0,0⟩,⟨0,0⟩,⟨#[]⟩,[]⟩⟩;obtain⟨f,hf⟩:=Deep.choose_lt one;refine⟨some ad,len,m,(List.range len).map f,rfl,⟨by simp,fun i s hs=> ?_⟩,by omega,fun s hs=> ?_,fun hw=>⟨?_,fun s hs=> ?_⟩⟩
  ·have hi:i<len:=by simpa using(List.getElem?_eq_some_iff.1 hs).1
   rw[List.getElem?_map,List.getElem?_range hi]at hs;simp only[Option.map_some,Option.some.injEq]at hs;subst hs;obtain⟨_,sp,hlt,a,k,c,hr,hto,hk,_⟩:=hf i hi;obtain⟨blk,off,spot⟩:=ad;simp only at sp;subst sp;exact⟨blk,off,rfl,hlt,a,k,c,hr,hto,hk⟩
  ·obtain⟨i,hi,rfl⟩:=List.mem_map.1 hs
   exact(hf i (List.mem_range.1 hi)).1
  ·rw[hxe]at hw
   have:=far_slice Tryz.underlying25 hw;rw[bytesSg]at this;rw[List.length_map,List.length_range]at this;refine Nat.le_trans (Nat.mul_le_mul_right _ ?_) this;omega
  ·obtain⟨i,hi,rfl⟩:=List.mem_map.1 hs
   obtain⟨_,_,_,a,k,c,_,hto,_,hfr⟩:=hf i (List.mem_range.1 hi)
   have hk:k=(f i).dest.length:=by simpa using hto.len
   rw[←hk];refine hfr ?_;rw[hxe]at hw;exact far_elem Tryz.underlying25 hw (List.mem_map.2 ⟨i,hi,rfl⟩)
set_option maxRecDepth 100000 in
theorem open_msg{base:Nat}{v:Value}{d:DataW H}{p:List MemPlace}(hv:Value.okWide Tryz.prog w .any base 27 v)(h:DataW.Trod enc Tryz.prog w 0 (fun _=>true) held 27 v d p):
    ∃(m:B.Msg) (sa:Option Addr) (n cap:Nat),v= .agg (msgC m (.slice sa n cap))∧SigsAt w sa n m.sigs∧n≤9223372036854775807∧MsgWf m∧(Far (DataW.weights Tryz.prog 27 d)→n*176≤140737488351232∧∀s∈m.sigs,s.dest.length*16≤140737488351232):=by
 obtain⟨cs,rfl,hcs⟩:=okWide_struct Tryz.underlying27 hv;rw[cells27]at hcs;obtain⟨fuel,hf⟩:=h;obtain⟨v0,v1,v2,v3,v4,v5,v6,v7,hl⟩:=len8 (l:=cs.toList) (by simpa using hcs)
 obtain rfl:cs= #[v0,v1,v2,v3,v4,v5,v6,v7]:=by cases cs;simp_all
 obtain⟨xs,n,_,hxe,_,hn,hg⟩:=DataW.trod_struct Tryz.underlying27 hf;have hn7:xs.length=7:=hn
 have at':∀i,i<7→∃y,xs[i]? =some y:=fun i hi=>⟨_,List.getElem?_eq_getElem (by omega)⟩
 have g0:=hg 0 _ rfl;obtain⟨y0,e0⟩:=at' 0 (by omega);rw[e0]at g0;have g1:=hg 1 _ rfl;obtain⟨y1,e1⟩:=at' 1 (by omega);rw[e1]at g1;have g2:=hg 2 _ rfl;obtain⟨y2,e2⟩:=at' 2 (by omega);rw[e2]at g2;have g3:=hg 3 _ rfl;obtain⟨y3,e3⟩:=at' 3 (by omega);rw[e3]at g3;have g4:=hg 4 _ rfl;obtain⟨y4,e4⟩:=at' 4 (by omega);rw[e4]at g4;have g5:=hg 5 _ rfl;obtain⟨y5,e5⟩:=at' 5 (by omega);rw[e5]at g5;have g6:=hg 6 _ rfl;obtain⟨y6,e6⟩:=at' 6 (by omega);rw[e6]at g6
 have hfar:Far (DataW.weights Tryz.prog 27 d)→Far (DataW.weights Tryz.prog 25 y6.1):=fun hw=>by
  rw[(Prod.mk.inj hxe).1]at hw;exact far_part Tryz.underlying27 (j:=6) rfl (by rw[List.getElem?_map,e6];rfl) hw
 clear hg at' e0 e1 e2 e3 e4 e5 e6;replace g0:DataW.trod enc Tryz.prog w 0 (fun _=>true) held n 23 (List.take (Tryz.prog.cellsOf 23) (List.drop 0 (Value.agg #[v0,v1,v2,v3,v4,v5,v6,v7]).cells.toList))=some y0:=g0;rw[cells23]at g0;replace g0:DataW.trod enc Tryz.prog w 0 (fun _=>true) held n 23 [v0,v1]=some y0:=g0;replace g1:DataW.trod enc Tryz.prog w 0 (fun _=>true) held n 24 (List.take (Tryz.prog.cellsOf 24) (List.drop 2 (Value.agg #[v0,v1,v2,v3,v4,v5,v6,v7]).cells.toList))=some y1:=g1;rw[cells24]at g1;replace g1:DataW.trod enc Tryz.prog w 0 (fun _=>true) held n 24 [v2]=some y1:=g1;replace g2:DataW.trod enc Tryz.prog w 0 (fun _=>true) held n 4 (List.take (Tryz.prog.cellsOf 4) (List.drop 3 (Value.agg #[v0,v1,v2,v3,v4,v5,v6,v7]).cells.toList))=some y2:=g2;rw[cells4]at g2
 replace g2:DataW.trod enc Tryz.prog w 0 (fun _=>true) held n 4 [v3]=some y2:=g2;replace g3:DataW.trod enc Tryz.prog w 0 (fun _=>true) held n 9 (List.take (Tryz.prog.cellsOf 9) (List.drop 4 (Value.agg #[v0,v1,v2,v3,v4,v5,v6,v7]).cells.toList))=some y3:=g3;rw[cells9]at g3;replace g3:DataW.trod enc Tryz.prog w 0 (fun _=>true) held n 9 [v4]=some y3:=g3;replace g4:DataW.trod enc Tryz.prog w 0 (fun _=>true) held n 3 (List.take (Tryz.prog.cellsOf 3) (List.drop 5 (Value.agg #[v0,v1,v2,v3,v4,v5,v6,v7]).cells.toList))=some y4:=g4;rw[cells3]at g4;replace g4:DataW.trod enc Tryz.prog w 0 (fun _=>true) held n 3 [v5]=some y4:=g4;replace g5:DataW.trod enc Tryz.prog w 0 (fun _=>true) held n 9 (List.take (Tryz.prog.cellsOf 9) (List.drop 6 (Value.agg #[v0,v1,v2,v3,v4,v5,v6,v7]).cells.toList))=some y5:=g5
 rw[cells9]at g5;replace g5:DataW.trod enc Tryz.prog w 0 (fun _=>true) held n 9 [v6]=some y5:=g5;replace g6:DataW.trod enc Tryz.prog w 0 (fun _=>true) held n 25 (List.take (Tryz.prog.cellsOf 25) (List.drop 7 (Value.agg #[v0,v1,v2,v3,v4,v5,v6,v7]).cells.toList))=some y6:=g6;rw[cells25]at g6;replace g6:DataW.trod enc Tryz.prog w 0 (fun _=>true) held n 25 [v7]=some y6:=g6;obtain⟨line,col,h0,wl,wc⟩:=open_at g0;obtain⟨id,h1,_,wid⟩:=DataW.trod_int Tryz.underlying24 g1;obtain⟨wide,h2,_⟩:=DataW.trod_bool Tryz.underlying4 g2;obtain⟨name,h3,_,wname⟩:=DataW.trod_string Tryz.underlying9 g3;obtain⟨size,h4,_,wsize⟩:=DataW.trod_int Tryz.underlying3 g4;obtain⟨sender,h5,_,wsender⟩:=DataW.trod_string Tryz.underlying9 g5;obtain⟨sa,k,cap,sigs,h6,hsig,hk,hswf,hsf⟩:=open_sigs g6
 simp only[List.cons.injEq,and_true]at h0 h1 h2 h3 h4 h5;obtain⟨rfl,rfl⟩:=h0;subst h1;subst h2;subst h3;subst h4;subst h5;subst h6;unfold maxLen at wname wsender;exact⟨⟨line,col,id,wide,name,size,sender,sigs⟩,sa,k,cap,rfl,hsig,hk,⟨wl,wc,wf_u32_in wid,by omega,wf_i64_in wsize,by omega,hswf⟩,fun hw=>hsf (hfar hw)⟩
end
end Go.Proofs.YtljhklblbafjkaaGreatDoor
