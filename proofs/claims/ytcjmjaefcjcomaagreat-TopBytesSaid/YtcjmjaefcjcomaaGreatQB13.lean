/- Lemmas, as stated. -/
import Derived.Test.YtcjmjaefcjcomaaGreatQB12
set_option linter.unusedVariables false
set_option linter.unusedSimpArgs false
set_option maxRecDepth 100000
set_option maxHeartbeats 8000000
open Go.Proofs.Tryz
open Go.Proofs.Tryz renaming prog->zZZ
open Go.Value renaming slice->aA,int->aB,string->aD
open Go.IntKind renaming i64->aC
open Go.Obj renaming cells->aE
open Option renaming none->aF,some->aG
namespace Go.Proofs.YtcjmjaefcjcomaaGreat
open Go.RowKit
variable {α:Type} {b:BlobP} {bl l m:List BlobP} {L ds:List ai} {base i k:Nat} {g:Option Nat} {s:StoP} {v1 v2:Value} {V W w:World} {x:ai} {zs:ak} {N:am}
section
variable {w:World} {base g cap:Nat} {e:TypeId} {N:am}
theorem RwX.own4 {S:Shp α} {v:Value} {l:List α} (h:RwX S e w base v l N):w.ownsRow base e S.size v l.length (cls h.choose):=h.choose_spec.2.2.1
theorem RwX.arr4 {S:Shp α} {l:List α} (h:RwX S e w base (aA (aG ⟨g,0,aF⟩) l.length cap) l N) (h0:0<l.length):∃cs,Arr w g e cs/\cs.length=cap*S.size:=by
 obtain⟨g',cap',cs,e1,_,h4,_,_,h5,_⟩:=yt h.own4 h0;injection e1 with e11 _ e13;injection e11 with e11;injection e11 with e11;subst e11 e13;exact⟨cs,h4,h5⟩
theorem RwX.rwN {S:Shp α} {l:List α} (h:RwX S e w base (aA (aG ⟨g,0,aF⟩) l.length cap) l N):Rw (S.off (fun b=>b=g\/N b)) w (aG ⟨g,0,aF⟩) l:=by
 obtain⟨ps,h1,h2,h3,h4⟩:=h;exact⟨ps,h1,fun p hp=>⟨h2 p hp,fun b hb=>h4 p hp b (hb.imp (fun e=>by rw [e];rfl) id)⟩,Rd.of_own h3⟩
theorem RwX.at4B (h:RwX BlobS e w base (aA (aG ⟨g,0,aF⟩) l.length cap) l N) (j:Nat) (hj:j<l.length) :
  ∃B c,w.cell? ⟨g,j*4,aF⟩=aG (aD ⟨l[j].dig.toArray⟩)/\w.cell? ⟨g,j*4+1,aF⟩=aG (aA B l[j].data.length c)/\w.cell? ⟨g,j*4+2,aF⟩=aG (aB aC (l[j].aQ:Int))/\w.cell? ⟨g,j*4+3,aF⟩=aG (.bool l[j].mark) /\
   Sl w 1 B l[j].data.length c (bys l[j].data)/\∀b,(b=g\/N b)->¬leads b [aD ⟨l[j].dig.toArray⟩,aA B l[j].data.length c,aB aC (l[j].aQ:Int),.bool l[j].mark]:=by
 obtain⟨b,off,cs,e1,hb,⟨⟨B,c,rfl,hs⟩,hl⟩,hc⟩:=h.rwN.at_ j hj;cases e1
 simp only [Nat.zero_add]at hc;exact⟨B,c,hc 0 _ rfl,hc 1 _ rfl,hc 2 _ rfl,hc 3 _ rfl,hs,hl⟩
theorem uy {P:Program} (w:World) (t e ty:TypeId) (z:Value) (zs:ak) (n:Nat) (hn:0<n) (ht:P.underlying t=aG (.slice e)) (hv:∀w,(zeroValue e).run P w= .ok z w) (hz:(Builtin.zeroCells z.cells n).toList=zs) (h1:∀u∈zs,u.oneCell'=true) (b o c:Nat)
  (hc:∀j,j<zs.length->(w.cell? ⟨b,o+j,aF⟩).isSome=true) (hf:∀j,j<zs.length->w.frozen? ⟨b,o+j,aF⟩=false) :
  (Builtin.clear_ #[t] ty #[aA (aG ⟨b,o,aF⟩) n c]).run P w= .ok (.tuple #[]) (w.setCells b o zs):=by
 have hst:=run_storeCells_cells (P:=P) b o zs 0 w (by simpa using hc) (by simpa using hf) h1;simp only [Nat.add_zero]at hst;cases n with
 | zero=>omega
 | succ m=>simp [Builtin.clear_,run_underlying ht,hv,hz,hst]
theorem xQ (z:Array Value) (n:Nat):(Builtin.zeroCells z n).toList.length=n*z.size:=by simp [Builtin.zeroCells]
theorem xR (z:Array Value) (n:Nat) (h0:0<z.size) (h:∀u∈z.toList,u.oneCell'=true):∀u∈(Builtin.zeroCells z n).toList,u.oneCell'=true:=fun u hu=>by
 simp only [Builtin.zeroCells,Array.toList_map,List.mem_map]at hu
 obtain⟨i,_,rfl⟩:=hu
 have hlt:i % z.size<z.size:=Nat.mod_lt _ h0
 rw [getElem!_pos z _ hlt]
 exact h _ (Array.mem_toList_iff.2 (Array.getElem_mem hlt))
theorem ZS {size n:Nat} {xs:ak} (h:w.ownsRow base e size (aA (aG ⟨g,0,aF⟩) n cap) n xs) (hn:0<n) (hi:i<n) (hz:zs.length=(n - i)*size) :
  (w.setCells g (i*size) zs).ownsRow base e size (aA (aG ⟨g,0,aF⟩) i cap) i (xs.take (i*size))/\w.grownBy (w.setCells g (i*size) zs) (aG g)/\(∀j,j<zs.length->(w.cell? ⟨g,i*size+j,aF⟩).isSome=true)/\(∀j,j<zs.length->w.frozen? ⟨g,i*size+j,aF⟩=false):=by
 obtain⟨g',cap',cs,e1,hbg,hA,hnc,hcm,hcl,hct⟩:=yt h hn;injection e1 with e11 _ e13;injection e11 with e11;injection e11 with e11;subst e11 e13;have him:(n - i)*size+i*size=n*size:=by rw [<-Nat.add_mul,Nat.sub_add_cancel wu]
 have hns:n*size<=cap*size:=Nat.mul_le_mul_right _ hnc;have e2:cs=cs.take (i*size)++((cs.drop (i*size)).take ((n - i)*size)++cs.drop (n*size)):=by
  conv=>lhs;rw [<-List.take_append_drop (i*size) cs]
  congr 1
  conv=>lhs;rw [<-List.take_append_drop ((n - i)*size) (cs.drop (i*size))]
  rw [List.drop_drop,Nat.add_comm,him]
 have hl1:(cs.take (i*size)).length=i*size:=by rw [List.length_take];omega
 have hA2:=hA;rw [e2]at hA2;have h3:=vH _ zs _ _ w hA2 (by rw [hz,List.length_take,List.length_drop];omega);rw [hl1]at h3;refine⟨⟨?_,.inr ⟨g,cap,_,rfl,hbg,by simpa [Arr] using h3,wu,hcm,?_,?_⟩⟩,qg _ _ _,fun j hj=> ?_,fun j hj=>hA.frozen _⟩
 ·rw [List.length_take,h.1];exact Nat.min_eq_left wu
 ·simp only [List.size_toArray,List.length_append,List.length_take,List.length_drop,hcl,hz];omega
 ·simp only;rw [List.take_left' hl1,<-hct,List.take_take,Nat.min_eq_left wu]
 ·have hk:i*size+j<cs.length:=by rw [hcl];omega
  rw [hA.cell (List.getElem?_eq_getElem hk)];rfl
theorem RwX.trunc_ {S:Shp α} {l:List α} (h:RwX S e w base (aA (aG ⟨g,0,aF⟩) l.length cap) l N) (hi:i<l.length) (hz:zs.length=(l.length - i)*S.size) :
  RwX S e (w.setCells g (i*S.size) zs) base (aA (aG ⟨g,0,aF⟩) i cap) (l.take i) N/\w.grownBy (w.setCells g (i*S.size) zs) (aG g)/\(∀j,j<zs.length->(w.cell? ⟨g,i*S.size+j,aF⟩).isSome=true)/\(∀j,j<zs.length->w.frozen? ⟨g,i*S.size+j,aF⟩=false):=by
 obtain⟨ps,h1,h2,h3,h4⟩:=h;obtain⟨k1,k2,k3,k4⟩:=ZS h3 wu hi hz;have hpl:ps.length=l.length:=by rw [<-h1,List.length_map]
 have hm:∀p∈ps.take i,p∈ps:=fun p hp=>List.mem_of_mem_take hp;refine⟨⟨ps.take i,by rw [<-h1,List.map_take],qJ.grown (w:=w) (g:=aG g) (fun p hp=>h2 p (hm p hp)) k2 (fun p hp b hb=>h4 p (hm p hp) b (.inl hb)),?_,fun p hp b hb=>h4 p (hm p hp) b hb⟩,k2,k3,k4⟩;rw [<-kO (s:=S.size) ps i h2.lens,List.length_take,Nat.min_eq_left wu];exact k1
theorem RwX.truncB (h:RwX BlobS e w base (aA (aG ⟨g,0,aF⟩) l.length cap) l N) (i:Nat) (hi:i<l.length) :
  ∃zs:ak,zs.length=(l.length - i)*4/\(∀ty c,(Builtin.clear_ #[35] ty #[aA (aG ⟨g,i*4,aF⟩) (l.length - i) c]).run zZZ w= .ok (.tuple #[]) (w.setCells g (i*4) zs)) /\
   RwX BlobS e (w.setCells g (i*4) zs) base (aA (aG ⟨g,0,aF⟩) i cap) (l.take i) N/\w.grownBy (w.setCells g (i*4) zs) (aG g):=by
 have hl:=xQ (Value.agg #[aD ByteArray.empty,aA aF 0 0,aB aC 0,.bool false]).cells (l.length - i);obtain⟨k1,k2,k3,k4⟩:=h.trunc_ hi (zs:=(Builtin.zeroCells (Value.agg #[aD ByteArray.empty,aA aF 0 0,aB aC 0,.bool false]).cells (l.length - i)).toList) hl;exact⟨_,hl,fun ty c=>uy w _ _ ty _ _ _ wu underlying35 z4f rfl (xR _ _ (by simp [Value.cells]) (by intro u hu;simp [Value.cells]at hu;rcases hu with rfl | rfl | rfl | rfl<;>rfl)) g _ c k3 k4,k1,k2⟩
end
def Xc (w:World) (g:Option Nat) (l:List BlobP) (f:FuncId) (x:Value) (p:BlobP->Bool):Prop :=
 (∀args W,(callFunc f args).run zZZ W= .ok (.enter f args) W)/\∀(b:BlobP) (B:aj) (cb:Nat) (W:World),b∈l->w.grownBy W g->Sl W 1 B b.data.length cb (bys b.data) ->
  Calls zZZ f #[.agg #[aD ⟨b.dig.toArray⟩,aA B b.data.length cb,aB aC b.aQ,.bool b.mark],x] W fun e w'=>e= .returned (.bool (p b))/\Below W.heap.size W w'
theorem U1 (base:Nat) (v:Value) (l:List BlobP) (N:am) (f:FuncId) (x:Value) (p:BlobP->Bool) (w:World) (hl:l.length<=100000) (hx:RwX BlobS 55 w base v l N) (HC:Xc w v.ownBlock l f x p) :
  Calls zZZ 165 #[v,.func (.func f) #[] #[x]] w fun e w'=>∃v',e= .returned v'/\RwX BlobS 55 w' base v' (l.filter (fun b=> !p b)) N/\w.grownBy w' v.ownBlock/\v'.ownBlock=v.ownBlock:=by
 obtain⟨hce,hcc0⟩:=HC;have HCC:=sqH hcc0;clear hcc0;have hlen0:=hx.rwo.rows;obtain⟨A,cap,rfl,hlc,hcm,hrw⟩:=hlen0;have HI:=sqH (Qg A cap l f x p w wu hrw ⟨hce,fun b B cb W hb hbl hs=>HCC.o b B cb W hb ⟨hbl.os,hbl.tape,hbl.output,hbl.size,fun k hk _=>hbl.block k hk⟩ hs⟩);cases hf:l.findIdx? p with
 | none =>
  rw [hf]at HI;have hall:l.filter (fun b=> !p b)=l:=List.filter_eq_self.2 fun b hb=>by
   have:=List.findIdx?_eq_none_iff.1 hf b hb;rw [this];rfl
  have HALL:=sqH hall;have HX:=sqH hx;clear hall hf hx hrw;go_enter func165,ntmps165;go_wp2_with fail;refine wZ HI.o fun w1 hb1=>?_;dsimp only;simp only [plc];go_wp2_with fail;go_ret;refine⟨_,rfl,by rw [HALL.o];exact HX.o.below hb1,⟨hb1.os,hb1.tape,hb1.output,hb1.size,fun k hk _=>hb1.block k hk⟩,rfl⟩
 | some i0 =>
  rw [hf]at HI;simp only [plc]at HI;obtain⟨hi0,hpi,hno⟩:=List.findIdx?_eq_some_iff_getElem.1 hf;have hkeep0:(l.take (i0+1)).filter (fun b=> !p b)=l.take i0:=by
   rw [List.take_succ_eq_append_getElem hi0,List.filter_append,List.filter_cons_of_neg (by rw [hpi];simp)];rw [List.filter_nil,List.append_nil];refine List.filter_eq_self.2 fun b hb=> ?_;obtain⟨k,hk,rfl⟩:=List.mem_iff_getElem.1 hb;rw [List.length_take]at hk;have:=hno k wu;rw [List.getElem_take];simpa using this
  obtain⟨g,cap',cs,e1,hbg,hA,hnc, -, -, -⟩:=yt (hx.own4) wu;injection e1 with e11 e12 e13;clear e12;subst e11 e13;have hgw:g<w.heap.size:=hA.lt;have HGW:=sqH hgw;have HK0:=sqH hkeep0;clear hkeep0 hno hf hA hrw hgw;have hw1:IntKind.i64.wrap ((i0:Int)+1)=(i0:Int)+1:=IntWalk.i64_in _ wu;have hm1:((i0:Int)== -1)=false:=by rw [beq_eq_false_iff_ne];omega
  go_enter func165,ntmps165;go_wp2_with fail;refine wZ HI.o fun w1 hb1=>?_;dsimp only;have hx1:=hx.below hb1;have HG1:=sqH (show w.grownBy w1 (aG g) from⟨hb1.os,hb1.tape,hb1.output,hb1.size,fun k hk _=>hb1.block k hk⟩);clear hx hb1 HI;go_wp2_with fail;go_loopg [5,6] (l.length - (i0+1)) (fun gn u v wr=>∃(i j:Nat) (M:List BlobP),gn=l.length - j/\u= aB aC i/\v= aB aC j/\i<j/\j<=l.length/\M.length=l.length/\M.take i=(l.take j).filter (fun b=> !p b)/\M.drop j=l.drop j/\RwX BlobS 55 wr base (aA (aG ⟨g,0,aF⟩) l.length cap) M N/\w.grownBy wr (aG g))
  case atStart=>exact⟨i0,i0+1,l,rfl,rfl,by go_num,wu,wu,rfl,HK0.o.symm,rfl,hx1,HG1.o⟩
  case round =>
   clear hx1;obtain⟨i,j,M,hgk,rfl,rfl,hij,hj,hM,hMt,hMd,hxr,hgr⟩:=hrel;obtain⟨HGK,HML,HMT,HMD,HGR⟩:=sqJ5 hgk hM hMt hMd hgr;clear hgk hM hMt hMd hgr;by_cases hlt:j<l.length
   ·have hjj:decide (j<l.length)=true:=decide_eq_true hlt;have hMj:j<M.length:=by have:=HML.o;omega
    have eMj:M[j]=l[j]:=by
     have h1:=HMD.o;rw [List.drop_eq_getElem_cons hMj,List.drop_eq_getElem_cons hlt]at h1;injection h1
    rw [<-HML.o]at hxr;obtain⟨B,cb,d0,d1,d2,d3,hs,hld⟩:=hxr.at4B j hMj;rw [HML.o]at hxr;have hmem:l[j]∈l:=List.getElem_mem hlt;have hpt:(l.take (j+1)).filter (fun b=> !p b)=(l.take j).filter (fun b=> !p b)++(if p l[j] then [] else [l[j]]):=by
     rw [List.take_succ_eq_append_getElem hlt,List.filter_append]
     congr 1
     cases hp:p l[j] with
     | true=>rw [List.filter_cons_of_neg (by rw [hp];simp)];rfl
     | false=>rw [List.filter_cons_of_pos (by rw [hp];rfl)];rfl
    rw [eMj]at d0 d1 d2 d3 hs hld;have hMset:∀y,(M.set i y).drop (j+1)=l.drop (j+1):=fun y=>by
     rw [List.drop_set,if_pos wu];have h1:=HMD.o;rw [List.drop_eq_getElem_cons hMj,List.drop_eq_getElem_cons hlt]at h1;injection h1
    have hMs0:M.drop (j+1)=l.drop (j+1):=by
     have h1:=HMD.o;rw [List.drop_eq_getElem_cons hMj,List.drop_eq_getElem_cons hlt]at h1;injection h1
    have hMtk:∀y,(M.set i y).take (i+1)=M.take i++ [y]:=fun y=>by
     have hi:i<(M.set i y).length:=by rw [List.length_set];omega
     rw [List.take_succ_eq_append_getElem hi,List.getElem_set_self,List.take_set]
     congr 1
     rw [List.set_eq_of_length_le (by rw [List.length_take];omega)]
    obtain⟨HPT,HMS,HMS0,HMK,HMEM⟩:=sqJ5 hpt hMset hMs0 hMtk hmem;have hwj:IntKind.i64.wrap ((j:Int)+1)=(j:Int)+1:=IntWalk.i64_in _ wu;have hwi:IntKind.i64.wrap ((i:Int)+1)=(i:Int)+1:=IntWalk.i64_in _ wu;have HLD:=sqH hld;clear hpt hMset hMs0 hMtk hmem hld eMj;have hj0:=we j
    have hj1:(j:Int)<(l.length:Int):=wu;have hi0':=we i
    have hi1':(i:Int)<(l.length:Int):=wu;have hiM:i<M.length:=wu;have hgr2:(w.grownBy wr (aG g)):=HGR.o;have hgwr:g<wr.heap.size:=Nat.lt_of_lt_of_le HGW.o hgr2.size;generalize l[j]=bl at *
    have hbox:Arr (wr.alloc (aE #[aD ⟨bl.dig.toArray⟩,aA B bl.data.length cb,aB aC bl.aQ,.bool bl.mark] 55)) wr.heap.size 55 [aD ⟨bl.dig.toArray⟩,aA B bl.data.length cb,aB aC bl.aQ,.bool bl.mark]:=Arr.new wr 55 _;have hbA:=ws wr (aE #[aD ⟨bl.dig.toArray⟩,aA B bl.data.length cb,aB aC bl.aQ,.bool bl.mark] 55);have hsA:=hs.below hbA;have hxA:=hxr.below hbA;have hgA:w.grownBy (wr.alloc (aE #[aD ⟨bl.dig.toArray⟩,aA B bl.data.length cb,aB aC bl.aQ,.bool bl.mark] 55)) (aG g):=hgr2.trans ⟨hbA.os,hbA.tape,hbA.output,hbA.size,fun k hk _=>hbA.block k hk⟩;have hcl:=HCC.o bl B cb _ HMEM.o hgA hsA;obtain⟨k0,k1,k2,k3⟩:=sqC4 hbox;generalize hsd:(⟨bl.dig.toArray⟩:ByteArray)=sd at *
    have HSD:=sqH hsd;clear hsd hs hgr2 hxr;cases hp:p bl with
    | true =>
     rw [hp]at hcl;have HCL:=sqH hcl;have HPV:=sqH hp;clear hcl hp hsA hbox;go_wp2_with fail;clear d0 d1 d2 d3;generalize (wr.alloc (aE #[aD sd,aA B bl.data.length cb,aB aC bl.aQ,.bool bl.mark] 55))=wA at *
     refine wZ HCL.o fun wB hbB=>?_;dsimp only;have hxB:=hxA.below hbB;have hgB:=hgA.trans (show wA.grownBy wB (aG g) from⟨hbB.os,hbB.tape,hbB.output,hbB.size,fun k hk _=>hbB.block k hk⟩);clear hxA hgA hbB k0 k1 k2 k3 hbA;go_wp2_with fail;go_roundg (l.length - (j+1))
     case measure=>exact wc HGK
     case rel=>exact⟨i,j+1,M,rfl,rfl,by go_num,wu,wu,HML.o,by rw [HPT.o,HPV.o,if_pos rfl,List.append_nil];exact HMT.o,HMS0.o,hxB,hgB⟩
    | false =>
     rw [hp]at hcl;obtain⟨HCL,HPV,HSA⟩:=sqJ3 hcl hp hsA;clear hcl hp hsA;go_wp2_with fail;clear d0 d1 d2 d3;generalize hgq:wr.heap.size=gq at *
     generalize (wr.alloc (aE #[aD sd,aA B bl.data.length cb,aB aC bl.aQ,.bool bl.mark] 55))=wA at *
     refine wZ HCL.o fun wB hbB=>?_;dsimp only;have hxB:=hxA.below hbB;have hgB:=hgA.trans (show wA.grownBy wB (aG g) from⟨hbB.os,hbB.tape,hbB.output,hbB.size,fun k hk _=>hbB.block k hk⟩);have hboxB:=hbox.below hbB;have hsB:=HSA.o.below hbB;clear k0 k1 k2 k3;obtain⟨k0,k1,k2,k3⟩:=sqC4 hboxB;rw [<-HML.o]at hxB;obtain⟨cs,hAg,hcl4⟩:=hxB.arr4 wu;have hcl4:cs.length=cap*4:=hcl4;have q0:=hAg.cell (k:=i*4) (List.getElem?_eq_getElem wu);have q1:=hAg.cell (k:=i*4+1) (List.getElem?_eq_getElem wu);have q2:=hAg.cell (k:=i*4+2) (List.getElem?_eq_getElem wu);have q3:=hAg.cell (k:=i*4+3) (List.getElem?_eq_getElem wu);have p0:=hAg.frozen (i*4);have p1:=hAg.frozen (i*4+1);have p2:=hAg.frozen (i*4+2);have p3:=hAg.frozen (i*4+3);obtain⟨hx8,hg8⟩:=hxB.put4 (x:=bl) (u0:= aD sd) (u1:= aA B bl.data.length cb) (u2:= aB aC bl.aQ) (u3:= .bool bl.mark) rfl hiM ⟨B,cb,by rw [<-HSD.o];rfl,hsB⟩ HLD.o;have hg9:=hgB.trans hg8;rw [HML.o]at hx8;rw [put4]at hx8 hg9;clear hbox hboxB hxA hxB hgA hgB hbA hbB hAg hg8 HSA hsB;go_wp2_with fail;clear q0 q1 q2 q3 p0 p1 p2 p3 k0 k1 k2 k3;generalize ((((wB.setCell ⟨g,i*4,aF⟩ (aD sd)).setCell ⟨g,i*4+1,aF⟩ (aA B bl.data.length cb)).setCell ⟨g,i*4+2,aF⟩ (aB aC bl.aQ)).setCell ⟨g,i*4+3,aF⟩ (.bool bl.mark))=w8 at *
     go_roundg (l.length - (j+1))
     case measure=>exact wc HGK
     case rel=>exact⟨i+1,j+1,M.set i bl,rfl,by go_num,by go_num,wu,wu,by rw [List.length_set];exact HML.o,by rw [HPT.o,HPV.o,HMK.o,HMT.o];rfl,HMS.o _,hx8,hg9⟩
   ·obtain rfl:j=l.length:=by omega
    have hjj:decide (l.length<l.length)=false:=ab;have hMl:M.take i=l.filter (fun b=> !p b):=by rw [HMT.o,List.take_length]
    have hle:(l.filter (fun b=> !p b)).length=i:=by rw [<-hMl,List.length_take];have:=HML.o;omega
    rw [<-HML.o]at hxr;obtain⟨zs,hzz,hclr,hx9,hg9⟩:=hxr.truncB i (wc HML);rw [HML.o]at hclr;have hi0':=we i
    have hi1':(i:Int)<=(l.length:Int):=wu;have hi2':(i:Int)<=(cap:Int):=wu;have hce:¬cap=i:=wu;obtain⟨HX9,HG9,HLE,HML2⟩:=sqJ4 hx9 (HGR.o.trans hg9) hle hMl;clear hx9 hg9 hxr hle hMl;go_wp2_with fail;go_ret;refine⟨_,rfl,?_,HG9.o,rfl⟩;have h1:=HX9.o;rw [HML2.o]at h1;exact h1
theorem zr {H:Nat} {u:Value} (h:w.grownBy W g) (hH:w.heap.size<=H):w.grownBy (W.setCell ⟨H,k,aF⟩ u) g :=
 ⟨h.os,h.tape,h.output,by simpa [World.setCell] using h.size,fun j hj hne=>(Below.heap_setCell W _ u j (fun e=>by have:j=H:=e;omega)).trans (h.block j hj hne)⟩
theorem kE (h:Below w.heap.size w W):w.grownBy W g:=⟨h.os,h.tape,h.output,h.size,fun k hk _=>h.block k hk⟩
theorem zR (h:Below w.heap.size w W) (k:W.grownBy V g):w.grownBy V g:=(kE h).trans ⟨k.os,k.tape,k.output,k.size,k.block⟩
theorem zQ (h:w.grownBy W g) (k:Below W.heap.size W V):w.grownBy V g:=h.trans (kE k)
theorem OwSt.mono {N':am} (h:OwSt w base v1 v2 s N) (hN:∀b,N' b->N b):OwSt w base v1 v2 s N':=h.wider fun b hb=> .inl (hN b hb)
theorem OwSt.turnB {w':World} {v1':Value} (h:OwSt w base v1 v2 s N) (hb:RwX BlobS 55 w' base v1' l (fun g=>N g\/v2.ownBlock=aG g)) (hg:w.grownBy w' v1.ownBlock) (ho:v1'.ownBlock=v1.ownBlock) :
  OwSt w' base v1' v2 { s with aI:=l } N :=
 ⟨hb,by rw [ho];exact h.e.other hg (fun b e1 e2=>h.ne b e1 e2) (fun b e=> .inr e),by rw [ho];exact h.ne⟩
theorem KJ (w:World) (g:Option Nat) (gc:Nat) (AL:aj) (cL:Nat) (L:List ai) (l:List BlobP) (hgc:gc<w.heap.size) (hne:g≠aG gc) (hcell:w.cell? ⟨gc,0,aF⟩=aG (aA AL L.length cL)) (hL:L.length<=1000000) (hrd:Rd w 1 AL L.length (strs L)) (hna:∀a,AL=aG a->g≠aG a.block) :
  Xc w g l 166 (.pointer (aG ⟨gc,0,aF⟩)) (fun b=> !decide (b.dig∈L)):=by
 refine⟨fun _ _=>ww,fun b B cb W hb hgr hs=> ?_⟩;have hc:W.cell? ⟨gc,0,aF⟩=aG (aA AL L.length cL):=hgr.cell hcell (fun e=>hne e.symm);have hgW:gc<W.heap.size:=Nat.lt_of_lt_of_le hgc hgr.size;have hr:Rd W 1 AL L.length (strs L):=hrd.keepb hgr.size (fun k hk ⟨a,e1,e2⟩=>hgr.block k hk (fun e=>hna a e1 (by rw [e2];exact e.symm)));have hb1:=ws W (aE #[aD ⟨b.dig.toArray⟩,aA B b.data.length cb,aB aC b.aQ,.bool b.mark] 55);have hbox:Arr (W.alloc (aE #[aD ⟨b.dig.toArray⟩,aA B b.data.length cb,aB aC b.aQ,.bool b.mark] 55)) W.heap.size 55 [aD ⟨b.dig.toArray⟩,aA B b.data.length cb,aB aC b.aQ,.bool b.mark]:=Arr.new W 55 _;have hk1:(W.alloc (aE #[aD ⟨b.dig.toArray⟩,aA B b.data.length cb,aB aC b.aQ,.bool b.mark] 55)).cell? ⟨gc,0,aF⟩=aG (aA AL L.length cL):=(World.cell?_alloc_lt W _ ⟨gc,0,aF⟩ hgW).trans hc;have p0:=hbox.c0;have HCT:=sqH (YQ AL cL L b.dig _ wu (hr.below hb1));dsimp only;generalize hdv:decide (b.dig∈L)=dv at *
 clear hr hc hrd hcell hbox;go_enter func166,ntmps166;go_wp2_with fail;refine HCT.o.mono ?_;rintro e_ wx ⟨rfl,rfl⟩;dsimp only;go_wp2_with fail;go_ret;exact⟨rfl,hb1⟩
theorem K6 (base:Nat) (v1 v2:Value) (s:StoP) (w:World) (N:am) (hg:GoodS s) (ho:OwSt w base v1 v2 s N) :
  Calls zZZ 137 #[stV v1 v2 s] w fun e w'=>∃v1',e= .returned (stV v1' v2 (cln s))/\OwSt w' base v1' v2 (cln s) N/\w.grownBy w' v1.ownBlock/\v1'.ownBlock=v1.ownBlock:=by
 have hbl:=hg.b.len;have h41:∀b,v1.ownBlock=aG b->b<w.heap.size:=fun b e=>(ho.b.rwo.blk e).2;have h42:∀b,v2.ownBlock=aG b->b<w.heap.size:=fun b e=>(ho.e.rwo.blk e).2;obtain⟨A,c,B,d,e1,e2,hrd⟩:=ho.rows;have hr0:=hrd;subst e1 e2;obtain⟨w0,hw0,hS,hR,hb0⟩:=zW w 38 [aA A s.aI.length c,aA B s.aJ.length d,aB aC s.aL,aB aC s.aK] [aA aF 0 0,aA aF 0 0,aB aC 0,aB aC 0];have HALL:=sqH (QR A B c d s (s.aL:Int) (s.aK:Int) w0 hg.rts (hrd.below hb0));have ho0:=(ho.wider (N':=fun b=>N b\/b=w.heap.size\/b=w.heap.size+1) (fun b hb=>hb.imp id (fun e=>wu))).below hb0;obtain⟨x0,x1,x2,x3⟩:=sqC4 hS;obtain⟨H,hH⟩:=wY w.heap.size
 rw [<-hH]at hS hR ho0 h41 h42;rw [hw0]at x0 x1 x2 x3;have HGR0:=sqH (show w.grownBy w0 (aA A s.aI.length c).ownBlock from kE hb0);have HHW:=sqH hH;clear hr0 hrd hb0 ho;go_enter func137,ntmps137;go_wp2_with fail;rw [<-hw0];clear hw0 x0 x1 x2 x3;rw [<-hH];clear hH;refine HALL.o.mono ?_;rintro e_ w2 ⟨v3,L,rfl,hL,hLl,ho3,hb2⟩;dsimp only;obtain⟨AL,cL,rfl,hcL,hrL⟩:=Rd.of_own' ho3;have hna:∀a,AL=aG a->w0.heap.size<=a.block:=fun a e=>by
  subst e;rcases ho3.2 with ⟨e,_⟩ | ⟨g,cap,cur,e,hb,_⟩
  ·cases e
  ·cases e;exact hb
 have HL:=sqH hL;have HRL:=sqH hrL;have hLn:L.length<=24:=wu;have hS2:=hS.below hb2;have hR2:=hR.below hb2;have ho2:=ho0.below hb2;have HGR2:=sqH (zQ HGR0.o hb2);have hH2:H<w2.heap.size:=hS2.lt;have h02:w0.heap.size<=w2.heap.size:=hb2.size;have hsz0:H+1<w0.heap.size:=hR.lt;have hb3:=ws w2 (aE #[aA AL L.length cL] 39);have hA3:Arr (w2.alloc (aE #[aA AL L.length cL] 39)) w2.heap.size 39 [aA AL L.length cL]:=Arr.new w2 39 _;have hS3:=hS2.below hb3;have hR3:=hR2.below hb3;have ho3':=ho2.below hb3;have HT:=sqH (KJ (w2.alloc (aE #[aA AL L.length cL] 39)) (aA A s.aI.length c).ownBlock w2.heap.size AL cL L s.aI hA3.lt (fun e=>by have:=h41 _ e;omega) (hA3.c0) wu (HRL.o.below hb3) (fun a e1 e2=>by have:=hna a e1;have:=h41 _ e2;omega));have HDF:=sqH (U1 base (aA A s.aI.length c) s.aI _ _ _ _ _ wu ho3'.b HT.o);have HGR3:=sqH (zQ HGR2.o hb3);obtain⟨q0,q1,q2,q3⟩:=sqC4 hS2;obtain⟨p0,p1,p2,p3⟩:=sqC4 hS3;clear hS hR ho0 hb2 ho2 ho3 hL hrL hA3 hb3 hR2 hna;go_wp2_with fail;clear q0 q1 q2 q3 p0 p1 p2 p3 hS2;generalize (w2.alloc (aE #[aA AL L.length cL] 39))=w3 at *
 refine HDF.o.mono ?_;rintro e_ w4 ⟨v1',rfl,hx4,hg4,hob⟩;dsimp only;have hbk:s.aI.filter (fun b=> !(!decide (b.dig∈L)))=(cln s).aI:=by
  rw [<-UG HL.o];unfold z1l;refine List.filter_congr fun b hb=> ?_;rw [Bool.not_not]
 rw [hbk]at hx4;obtain⟨A',c',e1, -, -, -⟩:=hx4.rwo.rows;subst e1;have ho4:=ho3'.turnB hx4 hg4 hob;have hS3l:=hS3.lt;have hR3l:=hR3.lt;have hneH:∀k,(aA A s.aI.length c).ownBlock=aG k->k<H:=h41;have hS4:=hS3.grown hg4 (fun e=>by have:=h41 H e;omega);have hR4:=hR3.grown hg4 (fun e=>by have:=h41 (H+1) e;omega);have HGR4:=sqH (HGR3.o.trans hg4);have f0:=hS4.frozen 0;have y0:=hS4.c0;have hS5:=hS4.set (k:=0) ab (aA A' (cln s).aI.length c');have hR5:=hR4.other (g':=H) (k:=0) wu (aA A' (cln s).aI.length c');have hv1b:(aA A' (cln s).aI.length c').ownBlock≠aG H:=fun e=>by rw [hob]at e;have:=h41 H e;omega
 have hv1c:(aA A' (cln s).aI.length c').ownBlock≠aG (H+1):=fun e=>by rw [hob]at e;have:=h41 (H+1) e;omega
 have hv2b:(aA B s.aJ.length d).ownBlock≠aG H:=fun e=>by have:=h42 H e;omega
 have hv2c:(aA B s.aJ.length d).ownBlock≠aG (H+1):=fun e=>by have:=h42 (H+1) e;omega
 have ho5:=ho4.setX (g:=H) (k:=0) (.inr (.inl rfl)) hv1b hv2b (aA A' (cln s).aI.length c');have HGR5:=sqH (zr (H:=H) (k:=0) (u:=(aA A' (cln s).aI.length c')) HGR4.o (by rw [HHW.o];exact Nat.le_refl _));obtain⟨z0,z1,z2,z3⟩:=sqC4 hS5;obtain⟨r0,r1,r2,r3⟩:=sqF4 hR5;obtain⟨x0,x1,x2,x3⟩:=sqC4 hR5;have hfin:=hR5.all4 (aA A' (cln s).aI.length c') (aA B s.aJ.length d) (aB aC s.aL) (aB aC s.aK);have ho6:=(((ho5.setX (g:=H+1) (k:=0) (.inr (.inr (by rw [HHW.o]))) hv1c hv2c (aA A' (cln s).aI.length c')).setX (g:=H+1) (k:=1) (.inr (.inr (by rw [HHW.o]))) hv1c hv2c (aA B s.aJ.length d)).setX (g:=H+1) (k:=2) (.inr (.inr (by rw [HHW.o]))) hv1c hv2c (aB aC s.aL)).setX (g:=H+1) (k:=3) (.inr (.inr (by rw [HHW.o]))) hv1c hv2c (aB aC s.aK);obtain⟨HGR6,HOB,HO6⟩:=sqJ3 (zr (H:=H+1) (k:=3) (u:=(aB aC s.aK)) (zr (H:=H+1) (k:=2) (u:=(aB aC s.aL)) (zr (H:=H+1) (k:=1) (u:=(aA B s.aJ.length d)) (zr (H:=H+1) (k:=0) (u:=(aA A' (cln s).aI.length c')) HGR5.o (by rw [HHW.o];omega)) (by rw [HHW.o];omega)) (by rw [HHW.o];omega)) (by rw [HHW.o];omega)) hob ho6;clear ho3' hx4 ho4 hg4 hS3 hR3 hS4 hR4 hS5 hR5 ho5 ho6 hob hbk hv1b hv1c hv2b hv2c hneH h41 h42;go_wp2_with fail;refine bodyPost_ret (results_cell_row rfl _ _ (H+1) _ _ _ _ ac hfin underlying38 rfl ww) rfl ?_;exact⟨(aA A' (cln s).aI.length c'),rfl,HO6.o.mono (fun b hb=> .inl hb),HGR6.o,HOB.o⟩
def uni (L:List ai):List ai:=srt (fun x=>x) (nub L)
theorem yJ (L:List ai):Rises (uni L):=uz (f:=fun x=>x) (by rw [List.map_id'];exact ZO L)
theorem QM (L:List ai):StrL (uni L) (fun x=>x∈L):=by
 refine⟨(yJ L).nodup,(yJ L).imp fun {a b} h=> ?_,fun x=> ?_⟩
 ·rw [JP];cases hb:Op.bytesLess b a with
  | false=>rfl
  | true=>have:=qi h hb;rw [yD]at this;cases this
 ·show x∈srt _ _↔_;rw [(q7 _ _).mem_iff,xW]
theorem yl:x∈uni L↔x∈L:=(QM L).mem x
theorem StrL.uni {M:List ai} {p:List UInt8->Prop} (h:StrL M p) (hp:∀x,p x↔x∈L):M=uni L :=
 StrL.uniq h ⟨(QM L).nd,(QM L).le,fun x=>(yl).trans (hp x).symm⟩
theorem QL (L:List ai):(uni L).length<=L.length:=by
 have:∀l:List ai,(nub l).length<=l.length:=fun l=>by
  induction l with
  | nil=>exact Nat.le_refl _
  | cons x l ih =>
   rw [nub];split
   ·exact Nat.le_trans ih ab
   ·simpa using ih
 show(srt _ _).length<=_;rw [(q7 _ _).length_eq];exact this L
theorem Vq (h:Rises L):L.Pairwise (fun x y=>leB x y=true):=h.imp fun {a b} h=>by
 rw [JP]
 cases hb:Op.bytesLess b a with
 | false=>rfl
 | true=>have:=qi h hb;rw [yD]at this;cases this
structure ColP where
 aN:Nat
 aM:List ai
 at_:ai
def Jr (bl:List BlobP):List BlobP:=bl.map fun b=> { b with mark:=false }
def Xm (s:StoP):StoP:= { s with aI:=Jr s.aI }
def UC (s:StoP):ColP:=⟨1,uni (rts s), []⟩
def mkd (bl:List BlobP):List ai:=(bl.filter (·.mark)).map (·.dig)
theorem qD:x∈mkd bl↔∃b∈bl,b.mark=true/\b.dig=x:=by
 unfold mkd;rw [List.mem_map];constructor
 ·rintro⟨b,hb,e⟩;obtain⟨h1,h2⟩:=List.mem_filter.1 hb;exact⟨b,h1,h2,e⟩
 ·rintro⟨b,hb,h,e⟩;exact⟨b,List.mem_filter.2 ⟨hb,h⟩,e⟩
def zU (s:StoP) (c:ColP):StoP×ColP :=
 match c.aM with
 | []=>(s,⟨2, [], []⟩)
 | d::rest=>match s.aI.findIdx? (fun b=>b.dig==d) with
  | none=>(s,⟨1,rest, []⟩)
  | some i=>match s.aI[i]? with
   | none=>(s,⟨1,rest, []⟩)
   | some b=>if b.mark then (s,⟨1,rest, []⟩) else ({ s with aI:=s.aI.set i { b with mark:=true } },⟨1,uni (rest++(qU b.data).1.map (·.dig)), []⟩)
def k8 (s:StoP) (c:ColP):StoP×ColP×ai :=
 match s.aI.findIdx? (fun b=>Op.bytesLess c.at_ b.dig) with
 | none=>(s,⟨0, [], []⟩, [])
 | some i=>match s.aI[i]? with
  | none=>(s,⟨0, [], []⟩, [])
  | some b=>if b.mark then (s,⟨2, [],b.dig⟩, []) else ({ s with aI:=s.aI.eraseIdx i },⟨2, [],b.dig⟩,b.dig)
def qF (s:StoP) (c:ColP):StoP×ColP×ai:=if c.aN=1 then ((zU s c).1,(zU s c).2, []) else k8 s c
def NoM (b:BlobP):ai×ai×Nat:=(b.dig,b.data,b.aQ)
def EqM (l m:List BlobP):Prop:=l.map NoM=m.map NoM
theorem EqM.symm (h:EqM l m):EqM m l:=Eq.symm h
theorem EqM.trans {k:List BlobP} (h:EqM l m) (h':EqM m k):EqM l k:=Eq.trans h h'
theorem EqM.rfl_ (l:List BlobP):EqM l l:=rfl
theorem EqM.len (h:EqM l m):l.length=m.length:=by
 have:=congrArg List.length h;simpa using this
theorem EqM.at_ (h:EqM l m) (i:Nat) (h1:i<l.length) (h2:i<m.length):m[i].dig=l[i].dig/\m[i].data=l[i].data/\m[i].aQ=l[i].aQ:=by
 have h3:=congrArg (fun x=>x[i]?) h;simp only [List.getElem?_map,List.getElem?_eq_getElem h1,List.getElem?_eq_getElem h2,Option.map_some,Option.some.injEq,NoM,Prod.mk.injEq]at h3;exact⟨h3.1.symm,h3.2.1.symm,h3.2.2.symm⟩
theorem EqM.mem (h:EqM l m) (hb:b∈l):∃b'∈m,b'.dig=b.dig/\b'.data=b.data/\b'.aQ=b.aQ:=by
 obtain⟨i,hi,rfl⟩:=List.mem_iff_getElem.1 hb;have h2:i<m.length:=by rw [<-h.len];exact hi
 exact⟨m[i],List.getElem_mem h2,h.at_ i hi h2⟩
theorem EqM.cons {a:BlobP} (h:EqM (a::l) (b::m)):(b.dig=a.dig/\b.data=a.data/\b.aQ=a.aQ)/\EqM l m:=by
 unfold EqM at h;simp only [List.map_cons,List.cons.injEq]at h;obtain⟨h1,h2⟩:=h;unfold NoM at h1;simp only [Prod.mk.injEq]at h1;exact⟨⟨h1.1.symm,h1.2.1.symm,h1.2.2.symm⟩,h2⟩
theorem XF {x:ai}:∀ {l m:List BlobP},EqM l m->m.findIdx? (fun b=>b.dig==x)=l.findIdx? (fun b=>b.dig==x)
 | [], [],_=>rfl
 | [],b::m,h=>by cases h
 | a::l, [],h=>by cases h
 | a::l,b::m,h=>by
  obtain⟨h1,h2⟩:=h.cons
  rw [List.findIdx?_cons,List.findIdx?_cons,h1.1,XF h2]
theorem Kc (h:EqM l m) (x:ai):kids m x=kids l x:=by
 unfold kids;rw [XF h];cases hf:l.findIdx? (fun b=>b.dig==x) with
 | none=>rfl
 | some i =>
  have hi:i<l.length:=(List.findIdx?_eq_some_iff_getElem.1 hf).1;have hi2:i<m.length:=by rw [<-h.len];exact hi
  simp only [List.getElem?_eq_getElem hi,List.getElem?_eq_getElem hi2];rw [(h.at_ i hi hi2).2.1]
theorem uf (h:EqM l m):InB m x↔InB l x:=by
 constructor
 ·rintro⟨b,hb,e⟩;obtain⟨b',hb',e1,_⟩:=h.symm.mem hb;exact⟨b',hb',e1.trans e⟩
 ·rintro⟨b,hb,e⟩;obtain⟨b',hb',e1,_⟩:=h.mem hb;exact⟨b',hb',e1.trans e⟩
theorem Kd (h:EqM l m) (hx:Rch l ds x):Rch m ds x:=by
 induction hx with
 | root h1 h2=>exact .root h1 ((uf h).2 h2)
 | step h1 h2 h3 ih=>exact .step ih (by rw [Kc h];exact h2) ((uf h).2 h3)
theorem XG (h:EqM l m):Rch m ds=Rch l ds:=funext fun x=>propext ⟨Kd h.symm,Kd h⟩
theorem Ke:∀ {l m:List BlobP},EqM l m->uF m=uF l
 | [], [],_=>rfl
 | [],b::m,h=>by cases h
 | a::l, [],h=>by cases h
 | a::l,b::m,h=>by
  obtain⟨h1,h2⟩:=h.cons
  have ih:=Ke h2
  unfold uF at ih ⊢
  rw [List.filter_cons,List.filter_cons,h1.2.2]
  split
  ·rw [List.map_cons,List.map_cons,h1.1,ih]
  ·exact ih
theorem jN (h:EqM s.aI m):rts { s with aI:=m }=rts s:=by
 show ux s.aJ++uF m=_;rw [Ke h];rfl
theorem z1c (h:EqM l m) (hr:RisesBy (·.dig) l):RisesBy (·.dig) m:=by
 have e:m.map (·.dig)=l.map (·.dig):=by
  have h3:=congrArg (List.map Prod.fst) h;simp only [List.map_map]at h3;exact h3.symm
 have:=List.pairwise_map.1 (e▸hr.map:Rises (m.map (·.dig)));exact this
theorem z1d (h:EqM l m):usd m=usd l:=by
 have h3:=congrArg (List.map fun x:ai×ai×Nat=>x.2.1.length) h;simp only [List.map_map]at h3;unfold usd;exact(congrArg List.sum h3).symm
theorem jM (h:EqM s.aI m) (hg:GoodS s):GoodS { s with aI:=m } :=
 ⟨⟨by rw [<-h.len];exact hg.b.len,fun b hb=>by
   obtain⟨b',hb',e1,e2,e3⟩:=h.symm.mem hb
   have h1:=hg.b.one b' hb'
   unfold GoodB1 at h1 ⊢
   rw [<-e1,<-e2,<-e3];exact h1,z1c h hg.b.ris⟩,hg.e,hg.aL,by show usd m<=_;rw [z1d h];exact hg.used,hg.aK,fun x hx=>⟨(hg.ent x hx).1,fun p hp=>by
   obtain⟨b,hb,e1,e2⟩:=(hg.ent x hx).2 p hp
   obtain⟨b',hb',e3,e4,_⟩:=h.mem hb
   exact⟨b',hb',e3.trans e1,by rw [e4];exact e2⟩⟩⟩
theorem Kf (l:List BlobP):EqM l (Jr l):=by
 unfold EqM Jr;rw [List.map_map];rfl
theorem XH (hi:i<l.length) (k:Bool):EqM l (l.set i { l[i] with mark:=k }):=by
 unfold EqM;rw [List.map_set];have:NoM { l[i] with mark:=k }=(l.map NoM)[i]'(by simpa using hi):=by rw [List.getElem_map];rfl
 rw [this,List.set_getElem_self]
theorem z15 (b:ai) (h:(qU b).2≠0):(qU b).1= []:=by
 unfold qU at h ⊢
 split
 ·rfl
 rename_i h1;rw [if_neg h1]at h;split
 ·rfl
 rename_i h2;rw [if_neg h2]at h;split
 ·rfl
 rename_i h3;rw [if_neg h3]at h;split
 ·rfl
 rename_i h4;rw [if_neg h4]at h;split
 ·rfl
 rename_i h5;rw [if_neg h5]at h;split
 ·rfl
 rename_i h6;rw [if_neg h6]at h;split
 ·rfl
 rename_i h7;rw [if_neg h7]at h;exact absurd rfl h
theorem z14 (b:ai):(qU b).1= []\/(enc (qU b).1=b/\chk (qU b).1=0):=by
 by_cases h:(qU b).2=0
 ·right;have e:qU b=((qU b).1,0):=by rw [<-h]
  exact UK e
 ·exact .inl (z15 b h)
theorem z16 (b:ai):∀p∈(qU b).1,hexC p.dig=0:=fun p hp=>by
 rcases z14 b with h | h
 ·rw [h]at hp;cases hp
 ·exact((zi h.2).2 p hp).2.1
theorem UX {y:ai} (h:y∈kids bl x):hexC y=0:=by
 unfold kids at h;cases hf:bl.findIdx? (fun b=>b.dig==x) with
 | none=>rw [hf]at h;cases h
 | some i =>
  rw [hf]at h;cases hb:bl[i]? with
  | none=>simp only [hb]at h;cases h
  | some b =>
   simp only [hb]at h;obtain⟨p,hp,rfl⟩:=List.mem_map.1 h;exact z16 b.data p hp
theorem z1x (hg:GoodS s) (h:x∈rts s):hexC x=0:=by
 rcases List.mem_append.1 h with h | h
 ·obtain⟨y,hy,h2⟩:=List.mem_flatMap.1 h;obtain⟨p,hp,rfl⟩:=List.mem_map.1 h2;exact((zi (hg.e.one y hy).2.1).2 p hp).2.1
 ·obtain⟨b,hb,rfl⟩:=List.mem_map.1 h;rw [(hg.b.one b (List.mem_filter.1 hb).1).1];exact zE _
structure GoodC (s:StoP) (c:ColP):Prop where
 ph:c.aN<=2
 gh:∀d∈c.aM,hexC d=0
 ris:Rises c.aM
 ah:c.at_= []\/hexC c.at_=0
 g0:c.aN≠1->c.aM= []
 a0:c.aN≠2->c.at_= []
 mr:c.aN=1->∀x∈rts s,InB s.aI x->x∈mkd s.aI\/x∈c.aM
 mb:c.aN=1->∀b∈s.aI,b.mark=true->∀x∈kids s.aI b.dig,InB s.aI x->x∈mkd s.aI\/x∈c.aM
 sw:c.aN=2->∀x,Rch s.aI (rts s) x->x∈mkd s.aI
theorem K3 (hg:GoodS s):GoodS (Xm s):=jM (Kf s.aI) hg
theorem z0y (s:StoP):rts (Xm s)=rts s:=jN (Kf s.aI)
theorem Xn (hg:GoodS s):GoodC (Xm s) (UC s):=by
 refine⟨by show 1<=2;omega,fun d hd=>z1x hg (yl.1 hd),yJ _,.inl rfl,fun h=>absurd rfl h,fun _=>rfl,fun _ x hx _=> .inr ?_,fun _ b hb hm=> ?_,fun h=>absurd h (by show ¬(1=2);omega)⟩
 ·rw [z0y]at hx;exact yl.2 hx
 ·exfalso;obtain⟨a,_,rfl⟩:=List.mem_map.1 hb;cases hm
theorem Ya (hr:RisesBy (·.dig) s.aI) (h1:∀x∈rts s,InB s.aI x->x∈mkd s.aI) (h2:∀b∈s.aI,b.mark=true->∀x∈kids s.aI b.dig,InB s.aI x->x∈mkd s.aI):∀x,Rch s.aI (rts s) x->x∈mkd s.aI:=fun x hx=>by
 induction hx with
 | root h3 h4=>exact h1 _ h3 h4
 | step h3 h4 h5 ih =>
  obtain⟨b,hb,hm,rfl⟩:=qD.1 ih
  exact h2 b hb hm _ h4 h5
theorem z1o (hi:i<l.length) (x:ai):x∈mkd (l.set i { l[i] with mark:=true })↔x∈mkd l\/x=l[i].dig:=by
 rw [qD,qD];constructor
 ·rintro⟨b,hb,hm,rfl⟩;rcases List.mem_or_eq_of_mem_set hb with h | h
  ·exact .inl ⟨b,h,hm,rfl⟩
  ·subst h;exact .inr rfl
 ·rintro(⟨b,hb,hm,rfl⟩ | rfl)
  ·obtain⟨j,hj,rfl⟩:=List.mem_iff_getElem.1 hb;by_cases hij:i=j
   ·subst hij;exact⟨_,List.mem_iff_getElem.2 ⟨i,by simpa using hi,rfl⟩,ab,ab⟩
   ·exact⟨l[j],List.mem_iff_getElem.2 ⟨j,by simpa using hj,by rw [List.getElem_set_ne hij]⟩,hm,rfl⟩
  ·exact⟨_,List.mem_iff_getElem.2 ⟨i,by simpa using hi,rfl⟩,ab,ab⟩
theorem kA (s:StoP) (c:ColP):(c.aM= []/\zU s c=(s,⟨2, [], []⟩)) \/
  (∃d rest,c.aM=d::rest/\¬InB s.aI d/\zU s c=(s,⟨1,rest, []⟩)) \/
  (∃d rest i,∃hi:i<s.aI.length,c.aM=d::rest/\s.aI.findIdx? (fun b=>b.dig==d)=aG i/\s.aI[i].dig=d/\s.aI[i].mark=true/\zU s c=(s,⟨1,rest, []⟩)) \/
  (∃d rest i,∃hi:i<s.aI.length,c.aM=d::rest/\s.aI.findIdx? (fun b=>b.dig==d)=aG i/\s.aI[i].dig=d/\s.aI[i].mark=false/\zU s c=({ s with aI:=s.aI.set i { s.aI[i] with mark:=true } },⟨1,uni (rest++kids s.aI d), []⟩)):=by
 unfold zU;cases hc:c.aM with
 | nil=>exact .inl ⟨rfl,rfl⟩
 | cons d rest =>
  right;generalize hf:s.aI.findIdx? (fun b=>b.dig==d)=r;cases r with
  | none =>
   left;refine⟨d,rest,rfl,fun h=> ?_,by simp only [hf]⟩;rw [jS,hf]at h;cases h
  | some i =>
   right;obtain⟨hi,hd,_⟩:=List.findIdx?_eq_some_iff_getElem.1 hf;have hd':s.aI[i].dig=d:=by simpa using hd
   have hk:kids s.aI d=(qU s.aI[i].data).1.map (·.dig):=by
    unfold kids;simp only [hf,List.getElem?_eq_getElem hi]
   cases hm:s.aI[i].mark with
   | true =>
    left;refine⟨d,rest,i,hi,rfl,hf,hd',hm,?_⟩;simp only [hf,List.getElem?_eq_getElem hi,hm,if_true]
   | false =>
    right;refine⟨d,rest,i,hi,rfl,hf,hd',hm,?_⟩;rw [hk];simp only [hf,List.getElem?_eq_getElem hi,hm,Bool.false_eq_true,if_false]
theorem kZ (s:StoP) (c:ColP):EqM s.aI (zU s c).1.aI/\(zU s c).1= { s with aI:=(zU s c).1.aI }:=by
 rcases kA s c with ⟨_,h⟩ | ⟨_,_,_,_,h⟩ | ⟨_,_,_,_,_,_,_,_,h⟩ | ⟨_,_,_,hi,_,_,_,_,h⟩
 ·rw [h];exact⟨rfl,rfl⟩
 ·rw [h];exact⟨rfl,rfl⟩
 ·rw [h];exact⟨rfl,rfl⟩
 ·rw [h];exact⟨XH hi true,rfl⟩
theorem Yl (c:ColP) (hg:GoodS s):GoodS (zU s c).1:=by
 rw [(kZ s c).2];exact jM (kZ s c).1 hg
theorem V3 (s:StoP) (c:ColP):rts (zU s c).1=rts s:=by
 rw [(kZ s c).2];exact jN (kZ s c).1
theorem V2 (s:StoP) (c:ColP):Rch (zU s c).1.aI (rts (zU s c).1)=Rch s.aI (rts s):=by
 rw [V3];exact XG (kZ s c).1
theorem Qy {c:ColP} (hg:GoodS s) (hp:c.aN=1) (h:GoodC s c):GoodC (zU s c).1 (zU s c).2:=by
 rcases kA s c with ⟨hc,e⟩ | ⟨d,rest,hc,hn,e⟩ | ⟨d,rest,i,hi,hc,_,hd,hm,e⟩ | ⟨d,rest,i,hi,hc,hf,hd,hm,e⟩
 ·rw [e];refine⟨Nat.le_refl _,(fun d hd=>by cases hd),List.Pairwise.nil,.inl rfl,fun _=>rfl,fun h=>absurd rfl h,fun h=>(by cases h),fun h=>(by cases h),fun _=> ?_⟩;refine Ya hg.b.ris (fun x hx hb=> ?_) (fun b hb hm x hx hi=> ?_)
  ·rcases h.mr hp x hx hb with h1 | h1
   ·exact h1
   ·rw [hc]at h1;cases h1
  ·rcases h.mb hp b hb hm x hx hi with h1 | h1
   ·exact h1
   ·rw [hc]at h1;cases h1
 ·rw [e];have hr:=h.ris;have hgh:=h.gh;rw [hc]at hr hgh;have drop:∀x,InB s.aI x->(x∈mkd s.aI\/x∈c.aM)->x∈mkd s.aI\/x∈rest:=fun x hx hh=>hh.imp id fun h2=>by
   rw [hc]at h2;rcases List.mem_cons.1 h2 with rfl | h2
   ·exact absurd hx hn
   ·exact h2
  exact⟨by show 1<=2;omega,fun x hx=>hgh x (List.mem_cons_of_mem _ hx),(List.pairwise_cons.1 hr).2,.inl rfl,fun h=>absurd rfl h,fun _=>rfl,fun _ x hx hi=>drop x hi (h.mr hp x hx hi),fun _ b hb hm x hx hi=>drop x hi (h.mb hp b hb hm x hx hi),fun h=>by cases h⟩
 ·rw [e];have hr:=h.ris;have hgh:=h.gh;rw [hc]at hr hgh;have drop:∀x,InB s.aI x->(x∈mkd s.aI\/x∈c.aM)->x∈mkd s.aI\/x∈rest:=fun x hx hh=>by
   rcases hh with h2 | h2
   ·exact .inl h2
   ·rw [hc]at h2;rcases List.mem_cons.1 h2 with rfl | h2
    ·exact .inl (qD.2 ⟨_,List.getElem_mem hi,hm,hd⟩)
    ·exact .inr h2
  exact⟨by show 1<=2;omega,fun x hx=>hgh x (List.mem_cons_of_mem _ hx),(List.pairwise_cons.1 hr).2,.inl rfl,fun h=>absurd rfl h,fun _=>rfl,fun _ x hx hi=>drop x hi (h.mr hp x hx hi),fun _ b hb hm x hx hi=>drop x hi (h.mb hp b hb hm x hx hi),fun h=>by cases h⟩
 ·have e1:(zU s c).1= { s with aI:=s.aI.set i { s.aI[i] with mark:=true } }:=by rw [e]
  have e2:(zU s c).2=⟨1,uni (rest++kids s.aI d), []⟩:=by rw [e]
  have hE:EqM s.aI (s.aI.set i { s.aI[i] with mark:=true }):=XH hi true;rw [e1,e2];have hgh:=h.gh;rw [hc]at hgh;have keep:∀x,(x∈mkd s.aI\/x∈c.aM)->x∈mkd (s.aI.set i { s.aI[i] with mark:=true })\/x∈uni (rest++kids s.aI d):=fun x hh=>by
   rw [z1o hi,yl,List.mem_append];rcases hh with h2 | h2
   ·exact .inl (.inl h2)
   ·rw [hc]at h2;rcases List.mem_cons.1 h2 with rfl | h2
    ·exact .inl (.inr hd.symm)
    ·exact .inr (.inl h2)
  refine⟨by show 1<=2;omega,fun x hx=> ?_,yJ _,.inl rfl,fun h=>absurd rfl h,fun _=>rfl,fun _ x hx hb=> ?_,fun _ b hb hmb x hx hbx=> ?_,fun h=>by cases h⟩
  ·rcases List.mem_append.1 (yl.1 hx) with h2 | h2
   ·exact hgh x (List.mem_cons_of_mem _ h2)
   ·exact UX h2
  ·rw [jN hE]at hx;exact keep x (h.mr hp x hx ((uf hE).1 hb))
  ·have hk:kids (s.aI.set i { s.aI[i] with mark:=true }) b.dig=kids s.aI b.dig:=Kc hE _;have hbx':=(uf hE).1 hbx;have hx':x∈kids s.aI b.dig:=by rw [<-hk];exact hx
   rcases List.mem_or_eq_of_mem_set hb with h2 | h2
   ·exact keep x (h.mb hp b h2 hmb x hx' hbx')
   ·subst h2;right;rw [yl,List.mem_append];have hx2:x∈kids s.aI s.aI[i].dig:=hx';rw [hd]at hx2;exact .inr hx2
theorem z2f (h:l.Sublist m):usd l<=usd m:=by
 induction h with
 | slnil=>exact Nat.le_refl _
 | cons a _ ih=>unfold usd at *;simp only [List.map_cons,List.sum_cons];omega
 | cons_cons a _ ih=>unfold usd at *;simp only [List.map_cons,List.sum_cons];omega
theorem xh (hr:RisesBy (·.dig) l) (i:Nat):RisesBy (·.dig) (l.eraseIdx i):=List.Pairwise.sublist (List.eraseIdx_sublist _ _) hr
theorem Zz (hr:RisesBy (·.dig) l) (hi:i<l.length) (hb:b∈l):b=l[i]\/b∈l.eraseIdx i:=by
 obtain⟨j,hj,rfl⟩:=List.mem_iff_getElem.1 hb;by_cases h:j=i
 ·subst h;exact .inl rfl
 ·right;rw [List.mem_eraseIdx_iff_getElem];exact⟨j,hj,h,rfl⟩
theorem yT (s:StoP) (c:ColP):(s.aI.findIdx? (fun b=>Op.bytesLess c.at_ b.dig)=aF/\k8 s c=(s,⟨0, [], []⟩, [])) \/
  (∃i,∃hi:i<s.aI.length,s.aI.findIdx? (fun b=>Op.bytesLess c.at_ b.dig)=aG i/\s.aI[i].mark=true/\k8 s c=(s,⟨2, [],s.aI[i].dig⟩, [])) \/
  (∃i,∃hi:i<s.aI.length,s.aI.findIdx? (fun b=>Op.bytesLess c.at_ b.dig)=aG i/\s.aI[i].mark=false/\k8 s c=({ s with aI:=s.aI.eraseIdx i },⟨2, [],s.aI[i].dig⟩,s.aI[i].dig)):=by
 unfold k8;cases hf:s.aI.findIdx? (fun b=>Op.bytesLess c.at_ b.dig) with
 | none=>exact .inl ⟨rfl,by simp only [hf]⟩
 | some i =>
  right;obtain⟨hi,hd,_⟩:=List.findIdx?_eq_some_iff_getElem.1 hf;cases hm:s.aI[i].mark with
  | true=>exact .inl ⟨i,hi,rfl,hm,by simp only [hf,List.getElem?_eq_getElem hi,hm,if_true]⟩
  | false=>exact .inr ⟨i,hi,rfl,hm,by simp only [hf,List.getElem?_eq_getElem hi,hm,Bool.false_eq_true,if_false]⟩
section
variable {s:StoP} {i:Nat}
theorem Kk (hg:GoodS s) (hi:i<s.aI.length) (hm:s.aI[i].mark=false) (hsw:∀x,Rch s.aI (rts s) x->x∈mkd s.aI):¬Rch s.aI (rts s) s.aI[i].dig:=fun h=>by
 obtain⟨b,hb,hmb,e⟩:=qD.1 (hsw _ h)
 have:=hg.b.ris.inj hb (List.getElem_mem hi) e
 subst this
 rw [hm]at hmb;cases hmb
theorem ZL (hg:GoodS s) (hi:i<s.aI.length) (hn:¬Rch s.aI (rts s) s.aI[i].dig):s.aI[i].aQ=0:=by
 rcases Nat.eq_zero_or_pos s.aI[i].aQ with h | h
 ·exact h
 ·exact absurd (.root (z1y (List.getElem_mem hi) h) ⟨_,List.getElem_mem hi,rfl⟩) hn
theorem V1 (hi:i<s.aI.length) (hp:s.aI[i].aQ=0):uF (s.aI.eraseIdx i)=uF s.aI:=by
 unfold uF;rw [yE s.aI i hi (by simp [hp])]
theorem J7 (hi:i<s.aI.length) (hp:s.aI[i].aQ=0):rts { s with aI:=s.aI.eraseIdx i }=rts s:=by
 show ux s.aJ++uF (s.aI.eraseIdx i)=_;rw [V1 hi hp];rfl
theorem J5 (hg:GoodS s) (hi:i<s.aI.length) (hx:InB s.aI x) (hne:x≠s.aI[i].dig):InB (s.aI.eraseIdx i) x:=by
 obtain⟨b,hb,rfl⟩:=hx;rcases Zz hg.b.ris hi hb with h | h
 ·subst h;exact absurd rfl hne
 ·exact⟨b,h,rfl⟩
theorem Kl (hg:GoodS s) (hi:i<s.aI.length) (hn:¬Rch s.aI (rts s) s.aI[i].dig):Rch (s.aI.eraseIdx i) (rts { s with aI:=s.aI.eraseIdx i })=Rch s.aI (rts s):=by
 rw [J7 hi (ZL hg hi hn)];refine funext fun x=>propext ⟨fun h=>h.sub hg.b.ris (xh hg.b.ris i) (ug _ _) (fun _ h=>h),fun h=>h.keepb hg.b.ris (xh hg.b.ris i) (ug _ _) (fun _ h=>h) (fun y hy=>J5 hg hi hy.inB (fun e=>hn (e▸hy)))⟩
theorem ZK (hg:GoodS s) (hi:i<s.aI.length) (hn:¬Rch s.aI (rts s) s.aI[i].dig):GoodS { s with aI:=s.aI.eraseIdx i }:=by
 refine⟨⟨Nat.le_trans (List.eraseIdx_sublist _ _).length_le hg.b.len,fun b hb=>hg.b.one b (ug _ _ b hb),xh hg.b.ris i⟩,hg.e,hg.aL,Nat.le_trans ?_ hg.used,hg.aK,fun x hx=>⟨(hg.ent x hx).1,fun p hp=> ?_⟩⟩
 ·show usd (s.aI.eraseIdx i)<=usd s.aI;exact z2f (List.eraseIdx_sublist s.aI i)
 ·obtain⟨b,hb,e1,e2⟩:=(hg.ent x hx).2 p hp;rcases Zz hg.b.ris hi hb with h | h
  ·subst h;exact absurd (.root (by rw [e1];exact Kv hx hp) ⟨_,hb,rfl⟩) hn
  ·exact⟨b,h,e1,e2⟩
theorem J6 (hi:i<s.aI.length) (hm:s.aI[i].mark=false):mkd (s.aI.eraseIdx i)=mkd s.aI:=by
 unfold mkd;rw [yE s.aI i hi hm]
end
theorem Yt {c:ColP} (hg:GoodS s) (hp:c.aN=2) (h:GoodC s c):GoodS (k8 s c).1/\GoodC (k8 s c).1 (k8 s c).2.1/\Rch (k8 s c).1.aI (rts (k8 s c).1)=Rch s.aI (rts s)/\(k8 s c).1.aJ=s.aJ/\(k8 s c).1.aL=s.aL/\(k8 s c).1.aK=s.aK:=by
 rcases yT s c with ⟨_,e⟩ | ⟨i,hi,_,hm,e⟩ | ⟨i,hi,_,hm,e⟩
 ·rw [e];exact⟨hg,⟨by show 0<=2;omega,(fun d hd=>by cases hd),List.Pairwise.nil,.inl rfl,fun _=>rfl,fun _=>rfl,fun h=>(by cases h),fun h=>(by cases h),fun h=>by cases h⟩,rfl,rfl,rfl,rfl⟩
 ·rw [e];exact⟨hg,⟨Nat.le_refl _,(fun d hd=>by cases hd),List.Pairwise.nil,.inr (by show hexC s.aI[i].dig=0;rw [(hg.b.one _ (List.getElem_mem hi)).1];exact zE _),fun _=>rfl,fun h=>absurd rfl h,fun h=>(by cases h),fun h=>(by cases h),fun _=>h.sw hp⟩,rfl,rfl,rfl,rfl⟩
 ·have hn:=Kk hg hi hm (h.sw hp);rw [e];refine⟨ZK hg hi hn,⟨Nat.le_refl _,(fun d hd=>by cases hd),List.Pairwise.nil,.inr (by show hexC s.aI[i].dig=0;rw [(hg.b.one _ (List.getElem_mem hi)).1];exact zE _),fun _=>rfl,fun h=>absurd rfl h,fun h=>(by cases h),fun h=>(by cases h),fun _ x hx=> ?_⟩,Kl hg hi hn,rfl,rfl,rfl⟩;show x∈mkd (s.aI.eraseIdx i);rw [J6 hi hm];exact h.sw hp x (by rw [<-Kl hg hi hn];exact hx)
def unm (bl:List BlobP):Nat:=(bl.filter (fun b=> !b.mark)).length
theorem z47 (bl:List BlobP):unm bl<=bl.length:=List.length_filter_le _ _
theorem xw {p:BlobP->Bool}:∀ {l:List BlobP} {i:Nat} {y:BlobP} (hi:i<l.length),p l[i]=true->p y=false->((l.set i y).filter p).length+1=(l.filter p).length
 | x::l,0,y,_,h1,h2=>by
  rw [List.set_cons_zero,List.filter_cons_of_neg (by simp [h2]),List.filter_cons_of_pos (by simpa using h1)];rfl
 | x::l,i+1,y,hi,h1,h2=>by
  have ih:=xw (l:=l) (i:=i) (y:=y) (by simpa using hi) (by simpa using h1) h2
  rw [List.set_cons_succ]
  by_cases hx:p x=true
  ·rw [List.filter_cons_of_pos hx,List.filter_cons_of_pos hx,List.length_cons,List.length_cons,ih]
  ·rw [List.filter_cons_of_neg hx,List.filter_cons_of_neg hx,ih]
def YW (k:Nat) (bl:List BlobP):Prop:=∀b∈bl,(qU b.data).1.length<=k
theorem UY (bl:List BlobP):YW 8 bl:=fun b _=>yO b.data
theorem UZ (h:YW k bl) (x:ai):(kids bl x).length<=k:=by
 unfold kids;cases hf:bl.findIdx? (fun b=>b.dig==x) with
 | none=>exact Nat.zero_le _
 | some i =>
  have hi:i<bl.length:=(List.findIdx?_eq_some_iff_getElem.1 hf).1;simp only [List.getElem?_eq_getElem hi,List.length_map];exact h _ (List.getElem_mem hi)
theorem Ym {c:ColP} (hk:YW k s.aI) (h:(zU s c).2.aN=1):k*unm (zU s c).1.aI+(zU s c).2.aM.length+1<=k*unm s.aI+c.aM.length:=by
 rcases kA s c with ⟨_,e⟩ | ⟨d,rest,hc,_,e⟩ | ⟨d,rest,i,hi,hc,_,_,_,e⟩ | ⟨d,rest,i,hi,hc,_,hd,hm,e⟩
 ·rw [e]at h;cases h
 ·rw [e,hc];simp only [List.length_cons];omega
 ·rw [e,hc];simp only [List.length_cons];omega
 ·rw [e,hc];have h1:=xw (p:=fun b=> !b.mark) (y:= { s.aI[i] with mark:=true }) hi (by simp [hm]) ab;have h2:=QL (rest++kids s.aI d);have h3:=UZ hk d;rw [List.length_append]at h2;show k*unm (s.aI.set i _)+(uni (rest++kids s.aI d)).length+1<=k*unm s.aI+(d::rest).length;have h4:unm s.aI=unm (s.aI.set i { s.aI[i] with mark:=true })+1:=by unfold unm;exact h1.symm
  rw [h4,Nat.mul_add,Nat.mul_one,List.length_cons];omega
theorem J8 (s:StoP) (c:ColP):(zU s c).2.aN=1\/(zU s c).2=⟨2, [], []⟩:=by
 rcases kA s c with ⟨_,e⟩ | ⟨_,_,_,_,e⟩ | ⟨_,_,_,_,_,_,_,_,e⟩ | ⟨_,_,_,_,_,_,_,_,e⟩
 ·rw [e];exact .inr rfl
 ·rw [e];exact .inl rfl
 ·rw [e];exact .inl rfl
 ·rw [e];exact .inl rfl
def ahead (a:ai) (bl:List BlobP):Nat:=(bl.filter (fun b=>Op.bytesLess a b.dig)).length
theorem Q0 {c:ColP} (hg:GoodS s) (hc:GoodC s c) (hp:c.aN=1\/c.aN=2):GoodS (qF s c).1/\GoodC (qF s c).1 (qF s c).2.1/\Rch (qF s c).1.aI (rts (qF s c).1)=Rch s.aI (rts s)/\(qF s c).1.aJ=s.aJ/\(qF s c).1.aL=s.aL/\(qF s c).1.aK=s.aK:=by
 unfold qF;rcases hp with hp | hp
 ·rw [if_pos hp];have e:=(kZ s c).2;refine⟨Yl c hg,Qy hg hp hc,V2 s c,?_,?_,?_⟩<;>(show _=_;rw [e])
 ·rw [if_neg wu];exact Yt hg hp hc
end Go.Proofs.YtcjmjaefcjcomaaGreat
