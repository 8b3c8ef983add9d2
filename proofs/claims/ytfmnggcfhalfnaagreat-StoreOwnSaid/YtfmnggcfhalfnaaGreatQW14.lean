/- Lemmas of the proof. Conditions: as stated. -/
import Derived.Test.YtfmnggcfhalfnaaGreatQW11
import Derived.BigRegion
set_option linter.unusedVariables false
set_option linter.unusedSimpArgs false
set_option maxRecDepth 100000
set_option maxHeartbeats 8000000
namespace Go.Proofs.YtfmnggcfhalfnaaGreat
open Go.RowKit
theorem un:∀x y:List UInt8,decide (Lib.compareBytes x y<0)=Op.bytesLess x y
 | [], []=>rfl
 | [],_::_=>rfl
 | _::_, []=>rfl
 | a::x,b::y=>by
  rw [Lib.compareBytes,Op.bytesLess]
  by_cases h1:a<b
  ·simp [h1]
  ·by_cases h2:b<a
   ·have hne:a≠b:=by rintro rfl;exact h1 h2
    simp [h1,h2,hne]
   ·have he:a=b:=by
     rcases jX a b with h | h | h
     ·exact absurd h h1
     ·exact h
     ·exact absurd h h2
    subst he;have:=un x y;simp [h1,this]
theorem qh {x y:List UInt8} (h:Op.bytesLess x y=true):Lib.compareBytes x y<0:=by
 have:=un x y;rw [h,decide_eq_true_eq]at this;exact this
theorem qg {x y:List UInt8} (h:Op.bytesLess x y=false):¬Lib.compareBytes x y<0:=by
 have:=un x y;rw [h,decide_eq_false_iff_not]at this;exact this
def vJ (f:FuncId):Prop:=(∀args W,(callFunc f args).run Tryz.prog W= .ok (.enter f args) W)∧∀(s t:ByteArray) (v1 v2 v3 u1 u2 u3:Value) (w:World),
 Calls Tryz.prog f #[.agg #[.string s,v1,v2,v3],.agg #[.string t,u1,u2,u3]] w fun e w'=>e= .returned (.int .i64 (Lib.compareBytes s.data.toList t.data.toList))∧Below w.heap.size w w'
theorem Qa:vJ 22:=⟨fun _ _=>by kernel_rfl,Z0⟩
theorem Z3 (f:FuncId) (HF:vJ f) (N:Nat→Prop) (g cap:Nat) (l:List BlobP) (base:Nat) (w:World) (hl:l.length≤1000000) (h0:0<l.length) (hcap:cap≤maxLen) (hnd:(l.map (·.dig)).Nodup) (hv:RwO (BlobS.off N) 32 w base (.slice (some ⟨g,0,none⟩) l.length cap) l) :
  Calls Tryz.prog 73 #[.slice (some ⟨g,0,none⟩) l.length cap,.int .i64 0,.int .i64 l.length,.func (.func f) #[] #[]] w fun e w' =>
   e= .returned (.tuple #[])∧RwO (BlobS.off N) 32 w' base (.slice (some ⟨g,0,none⟩) l.length cap) (srt (·.dig) l)∧w.grownBy w' (some g):=by
 obtain⟨hcf,hcc0⟩:=HF;have HCC:=sqH hcc0;clear hcc0;have HND:=sqH hnd;obtain⟨n,hn⟩:∃n,n=l.length:=⟨_,rfl⟩
 rw [←hn]at hl h0 hv ⊢
 have HN:=sqH hn;have hg0:w.grownBy w (some g):=⟨rfl,rfl,rfl,Nat.le_refl _,fun _ _ _=>rfl⟩
 clear hnd hn;go_enter Tryz.func73,Tryz.ntmps73;go_wp2_with fail;go_loopg [8] n (fun gn i wr=>∃(A R:List BlobP),gn=n+1 - A.length∧i= .int .i64 A.length∧0<A.length∧A.length+R.length=n∧RisesBy (·.dig) A∧(A++R).Perm l∧RwO (BlobS.off N) 32 wr base (.slice (some ⟨g,0,none⟩) n cap) (A++R)∧w.grownBy wr (some g))
 case atStart =>
  obtain⟨b,r,rfl⟩:∃b r,l=b::r:=by
   cases l with
   | nil=>have:=HN.out;simp at this;omega
   | cons b r=>exact⟨b,r,rfl⟩
  exact⟨[b],r,by simp,rfl,by simp,by have:=HN.out;simp at this ⊢;omega,List.pairwise_singleton _ _,List.Perm.refl _,hv,hg0⟩
 case round =>
  clear hv hg0;obtain⟨A,R,hgk,rfl,hA0,hAR,hris,hperm,hrow,hgr⟩:=hrel;have HGK:=sqH hgk;have HPE:=sqH hperm;clear hgk hperm;have HNA:=sqH hAR;cases R with
  | nil =>
   have hAn:A.length=n:=by simpa using hAR
   have hcc:decide ((A.length:Int)<(n:Int))=false:=decide_eq_false (by omega);have hcc2:decide (A.length<n)=false:=decide_eq_false (by omega);rw [List.append_nil]at hrow;have HS:=sqH (show A=srt (·.dig) l from uY hris (by have:=HPE.out;rwa [List.append_nil]at this));go_wp2_with fail;go_end0;rw [←HS.out];exact⟨rfl,hrow,hgr⟩
  | cons x R =>
   have hAn:A.length<n:=by simp at hAR;omega
   have hcc:decide ((A.length:Int)<(n:Int))=true:=decide_eq_true (by omega);have hcc2:decide (A.length<n)=true:=decide_eq_true hAn;have HST:=sqH (Ins.start hris x);clear hris hAR;go_wp2_with fail;go_loopg [9] A.length (fun gn i wr=>∃(A1 B1:List BlobP),gn=A1.length∧i= .int .i64 A1.length∧A1.length+B1.length=A.length∧Ins (·.dig) A1 x B1∧(A1++x::(B1++R)).Perm l∧RwO (BlobS.off N) 32 wr base (.slice (some ⟨g,0,none⟩) n cap) (A1++x::(B1++R))∧w.grownBy wr (some g))
   case atStart=>exact⟨A, [],rfl,rfl,by simp,HST.out,HPE.out,hrow,hgr⟩
   case round =>
    clear hrow hgr;obtain⟨A1,B1,hg1,rfl,hAB,hins,hperm,hrow,hgr⟩:=hrel;have HG1:=sqH hg1;have HPE1:=sqH hperm;have HIN:=sqH hins;clear hg1 hperm hins;rcases List.eq_nil_or_concat A1 with rfl | ⟨P,a,rfl⟩
    ·have HD0:=sqH (HIN.out.done0);simp only [List.length_nil,Nat.zero_add]at hAB;simp only [List.nil_append]at hrow;have g0:decide ((0:Int)>0)=false:=by simp
     rw [show((([]:List BlobP).length:Nat):Int)=0 from rfl];go_wp2_with fail;go_quiet (fail);dsimp only [Exit.then];have hgq:w.grownBy (wr.drewN nq) (some g):=⟨hgr.os,hgr.tape,hgr.output,hgr.size,hgr.block⟩
     go_wp2_with fail;go_roundg (n+1 - (A.length+1))
     case measure=>have:=HGK.out;omega
     case rel =>
      refine⟨x::B1,R,?_,?_,by simp,?_,HD0.out,?_,hrow.below (below_drewN (Below.refl _ _) nq),hgq⟩
      ·simp;omega
      ·simp;omega
      ·have:=HNA.out;simp at this ⊢;omega
      ·have:=HPE1.out;simpa using this
    ·obtain⟨p,hp⟩:∃p,p=P.length:=⟨_,rfl⟩
     obtain⟨j,hj⟩:∃j,j=p+1:=⟨_,rfl⟩
     have hlj:(P.concat a).length=j:=by simp;omega
     rw [hlj]at hAB ⊢
     rw [show P.concat a++x::(B1++R)=P++a::x::(B1++R) by simp]at hrow;have hwj:IntKind.i64.wrap ((j:Int) - 1)=(p:Int):=by rw [IntWalk.i64_in _ (by omega)];omega
     have hjn:j<n:=by omega
     have g0:decide ((j:Int)>0)=true:=decide_eq_true (by omega);have g1:decide ((0:Int)<(j:Int))=true:=decide_eq_true (by omega);have g2:decide (0<j)=true:=decide_eq_true (by omega);have g3:(0:Int)<(j:Int):=by omega
     have g4:0<j:=by omega
     have i0:(0:Int)≤(j:Int):=by omega
     have i1:(j:Int)<(n:Int):=by omega
     have i2:(0:Int)≤(p:Int):=by omega
     have i3:(p:Int)<(n:Int):=by omega
     have hln:(P++a::x::(B1++R)).length=n:=by
      have:=HNA.out;simp at this ⊢
      omega
     have hsw:=RwO.swap (g:=g) (cap:=cap) (by rw [hln];exact hrow) rfl;obtain⟨ca,cx,⟨⟨Aa,c1,rfl,_⟩,_⟩,⟨⟨Ax,c2,rfl,_⟩,_⟩,hca,hcx,_,_⟩:=hsw;rw [←hp,←hj]at hcx;rw [←hp]at hca;have d0:=hca 0 _ rfl;have d1:=hca 1 _ rfl;have d2:=hca 2 _ rfl;have d3:=hca 3 _ rfl;have e0:=hcx 0 _ rfl;have e1:=hcx 1 _ rfl;have e2:=hcx 2 _ rfl;have e3:=hcx 3 _ rfl;rw [Nat.add_zero]at d0 e0;have HCM:=sqH (fun W=>HCC.out ⟨x.dig.toArray⟩ ⟨a.dig.toArray⟩ (.slice Ax x.data.length c2) (.int .i64 x.pins) (.bool x.mark) (.slice Aa a.data.length c1) (.int .i64 a.pins) (.bool a.mark) W);generalize hsa:(⟨a.dig.toArray⟩:ByteArray)=sa at *
     generalize hsx:(⟨x.dig.toArray⟩:ByteArray)=sx at *
     have hcl:Lib.compareBytes sx.data.toList sa.data.toList=Lib.compareBytes x.dig a.dig:=by rw [←hsa,←hsx]
     rw [hcl]at HCM;generalize (Value.slice Aa a.data.length c1)=a1 at *
     generalize (Value.int .i64 a.pins)=a2 at *
     generalize (Value.bool a.mark)=a3 at *
     generalize (Value.slice Ax x.data.length c2)=x1 at *
     generalize (Value.int .i64 x.pins)=x2 at *
     generalize (Value.bool x.mark)=x3 at *
     have HS8:=sqH (show ∀W:World,Below wr.heap.size wr W→(W.cell? ⟨g,p*4,none⟩=some (.string sa)∧W.cell? ⟨g,p*4+1,none⟩=some a1∧W.cell? ⟨g,p*4+2,none⟩=some a2∧W.cell? ⟨g,p*4+3,none⟩=some a3)∧(W.cell? ⟨g,j*4,none⟩=some (.string sx)∧W.cell? ⟨g,j*4+1,none⟩=some x1∧W.cell? ⟨g,j*4+2,none⟩=some x2∧W.cell? ⟨g,j*4+3,none⟩=some x3) from fun W h=>by
      have hgl:g<wr.heap.size:=(hrow.blk rfl).2;have hc:∀k,W.cell? ⟨g,k,none⟩=wr.cell? ⟨g,k,none⟩:=fun k=>h.cell (p:=⟨g,k,none⟩) hgl;simp only [hc];exact⟨⟨d0,d1,d2,d3⟩,e0,e1,e2,e3⟩)
     have HRW:=sqH hrow;have HGR:=sqH hgr;have HP':=sqH hp;have HJ':=sqH hj;have HLJ:=sqH hlj;have HAB:=sqH hAB;have HLN:=sqH hln;clear hrow hgr hca hcx d0 d1 d2 d3 e0 e1 e2 e3 hsa hsx hcl hp hj hlj hAB hln;go_wp2_with fail;refine wp_region_held_drew (S:=(fun w'=>(w'.cell? ⟨g,p*4,none⟩=some (.string sa)∧w'.cell? ⟨g,p*4+1,none⟩=some a1∧w'.cell? ⟨g,p*4+2,none⟩=some a2∧w'.cell? ⟨g,p*4+3,none⟩=some a3)∧(w'.cell? ⟨g,j*4,none⟩=some (.string sx)∧w'.cell? ⟨g,j*4+1,none⟩=some x1∧w'.cell? ⟨g,j*4+2,none⟩=some x2∧w'.cell? ⟨g,j*4+3,none⟩=some x3))) (by kernel_rfl) ?_ (fun hHeld=> ?_)
     ·exact HS8.out _ (Below.refl _ wr).drew
     have hB:=(Below.refl wr.heap.size wr).drew;generalize wr.drew=wn0 at *
     refine sqTH 0 ?_;try simp only [sqP]
     refine sqTH 1 ?_;try simp only [sqP]
     refine sqTH 2 ?_;try simp only [sqP]
     refine sqTH 3 ?_;try simp only [sqP]
     refine sqTH 4 ?_;try simp only [sqP]
     refine sqTH 5 ?_;try simp only [sqP]
     refine sqTH 6 ?_;try simp only [sqP]
     refine sqTH 7 ?_;try simp only [sqP]
     refine sqTH 8 ?_;try simp only [sqP]
     refine sqTH 9 ?_;try simp only [sqP]
     refine sqTH 10 ?_;try simp only [sqP]
     refine sqTH 11 ?_;try simp only [sqP]
     refine sqTH 12 ?_;try simp only [sqP]
     refine sqTH 13 ?_;try simp only [sqP]
     refine wpAnyH_ready (rs:= [14]) (by kernel_rfl) (by simp) ?_;refine AllReadyH.cons (o:=_) rfl (fun K hK=> ?_) ?_
     ·
      go_simp;refine(HCM.out wn0).mono ?_;rintro e5 w5 ⟨rfl,hb5⟩;dsimp only;refine zr hK ?_ (Below wn0.heap.size wn0) (fun W=>True) ?_ ?_ (fun wn1 hHeld hst hnew=> ?_)
      ·(exact HS8.out _ (hB.trans (hb5.mono hB.size)))
      ·(exact hb5)
      ·(trivial)
      have hB:=hB.trans (hst.mono hB.size);clear hst;clear hK K
      try simp only [sqP]
      refine sqTH 15 ?_;try simp only [sqP]
      refine sqTH 16 ?_;try simp only [sqP]
      refine wpAnyH_done (by kernel_rfl) ?_ _;clear hHeld;dsimp only [Exit.then];generalize wn1=wz at *
      have hgz:w.grownBy wz (some g):=⟨hB.os.trans HGR.out.os,hB.tape.trans HGR.out.tape,hB.output.trans HGR.out.output,Nat.le_trans HGR.out.size hB.size,fun i hi hne=>(hB.block i (Nat.lt_of_lt_of_le hi HGR.out.size)).trans (HGR.out.block i hi hne)⟩
      have hrz:=HRW.out.below hB;cases hlt:Op.bytesLess x.dig a.dig with
      | true =>
       have hz:decide (Lib.compareBytes x.dig a.dig<0)=true:=decide_eq_true (qh hlt);rw [hz];clear hz;generalize Lib.compareBytes x.dig a.dig=z at *
       have HLT:=sqH hlt;obtain⟨ca,cx,⟨⟨Ba,k1,rfl,_⟩,_⟩,⟨⟨Bx,k2,rfl,_⟩,_⟩,hca,hcx,hfz,hsw⟩:=RwO.swap (g:=g) (cap:=cap) (by rw [HLN.out];exact hrz) rfl;obtain⟨hsw1,hsw2⟩:=hsw _ _ _ _ _ _ _ _ rfl rfl;have hq:(P.length+1)*4=p*4+4:=by rw [HP'.out];omega
       have hq1:P.length*4=p*4:=by rw [HP'.out]
       rw [hq]at hcx hsw1 hsw2;rw [hq1]at hca hsw1 hsw2;have d0:=hca 0 _ rfl;have d1:=hca 1 _ rfl;have d2:=hca 2 _ rfl;have d3:=hca 3 _ rfl;have e0:=hcx 0 _ rfl;have e1:=hcx 1 _ rfl;have e2:=hcx 2 _ rfl;have e3:=hcx 3 _ rfl;rw [Nat.add_zero]at d0 e0;rw [show p*4+4+1=p*4+5 from rfl]at e1;rw [show p*4+4+2=p*4+6 from rfl]at e2;rw [show p*4+4+3=p*4+7 from rfl]at e3;generalize (⟨a.dig.toArray⟩:ByteArray)=ya at *
       generalize a.data.length=na at *
       generalize (a.pins:Int)=pa at *
       generalize a.mark=ma at *
       generalize (⟨x.dig.toArray⟩:ByteArray)=yx at *
       generalize x.data.length=nx at *
       generalize (x.pins:Int)=px at *
       generalize x.mark=mx at *
       have f0:=hfz (p*4);have f1:=hfz (p*4+1);have f2:=hfz (p*4+2);have f3:=hfz (p*4+3);have f4:=hfz (p*4+4);have f5:=hfz (p*4+5);have f6:=hfz (p*4+6);have f7:=hfz (p*4+7);have f5':=hfz (p*4+4+1);have f6':=hfz (p*4+4+2);have f7':=hfz (p*4+4+3);have e1':=e1;have e2':=e2;have e3':=e3;rw [show p*4+5=p*4+4+1 from rfl]at e1';rw [show p*4+6=p*4+4+2 from rfl]at e2';rw [show p*4+7=p*4+4+3 from rfl]at e3';generalize hW9:put4 (put4 wz g (p*4+4) _ _ _ _) g (p*4) _ _ _ _=W9 at hsw1 hsw2;simp only [put4]at hW9;have HW9:=sqH hW9;have HSW:=sqH (And.intro hsw1 hsw2);clear hW9;clear hca hcx hsw1 hsw2 hlt hq hq1;go_wp2_with fail;have hj4:j*4=p*4+4:=by have:=HJ'.out;omega
       go_region;clear hj4;go_wp2_with fail;rw [HW9.out];go_roundg p
       case measure=>have h1:=HG1.out;have h2:=HP'.out;rw [List.length_concat]at h1;omega
       case rel =>
        have hin:=HIN.out;rw [List.concat_eq_append]at hin;have hs1:=HSW.out.1;have hs2:=HSW.out.2;refine⟨P,a::B1,HP'.out,by rw [HP'.out],?_,hin.down HLT.out,?_,?_,?_⟩
        ·have:=HAB.out;have:=HP'.out;have:=HJ'.out;simp;omega
        ·have h1:=HPE1.out;rw [List.concat_eq_append,List.append_assoc]at h1;exact(List.Perm.append_left P (List.Perm.swap a x (B1++R))).trans h1
        ·have h1:(P++x::a::(B1++R)).length=n:=by have:=HLN.out;simpa using this
         rw [h1]at hs1;exact hs1.below (Below.refl _ _).drew
        ·exact⟨hs2.os.trans hgz.os,hs2.tape.trans hgz.tape,hs2.output.trans hgz.output,Nat.le_trans hgz.size hs2.size,fun i hi hne=>(hs2.block i (Nat.lt_of_lt_of_le hi hgz.size) hne).trans (hgz.block i hi hne)⟩
      | false =>
       have hz:decide (Lib.compareBytes x.dig a.dig<0)=false:=decide_eq_false (qg hlt);rw [hz];clear hz;generalize Lib.compareBytes x.dig a.dig=z at *
       have HLT:=sqH hlt;clear hlt;go_wp2_with fail;go_roundg (n+1 - (A.length+1))
       case measure=>have:=HGK.out;omega
       case rel =>
        have hne:a.dig≠x.dig:=fun e=>by
         have h1:=((HPE1.out.map (·.dig)).nodup_iff).2 HND.out;simp only [List.concat_eq_append,List.map_append,List.map_cons,List.map_nil,List.append_assoc,List.cons_append,List.nil_append]at h1;have h2:=(List.nodup_append.1 h1).2.1;rw [e]at h2;simp at h2
        have hlx:Op.bytesLess a.dig x.dig=true:=by
         rcases ko a.dig x.dig with h | h | h
         ·exact h
         ·exact absurd h hne
         ·rw [HLT.out]at h;cases h
        have hin:=HIN.out;rw [List.concat_eq_append]at hin;have hris:=hin.done hlx;have hL:(P++ [a]++x::B1).length=A.length+1:=by
         have h1:=HAB.out;have h2:=HP'.out;have h3:=HJ'.out;simp only [List.length_append,List.length_cons,List.length_nil];omega
        have hLR:A.length+(R.length+1)=n:=HNA.out;refine⟨P++ [a]++x::B1,R,by rw [hL],by rw [hL];rfl,by omega,by omega,hris,?_,?_,hgz⟩
        ·have:=HPE1.out;rw [List.concat_eq_append]at this;simpa using this
        ·simpa using hrz
     exact AllReadyH.nil
theorem Z6 (f:FuncId) (HF:vJ f) (N:Nat→Prop) (g cap:Nat) (z:Int) (l:List BlobP) (base:Nat) (w:World) (hl:l.length≤12) (h0:0<l.length) (hcap:cap≤maxLen) (hnd:(l.map (·.dig)).Nodup) (hv:RwO (BlobS.off N) 32 w base (.slice (some ⟨g,0,none⟩) l.length cap) l) :
  Calls Tryz.prog 48 #[.slice (some ⟨g,0,none⟩) l.length cap,.int .i64 0,.int .i64 l.length,.int .i64 z,.func (.func f) #[] #[]] w fun e w' =>
   e= .returned (.tuple #[])∧RwO (BlobS.off N) 32 w' base (.slice (some ⟨g,0,none⟩) l.length cap) (srt (·.dig) l)∧w.grownBy w' (some g):=by
 have HI:=sqH (Z3 f HF N g cap l base w (by omega) h0 hcap hnd hv);have hw1:IntKind.i64.wrap ((l.length:Int) - 0)=(l.length:Int):=by rw [IntWalk.i64_in _ (by omega)];omega
 have hw2:IntKind.i64.wrap (l.length:Int)=(l.length:Int):=IntWalk.i64_in _ (by omega);have h12:decide ((l.length:Int)≤12)=true:=decide_eq_true (by omega);have h12':decide (l.length≤12)=true:=decide_eq_true hl;clear hv hnd;go_enter Tryz.func48,Tryz.ntmps48;go_wp2_with fail;go_loopg [1,2] 0 (fun gn i1 i2 wr=>i1= .int .i64 0∧i2= .int .i64 l.length∧wr=w∧gn=0)
 case atStart=>exact⟨rfl,rfl,rfl,rfl⟩
 case round =>
  obtain⟨rfl,rfl,rfl,rfl⟩:=hrel;go_wp2_with fail;refine HI.out.mono ?_;rintro e_ w5 ⟨rfl,hr5,hg5⟩;dsimp only;go_wp2_with fail;refine bodyPost_ret (results_none (by rfl) _ _ _) rfl ?_;exact⟨rfl,hr5,hg5⟩
theorem jh (f:FuncId) (HF:vJ f) (N:Nat→Prop) (g cap:Nat) (l:List BlobP) (base:Nat) (w:World) (hl:l.length≤12) (h0:0<l.length) (hcap:cap≤maxLen) (hnd:(l.map (·.dig)).Nodup) (hv:RwO (BlobS.off N) 32 w base (.slice (some ⟨g,0,none⟩) l.length cap) l) :
  Calls Tryz.prog 21 #[.slice (some ⟨g,0,none⟩) l.length cap,.func (.func f) #[] #[]] w fun e w' =>
   e= .returned (.tuple #[])∧RwO (BlobS.off N) 32 w' base (.slice (some ⟨g,0,none⟩) l.length cap) (srt (·.dig) l)∧w.grownBy w' (some g):=by
 have HP:=sqH (fun z=>Z6 f HF N g cap z l base w hl h0 hcap hnd hv);have HB:=sqH (Tryz.bits_Len (l.length:Int) w (by omega) (by omega));have hw1:IntKind.u64.wrap (l.length:Int)=(l.length:Int):=by rw [IntKind.wrap_u64];omega
 clear hv hnd;go_enter Tryz.func21,Tryz.ntmps21;go_wp2_with fail;refine HB.out.mono ?_;rintro e_ w1 ⟨rfl,rfl⟩;dsimp only;go_wp2_with fail;refine(HP.out _).mono ?_;rintro e_ w5 ⟨rfl,hr5,hg5⟩;dsimp only;go_wp2_with fail;go_end0;exact⟨rfl,hr5,hg5⟩
theorem Z4 (N:Nat→Prop) (g cap:Nat) (l:List EntP) (base:Nat) (w:World) (hl:l.length≤1000000) (h0:0<l.length) (hcap:cap≤maxLen) (hnd:(l.map (·.key)).Nodup) (hv:RwO (EntS.off N) 35 w base (.slice (some ⟨g,0,none⟩) l.length cap) l) :
  Calls Tryz.prog 84 #[.slice (some ⟨g,0,none⟩) l.length cap,.int .i64 0,.int .i64 l.length,.func (.func 25) #[] #[]] w fun e w' =>
   e= .returned (.tuple #[])∧RwO (EntS.off N) 35 w' base (.slice (some ⟨g,0,none⟩) l.length cap) (srt (·.key) l)∧w.grownBy w' (some g):=by
 have HND:=sqH hnd;obtain⟨n,hn⟩:∃n,n=l.length:=⟨_,rfl⟩
 rw [←hn]at hl h0 hv ⊢
 have HN:=sqH hn;have hg0:w.grownBy w (some g):=⟨rfl,rfl,rfl,Nat.le_refl _,fun _ _ _=>rfl⟩
 clear hnd hn;go_enter Tryz.func84,Tryz.ntmps84;go_wp2_with fail;go_loopg [8] n (fun gn i wr=>∃(A R:List EntP),gn=n+1 - A.length∧i= .int .i64 A.length∧0<A.length∧A.length+R.length=n∧RisesBy (·.key) A∧(A++R).Perm l∧RwO (EntS.off N) 35 wr base (.slice (some ⟨g,0,none⟩) n cap) (A++R)∧w.grownBy wr (some g))
 case atStart =>
  obtain⟨b,r,rfl⟩:∃b r,l=b::r:=by
   cases l with
   | nil=>have:=HN.out;simp at this;omega
   | cons b r=>exact⟨b,r,rfl⟩
  exact⟨[b],r,by simp,rfl,by simp,by have:=HN.out;simp at this ⊢;omega,List.pairwise_singleton _ _,List.Perm.refl _,hv,hg0⟩
 case round =>
  clear hv hg0;obtain⟨A,R,hgk,rfl,hA0,hAR,hris,hperm,hrow,hgr⟩:=hrel;have HGK:=sqH hgk;have HPE:=sqH hperm;clear hgk hperm;have HNA:=sqH hAR;cases R with
  | nil =>
   have hAn:A.length=n:=by simpa using hAR
   have hcc:decide ((A.length:Int)<(n:Int))=false:=decide_eq_false (by omega);have hcc2:decide (A.length<n)=false:=decide_eq_false (by omega);rw [List.append_nil]at hrow;have HS:=sqH (show A=srt (·.key) l from uY hris (by have:=HPE.out;rwa [List.append_nil]at this));go_wp2_with fail;go_end0;rw [←HS.out];exact⟨rfl,hrow,hgr⟩
  | cons x R =>
   have hAn:A.length<n:=by simp at hAR;omega
   have hcc:decide ((A.length:Int)<(n:Int))=true:=decide_eq_true (by omega);have hcc2:decide (A.length<n)=true:=decide_eq_true hAn;have HST:=sqH (Ins.start hris x);clear hris hAR;go_wp2_with fail;go_loopg [9] A.length (fun gn i wr=>∃(A1 B1:List EntP),gn=A1.length∧i= .int .i64 A1.length∧A1.length+B1.length=A.length∧Ins (·.key) A1 x B1∧(A1++x::(B1++R)).Perm l∧RwO (EntS.off N) 35 wr base (.slice (some ⟨g,0,none⟩) n cap) (A1++x::(B1++R))∧w.grownBy wr (some g))
   case atStart=>exact⟨A, [],rfl,rfl,by simp,HST.out,HPE.out,hrow,hgr⟩
   case round =>
    clear hrow hgr;obtain⟨A1,B1,hg1,rfl,hAB,hins,hperm,hrow,hgr⟩:=hrel;have HG1:=sqH hg1;have HPE1:=sqH hperm;have HIN:=sqH hins;clear hg1 hperm hins;rcases List.eq_nil_or_concat A1 with rfl | ⟨P,a,rfl⟩
    ·have HD0:=sqH (HIN.out.done0);simp only [List.length_nil,Nat.zero_add]at hAB;simp only [List.nil_append]at hrow;have g0:decide ((0:Int)>0)=false:=by simp
     rw [show((([]:List EntP).length:Nat):Int)=0 from rfl];go_wp2_with fail;go_quiet (fail);dsimp only [Exit.then];have hgq:w.grownBy (wr.drewN nq) (some g):=⟨hgr.os,hgr.tape,hgr.output,hgr.size,hgr.block⟩
     go_wp2_with fail;go_roundg (n+1 - (A.length+1))
     case measure=>have:=HGK.out;omega
     case rel =>
      refine⟨x::B1,R,?_,?_,by simp,?_,HD0.out,?_,hrow.below (below_drewN (Below.refl _ _) nq),hgq⟩
      ·simp;omega
      ·simp;omega
      ·have:=HNA.out;simp at this ⊢;omega
      ·have:=HPE1.out;simpa using this
    ·obtain⟨p,hp⟩:∃p,p=P.length:=⟨_,rfl⟩
     obtain⟨j,hj⟩:∃j,j=p+1:=⟨_,rfl⟩
     have hlj:(P.concat a).length=j:=by simp;omega
     rw [hlj]at hAB ⊢
     rw [show P.concat a++x::(B1++R)=P++a::x::(B1++R) by simp]at hrow;have hwj:IntKind.i64.wrap ((j:Int) - 1)=(p:Int):=by rw [IntWalk.i64_in _ (by omega)];omega
     have hjn:j<n:=by omega
     have g0:decide ((j:Int)>0)=true:=decide_eq_true (by omega);have g1:decide ((0:Int)<(j:Int))=true:=decide_eq_true (by omega);have g2:decide (0<j)=true:=decide_eq_true (by omega);have g3:(0:Int)<(j:Int):=by omega
     have g4:0<j:=by omega
     have i0:(0:Int)≤(j:Int):=by omega
     have i1:(j:Int)<(n:Int):=by omega
     have i2:(0:Int)≤(p:Int):=by omega
     have i3:(p:Int)<(n:Int):=by omega
     have hln:(P++a::x::(B1++R)).length=n:=by
      have:=HNA.out;simp at this ⊢
      omega
     have hsw:=RwO.swap (g:=g) (cap:=cap) (by rw [hln];exact hrow) rfl;obtain⟨ca,cx,⟨⟨Aa,c1,rfl,_⟩,_⟩,⟨⟨Ax,c2,rfl,_⟩,_⟩,hca,hcx,_,_⟩:=hsw;rw [←hp,←hj]at hcx;rw [←hp]at hca;have d0:=hca 0 _ rfl;have d1:=hca 1 _ rfl;have d2:=hca 2 _ rfl;have d3:=hca 3 _ rfl;have e0:=hcx 0 _ rfl;have e1:=hcx 1 _ rfl;have e2:=hcx 2 _ rfl;have e3:=hcx 3 _ rfl;rw [Nat.add_zero]at d0 e0;have HCM:=sqH (fun W=>Z1 ⟨x.key.toArray⟩ ⟨a.key.toArray⟩ (.slice Ax x.parts.length c2) (.int .i64 x.pins) (.int .i64 x.stamp) (.slice Aa a.parts.length c1) (.int .i64 a.pins) (.int .i64 a.stamp) W);generalize hsa:(⟨a.key.toArray⟩:ByteArray)=sa at *
     generalize hsx:(⟨x.key.toArray⟩:ByteArray)=sx at *
     have hcl:Lib.compareBytes sx.data.toList sa.data.toList=Lib.compareBytes x.key a.key:=by rw [←hsa,←hsx]
     rw [hcl]at HCM;generalize (Value.slice Aa a.parts.length c1)=a1 at *
     generalize (Value.int .i64 a.pins)=a2 at *
     generalize (Value.int .i64 a.stamp)=a3 at *
     generalize (Value.slice Ax x.parts.length c2)=x1 at *
     generalize (Value.int .i64 x.pins)=x2 at *
     generalize (Value.int .i64 x.stamp)=x3 at *
     have HS8:=sqH (show ∀W:World,Below wr.heap.size wr W→(W.cell? ⟨g,p*4,none⟩=some (.string sa)∧W.cell? ⟨g,p*4+1,none⟩=some a1∧W.cell? ⟨g,p*4+2,none⟩=some a2∧W.cell? ⟨g,p*4+3,none⟩=some a3)∧(W.cell? ⟨g,j*4,none⟩=some (.string sx)∧W.cell? ⟨g,j*4+1,none⟩=some x1∧W.cell? ⟨g,j*4+2,none⟩=some x2∧W.cell? ⟨g,j*4+3,none⟩=some x3) from fun W h=>by
      have hgl:g<wr.heap.size:=(hrow.blk rfl).2;have hc:∀k,W.cell? ⟨g,k,none⟩=wr.cell? ⟨g,k,none⟩:=fun k=>h.cell (p:=⟨g,k,none⟩) hgl;simp only [hc];exact⟨⟨d0,d1,d2,d3⟩,e0,e1,e2,e3⟩)
     have HRW:=sqH hrow;have HGR:=sqH hgr;have HP':=sqH hp;have HJ':=sqH hj;have HLJ:=sqH hlj;have HAB:=sqH hAB;have HLN:=sqH hln;clear hrow hgr hca hcx d0 d1 d2 d3 e0 e1 e2 e3 hsa hsx hcl hp hj hlj hAB hln;go_wp2_with fail;refine wp_region_held_drew (S:=(fun w'=>(w'.cell? ⟨g,p*4,none⟩=some (.string sa)∧w'.cell? ⟨g,p*4+1,none⟩=some a1∧w'.cell? ⟨g,p*4+2,none⟩=some a2∧w'.cell? ⟨g,p*4+3,none⟩=some a3)∧(w'.cell? ⟨g,j*4,none⟩=some (.string sx)∧w'.cell? ⟨g,j*4+1,none⟩=some x1∧w'.cell? ⟨g,j*4+2,none⟩=some x2∧w'.cell? ⟨g,j*4+3,none⟩=some x3))) (by kernel_rfl) ?_ (fun hHeld=> ?_)
     ·exact HS8.out _ (Below.refl _ wr).drew
     have hB:=(Below.refl wr.heap.size wr).drew;generalize wr.drew=wn0 at *
     refine sqTH 0 ?_;try simp only [sqP]
     refine sqTH 1 ?_;try simp only [sqP]
     refine sqTH 2 ?_;try simp only [sqP]
     refine sqTH 3 ?_;try simp only [sqP]
     refine sqTH 4 ?_;try simp only [sqP]
     refine sqTH 5 ?_;try simp only [sqP]
     refine sqTH 6 ?_;try simp only [sqP]
     refine sqTH 7 ?_;try simp only [sqP]
     refine sqTH 8 ?_;try simp only [sqP]
     refine sqTH 9 ?_;try simp only [sqP]
     refine sqTH 10 ?_;try simp only [sqP]
     refine sqTH 11 ?_;try simp only [sqP]
     refine sqTH 12 ?_;try simp only [sqP]
     refine sqTH 13 ?_;try simp only [sqP]
     refine wpAnyH_ready (rs:= [14]) (by kernel_rfl) (by simp) ?_;refine AllReadyH.cons (o:=_) rfl (fun K hK=> ?_) ?_
     ·
      go_simp;refine(HCM.out wn0).mono ?_;rintro e5 w5 ⟨rfl,hb5⟩;dsimp only;refine zr hK ?_ (Below wn0.heap.size wn0) (fun W=>True) ?_ ?_ (fun wn1 hHeld hst hnew=> ?_)
      ·(exact HS8.out _ (hB.trans (hb5.mono hB.size)))
      ·(exact hb5)
      ·(trivial)
      have hB:=hB.trans (hst.mono hB.size);clear hst;clear hK K
      try simp only [sqP]
      refine sqTH 15 ?_;try simp only [sqP]
      refine sqTH 16 ?_;try simp only [sqP]
      refine wpAnyH_done (by kernel_rfl) ?_ _;clear hHeld;dsimp only [Exit.then];generalize wn1=wz at *
      have hgz:w.grownBy wz (some g):=⟨hB.os.trans HGR.out.os,hB.tape.trans HGR.out.tape,hB.output.trans HGR.out.output,Nat.le_trans HGR.out.size hB.size,fun i hi hne=>(hB.block i (Nat.lt_of_lt_of_le hi HGR.out.size)).trans (HGR.out.block i hi hne)⟩
      have hrz:=HRW.out.below hB;cases hlt:Op.bytesLess x.key a.key with
      | true =>
       have hz:decide (Lib.compareBytes x.key a.key<0)=true:=decide_eq_true (qh hlt);rw [hz];clear hz;generalize Lib.compareBytes x.key a.key=z at *
       have HLT:=sqH hlt;obtain⟨ca,cx,⟨⟨Ba,k1,rfl,_⟩,_⟩,⟨⟨Bx,k2,rfl,_⟩,_⟩,hca,hcx,hfz,hsw⟩:=RwO.swap (g:=g) (cap:=cap) (by rw [HLN.out];exact hrz) rfl;obtain⟨hsw1,hsw2⟩:=hsw _ _ _ _ _ _ _ _ rfl rfl;have hq:(P.length+1)*4=p*4+4:=by rw [HP'.out];omega
       have hq1:P.length*4=p*4:=by rw [HP'.out]
       rw [hq]at hcx hsw1 hsw2;rw [hq1]at hca hsw1 hsw2;have d0:=hca 0 _ rfl;have d1:=hca 1 _ rfl;have d2:=hca 2 _ rfl;have d3:=hca 3 _ rfl;have e0:=hcx 0 _ rfl;have e1:=hcx 1 _ rfl;have e2:=hcx 2 _ rfl;have e3:=hcx 3 _ rfl;rw [Nat.add_zero]at d0 e0;rw [show p*4+4+1=p*4+5 from rfl]at e1;rw [show p*4+4+2=p*4+6 from rfl]at e2;rw [show p*4+4+3=p*4+7 from rfl]at e3;generalize (⟨a.key.toArray⟩:ByteArray)=ya at *
       generalize a.parts.length=na at *
       generalize (a.pins:Int)=pa at *
       generalize (a.stamp:Int)=ma at *
       generalize (⟨x.key.toArray⟩:ByteArray)=yx at *
       generalize x.parts.length=nx at *
       generalize (x.pins:Int)=px at *
       generalize (x.stamp:Int)=mx at *
       have f0:=hfz (p*4);have f1:=hfz (p*4+1);have f2:=hfz (p*4+2);have f3:=hfz (p*4+3);have f4:=hfz (p*4+4);have f5:=hfz (p*4+5);have f6:=hfz (p*4+6);have f7:=hfz (p*4+7);have f5':=hfz (p*4+4+1);have f6':=hfz (p*4+4+2);have f7':=hfz (p*4+4+3);have e1':=e1;have e2':=e2;have e3':=e3;rw [show p*4+5=p*4+4+1 from rfl]at e1';rw [show p*4+6=p*4+4+2 from rfl]at e2';rw [show p*4+7=p*4+4+3 from rfl]at e3';generalize hW9:put4 (put4 wz g (p*4+4) _ _ _ _) g (p*4) _ _ _ _=W9 at hsw1 hsw2;simp only [put4]at hW9;have HW9:=sqH hW9;have HSW:=sqH (And.intro hsw1 hsw2);clear hW9;clear hca hcx hsw1 hsw2 hlt hq hq1;go_wp2_with fail;have hj4:j*4=p*4+4:=by have:=HJ'.out;omega
       go_region;clear hj4;go_wp2_with fail;rw [HW9.out];go_roundg p
       case measure=>have h1:=HG1.out;have h2:=HP'.out;rw [List.length_concat]at h1;omega
       case rel =>
        have hin:=HIN.out;rw [List.concat_eq_append]at hin;have hs1:=HSW.out.1;have hs2:=HSW.out.2;refine⟨P,a::B1,HP'.out,by rw [HP'.out],?_,hin.down HLT.out,?_,?_,?_⟩
        ·have:=HAB.out;have:=HP'.out;have:=HJ'.out;simp;omega
        ·have h1:=HPE1.out;rw [List.concat_eq_append,List.append_assoc]at h1;exact(List.Perm.append_left P (List.Perm.swap a x (B1++R))).trans h1
        ·have h1:(P++x::a::(B1++R)).length=n:=by have:=HLN.out;simpa using this
         rw [h1]at hs1;exact hs1.below (Below.refl _ _).drew
        ·exact⟨hs2.os.trans hgz.os,hs2.tape.trans hgz.tape,hs2.output.trans hgz.output,Nat.le_trans hgz.size hs2.size,fun i hi hne=>(hs2.block i (Nat.lt_of_lt_of_le hi hgz.size) hne).trans (hgz.block i hi hne)⟩
      | false =>
       have hz:decide (Lib.compareBytes x.key a.key<0)=false:=decide_eq_false (qg hlt);rw [hz];clear hz;generalize Lib.compareBytes x.key a.key=z at *
       have HLT:=sqH hlt;clear hlt;go_wp2_with fail;go_roundg (n+1 - (A.length+1))
       case measure=>have:=HGK.out;omega
       case rel =>
        have hne:a.key≠x.key:=fun e=>by
         have h1:=((HPE1.out.map (·.key)).nodup_iff).2 HND.out;simp only [List.concat_eq_append,List.map_append,List.map_cons,List.map_nil,List.append_assoc,List.cons_append,List.nil_append]at h1;have h2:=(List.nodup_append.1 h1).2.1;rw [e]at h2;simp at h2
        have hlx:Op.bytesLess a.key x.key=true:=by
         rcases ko a.key x.key with h | h | h
         ·exact h
         ·exact absurd h hne
         ·rw [HLT.out]at h;cases h
        have hin:=HIN.out;rw [List.concat_eq_append]at hin;have hris:=hin.done hlx;have hL:(P++ [a]++x::B1).length=A.length+1:=by
         have h1:=HAB.out;have h2:=HP'.out;have h3:=HJ'.out;simp only [List.length_append,List.length_cons,List.length_nil];omega
        have hLR:A.length+(R.length+1)=n:=HNA.out;refine⟨P++ [a]++x::B1,R,by rw [hL],by rw [hL];rfl,by omega,by omega,hris,?_,?_,hgz⟩
        ·have:=HPE1.out;rw [List.concat_eq_append]at this;simpa using this
        ·simpa using hrz
     exact AllReadyH.nil
theorem Z7 (N:Nat→Prop) (g cap:Nat) (z:Int) (l:List EntP) (base:Nat) (w:World) (hl:l.length≤12) (h0:0<l.length) (hcap:cap≤maxLen) (hnd:(l.map (·.key)).Nodup) (hv:RwO (EntS.off N) 35 w base (.slice (some ⟨g,0,none⟩) l.length cap) l) :
  Calls Tryz.prog 51 #[.slice (some ⟨g,0,none⟩) l.length cap,.int .i64 0,.int .i64 l.length,.int .i64 z,.func (.func 25) #[] #[]] w fun e w' =>
   e= .returned (.tuple #[])∧RwO (EntS.off N) 35 w' base (.slice (some ⟨g,0,none⟩) l.length cap) (srt (·.key) l)∧w.grownBy w' (some g):=by
 have HI:=sqH (Z4 N g cap l base w (by omega) h0 hcap hnd hv);have hw1:IntKind.i64.wrap ((l.length:Int) - 0)=(l.length:Int):=by rw [IntWalk.i64_in _ (by omega)];omega
 have hw2:IntKind.i64.wrap (l.length:Int)=(l.length:Int):=IntWalk.i64_in _ (by omega);have h12:decide ((l.length:Int)≤12)=true:=decide_eq_true (by omega);have h12':decide (l.length≤12)=true:=decide_eq_true hl;clear hv hnd;go_enter Tryz.func51,Tryz.ntmps51;go_wp2_with fail;go_loopg [1,2] 0 (fun gn i1 i2 wr=>i1= .int .i64 0∧i2= .int .i64 l.length∧wr=w∧gn=0)
 case atStart=>exact⟨rfl,rfl,rfl,rfl⟩
 case round =>
  obtain⟨rfl,rfl,rfl,rfl⟩:=hrel;go_wp2_with fail;refine HI.out.mono ?_;rintro e_ w5 ⟨rfl,hr5,hg5⟩;dsimp only;go_wp2_with fail;refine bodyPost_ret (results_none (by rfl) _ _ _) rfl ?_;exact⟨rfl,hr5,hg5⟩
theorem ji (N:Nat→Prop) (g cap:Nat) (l:List EntP) (base:Nat) (w:World) (hl:l.length≤12) (h0:0<l.length) (hcap:cap≤maxLen) (hnd:(l.map (·.key)).Nodup) (hv:RwO (EntS.off N) 35 w base (.slice (some ⟨g,0,none⟩) l.length cap) l) :
  Calls Tryz.prog 24 #[.slice (some ⟨g,0,none⟩) l.length cap,.func (.func 25) #[] #[]] w fun e w' =>
   e= .returned (.tuple #[])∧RwO (EntS.off N) 35 w' base (.slice (some ⟨g,0,none⟩) l.length cap) (srt (·.key) l)∧w.grownBy w' (some g):=by
 have HP:=sqH (fun z=>Z7 N g cap z l base w hl h0 hcap hnd hv);have HB:=sqH (Tryz.bits_Len (l.length:Int) w (by omega) (by omega));have hw1:IntKind.u64.wrap (l.length:Int)=(l.length:Int):=by rw [IntKind.wrap_u64];omega
 clear hv hnd;go_enter Tryz.func24,Tryz.ntmps24;go_wp2_with fail;refine HB.out.mono ?_;rintro e_ w1 ⟨rfl,rfl⟩;dsimp only;go_wp2_with fail;refine(HP.out _).mono ?_;rintro e_ w5 ⟨rfl,hr5,hg5⟩;dsimp only;go_wp2_with fail;go_end0;exact⟨rfl,hr5,hg5⟩
theorem vR (f:FuncId) (A:Option Addr) (c:Nat) (w:World) :
  Calls Tryz.prog 73 #[.slice A 0 c,.int .i64 0,.int .i64 0,.func (.func f) #[] #[]] w fun e w'=>e= .returned (.tuple #[])∧w'=w:=by
 go_enter Tryz.func73,Tryz.ntmps73;go_wp2_with fail;go_loopg [8] 0 (fun gn i wr=>i= .int .i64 1∧wr=w∧gn=0)
 case atStart=>exact⟨rfl,rfl,rfl⟩
 case round =>
  obtain⟨rfl,rfl,rfl⟩:=hrel;go_wp2_with fail;go_end0;exact⟨rfl,rfl⟩
theorem vV (f:FuncId) (A:Option Addr) (c:Nat) (z:Int) (w:World) :
  Calls Tryz.prog 48 #[.slice A 0 c,.int .i64 0,.int .i64 0,.int .i64 z,.func (.func f) #[] #[]] w fun e w'=>e= .returned (.tuple #[])∧w'=w:=by
 have HI:=sqH (vR f A c w);go_enter Tryz.func48,Tryz.ntmps48;go_wp2_with fail;go_loopg [1,2] 0 (fun gn i1 i2 wr=>i1= .int .i64 0∧i2= .int .i64 0∧wr=w∧gn=0)
 case atStart=>exact⟨rfl,rfl,rfl,rfl⟩
 case round =>
  obtain⟨rfl,rfl,rfl,rfl⟩:=hrel;go_wp2_with fail;refine HI.out.mono ?_;rintro e_ w5 ⟨rfl,rfl⟩;dsimp only;go_wp2_with fail;refine bodyPost_ret (results_none (by rfl) _ _ _) rfl ?_;exact⟨rfl,rfl⟩
theorem vw (f:FuncId) (A:Option Addr) (c:Nat) (w:World) :
  Calls Tryz.prog 21 #[.slice A 0 c,.func (.func f) #[] #[]] w fun e w'=>e= .returned (.tuple #[])∧w'=w:=by
 have HP:=sqH (fun z=>vV f A c z w);have HB:=sqH (Tryz.bits_Len ((0:Nat):Int) w (by omega) (by omega));go_enter Tryz.func21,Tryz.ntmps21;go_wp2_with fail;refine HB.out.mono ?_;rintro e_ w1 ⟨rfl,rfl⟩;dsimp only;go_wp2_with fail;refine(HP.out _).mono ?_;rintro e_ w5 ⟨rfl,rfl⟩;dsimp only;go_wp2_with fail;go_end0;exact⟨rfl,rfl⟩
theorem yJ (f:FuncId) (HF:vJ f) (N:Nat→Prop) (v:Value) (l:List BlobP) (base:Nat) (w:World) (hl:l.length≤12) (hnd:(l.map (·.dig)).Nodup) (hv:RwX BlobS 32 w base v l N) :
  Calls Tryz.prog 21 #[v,.func (.func f) #[] #[]] w fun e w'=>e= .returned (.tuple #[])∧RwX BlobS 32 w' base v (srt (·.dig) l) N∧w.grownBy w' v.ownBlock:=by
 rcases Nat.eq_zero_or_pos l.length with h0 | h0
 ·obtain rfl:=List.eq_nil_of_length_eq_zero h0;obtain⟨A,c,rfl,_,_,_⟩:=hv.rwo.rows;refine(vw f A c w).mono fun e w' h=> ?_;obtain⟨rfl,rfl⟩:=h;exact⟨rfl,by rw [show srt (fun x:BlobP=>x.dig) []= [] from(zm _ []).eq_nil];exact hv,rfl,rfl,rfl,Nat.le_refl _,fun _ _ _=>rfl⟩
 ·obtain⟨g,c,rfl,h1,h2,h3,h4⟩:=hv.rwo.nonnil h0;exact(jh f HF N g c l base w hl h0 h4 hnd hv.off).mono fun e w' h=>⟨h.1,h.2.1.on,h.2.2⟩
theorem vS (A:Option Addr) (c:Nat) (w:World) :
  Calls Tryz.prog 84 #[.slice A 0 c,.int .i64 0,.int .i64 0,.func (.func 25) #[] #[]] w fun e w'=>e= .returned (.tuple #[])∧w'=w:=by
 go_enter Tryz.func84,Tryz.ntmps84;go_wp2_with fail;go_loopg [8] 0 (fun gn i wr=>i= .int .i64 1∧wr=w∧gn=0)
 case atStart=>exact⟨rfl,rfl,rfl⟩
 case round =>
  obtain⟨rfl,rfl,rfl⟩:=hrel;go_wp2_with fail;go_end0;exact⟨rfl,rfl⟩
theorem vW (A:Option Addr) (c:Nat) (z:Int) (w:World) :
  Calls Tryz.prog 51 #[.slice A 0 c,.int .i64 0,.int .i64 0,.int .i64 z,.func (.func 25) #[] #[]] w fun e w'=>e= .returned (.tuple #[])∧w'=w:=by
 have HI:=sqH (vS A c w);go_enter Tryz.func51,Tryz.ntmps51;go_wp2_with fail;go_loopg [1,2] 0 (fun gn i1 i2 wr=>i1= .int .i64 0∧i2= .int .i64 0∧wr=w∧gn=0)
 case atStart=>exact⟨rfl,rfl,rfl,rfl⟩
 case round =>
  obtain⟨rfl,rfl,rfl,rfl⟩:=hrel;go_wp2_with fail;refine HI.out.mono ?_;rintro e_ w5 ⟨rfl,rfl⟩;dsimp only;go_wp2_with fail;refine bodyPost_ret (results_none (by rfl) _ _ _) rfl ?_;exact⟨rfl,rfl⟩
theorem vx (A:Option Addr) (c:Nat) (w:World) :
  Calls Tryz.prog 24 #[.slice A 0 c,.func (.func 25) #[] #[]] w fun e w'=>e= .returned (.tuple #[])∧w'=w:=by
 have HP:=sqH (fun z=>vW A c z w);have HB:=sqH (Tryz.bits_Len ((0:Nat):Int) w (by omega) (by omega));go_enter Tryz.func24,Tryz.ntmps24;go_wp2_with fail;refine HB.out.mono ?_;rintro e_ w1 ⟨rfl,rfl⟩;dsimp only;go_wp2_with fail;refine(HP.out _).mono ?_;rintro e_ w5 ⟨rfl,rfl⟩;dsimp only;go_wp2_with fail;go_end0;exact⟨rfl,rfl⟩
theorem yK (N:Nat→Prop) (v:Value) (l:List EntP) (base:Nat) (w:World) (hl:l.length≤12) (hnd:(l.map (·.key)).Nodup) (hv:RwX EntS 35 w base v l N) :
  Calls Tryz.prog 24 #[v,.func (.func 25) #[] #[]] w fun e w'=>e= .returned (.tuple #[])∧RwX EntS 35 w' base v (srt (·.key) l) N∧w.grownBy w' v.ownBlock:=by
 rcases Nat.eq_zero_or_pos l.length with h0 | h0
 ·obtain rfl:=List.eq_nil_of_length_eq_zero h0;obtain⟨A,c,rfl,_,_,_⟩:=hv.rwo.rows;refine(vx A c w).mono fun e w' h=> ?_;obtain⟨rfl,rfl⟩:=h;exact⟨rfl,by rw [show srt (fun x:EntP=>x.key) []= [] from(zm _ []).eq_nil];exact hv,rfl,rfl,rfl,Nat.le_refl _,fun _ _ _=>rfl⟩
 ·obtain⟨g,c,rfl,h1,h2,h3,h4⟩:=hv.rwo.nonnil h0;exact(ji N g c l base w hl h0 h4 hnd hv.off).mono fun e w' h=>⟨h.1,h.2.1.on,h.2.2⟩
end Go.Proofs.YtfmnggcfhalfnaaGreat
