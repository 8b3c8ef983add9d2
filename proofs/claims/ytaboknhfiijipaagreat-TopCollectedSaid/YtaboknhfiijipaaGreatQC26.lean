/- Lemmas, as stated. -/
import Derived.Test.YtaboknhfiijipaaGreatQC25
import Derived.Test.YtaboknhfiijipaaGreatQC17
set_option linter.unusedVariables false
set_option linter.unusedSimpArgs false
set_option maxRecDepth 100000
set_option maxHeartbeats 16000000
open Go.Value renaming slice->aB,int->aC
open Go.IntKind renaming i64->aD
open Option renaming none->aG,some->aH
namespace Go.Proofs.YtaboknhfiijipaaGreat
open Go.RowKit
variable {c:ColP} {bl:List BlobP} {L:List aj} {s:StoP}
section
variable {w:World} {base g cap:Nat} {e:TypeId} {N:an}
end
theorem U9 (A:ak) (c:Nat) (B:ak) (d:Nat) (s:StoP) (w:World) (hg:GoodS s) (hr:RdSt w A c B d s) :
  Calls Tryz.prog 21 #[.agg #[aB A s.aJ.length c,aB B s.aK.length d,aC aD s.aM,aC aD s.aL]] w fun e w' =>
   ∃v1 v2,e= .returned (.tuple #[.agg #[v1,v2,aC aD s.aM,aC aD s.aL],aC aD ((s.aJ.length:Int) - ((cln s).aJ.length:Int)),aC aD 0])/\OwSt w' w.heap.size v1 v2 (cln s) (fun b=>b<w.heap.size)/\Below w.heap.size w w':=by
 have hlb:s.aJ.length<=24:=hg.b.len;have hle:s.aK.length<=10:=hg.e.len;have hcl:=QF s;have HGD:=sqH hg;obtain⟨w0,hw0,hS,hR,hb0⟩:=q5 w 34 [aB A s.aJ.length c,aB B s.aK.length d,aC aD s.aM,aC aD s.aL] [aB aG 0 0,aB aG 0 0,aC aD 0,aC aD 0];have hr0:=hr.below hb0;obtain⟨H,hH⟩:=wY w.heap.size
 have HCK:=sqH (zB A c B d s w0 hg hr0);rw [<-hH]at hS hR hb0 ⊢
 have hHl:H<w0.heap.size:=hS.lt;have hHr:H+1<w0.heap.size:=hR.lt;obtain⟨x0,x1,x2,x3⟩:=sqC4 hS;rw [hw0,hH]at x0 x1 x2 x3;obtain⟨HPL,HQL,HG⟩:=sqJ3 (show ∀b∈s.aJ,b.data.length<=1000000 from fun b hb=>by have:=(hg.b.one b hb).2.1;omega) (show ∀x∈s.aK,x.aQ.length<=1000000 from fun x hx=>by have:=(zj (hg.e.one x hx).2.1).1;omega) hg;clear hg hr;go_enter Tryz.func21,Tryz.ntmps21;go_wp2_with fail;rw [<-hw0,<-hH];have HH:=sqH hH;clear hw0 hH x0 x1 x2 x3;refine wZ HCK.o fun w1 hb1=>?_;dsimp only;have hr1:=hr0.below hb1;have hS1:=hS.below hb1;obtain⟨z0,z1,z2,z3⟩:=sqC4 hS1;have HCP:=sqH (qo A c B d s w1 ww ww HPL.o HQL.o hr1);clear hr0 hS;go_wp2_with fail;clear z0 z1 z2 z3;refine HCP.o.mono ?_;rintro e_ w3 ⟨q1,q2,rfl,ho3,hb3⟩;dsimp only;have hc3:=wo hb1 hb3;have hS3:=hS1.below hb3;have hcln:=Z2 w1.heap.size _ _ s w3 (fun b=>b<w1.heap.size) HGD.o ho3;simp only [stV,kN,xu]at hcln;have HCL:=sqH hcln;clear hcln hr1 hS1 hb3 HCP;have HO3:=sqH ho3;clear ho3;go_wp2_with fail;refine HCL.o.mono ?_;rintro e_ w4 ⟨v1',rfl,ho4,hg4,hob⟩;dsimp only;obtain⟨A',c',B',d',e1,e2,hrd4⟩:=ho4.rows;subst e1;injection e2 with e21 e22 e23;subst e21 e23;clear e22;have hq1:∀b,(aB (aH ⟨q1,0,aG⟩) s.aJ.length s.aJ.length).ownBlock=aH b->w1.heap.size<=b:=fun b e=>(HO3.o.b.rwo.blk e).1;have hc4:Below w0.heap.size w0 w4:=hc3.grown hg4 hc3.size (fun k hk=>by have:=hq1 k hk;have:=hb1.size;omega);have hS4:=hS3.grown hg4 (fun e=>by have:=hq1 H e;have:=hb1.size;omega);have hR4:=(hR.below hc3).grown hg4 (fun e=>by have:=hq1 (H+1) e;have:=hb1.size;omega);obtain⟨G,hGe⟩:=wY w4.heap.size
 have hba:=wu w4 (.cells #[(aB A' (cln s).aJ.length c'),(aB (aH ⟨q2,0,aG⟩) s.aK.length s.aK.length),aC aD s.aM,aC aD s.aL] 34);have hX:Arr (w4.alloc (.cells #[(aB A' (cln s).aJ.length c'),(aB (aH ⟨q2,0,aG⟩) s.aK.length s.aK.length),aC aD s.aM,aC aD s.aL] 34)) G 34 [(aB A' (cln s).aJ.length c'),(aB (aH ⟨q2,0,aG⟩) s.aK.length s.aK.length),aC aD s.aM,aC aD s.aL]:=by rw [hGe];exact Arr.new w4 34 _
 have hS:=hS4.below hba;have hR7:=hR4.below hba;have hrd7:=hrd4.below hba;have hb:=(hb0.trans (hc4.mono (Nat.le_of_lt hHl))).alloc (by have:=hc4.size;omega) (.cells #[(aB A' (cln s).aJ.length c'),(aB (aH ⟨q2,0,aG⟩) s.aK.length s.aK.length),aC aD s.aM,aC aD s.aL] 34);have h04:=hc4.size;have hba4:=hba.size;have HGE:=sqH hGe;have hG4:w0.heap.size<=G:=by rw [hGe];exact h04
 clear hS4 hR4 hrd4 hc4 hba ho4 hg4 hob hR hb0 hS3 hc3 hb1 hGe hq1
 refine wL ?_;intros;rw [<-HGE.o];generalize (w4.alloc (.cells #[(aB A' (cln s).aJ.length c'),(aB (aH ⟨q2,0,aG⟩) s.aK.length s.aK.length),aC aD s.aM,aC aD s.aL] 34))=w7 at *
 have hR:=hR7;clear hR7;have hw7:H<=w7.heap.size:=ww;have hH7:H+1<w7.heap.size:=ww;have hHH:H≠H+1:=ww;have hGH:G≠H+1:=ww;have hwd:IntKind.i64.wrap ((s.aJ.length:Int) - ((cln s).aJ.length:Int))=(s.aJ.length:Int) - ((cln s).aJ.length:Int):=IntWalk.i64_in _ ww;have HSB:=sqH (show ∀W,Below w7.heap.size w7 W->(W.cell? ⟨H,0,aG⟩=aH (aB A s.aJ.length c)/\(wI W G (aB A' (cln s).aJ.length c') (aB (aH ⟨q2,0,aG⟩) s.aK.length s.aK.length) (aC aD s.aM) (aC aD s.aL))) from fun W h=>⟨(hS.below h).c0,sqC4 (hX.below h)⟩);have hgc:=ky HGD.o;have HCP:=sqH (show ∀W,Below w7.heap.size w7 W->Calls Tryz.prog 34 #[.agg #[aB A' (cln s).aJ.length c',aB (aH ⟨q2,0,aG⟩) s.aK.length s.aK.length,aC aD s.aM,aC aD s.aL]] W fun e w'=>∃g1 g2,e= .returned (.agg #[aB (aH ⟨g1,0,aG⟩) (cln s).aJ.length (cln s).aJ.length,aB (aH ⟨g2,0,aG⟩) s.aK.length s.aK.length,aC aD s.aM,aC aD s.aL])/\OwSt w' W.heap.size (aB (aH ⟨g1,0,aG⟩) (cln s).aJ.length (cln s).aJ.length) (aB (aH ⟨g2,0,aG⟩) s.aK.length s.aK.length) (cln s) (fun b=>b<W.heap.size)/\Below W.heap.size W w' by
  intro W h;exact qo A' c' (aH ⟨q2,0,aG⟩) s.aK.length (cln s) W ww (by rw [kw];omega) (fun b hb=>by have:=(hgc.b.one b hb).2.1;omega) (fun x hx=>by have:=(zj (hgc.e.one x hx).2.1).1;omega) (hrd7.below h))
 clear hS hX hrd7 hgc;refine wp_region_held_drew (S:=(fun w'=>w'.cell? ⟨H,0,aG⟩=aH (aB A s.aJ.length c)/\(wI w' G (aB A' (cln s).aJ.length c') (aB (aH ⟨q2,0,aG⟩) s.aK.length s.aK.length) (aC aD s.aM) (aC aD s.aL)))) aa ?_ (fun hHeld=> ?_)
 ·exact HSB.o _ (Below.refl _ w7).drew
 have hB:=(Below.refl w7.heap.size w7).drew;generalize w7.drew=wn0 at *
 refine wQ 0 ?_;refine wQ 2 ?_;refine wQ 3 ?_;refine wQ 4 ?_;refine wQ 5 ?_;refine wQ 6 ?_;refine wQ 7 ?_;refine wQ 8 ?_;refine wU 1 fun K hK=>?_;go_simp;refine(HCP.o wn0 hB).mono ?_;rintro e9 w9 ⟨g1,g2,rfl,ho9,hb9⟩;dsimp only;refine qF hK (HSB.o _ (wo hB hb9)) (Below wn0.heap.size wn0) (fun W=>OwSt W w7.heap.size (aB (aH ⟨g1,0,aG⟩) (cln s).aJ.length (cln s).aJ.length) (aB (aH ⟨g2,0,aG⟩) s.aK.length s.aK.length) (cln s) (fun b=>b<w7.heap.size)) hb9 ((ho9.lower hB.size).wider (fun b hb=> .inl (Nat.lt_of_lt_of_le hb hB.size))) fun wn1 hHeld hst hnew=> ?_;have hB:=wo hB hst;have ho:=hnew;clear hnew;clear hst;clear hK K
 try simp only [sqP]
 refine wU 9 fun K hK=>?_;obtain⟨f0,f1,f2,f3⟩:=sqF4 (hR.below hB);obtain⟨y0,y1,y2,y3⟩:=sqC4 (hR.below hB);go_simp;clear f0 f1 f2 f3 y0 y1 y2 y3;have hfin:=(hR.below hB).all4 (aB (aH ⟨g1,0,aG⟩) (cln s).aJ.length (cln s).aJ.length) (aB (aH ⟨g2,0,aG⟩) s.aK.length s.aK.length) (aC aD s.aM) (aC aD s.aL);have hoF:=(((ho.set (g:=H+1) (k:=0) hH7 hH7 (aB (aH ⟨g1,0,aG⟩) (cln s).aJ.length (cln s).aJ.length)).set (g:=H+1) (k:=1) hH7 hH7 (aB (aH ⟨g2,0,aG⟩) s.aK.length s.aK.length)).set (g:=H+1) (k:=2) hH7 hH7 (aC aD s.aM)).set (g:=H+1) (k:=3) hH7 hH7 (aC aD s.aL);have hb1:=hb.trans (hB.mono hw7);have hbF:=(((hb1.setCell (p:=⟨H+1,0,aG⟩) af (aB (aH ⟨g1,0,aG⟩) (cln s).aJ.length (cln s).aJ.length)).setCell (p:=⟨H+1,1,aG⟩) af (aB (aH ⟨g2,0,aG⟩) s.aK.length s.aK.length)).setCell (p:=⟨H+1,2,aG⟩) af (aC aD s.aM)).setCell (p:=⟨H+1,3,aG⟩) af (aC aD s.aL);refine qF hK ?_ (fun W=>Arr W (H+1) 34 [(aB (aH ⟨g1,0,aG⟩) (cln s).aJ.length (cln s).aJ.length),(aB (aH ⟨g2,0,aG⟩) s.aK.length s.aK.length),aC aD s.aM,aC aD s.aL]) (fun W=>OwSt W w7.heap.size (aB (aH ⟨g1,0,aG⟩) (cln s).aJ.length (cln s).aJ.length) (aB (aH ⟨g2,0,aG⟩) s.aK.length s.aK.length) (cln s) (fun b=>b<w7.heap.size)/\Below H w W) ?_ ?_ (fun wn2 hHeld hF hG=> ?_)
 ·dsimp only [wI];have h1:=HSB.o _ hB;rw [qh hHH,qh hGH,qh hGH,qh hGH,qh hGH];exact h1
 ·exact hfin
 ·exact⟨hoF,hbF⟩
 clear hB hfin ho hoF hb1 hbF;clear hK K
 refine wQ 10 ?_;refine wQ 11 ?_;refine wpAnyH_done aa ?_ _;dsimp only [Exit.then];clear hHeld;obtain⟨hoF,hbF⟩:=hG;go_wp2_with fail;refine bodyPost_ret (zo rfl _ _ (H+1) _ _ _ _ ae hF Tryz.underlying34 rfl aa) rfl ?_;exact⟨_,_,rfl,(hoF.lower (base':=H) ww).wider (N':=fun b=>b<H) (fun b hb=> .inl ww),hbF⟩
section
variable {s:StoP} {i:Nat}
end
theorem ZY (s:StoP) (c:ColP):(zC s c).1.aJ.length=s.aJ.length:=(qG s c).1.len.symm
theorem UK (a:aj) (bl:List BlobP):ahead a bl<=bl.length:=List.length_filter_le _ _
theorem yJ {a:aj} {i:Nat} (hi:i<bl.length) (h:Op.bytesLess a bl[i].dig=true):ahead bl[i].dig bl+1<=ahead a bl:=by
 refine xB bl (fun x _ hx=>q6 h hx) ⟨bl[i],List.getElem_mem hi,kM _,h⟩
theorem ZB (a:aj) (bl:List BlobP) (i:Nat):ahead a (bl.eraseIdx i)<=ahead a bl:=((List.eraseIdx_sublist bl i).filter _).length_le
theorem YI (h:(qE s c).2.1.aO≠0):ahead (qE s c).2.1.at_ (qE s c).1.aJ+1<=ahead c.at_ s.aJ:=by
 rcases ql s c with ⟨_,e⟩ | ⟨i,hi,hf,_,e⟩ | ⟨i,hi,hf,_,e⟩
 ·rw [e]at h;exact absurd rfl h
 ·rw [e];exact yJ hi (List.findIdx?_eq_some_iff_getElem.1 hf).2.1
 ·rw [e];have h1:=yJ hi (List.findIdx?_eq_some_iff_getElem.1 hf).2.1;have h2:=ZB s.aJ[i].dig s.aJ i;show ahead s.aJ[i].dig (s.aJ.eraseIdx i)+1<=_;omega
theorem KL (s:StoP) (c:ColP):(qE s c).2.1.aO=2\/(qE s c).2.1=⟨0, [], []⟩:=by
 rcases ql s c with ⟨_,e⟩ | ⟨_,_,_,_,e⟩ | ⟨_,_,_,_,e⟩
 ·rw [e];exact .inr rfl
 ·rw [e];exact .inl rfl
 ·rw [e];exact .inl rfl
def kR (k:Nat) (s:StoP) (c:ColP):Nat :=
 if c.aO=1 then k*unm s.aJ+c.aN.length+s.aJ.length+2 else if c.aO=2 then ahead c.at_ s.aJ+1 else 0
theorem y8 {k:Nat} (hk:K6 k s.aJ) (hp:c.aO=1\/c.aO=2):kR k (zu s c).1 (zu s c).2.1+1<=kR k s c:=by
 unfold zu;rcases hp with hp | hp
 ·rw [if_pos hp];show kR k (zC s c).1 (zC s c).2+1<=_;have hl:=ZY s c;rcases ue s c with h | h
  ·have:=jo hk h;unfold kR;rw [if_pos h,if_pos hp,hl];omega
  ·unfold kR;rw [h,if_neg ab,if_pos rfl,if_pos hp];have:=UK [] (zC s c).1.aJ;rw [hl]at this;show ahead [] _+1+1<=_;omega
 ·rw [if_neg ww];rcases KL s c with h | h
  ·have:=YI (s:=s) (c:=c) ww;unfold kR;rw [if_neg ww,if_pos h,if_neg ww,if_pos hp];omega
  ·unfold kR;rw [h,if_neg ab,if_neg ab,if_neg ww,if_pos hp];omega
structure OnlyC (s:StoP) (c:ColP):Prop where
 mb:∀b∈s.aJ,b.mark=true->Rch s.aJ (rts s) b.dig
 gr:∀x∈c.aN,InB s.aJ x->Rch s.aJ (rts s) x
 sw:c.aO=2->∀b∈s.aJ,Op.bytesLess c.at_ b.dig=false->b.mark=true
 en:c.aO=0->∀b∈s.aJ,b.mark=true
theorem UM (hg:GoodS s):OnlyC (yS s) (j9 s):=by
 refine⟨fun b hb hm=> ?_,fun x hx hb=> .root ?_ hb,fun h=>(by cases h),fun h=>by cases h⟩
 ·obtain⟨a,_,rfl⟩:=List.mem_map.1 hb;cases hm
 ·rw [QB];exact kH.1 hx
theorem QE {x:aj} (h:x≠ []):Op.bytesLess [] x=true:=by
 cases x with
 | nil=>exact absurd rfl h
 | cons a x=>rw [QD];exact decide_eq_true (List.nil_lt_cons a x)
theorem YA (hg:GoodS s) (h:OnlyC s c):OnlyC (zC s c).1 (zC s c).2:=by
 have hdig:∀b∈s.aJ,b.dig≠ []:=fun b hb e=>by
  have h1:=qy (zr b.data);rw [<-(hg.b.one b hb).1,e]at h1;cases h1
 rcases k8 s c with ⟨_,e⟩ | ⟨d,rest,hc,_,e⟩ | ⟨d,rest,i,hi,hc,_,_,_,e⟩ | ⟨d,rest,i,hi,hc,hf,hd,hm,e⟩
 ·rw [e];exact⟨h.mb,(fun x hx=>by cases hx),fun _ b hb hl=>absurd (QE (hdig b hb)) (by rw [hl];decide),fun h=>by cases h⟩
 ·rw [e];exact⟨h.mb,fun x hx=>h.gr x (by rw [hc];exact List.mem_cons_of_mem _ hx),fun h=>(by cases h),fun h=>by cases h⟩
 ·rw [e];exact⟨h.mb,fun x hx=>h.gr x (by rw [hc];exact List.mem_cons_of_mem _ hx),fun h=>(by cases h),fun h=>by cases h⟩
 ·have hE:EqM s.aJ (s.aJ.set i { s.aJ[i] with mark:=true }):=QI hi true;have hR:Rch (s.aJ.set i { s.aJ[i] with mark:=true }) (rts { s with aJ:=s.aJ.set i { s.aJ[i] with mark:=true } })=Rch s.aJ (rts s):=by rw [xb hE];exact vq hE
  have hdr:Rch s.aJ (rts s) d:=h.gr d (by rw [hc];exact List.mem_cons_self ..) ⟨_,List.getElem_mem hi,hd⟩;rw [e];refine⟨fun b hb hmb=> ?_,fun x hx hbx=> ?_,fun h=>(by cases h),fun h=>by cases h⟩
  ·show Rch (s.aJ.set i _) (rts _) _;rw [hR];rcases List.mem_or_eq_of_mem_set hb with h2 | h2
   ·exact h.mb b h2 hmb
   ·subst h2;show Rch _ _ s.aJ[i].dig;rw [hd];exact hdr
  ·show Rch (s.aJ.set i _) (rts _) _;rw [hR];have hbx':=(vm hE).1 hbx;rcases List.mem_append.1 (kH.1 hx) with h2 | h2
   ·exact h.gr x (by rw [hc];exact List.mem_cons_of_mem _ h2) hbx'
   ·exact .step hdr h2 hbx'
def Jq:Nat->StoP->ColP->StoP×List aj
 | 0,s,_=>(s, [])
 | n+1,s,c=>if c.aO=0 then (s, []) else
   ((Jq n (zu s c).1 (zu s c).2.1).1,(if (zu s c).2.2= [] then [] else [(zu s c).2.2])++(Jq n (zu s c).1 (zu s c).2.1).2)
def kY (s:StoP) (c:ColP):StoP×List aj:=Jq (kR 8 s c) s c
theorem VW (s:StoP) (c:ColP):(zu s c).2.1.aO<=2:=by
 unfold zu;split
 ·rcases ue s c with h | h
  ·show(zC s c).2.aO<=2;omega
  ·show(zC s c).2.aO<=2;rw [h];exact Nat.le_refl _
 ·rcases KL s c with h | h
  ·omega
  ·rw [h];exact Nat.zero_le _
theorem uM (h:c.aO=0):∀n,Jq n s c=(s, [])
 | 0=>rfl
 | n+1=>by unfold Jq;rw [if_pos h]
theorem Qc:∀(n m:Nat) (s:StoP) (c:ColP),c.aO<=2->kR 8 s c<=n->kR 8 s c<=m->Jq n s c=Jq m s c
 | n,m,s,c,hp,hn,hm=>by
  by_cases h0:c.aO=0
  ·rw [uM h0,uM h0]
  ·have hl:=y8 (k:=8) (c:=c) (ym s.aJ) ww
   obtain⟨n,rfl⟩:∃k,n=k+1:=⟨n - 1,ww⟩
   obtain⟨m,rfl⟩:∃k,m=k+1:=⟨m - 1,ww⟩
   unfold Jq
   rw [if_neg h0,if_neg h0,Qc n m _ _ (VW s c) ww ww]
theorem xS (h:c.aO=0):kY s c=(s, []):=uM h _
theorem yG (h:c.aO=1\/c.aO=2):kY s c=((kY (zu s c).1 (zu s c).2.1).1,(if (zu s c).2.2= [] then [] else [(zu s c).2.2])++(kY (zu s c).1 (zu s c).2.1).2):=by
 have hl:=y8 (k:=8) (c:=c) (ym s.aJ) h;obtain⟨n,hn⟩:∃k,kR 8 s c=k+1:=⟨kR 8 s c - 1,ww⟩
 unfold kY;rw [hn]
 conv=>lhs;unfold Jq
 rw [if_neg ww,Qc n _ _ _ (VW s c) ww ai]
theorem uQ:∀(k:Nat) (s:StoP) (c:ColP),RisesBy (·.dig) s.aJ->(∀b∈s.aJ,b.dig≠ [])->c.aO=2->ahead c.at_ s.aJ<=k ->
  kY s c=({ s with aJ:=s.aJ.filter (fun b=>b.mark|| !Op.bytesLess c.at_ b.dig) },(s.aJ.filter (fun b=>Op.bytesLess c.at_ b.dig&& !b.mark)).map (·.dig))
 | k,s,c,hr,hne,hp,hk=>by
  have hT:zu s c=qE s c:=by unfold zu;rw [if_neg ww]
  rw [yG (.inr hp),hT]
  rcases ql s c with ⟨hf,e⟩ | ⟨i,hi,hf,hm,e⟩ | ⟨i,hi,hf,hm,e⟩
  ·rw [e,xS rfl]
   have hn:=List.findIdx?_eq_none_iff.1 hf
   have h1:s.aJ.filter (fun b=>b.mark|| !Op.bytesLess c.at_ b.dig)=s.aJ:=List.filter_eq_self.2 fun b hb=>by
    have h3:=hn b hb;rw [h3];cases b.mark<;>rfl
   have h2:s.aJ.filter (fun b=>Op.bytesLess c.at_ b.dig&& !b.mark)= []:=List.filter_eq_nil_iff.2 fun b hb=>by
    have h3:=hn b hb;rw [h3];simp
   rw [h1,h2];rfl
  all_goals
   have hat:=(List.findIdx?_eq_some_iff_getElem.1 hf).2.1
   have hlo:=(List.findIdx?_eq_some_iff_getElem.1 hf).2.2
   have hdec:s.aJ=s.aJ.take i++s.aJ[i]::s.aJ.drop (i+1):=by rw [<-List.drop_eq_getElem_cons hi,List.take_append_drop]
   have hL1:∀b∈s.aJ.take i,Op.bytesLess c.at_ b.dig=false/\Op.bytesLess s.aJ[i].dig b.dig=false:=fun b hb=>by
    obtain⟨j,hj,rfl⟩:=List.mem_iff_getElem.1 hb
    rw [List.length_take]at hj
    rw [List.getElem_take]
    have h3:=hlo j ww
    refine⟨by simpa using h3,?_⟩
    cases h4:Op.bytesLess s.aJ[i].dig s.aJ[j].dig with
    | false=>rfl
    | true=>exact absurd (q6 hat h4) h3
   have hL2:∀b∈s.aJ.drop (i+1),Op.bytesLess c.at_ b.dig=true/\Op.bytesLess s.aJ[i].dig b.dig=true:=fun b hb=>by
    obtain⟨j,hj,rfl⟩:=List.mem_iff_getElem.1 hb
    rw [List.length_drop]at hj
    rw [List.getElem_drop]
    have h4:Op.bytesLess s.aJ[i].dig (s.aJ[i+1+j]'(by omega)).dig=true:=List.pairwise_iff_getElem.1 hr i (i+1+j) hi ww ww
    exact⟨q6 hat h4,h4⟩
   have hirr:Op.bytesLess s.aJ[i].dig s.aJ[i].dig=false:=kM _
  ·have hk1:1<=k:=by have:=yJ hi hat;omega
   have ih:=uQ (k - 1) s ⟨2, [],s.aJ[i].dig⟩ hr hne rfl (by
    have:=yJ hi hat;show ahead s.aJ[i].dig s.aJ<=_;omega)
   rw [e]
   show((kY s ⟨2, [],s.aJ[i].dig⟩).1,(if ([]:aj)= [] then [] else [[]])++(kY s ⟨2, [],s.aJ[i].dig⟩).2)=_
   rw [ih,if_pos rfl,List.nil_append]
   generalize hbi:s.aJ[i]=q at *
   generalize hA:s.aJ.take i=L1 at *
   generalize hB:s.aJ.drop (i+1)=L2 at *
   simp only [hdec]
   have f1:∀b∈L1++q::L2,(b.mark|| !Op.bytesLess q.dig b.dig)=(b.mark|| !Op.bytesLess c.at_ b.dig):=fun b hb=>by
    rcases List.mem_append.1 hb with h | h
    ·rw [(hL1 b h).1,(hL1 b h).2]
    ·rcases List.mem_cons.1 h with h | h
     ·subst h;rw [hm];rfl
     ·rw [(hL2 b h).1,(hL2 b h).2]
   have f2:∀b∈L1++q::L2,(Op.bytesLess q.dig b.dig&& !b.mark)=(Op.bytesLess c.at_ b.dig&& !b.mark):=fun b hb=>by
    rcases List.mem_append.1 hb with h | h
    ·rw [(hL1 b h).1,(hL1 b h).2]
    ·rcases List.mem_cons.1 h with h | h
     ·subst h;rw [hm];simp
     ·rw [(hL2 b h).1,(hL2 b h).2]
   rw [List.filter_congr f1,List.filter_congr f2]
  ·have hk1:1<=k:=by have:=yJ hi hat;omega
   have hrl:=yh hr i
   have ih:=uQ (k - 1) { s with aJ:=s.aJ.eraseIdx i } ⟨2, [],s.aJ[i].dig⟩ hrl (fun b hb=>hne b (xy _ _ b hb)) rfl (by
    have:=yJ hi hat;have:=ZB s.aJ[i].dig s.aJ i;show ahead s.aJ[i].dig (s.aJ.eraseIdx i)<=_;omega)
   have hn0:=hne _ (List.getElem_mem hi)
   rw [e]
   show((kY { s with aJ:=s.aJ.eraseIdx i } ⟨2, [],s.aJ[i].dig⟩).1,(if s.aJ[i].dig= [] then [] else [s.aJ[i].dig])++(kY { s with aJ:=s.aJ.eraseIdx i } ⟨2, [],s.aJ[i].dig⟩).2)=_
   rw [ih,if_neg hn0]
   have hers:s.aJ.eraseIdx i=s.aJ.take i++s.aJ.drop (i+1):=List.eraseIdx_eq_take_drop_succ ..
   simp only [hers]
   clear ih hrl hne hk hers e
   generalize hbi:s.aJ[i]=q at *
   generalize hA:s.aJ.take i=L1 at *
   generalize hB:s.aJ.drop (i+1)=L2 at *
   simp only [hdec,List.filter_append,List.filter_cons,List.map_append]
   have g1:L1.filter (fun b=>b.mark|| !Op.bytesLess q.dig b.dig)=L1.filter (fun b=>b.mark|| !Op.bytesLess c.at_ b.dig):=List.filter_congr fun b hb=>by rw [(hL1 b hb).1,(hL1 b hb).2]
   have g2:L2.filter (fun b=>b.mark|| !Op.bytesLess q.dig b.dig)=L2.filter (fun b=>b.mark|| !Op.bytesLess c.at_ b.dig):=List.filter_congr fun b hb=>by rw [(hL2 b hb).1,(hL2 b hb).2]
   have g3:L1.filter (fun b=>Op.bytesLess q.dig b.dig&& !b.mark)= []:=List.filter_eq_nil_iff.2 fun b hb=>by rw [(hL1 b hb).2];simp
   have g4:L1.filter (fun b=>Op.bytesLess c.at_ b.dig&& !b.mark)= []:=List.filter_eq_nil_iff.2 fun b hb=>by rw [(hL1 b hb).1];simp
   have g5:L2.filter (fun b=>Op.bytesLess q.dig b.dig&& !b.mark)=L2.filter (fun b=>Op.bytesLess c.at_ b.dig&& !b.mark):=List.filter_congr fun b hb=>by rw [(hL2 b hb).1,(hL2 b hb).2]
   rw [g1,g2,g3,g4,g5,hm,hat]
   rfl
termination_by k=>k
decreasing_by all_goals omega
theorem Kv:∀(k:Nat) (s:StoP) (c:ColP),GoodS s->GoodC s c->OnlyC s c->c.aO=1->kR 8 s c<=k ->
  ∃m,EqM s.aJ m/\GoodS { s with aJ:=m }/\GoodC { s with aJ:=m } ⟨2, [], []⟩/\OnlyC { s with aJ:=m } ⟨2, [], []⟩/\kY s c=kY { s with aJ:=m } ⟨2, [], []⟩
 | k,s,c,hg,hc,ho,hp,hk=>by
  have hT:zu s c=((zC s c).1,(zC s c).2, []):=by unfold zu;rw [if_pos hp]
  have hl:=y8 (k:=8) (ym s.aJ) (.inl hp:c.aO=1\/c.aO=2)
  have he:kY s c=kY (zC s c).1 (zC s c).2:=by
   rw [yG (.inl hp),hT];show((kY (zC s c).1 (zC s c).2).1,(if ([]:aj)= [] then [] else [[]])++(kY (zC s c).1 (zC s c).2).2)=_;rw [if_pos rfl,List.nil_append]
  rw [hT]at hl;have h1:=jn c hg;have h2:=uH hg hp hc;have h3:=YA hg ho;have h4:=qG s c;rcases ue s c with h | h
  ·have hk1:1<=k:=ww
   obtain⟨m,m1,m2,m3,m4,m5⟩:=Kv (k - 1) (zC s c).1 (zC s c).2 h1 h2 h3 h (by
    have:kR 8 (zC s c).1 (zC s c).2+1<=kR 8 s c:=hl;omega)
   have e: { (zC s c).1 with aJ:=m }= { s with aJ:=m }:=by rw [h4.2]
   rw [e]at m2 m3 m4 m5;exact⟨m,h4.1.trans m1,m2,m3,m4,he.trans m5⟩
  ·rw [h]at h2 h3 he;rw [h4.2]at h1 h2 h3 he;exact⟨_,h4.1,h1,h2,h3,he⟩
termination_by k=>k
decreasing_by all_goals omega
theorem yM {p q:BlobP->Bool}:∀ {l m:List BlobP},EqM l m->(∀b∈l,∀b'∈m,b'.dig=b.dig->q b'=p b)->EqM (l.filter p) (m.filter q)
 | [], [],_,_=>rfl
 | [],b::m,h,_=>by cases h
 | a::l, [],h,_=>by cases h
 | a::l,b::m,h,hpq=>by
  obtain⟨h1,h2⟩:=h.cons
  have ih:=yM h2 (fun x hx y hy=>hpq x (List.mem_cons_of_mem _ hx) y (List.mem_cons_of_mem _ hy))
  have e:=hpq a (List.mem_cons_self ..) b (List.mem_cons_self ..) h1.1
  rw [List.filter_cons,List.filter_cons,e]
  split
  ·show _::_=_::_
   rw [show NoM a=NoM b from by unfold NoM;rw [h1.1,h1.2.1,h1.2.2],show(l.filter p).map NoM=(m.filter q).map NoM from ih]
  ·exact ih
theorem UZ {l m:List BlobP} (h:EqM l m):m.map (·.dig)=l.map (·.dig):=by
 have h3:=congrArg (List.map Prod.fst) h;simp only [List.map_map]at h3;exact h3.symm
theorem XX (hg:GoodS s):∀b∈s.aJ,b.dig≠ []:=fun b hb e=>by
 have h1:=qy (zr b.data)
 rw [<-(hg.b.one b hb).1,e]at h1
 cases h1
theorem z2c (hg:GoodS s) (hL:StrL L (Rch s.aJ (rts s))) :
  ∃m,EqM (cln s).aJ m/\GoodS { s with aJ:=m }/\kY (yS s) (j9 s)=({ s with aJ:=m },(s.aJ.filter (fun b=> !decide (b.dig∈L))).map (·.dig)):=by
 obtain⟨m,m1,m2,m3,m4,m5⟩:=Kv _ (yS s) (j9 s) (xq hg) (xr hg) (UM hg) rfl ai;have hE:EqM s.aJ m:=(xx s.aJ).trans m1;have hmk:∀b∈m,b.mark=true↔Rch s.aJ (rts s) b.dig:=fun b hb=>by
  have hR:Rch m (rts { yS s with aJ:=m })=Rch s.aJ (rts s):=by
   rw [show rts { yS s with aJ:=m }=rts s from xb hE,vq hE]
  refine⟨fun h=>by rw [<-hR];exact m4.mb b hb h,fun h=> ?_⟩;obtain⟨b',hb',hm,e⟩:=qu.1 (m3.sw rfl _ (by show Rch m (rts { yS s with aJ:=m }) _;rw [hR];exact h));have:=m2.b.ris.inj hb' hb e;subst this;exact hm
 have hne:=XX m2;have hsw:=uQ _ { yS s with aJ:=m } ⟨2, [], []⟩ m2.b.ris hne rfl ai;have e1:m.filter (fun b=>b.mark|| !Op.bytesLess [] b.dig)=m.filter (·.mark):=List.filter_congr fun b hb=>by
  rw [QE (hne b hb)];simp
 have e2:m.filter (fun b=>Op.bytesLess [] b.dig&& !b.mark)=m.filter (fun b=> !b.mark):=List.filter_congr fun b hb=>by
  rw [QE (hne b hb)];simp
 have hF1:EqM (cln s).aJ (m.filter (·.mark)):=by
  unfold cln;refine yM hE fun b hb b' hb' e=> ?_;have:=hmk b' hb';rw [e]at this;by_cases h:Rch s.aJ (rts s) b.dig
  ·rw [this.2 h];exact(@decide_eq_true _ (Classical.propDecidable _) h).symm
  ·rw [@decide_eq_false _ (Classical.propDecidable _) h];cases hm:b'.mark with
   | false=>rfl
   | true=>exact absurd (this.1 hm) h
 have hF2:(m.filter (fun b=> !b.mark)).map (·.dig)=(s.aJ.filter (fun b=> !decide (b.dig∈L))).map (·.dig):=by
  refine UZ (yM hE fun b hb b' hb' e=> ?_);have h1:=hmk b' hb';have h2:=hL.mem b.dig;rw [e]at h1;by_cases h:Rch s.aJ (rts s) b.dig
  ·rw [h1.2 h,decide_eq_true (h2.2 h)]
  ·rw [decide_eq_false (fun h3=>h (h2.1 h3))];cases hm:b'.mark with
   | false=>rfl
   | true=>exact absurd (h1.1 hm) h
 refine⟨m.filter (·.mark),hF1,?_,?_⟩
 ·exact vZ (s:=cln s) hF1 (ky hg)
 ·rw [m5,hsw];show({ s with aJ:=m.filter (fun b=>b.mark|| !Op.bytesLess [] b.dig) },(m.filter (fun b=>Op.bytesLess [] b.dig&& !b.mark)).map (·.dig))=_;rw [e1,e2,hF2]
theorem KK:∀(k:Nat) (s:StoP) (c:ColP),GoodS s->GoodC s c->kR 8 s c<=k ->
  GoodS (kY s c).1/\Rch (kY s c).1.aJ (rts (kY s c).1)=Rch s.aJ (rts s)/\(kY s c).1.aK=s.aK/\(kY s c).1.aM=s.aM/\(kY s c).1.aL=s.aL
 | k,s,c,hg,hc,hk=>by
  by_cases h0:c.aO=0
  ·rw [xS h0];exact⟨hg,rfl,rfl,rfl,rfl⟩
  ·have hp:c.aO=1\/c.aO=2:=by have:=hc.ph;omega
   have hl:=y8 (k:=8) (ym s.aJ) hp
   obtain⟨h1,h2,h3,h4,h5,h6⟩:=kK hg hc hp
   have hk1:1<=k:=ww;obtain⟨k1,k2,k3,k4,k5⟩:=KK (k - 1) (zu s c).1 (zu s c).2.1 h1 h2 ww
   rw [yG hp]
   exact⟨k1,k2.trans h3,k3.trans h4,k4.trans h5,k5.trans h6⟩
termination_by k=>k
decreasing_by all_goals omega
open Go.Maps
theorem VB (hr:RisesBy (·.dig) bl):(bl.map (·.dig)).Nodup:=by
 refine List.pairwise_map.2 (hr.imp fun {a b} h e=> ?_);have h':Op.bytesLess a.dig b.dig=true:=h;rw [e,kM]at h';cases h'
theorem z16 (hr:RisesBy (·.dig) s.aJ) (hL:StrL L (Rch (cln s).aJ (rts (cln s)))):L.length=(cln s).aJ.length:=by
 have h:=hL.len (N:=(cln s).aJ.map (·.dig)) (VB (xw hr)) (fun x=>by
  rw [List.mem_map];exact⟨fun ⟨b,hb,e⟩=>by rw [<-e];exact UP hr hb,fun h=>h.inB⟩)
 rw [h,List.length_map]
end Go.Proofs.YtaboknhfiijipaaGreat
