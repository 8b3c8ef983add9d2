/- Lemmas, as stated. -/
import Derived.Test.YtcjndgldjhmbgaaGreatQE16
set_option linter.unusedVariables false
set_option linter.unusedSimpArgs false
set_option maxRecDepth 100000
set_option maxHeartbeats 16000000
open Go.Proofs.Tryz
open Go.Proofs.Tryz renaming prog->zZZ
open Go.Value renaming slice->aw,int->ax,string->az
open Go.IntKind renaming i64->ay
open Go.Obj renaming cells->aA
open Option renaming none->aB,some->aC
namespace Go.Proofs.YtcjndgldjhmbgaaGreat
open Go.RowKit
variable {fn:Func} {l:List EntP} {base cap g i j k:Nat} {P:Program} {s:StoP} {p:Tmp} {e ty:TypeId} {u v1 v2:Value} {w w':World} {A:ae} {N:ai}
theorem Qe (A:ae) (c:Nat) (l:List BlobP) (PA:ae) (pc:Nat) (ps:List PartP) (w:World) (hl:l.length<=1000000) (hp:ps.length<=1000000) (hA:Rw BlobS w A l) (hP:Rd w 3 PA ps.length (pcs ps)) :
  Calls zZZ 99 #[aw A l.length c,aw PA ps.length pc] w fun e w'=>e= .returned (ax ay (qQ l ps:Int))/\Below w.heap.size w w':=by
 generalize hR:qQ l ps=R;have HR0:=sqH hR;clear hR;go_enter func99,ntmps99;go_wp2_with fail;go_loopg [11] ps.length (fun gn i wr=>∃j:Nat,gn=ps.length - j/\i= ax ay j/\j<=ps.length/\qQ l (ps.drop j)=R/\Below w.heap.size w wr)
 case atStart=>exact⟨0,rfl,rfl,wj,by rw [List.drop_zero];exact HR0.o,Below.refl _ _⟩
 case round =>
  obtain⟨j,hgk,rfl,hj,hrest,hbl⟩:=hrel;have HGK:=sqH hgk;have HRS:=sqH hrest;clear hgk hrest;by_cases hlt:j<ps.length
  ·have hcc:decide (j<ps.length)=true:=decide_eq_true hlt;obtain⟨b,off,rfl,hbb,hcell⟩:=(hP.below hbl).2 wj;have hj0:=wX j
   have hj1:(j:Int)<(ps.length:Int):=wj
   have hat:=fun k (hk:k<3)=>yA ps j k hlt hk;have HDR:=sqH (show qQ l (ps[j]::ps.drop (j+1))=R by rw [<-List.drop_eq_getElem_cons hlt];exact HRS.o);generalize ps[j]=p at *
   have c0:=hcell (j*3+0) _ (hat 0 wj);have c1:=hcell (j*3+1) _ (hat 1 wj);have c2:=hcell (j*3+2) _ (hat 2 wj);rw [Nat.add_zero]at c0;rw [show off+(j*3+1)=off+j*3+1 by omega]at c1;rw [show off+(j*3+2)=off+j*3+2 by omega]at c2
   try dsimp only [yo,List.getElem?_cons_zero,List.getElem?_cons_succ]at c0 c1 c2
   obtain⟨sn,hsn⟩:=wU (⟨p.name.toArray⟩:ByteArray)
   obtain⟨sp,hsp⟩:=wU (⟨p.dig.toArray⟩:ByteArray)
   rw [<-hsn]at c0;rw [<-hsp]at c1;have HSP:=sqH hsp;have hX:Arr (wr.alloc (aA #[az sn,az sp,ax ay p.size] 51)) wr.heap.size 51 [az sn,az sp,ax ay p.size]:=Arr.new wr 51 _;have hba:=wi wr (aA #[az sn,az sp,ax ay p.size] 51);have hb2:=wg hbl hba;have x1:=hX.c1;clear hat hcell hbl hba hsn hsp;go_wp2_with fail;generalize wr.alloc (aA #[az sn,az sp,ax ay p.size] 51)=w2 at *
   generalize wr.heap.size=gx at *
   clear c0 c1 c2 x1;have hA2:=hA.below hb2;have HFN:=kr A c l p.dig w2 hl hA2;rw [<-HSP.o]at HFN;cases hf:l.findIdx? (fun x=>x.dig==p.dig) with
   | none =>
    rw [hf,xn]at HFN;have HFN:=sqH HFN;have HE:=sqH (show R=5 by rw [<-HDR.o,qQ,hf]);clear hf hA2;refine wV HFN.o fun w3 hb3=>?_;dsimp only;have hb23:=wg hb2 hb3;go_wp2_with fail;go_ret;rw [HE.o];exact⟨rfl,hb23⟩
   | some i =>
    obtain⟨hi,_,_⟩:=List.findIdx?_eq_some_iff_getElem.1 hf;rw [hf,xn]at HFN;have HFN:=sqH HFN;have HRR:=sqH (show R=if l[i].data.length=p.size then qQ l (ps.drop (j+1)) else 4 by
     rw [<-HDR.o,qQ,hf];show(if (match l[i]? with | some b=>b.data.length | none=>0)=p.size then _ else _)=_;rw [List.getElem?_eq_getElem hi])
    clear hf;refine wV HFN.o fun w3 hb3=>?_;dsimp only;have hb23:=wg hb2 hb3;have hX3:=hX.below hb3;obtain⟨b',off',B,cb,rfl,hbb',d0,d1,d2,d3,_⟩:=(hA2.below hb3).blob_at i hi;have hi0:=wX i
    have hi1:(i:Int)<(l.length:Int):=wj
    have x2:=hX3.c2;generalize l[i].data.length=m at *
    clear hA2 hX hb2 hb3 d0 d2 d3;by_cases hm:m=p.size
    ·have hne:((m:Int) != (p.size:Int))=false:=by rw [bne_eq_false_iff_eq];omega
     have HN:=sqH (show qQ l (ps.drop (j+1))=R by rw [HRR.o,if_pos hm]);go_wp2_with fail;go_quiet (fail);go_wp2_with fail;go_roundg (ps.length - (j+1))
     case measure=>exact wW HGK
     case rel=>exact⟨j+1,rfl,by go_num,wj,HN.o,zN hb23 _⟩
    ·have hne:((m:Int) != (p.size:Int))=true:=by rw [bne_iff_ne];omega
     have HN:=sqH (show R=4 by rw [HRR.o,if_neg hm]);go_wp2_with fail;go_quiet (fail);go_wp2_with fail;go_ret;rw [HN.o];exact⟨rfl,zN hb23 _⟩
  ·obtain rfl:j=ps.length:=by omega
   have hcc:decide (ps.length<ps.length)=false:=ws
   have HE:=sqH (show R=0 by rw [<-HRS.o,List.drop_length,qQ]);go_wp2_with fail;go_ret;rw [HE.o];exact⟨rfl,hbl⟩
theorem z49 (k:Int) (h:k=0\/k=1\/k=2) (w:World):(Instr.index 151 (.agg #[ax ay 0,ax ay 0,ax ay 0]) (ax ay k)).run zZZ w= .ok (ax ay 0) w:=by
 rcases h with rfl | rfl | rfl<;>kernel_rfl
theorem zI {u:Tmp} (h:fn.results=#[.cell p ty,.tmp u]) (tmps:Array Value) (w:World) (g:Nat) (t:TypeId) (cs:Array Value) (fr:Nat×Nat) (d:TypeDesc)
  (hp:tmps.getD p undef= .pointer (aC ⟨g,0,aB⟩)) (hg:w.heap[g]?=aC (.cells cs t fr))
  (hu:P.underlying ty=aC d) (hd:(match d with | .struct _ | .array _ _=>true | _=>false)=true) (hi:(P.info? ty).map (·.size)=aC cs.size) :
  (results fn tmps).run P w= .ok (.tuple #[.agg cs,tmps.getD u undef]) w:=by
 have hp':tmps[p]?.getD undef= .pointer (aC ⟨g,0,aB⟩):=by simpa using hp
 simp [results,h,hp',asAddr,run_loadVar_row w g t ty cs fr d hg hu hd hi]
theorem zz {u z:Tmp} (h:fn.results=#[.cell p ty,.tmp u,.tmp z]) (tmps:Array Value) (w:World) (g:Nat) (t:TypeId) (cs:Array Value) (fr:Nat×Nat) (d:TypeDesc)
  (hp:tmps.getD p undef= .pointer (aC ⟨g,0,aB⟩)) (hg:w.heap[g]?=aC (.cells cs t fr))
  (hu:P.underlying ty=aC d) (hd:(match d with | .struct _ | .array _ _=>true | _=>false)=true) (hi:(P.info? ty).map (·.size)=aC cs.size) :
  (results fn tmps).run P w= .ok (.tuple #[.agg cs,tmps.getD u undef,tmps.getD z undef]) w:=by
 have hp':tmps[p]?.getD undef= .pointer (aC ⟨g,0,aB⟩):=by simpa using hp
 simp [results,h,hp',asAddr,run_loadVar_row w g t ty cs fr d hg hu hd hi]
abbrev stV (v1 v2:Value) (s:StoP):Value:= .agg #[v1,v2,ax ay s.aH,ax ay s.aG]
structure OwSt (w:World) (base:Nat) (v1 v2:Value) (s:StoP) (N:ai):Prop where
 b:RwX BlobS 88 w base v1 s.aE (fun g=>N g\/v2.ownBlock=aC g)
 e:RwX EntS 109 w base v2 s.aF (fun g=>N g\/v1.ownBlock=aC g)
 ne:∀g,v1.ownBlock=aC g->v2.ownBlock≠aC g
theorem OwSt.below (h:OwSt w base v1 v2 s N) (hb:Below w.heap.size w w'):OwSt w' base v1 v2 s N:=⟨h.b.below hb,h.e.below hb,h.ne⟩
theorem OwSt.lower {base':Nat} (h:OwSt w base v1 v2 s N) (hb:base'<=base):OwSt w base' v1 v2 s N:=⟨h.b.lower hb,h.e.lower hb,h.ne⟩
theorem OwSt.wider {N':ai} (h:OwSt w base v1 v2 s N) (hN:∀b,N' b->N b\/w.heap.size<=b):OwSt w base v1 v2 s N' :=
 ⟨h.b.wider fun b hb=>hb.elim (fun h1=>(hN b h1).imp .inl id) (fun h1=> .inl (.inr h1)),h.e.wider fun b hb=>hb.elim (fun h1=>(hN b h1).imp .inl id) (fun h1=> .inl (.inr h1)),h.ne⟩
structure RdSt (w:World) (A:ae) (c:Nat) (B:ae) (d:Nat) (s:StoP):Prop where
 b:Rw BlobS w A s.aE
 e:Rw EntS w B s.aF
 bc:s.aE.length<=c
 bm:c<=maxLen
 ec:s.aF.length<=d
 em:d<=maxLen
theorem RdSt.below {B:ae} {c d:Nat} (h:RdSt w A c B d s) (hb:Below w.heap.size w w'):RdSt w' A c B d s:=⟨h.b.below hb,h.e.below hb,h.bc,h.bm,h.ec,h.em⟩
theorem OwSt.rows (h:OwSt w base v1 v2 s N):∃A c B d,v1= aw A s.aE.length c/\v2= aw B s.aF.length d/\RdSt w A c B d s:=by
 obtain⟨A,c,e1,h1,h2,h3⟩:=h.b.rwo.rows;obtain⟨B,d,e2,k1,k2,k3⟩:=h.e.rwo.rows;exact⟨A,c,B,d,e1,e2,h3,k3,h1,h2,k1,k2⟩
theorem zF (A:ae) (c:Nat) (B:ae) (d:Nat) (s:StoP) (w:World) (hg:GoodS s) (hr:RdSt w A c B d s) :
  Calls zZZ 51 #[.agg #[aw A s.aE.length c,aw B s.aF.length d,ax ay s.aH,ax ay s.aG]] w fun e w'=>e= .returned (ax ay 0)/\Below w.heap.size w w':=by
 have hlb:s.aE.length<=24:=hg.b.len;have hle:s.aF.length<=10:=hg.e.len;have hus:usd s.aE<=4000:=Nat.le_trans hg.used hg.aH;have hrm:=hg.aH;have hck:=hg.aG;obtain⟨w0,hw0⟩:=wU (w.alloc (aA #[aw A s.aE.length c,aw B s.aF.length d,ax ay s.aH,ax ay s.aG] 27))
 obtain⟨H,hH⟩:=wU w.heap.size
 have hS:Arr w0 H 27 [aw A s.aE.length c,aw B s.aF.length d,ax ay s.aH,ax ay s.aG]:=by rw [hw0,hH];exact Arr.new w 27 _
 have hb0:Below w.heap.size w w0:=by rw [hw0];exact(Below.refl _ _).alloc ab _
 have hA0:=hr.b.below hb0;have hE0:=hr.e.below hb0;have HSB:=sqH (show ∀W,Below w0.heap.size w0 W->wC W H (aw A s.aE.length c) (aw B s.aF.length d) (ax ay s.aH) from fun W h =>
  sqC3 (hS.below h))
 have HCB:=sqH (fun W (h:Below w0.heap.size w0 W)=>vO A c s.aE W hg.b (hA0.below h));have HCE:=sqH (fun W (h:Below w0.heap.size w0 W)=>xb B d s.aF W hg.e (hE0.below h));have HCF:=sqH (show ∀W,Below w0.heap.size w0 W->Calls zZZ 98 #[aw A s.aE.length c,ax ay s.aH,ax ay 0] W fun e w'=>e= .returned (ax ay 0)/\Below W.heap.size W w' from fun W h=>by
  have:=Qb A c s.aE s.aH 0 W wj wj hrm wj (hA0.below h);rw [if_pos (by have:=hg.used;omega)]at this;exact this)
 have HEN:=sqH (show ∀x∈s.aF,x.aK<=s.aG/\qQ s.aE x.parts=0/\x.parts.length<=8 from fun x hx =>
  ⟨(hg.ent x hx).1,ZG hg.b.ris (hg.ent x hx).2,(zk (hg.e.one x hx).2.1).1⟩)
 have ck1:decide ((s.aG:Int)<0)=false:=decide_eq_false wj;have ck2:decide ((s.aG:Int)>1099511627776)=false:=decide_eq_false wj;have ck3:decide ((1099511627776:Int)<(s.aG:Int))=false:=decide_eq_false wj;have ck4:decide (1099511627776<s.aG)=false:=decide_eq_false wj;clear hg hr;go_enter func51,ntmps51;go_wp2_with fail;rw [<-hw0];rw [<-hH];clear hw0;have HH:=sqH hH;clear hH;refine wp_region_held_drew (S:=(fun w'=>wC w' H (aw A s.aE.length c) (aw B s.aF.length d) (ax ay s.aH))) wm ?_ (fun hHeld=> ?_)
 ·exact HSB.o _ (Below.refl _ w0).drew
 have hB:=(Below.refl w0.heap.size w0).drew;generalize w0.drew=wn0 at *
 refine wM 0 ?_;refine wM 1 ?_;refine wM 3 ?_;refine wM 4 ?_;refine wM 6 ?_;refine wM 7 ?_;refine wM 8 ?_;refine wM 9 ?_;refine wM 12 ?_;refine wQ 2 fun K hK=>?_;go_simp;refine(HCB.o wn0 hB).mono ?_;rintro e5 w5 ⟨rfl,hb5⟩;dsimp only;refine k8 hK ?_ (Below wn0.heap.size wn0) (fun W=>True) ?_ ?_ (fun wn1 hHeld hst hnew=> ?_)
 ·(exact HSB.o _ (wg hB hb5))
 ·(exact hb5)
 ·(trivial)
 have hB:=wg hB hst;clear hst;clear hK K
 try simp only [sqP]
 refine wQ 5 fun K hK=>?_;go_simp;refine(HCE.o wn1 hB).mono ?_;rintro e5 w5 ⟨rfl,hb5⟩;dsimp only;refine k8 hK ?_ (Below wn1.heap.size wn1) (fun W=>True) ?_ ?_ (fun wn2 hHeld hst hnew=> ?_)
 ·(exact HSB.o _ (wg hB hb5))
 ·(exact hb5)
 ·(trivial)
 have hB:=wg hB hst;clear hst;clear hK K
 try simp only [sqP]
 refine wQ 10 fun K hK=>?_;go_simp;refine(HCF.o wn2 hB).mono ?_;rintro e5 w5 ⟨rfl,hb5⟩;dsimp only;refine k8 hK ?_ (Below wn2.heap.size wn2) (fun W=>True) ?_ ?_ (fun wn3 hHeld hst hnew=> ?_)
 ·(exact HSB.o _ (wg hB hb5))
 ·(exact hb5)
 ·(trivial)
 have hB:=wg hB hst;clear hst;clear hK K
 refine wM 11 ?_;refine wpAnyH_done wm ?_ _;dsimp only [Exit.then];clear hHeld;have hb1:=wg hb0 hB;have hS1:=hS.below hB;have hA1:=hA0.below hB;have hE1:=hE0.below hB;clear hB hS hA0 hE0 hb0;generalize wn3=w1 at *
 go_wp2_with fail;go_loopg [19] 3 (fun gn i wr=>∃j:Int,i= ax ay j/\(j=0\/j=1\/j=2\/j=3)/\gn=(3 - j).toNat/\wr=w1)
 case atStart=>exact⟨0,rfl,wj,rfl,rfl⟩
 case round =>
  obtain⟨j,rfl,hj,hgn,hwr⟩:=hrel;subst hwr;have ix0:=z49 0 wj wr;have ix1:=z49 1 wj wr;have ix2:=z49 2 wj wr;rcases hj with rfl | rfl | rfl | rfl
  ·go_wp2_with fail;go_roundg 2
   case measure=>omega
   case rel=>exact⟨1,rfl,wj,rfl,rfl⟩
  ·go_wp2_with fail;go_roundg 1
   case measure=>omega
   case rel=>exact⟨2,rfl,wj,rfl,rfl⟩
  ·go_wp2_with fail;go_roundg 0
   case measure=>omega
   case rel=>exact⟨3,rfl,wj,rfl,rfl⟩
  ·clear hgn ix0 ix1 ix2;generalize wr=wr0 at *
   have d3:=hS1.c3;have d1:=hS1.c1;go_wp2_with fail;clear d3 d1;go_loopg [37] s.aF.length (fun gn i wr=>∃j:Nat,gn=s.aF.length - j/\i= ax ay j/\j<=s.aF.length/\Below wr0.heap.size wr0 wr)
   case atStart=>exact⟨0,rfl,rfl,wj,Below.refl _ _⟩
   case round =>
    obtain⟨j,hgk,rfl,hj,hbl⟩:=hrel;have HGK:=sqH hgk;clear hgk;by_cases hlt:j<s.aF.length
    ·have hcc:decide (j<s.aF.length)=true:=decide_eq_true hlt;obtain⟨b,off,PB,cb,rfl,hbb,c0,c1,c2,c3,hs⟩:=(hE1.below hbl).ent_at j hlt;have hj0:=wX j
     have hj1:(j:Int)<(s.aF.length:Int):=wj
     obtain⟨g1,g2,g3⟩:=HEN.o s.aF[j] (List.getElem_mem hlt);have HG2:=sqH g2;generalize s.aF[j]=x at *
     obtain⟨sx,hsx⟩:=wU (⟨x.key.toArray⟩:ByteArray)
     rw [<-hsx]at c0;have st1:decide ((x.aK:Int)>(s.aG:Int))=false:=decide_eq_false wj;have st2:decide ((s.aG:Int)<(x.aK:Int))=false:=decide_eq_false wj;have st3:decide (s.aG<x.aK)=false:=decide_eq_false wj;have hX:Arr (wr.alloc (aA #[az sx,aw PB x.parts.length cb,ax ay x.pins,ax ay x.aK] 109)) wr.heap.size 109 [az sx,aw PB x.parts.length cb,ax ay x.pins,ax ay x.aK]:=Arr.new wr 109 _;have hba:=wi wr (aA #[az sx,aw PB x.parts.length cb,ax ay x.pins,ax ay x.aK] 109);have hbl2:=wg hbl hba;have hs2:=hs.below hba;have hS2:=hS1.below hbl2;have hA2:=hA1.below hbl2;have x1:=hX.c1;have x3:=hX.c3;have y0:=hS2.c0;have y3:=hS2.c3;clear hsx hs hba hbl g2;go_wp2_with fail;generalize wr.alloc (aA #[az sx,aw PB x.parts.length cb,ax ay x.pins,ax ay x.aK] 109)=w2 at *
     generalize wr.heap.size=gx at *
     clear c0 c1 c2 c3 x1 x3 y0 y3;have HHV:=Qe A c s.aE PB cb x.parts w2 wj wj hA2 hs2.rd;rw [HG2.o]at HHV;have HHV:=sqH HHV;clear hA2 hs2 hS2 hX;refine wV HHV.o fun w3 hb3=>?_;dsimp only;have hbl3:=wg hbl2 hb3;go_wp2_with fail;go_roundg (s.aF.length - (j+1))
     case measure=>exact wW HGK
     case rel=>exact⟨j+1,rfl,by go_num,wj,hbl3⟩
    ·obtain rfl:j=s.aF.length:=by omega
     have hcc:decide (s.aF.length<s.aF.length)=false:=ws
     go_wp2_with fail;go_ret;exact⟨rfl,wg hb1 hbl⟩
theorem OwSt.set (h:OwSt w base v1 v2 s N) (hg:g<base) (hN:N g) (u:Value):OwSt (w.setCell ⟨g,k,aB⟩ u) base v1 v2 s N:=⟨h.b.set hg (.inl hN) u,h.e.set hg (.inl hN) u,h.ne⟩
theorem qI (A:ae) (c:Nat) (B:ae) (d:Nat) (s:StoP) (w:World) (hl:s.aE.length<=100000) (he:s.aF.length<=100000) (hd:∀b∈s.aE,b.data.length<=1000000) (hp:∀x∈s.aF,x.parts.length<=1000000) (hr:RdSt w A c B d s) :
  Calls zZZ 52 #[.agg #[aw A s.aE.length c,aw B s.aF.length d,ax ay s.aH,ax ay s.aG]] w fun e w'=>∃g1 g2,e= .returned (.agg #[aw (aC ⟨g1,0,aB⟩) s.aE.length s.aE.length,aw (aC ⟨g2,0,aB⟩) s.aF.length s.aF.length,ax ay s.aH,ax ay s.aG])/\OwSt w' w.heap.size (aw (aC ⟨g1,0,aB⟩) s.aE.length s.aE.length) (aw (aC ⟨g2,0,aB⟩) s.aF.length s.aF.length) s (fun b=>b<w.heap.size)/\Below w.heap.size w w':=by
 obtain⟨w0,hw0,hS,hR,hb0⟩:=zT w 27 [aw A s.aE.length c,aw B s.aF.length d,ax ay s.aH,ax ay s.aG] [aw aB 0 0,aw aB 0 0,ax ay 0,ax ay 0];obtain⟨H,hH⟩:=wU w.heap.size
 have hA0:=hr.b.below hb0;have hE0:=hr.e.below hb0;rw [<-hH]at hS hR hb0 ⊢
 have hHl:H<w0.heap.size:=hS.lt;have hHr:H+1<w0.heap.size:=hR.lt;have HSB:=sqH (show ∀W,Below w0.heap.size w0 W->W.cell? ⟨H,1,aB⟩=aC (aw B s.aF.length d) from fun W h=>(hS.below h).c1);have HC0:=sqH (show ∀W,Below w0.heap.size w0 W->W.cell? ⟨H,0,aB⟩=aC (aw A s.aE.length c) from fun W h=>(hS.below h).c0);have HCB:=sqH (show ∀W,Below w0.heap.size w0 W->Calls zZZ 100 #[aw A s.aE.length c] W fun e w'=>∃g,e= .returned (aw (aC ⟨g,0,aB⟩) s.aE.length s.aE.length)/\RwX BlobS 88 w' w0.heap.size (aw (aC ⟨g,0,aB⟩) s.aE.length s.aE.length) s.aE (fun b=>b<w0.heap.size)/\Below W.heap.size W w' from fun W h =>
  (vy A c s.aE W hl hd (hA0.below h)).mono fun e w' ⟨g,h1,h2,h3⟩=>⟨g,h1,(h2.lower h.size).wider (fun b hb=> .inl (Nat.lt_of_lt_of_le hb h.size)),h3⟩)
 have HCE:=sqH (show ∀W v1,Below w0.heap.size w0 W->RwX BlobS 88 W w0.heap.size v1 s.aE (fun b=>b<w0.heap.size)->Calls zZZ 101 #[aw B s.aF.length d] W fun e w'=>∃g,e= .returned (aw (aC ⟨g,0,aB⟩) s.aF.length s.aF.length)/\OwSt w' w0.heap.size v1 (aw (aC ⟨g,0,aB⟩) s.aF.length s.aF.length) s (fun b=>b<w0.heap.size)/\Below W.heap.size W w' from fun W v1 h hv =>
  (QQ B d s.aF W he hp (hE0.below h)).mono fun e w' ⟨g,h1,h2,h3⟩=>by
   have hge:W.heap.size<=g:=(h2.rwo.blk rfl).1;refine⟨g,h1,⟨(hv.wider (fun b hb=>hb.imp id (fun e=>by cases e;exact hge))).below h3,(h2.lower h.size).wider (fun b hb=> .inl ?_),fun g' e1 e2=> ?_⟩,h3⟩
   ·rcases hb with hb | hb
    ·exact Nat.lt_of_lt_of_le hb h.size
    ·exact(hv.rwo.blk hb).2
   ·have:=(hv.rwo.blk e1).2;have e3:aC g=aC g':=e2;cases e3;omega)
 clear hr hd hp hA0 hE0;go_enter func52,ntmps52;go_wp2_with fail;rw [<-hw0];rw [<-hH];clear hw0 hH;refine yN 9 (S:=(fun w'=>w'.cell? ⟨H,1,aB⟩=aC (aw B s.aF.length d))) wm ?_ (fun hHeld=> ?_)
 ·exact HSB.o _ (Below.refl _ w0).drew
 have hB:=(Below.refl w0.heap.size w0).drew;generalize w0.drew=wn0 at *
 refine wN 0 ?_;refine wN 3 ?_;refine wN 4 ?_;refine wR 1 fun K hK=>?_;have c0:=HC0.o _ hB;go_simp;refine z3u hK ?_ (Below wn0.heap.size wn0) (fun W=>True) ?_ ?_ (fun wn1 hHeld hst hnew=> ?_)
 ·(exact HSB.o _ (hB.trans (Below.mono (show Below wn0.heap.size wn0 _ from by(first | exact hb5 | exact Below.refl _ _)) hB.size)))
 ·(first | exact hb5 | exact Below.refl _ _)
 ·(trivial)
 have hB:=wg hB hst;clear hst;clear hK K
 try simp only [sqP]
 refine wR 2 fun K hK=>?_;go_simp;refine(HCB.o wn1 hB).mono ?_;rintro e5 w5 ⟨g1,rfl,hx5,hb5⟩;dsimp only;refine z3u hK ?_ (Below wn1.heap.size wn1) (fun W=>RwX BlobS 88 W w0.heap.size (aw (aC ⟨g1,0,aB⟩) s.aE.length s.aE.length) s.aE (fun b=>b<w0.heap.size)) ?_ ?_ (fun wn2 hHeld hst hnew=> ?_)
 ·(exact HSB.o _ (hB.trans (Below.mono (show Below wn1.heap.size wn1 _ from by(first | exact hb5 | exact Below.refl _ _)) hB.size)))
 ·(first | exact hb5 | exact Below.refl _ _)
 ·(exact hx5)
 have hB:=wg hB hst;have hv1:=hnew;clear hnew;clear hst;clear hK K
 refine wN 6 ?_;refine wR 5 fun K hK=>?_;go_simp;refine(HCE.o wn2 _ hB hv1).mono ?_;rintro e5 w5 ⟨g2,rfl,hx5,hb5⟩;dsimp only;refine z3u hK ?_ (Below wn2.heap.size wn2) (fun W=>OwSt W w0.heap.size (aw (aC ⟨g1,0,aB⟩) s.aE.length s.aE.length) (aw (aC ⟨g2,0,aB⟩) s.aF.length s.aF.length) s (fun b=>b<w0.heap.size)) ?_ ?_ (fun wn3 hHeld hst hnew=> ?_)
 ·(exact HSB.o _ (hB.trans (Below.mono (show Below wn2.heap.size wn2 _ from by(first | exact hb5 | exact Below.refl _ _)) hB.size)))
 ·(first | exact hb5 | exact Below.refl _ _)
 ·(exact hx5)
 have hB:=wg hB hst;have ho:=hnew;clear hnew hv1;clear hst;clear hK K
 try simp only [sqP]
 refine wR 7 fun K hK=>?_;have fz:=(hS.below hB).frozen 0;have cz:=(hS.below hB).c0;go_simp;clear fz cz;refine z3u hK ?_ (fun W=>Arr W H 27 [(aw (aC ⟨g1,0,aB⟩) s.aE.length s.aE.length),aw B s.aF.length d,ax ay s.aH,ax ay s.aG]/\Arr W (H+1) 27 [aw aB 0 0,aw aB 0 0,ax ay 0,ax ay 0]) (fun W=>OwSt W w0.heap.size (aw (aC ⟨g1,0,aB⟩) s.aE.length s.aE.length) (aw (aC ⟨g2,0,aB⟩) s.aF.length s.aF.length) s (fun b=>b<w0.heap.size)/\Below H w W) ?_ ?_ (fun wn4 hHeld hF hG=> ?_)
 ·exact((hS.below hB).set (k:=0) ws (aw (aC ⟨g1,0,aB⟩) s.aE.length s.aE.length)).c1
 ·exact⟨(hS.below hB).set (k:=0) ws (aw (aC ⟨g1,0,aB⟩) s.aE.length s.aE.length),(hR.below hB).other wj (aw (aC ⟨g1,0,aB⟩) s.aE.length s.aE.length)⟩
 ·exact⟨ho.set hHl hHl (aw (aC ⟨g1,0,aB⟩) s.aE.length s.aE.length),(hb0.trans (hB.mono (Nat.le_of_lt hHl))).setCell (p:=⟨H,0,aB⟩) ab (aw (aC ⟨g1,0,aB⟩) s.aE.length s.aE.length)⟩
 clear hB ho;clear hK K
 refine wN 8 ?_;refine ki (rs:= [9]) wm ws ?_;refine zM.last (o:=_) rfl (fun K hK=> ?_);have fz:=hF.1.frozen 1;have cz:=hF.1.c1;go_simp;clear fz cz;refine z4x hK ?_;clear hK K
 try simp only [sqP]
 refine QK wm ?_ _;dsimp only [Exit.then];clear hHeld;obtain⟨hS7,hR7⟩:=hF;obtain⟨ho7,hb7⟩:=hG;have hS9:Arr (wn4.setCell ⟨H,1,aB⟩ (aw (aC ⟨g2,0,aB⟩) s.aF.length s.aF.length)) H 27 [(aw (aC ⟨g1,0,aB⟩) s.aE.length s.aE.length),(aw (aC ⟨g2,0,aB⟩) s.aF.length s.aF.length),ax ay s.aH,ax ay s.aG]:=hS7.set (k:=1) ws (aw (aC ⟨g2,0,aB⟩) s.aF.length s.aF.length);have hR9:=hR7.other (g':=H) (k:=1) wj (aw (aC ⟨g2,0,aB⟩) s.aF.length s.aF.length);have ho9:=ho7.set (k:=1) hHl hHl (aw (aC ⟨g2,0,aB⟩) s.aF.length s.aF.length);have hb9:=hb7.setCell (p:=⟨H,1,aB⟩) ab (aw (aC ⟨g2,0,aB⟩) s.aF.length s.aF.length);clear hS7 hR7 ho7 hb7 hS hR;generalize wn4.setCell ⟨H,1,aB⟩ (aw (aC ⟨g2,0,aB⟩) s.aF.length s.aF.length)=w9 at *
 obtain⟨z0,z1,z2,z3⟩:=sqC4 hS9;obtain⟨f0,f1,f2,f3⟩:=sqF4 hR9;obtain⟨y0,y1,y2,y3⟩:=sqC4 hR9;have hfin:=hR9.all4 (aw (aC ⟨g1,0,aB⟩) s.aE.length s.aE.length) (aw (aC ⟨g2,0,aB⟩) s.aF.length s.aF.length) (ax ay s.aH) (ax ay s.aG);have ho10:=(((ho9.set (g:=H+1) (k:=0) wj wj (aw (aC ⟨g1,0,aB⟩) s.aE.length s.aE.length)).set (g:=H+1) (k:=1) wj wj (aw (aC ⟨g2,0,aB⟩) s.aF.length s.aF.length)).set (g:=H+1) (k:=2) wj wj (ax ay s.aH)).set (g:=H+1) (k:=3) wj wj (ax ay s.aG);have hb10:=(((hb9.setCell (p:=⟨H+1,0,aB⟩) ww (aw (aC ⟨g1,0,aB⟩) s.aE.length s.aE.length)).setCell (p:=⟨H+1,1,aB⟩) ww (aw (aC ⟨g2,0,aB⟩) s.aF.length s.aF.length)).setCell (p:=⟨H+1,2,aB⟩) ww (ax ay s.aH)).setCell (p:=⟨H+1,3,aB⟩) ww (ax ay s.aG);clear hR9 ho9 hb9 hS9;go_wp2_with fail;clear z0 z1 z2 z3 f0 f1 f2 f3 y0 y1 y2 y3;refine bodyPost_ret (results_cell_row rfl _ _ (H+1) _ _ _ _ wu hfin underlying27 rfl wm) rfl ?_;exact⟨g1,g2,rfl,(ho10.lower (base':=H) wj).wider (N':=fun b=>b<H) (fun b hb=> .inl wj),hb10⟩
section
variable {w w6 w7 w8:World} {base:Nat} {v1 v1' v2 v2':Value} {s:StoP} {N:ai}
theorem OwSt.mixB {l:List BlobP} (hv:RwX BlobS 88 w6 base v1 l N) (hN:∀b,N b->b<w6.heap.size) (hb:base<=w6.heap.size) (h:OwSt w7 w6.heap.size v1' v2 s (fun b=>b<w6.heap.size)) (hbl:Below w6.heap.size w6 w7):OwSt w7 base v1 v2 { s with aE:=l } N :=
 ⟨(hv.wider (fun b hb=>hb.imp id (fun e=>(h.e.rwo.blk e).1))).below hbl,(h.e.lower hb).wider (fun b hb=> .inl (.inl (hb.elim (hN b) (fun e=>(hv.rwo.blk e).2)))),fun g e1 e2=>by
  have:=(hv.rwo.blk e1).2;have:=(h.e.rwo.blk e2).1;omega⟩
theorem OwSt.mixE (h:OwSt w7 base v1 v2 s N) (hN:∀b,N b->b<w7.heap.size) (hv:RwX EntS 109 w8 w7.heap.size v2' l (fun b=>b<w7.heap.size)) (hbs:base<=w7.heap.size) (hbl:Below w7.heap.size w7 w8):OwSt w8 base v1 v2' { s with aF:=l } N:=by
 have h1:∀g,v2'.ownBlock=aC g->w7.heap.size<=g:=fun g e=>(hv.rwo.blk e).1;have h2:∀g,v1.ownBlock=aC g->g<w7.heap.size:=fun g e=>(h.b.rwo.blk e).2;refine⟨RwX.below (RwX.wider h.b (N':=fun g=>N g\/v2'.ownBlock=aC g) fun b hb=> ?_) hbl,RwX.wider (hv.lower hbs) (N':=fun g=>N g\/v1.ownBlock=aC g) fun b hb=> .inl ?_,fun g e1 e2=> ?_⟩
 ·rcases hb with hb | hb
  ·exact .inl (.inl hb)
  ·exact .inr (h1 b hb)
 ·rcases hb with hb | hb
  ·exact hN b hb
  ·exact h2 b hb
 ·have:=h1 g e2;have:=h2 g e1;omega
theorem OwSt.setX (h:OwSt w base v1 v2 s N) (hN:N g) (h1:v1.ownBlock≠aC g) (h2:v2.ownBlock≠aC g) (u:Value):OwSt (w.setCell ⟨g,k,aB⟩ u) base v1 v2 s N:=by
 have hg:=zU w g k u;have e1:∀b,aC g=aC b->v1.ownBlock≠aC b:=fun b e=>by rw [<-e];exact h1
 have e2:∀b,aC g=aC b->v2.ownBlock≠aC b:=fun b e=>by rw [<-e];exact h2
 have e3:∀b,aC g=aC b->N b:=fun b e=>by cases e;exact hN
 exact⟨RwX.other h.b hg e1 fun b e=> .inl (e3 b e),RwX.other h.e hg e2 fun b e=> .inl (e3 b e),h.ne⟩
theorem OwSt.clk (h:OwSt w base v1 v2 s N) (r k:Nat):OwSt w base v1 v2 { s with aH:=r,aG:=k } N:=⟨h.b,h.e,h.ne⟩
theorem RwX.set1 {α:Type} {S:Shp α} {y:α} {l:List α} (h:RwX S e w base (aw (aC ⟨g,0,aB⟩) l.length cap) l N) (hi:i<l.length) (hj:j<S.size)
  (hR:∀W cs,S.R W l[i] cs->S.R W y (cs.set j u)) (hlead:∀b,¬leads b [u]) :
  (∃v0,w.cell? ⟨g,i*S.size+j,aB⟩=aC v0)/\w.frozen? ⟨g,i*S.size+j,aB⟩=false /\
   RwX S e (w.setCell ⟨g,i*S.size+j,aB⟩ u) base (aw (aC ⟨g,0,aB⟩) l.length cap) (l.set i y) N/\w.grownBy (w.setCell ⟨g,i*S.size+j,aB⟩ u) (aC g):=by
 obtain⟨h1,h2,h3,h4⟩:=RwO.set1 (S:=S.off N) (u:=u) (y:=y) h.off hi hj (fun W cs h=>⟨hR W cs h.1,fun b hb ⟨a,n,c,hm,e2⟩=>by
  rcases List.mem_or_eq_of_mem_set hm with h5 | h5
  ·exact h.2 b hb ⟨a,n,c,h5,e2⟩
  ·exact hlead b ⟨a,n,c,by simp [h5],e2⟩⟩) (fun b hb=>absurd hb (hlead b))
 exact⟨h1,h2,h3.on,h4⟩
theorem yg (z:Int) (b:Nat):¬leads b [ax ay z]:=fun ⟨a,n,c,hm,_⟩=>by simp at hm
theorem kJ (z:Bool) (b:Nat):¬leads b [.bool z]:=fun ⟨a,n,c,hm,_⟩=>by simp at hm
theorem OwSt.setB {y:BlobP} (h:OwSt w base (aw (aC ⟨g,0,aB⟩) s.aE.length cap) v2 s N) (hi:i<s.aE.length) (hj:j<4)
  (hR:∀W cs,BlobS.R W s.aE[i] cs->BlobS.R W y (cs.set j u)) (hlead:∀b,¬leads b [u]) :
  (∃v0,w.cell? ⟨g,i*4+j,aB⟩=aC v0)/\w.frozen? ⟨g,i*4+j,aB⟩=false /\
   OwSt (w.setCell ⟨g,i*4+j,aB⟩ u) base (aw (aC ⟨g,0,aB⟩) s.aE.length cap) v2 { s with aE:=s.aE.set i y } N/\w.grownBy (w.setCell ⟨g,i*4+j,aB⟩ u) (aC g):=by
 obtain⟨h1,h2,h3,h4⟩:=RwX.set1 (S:=BlobS) (u:=u) (y:=y) h.b hi hj hR hlead;refine⟨h1,h2,⟨h3,h.e.other h4 (fun b e1 e2=> ?_) (fun b e=> ?_),h.ne⟩,h4⟩
 ·cases e1;exact h.ne g rfl e2
 ·cases e;exact .inr rfl
theorem OwSt.setE {y:EntP} (h:OwSt w base v1 (aw (aC ⟨g,0,aB⟩) s.aF.length cap) s N) (hi:i<s.aF.length) (hj:j<4)
  (hR:∀W cs,EntS.R W s.aF[i] cs->EntS.R W y (cs.set j u)) (hlead:∀b,¬leads b [u]) :
  (∃v0,w.cell? ⟨g,i*4+j,aB⟩=aC v0)/\w.frozen? ⟨g,i*4+j,aB⟩=false /\
   OwSt (w.setCell ⟨g,i*4+j,aB⟩ u) base v1 (aw (aC ⟨g,0,aB⟩) s.aF.length cap) { s with aF:=s.aF.set i y } N/\w.grownBy (w.setCell ⟨g,i*4+j,aB⟩ u) (aC g):=by
 obtain⟨h1,h2,h3,h4⟩:=RwX.set1 (S:=EntS) (u:=u) (y:=y) h.e hi hj hR hlead;refine⟨h1,h2,⟨h.b.other h4 (fun b e1 e2=> ?_) (fun b e=> ?_),h3,h.ne⟩,h4⟩
 ·cases e1;exact h.ne g e2 rfl
 ·cases e;exact .inr rfl
theorem Xh (b:BlobP) (n:Nat) (W:World) (cs:af) (h:BlobS.R W b cs):BlobS.R W { b with pins:=n } (cs.set 2 (ax ay n)):=by
 obtain⟨A,c,rfl,hs⟩:=h;exact⟨A,c,rfl,hs⟩
theorem vX (b:BlobP) (m:Bool) (W:World) (cs:af) (h:BlobS.R W b cs):BlobS.R W { b with mark:=m } (cs.set 3 (.bool m)):=by
 obtain⟨A,c,rfl,hs⟩:=h;exact⟨A,c,rfl,hs⟩
theorem UB (b:EntP) (n:Nat) (W:World) (cs:af) (h:EntS.R W b cs):EntS.R W { b with pins:=n } (cs.set 2 (ax ay n)):=by
 obtain⟨A,c,rfl,hs⟩:=h;exact⟨A,c,rfl,hs⟩
theorem Xt (b:EntP) (n:Nat) (W:World) (cs:af) (h:EntS.R W b cs):EntS.R W { b with aK:=n } (cs.set 3 (ax ay n)):=by
 obtain⟨A,c,rfl,hs⟩:=h;exact⟨A,c,rfl,hs⟩
end
theorem Um (g:Nat) (x0 x1 x2:Value) (z:Int) (w:World) (h0:0<=z) (hk:z<1099511627776) (hS:Arr w g 27 [x0,x1,x2,ax ay z]) :
  Calls zZZ 163 #[.pointer (aC ⟨g,0,aB⟩)] w fun e w'=>e= .returned (ax ay 0)/\w'=w.setCell ⟨g,3,aB⟩ (ax ay (z+1)):=by
 have c3:=hS.c3;have f3:=hS.frozen 3;have hne:(z==1099511627776)=false:=by rw [beq_eq_false_iff_ne];omega
 have hw:IntKind.i64.wrap (z+1)=z+1:=IntWalk.i64_in _ wj;clear hS;go_enter func163,ntmps163;go_wp2_with fail;go_ret;exact⟨rfl,rfl⟩
theorem X8 (g:Nat) (x0 x1 x2:Value) (k:Nat) (w:World) (hk:k<1099511627776) (hS:Arr w g 27 [x0,x1,x2,ax ay k]) :
  Calls zZZ 163 #[.pointer (aC ⟨g,0,aB⟩)] w fun e w'=>e= .returned (ax ay 0)/\w'=w.setCell ⟨g,3,aB⟩ (ax ay ((k+1:Nat):Int)):=by
 have hz:((k+1:Nat):Int)=(k:Int)+1:=wj
 rw [hz];exact Um g x0 x1 x2 (k:Int) w wj wj hS
theorem KL (A:ae) (c:Nat) (B:ae) (d:Nat) (s:StoP) (dg:ac) (i:Nat) (w:World) (hg:GoodS s) (hr:RdSt w A c B d s) (hi:i<s.aE.length) (hk:s.aE[i].dig=dg) :
  Calls zZZ 124 #[.agg #[aw A s.aE.length c,aw B s.aF.length d,ax ay s.aH,ax ay s.aG],az ⟨dg.toArray⟩] w fun e w' =>
   ∃v,e= .returned (.tuple #[v,ax ay 0])/\w'.ownsRow w.heap.size 5 1 v s.aE[i].data.length (bys s.aE[i].data)/\Below w.heap.size w w':=by
 have hlb:s.aE.length<=24:=hg.b.len;obtain⟨D,hD⟩:=wU (s.aE[i].data)
 rw [<-hD];have hdl:=(hg.b.one _ (List.getElem_mem hi)).2.1;rw [<-hD]at hdl;have HD:=sqH hD;clear hD;obtain⟨w0,hw0⟩:=wU (w.alloc (aA #[aw A s.aE.length c,aw B s.aF.length d,ax ay s.aH,ax ay s.aG] 27))
 have hb0:Below w.heap.size w w0:=by rw [hw0];exact(Below.refl _ _).alloc ab _
 have hr0:=hr.below hb0;obtain⟨H,hH⟩:=wU w.heap.size
 have hS:Arr w0 H 27 [aw A s.aE.length c,aw B s.aF.length d,ax ay s.aH,ax ay s.aG]:=by rw [hw0,hH];exact Arr.new w 27 _
 have HCK:=sqH (zF A c B d s w0 hg hr0);have HF:=sqH (show s.aE.findIdx? (fun x=>x.dig==dg)=aC i by
  obtain⟨j,hj,h1,h2⟩:=Vf (f:=fun b:BlobP=>b.dig) hg.b.ris (List.getElem_mem hi) hk;rw [h1];have:=List.pairwise_iff_getElem.1 hg.b.ris;rcases Nat.lt_trichotomy j i with h3 | h3 | h3
  ·have h4:=yT (this j i hj hi h3);rw [h2]at h4;exact absurd rfl h4
  ·rw [h3]
  ·have h4:=yT (this i j hi hj h3);rw [h2]at h4;exact absurd rfl h4)
 obtain⟨sd,hsd⟩:=wU (⟨dg.toArray⟩:ByteArray)
 rw [<-hsd];have HSD:=sqH hsd;rw [<-hH]at hb0 ⊢
 have hHl:H<w0.heap.size:=hS.lt;obtain⟨x0,x1,x2,x3⟩:=sqC4 hS;rw [hw0,hH]at x0 x1 x2 x3;clear hg hr hk hsd;go_enter func124,ntmps124;go_wp2_with fail;rw [<-hw0,<-hH];clear hw0 hH x0 x1 x2 x3;refine wV HCK.o fun w1 hb1=>?_;dsimp only;have hr1:=hr0.below hb1;have hS1:=hS.below hb1;have y0:=hS1.c0;have HFN:=kr A c s.aE dg w1 wj hr1.b;rw [HF.o,xn,<-HSD.o]at HFN;have HFN:=sqH HFN;clear hr0 hS;go_wp2_with fail;clear y0;refine wV HFN.o fun w2 hb2=>?_;dsimp only;have hc2:=wg hb1 hb2;have hb02:=hb0.trans (hc2.mono (Nat.le_of_lt hHl));have hsz2:H<=w2.heap.size:=Nat.le_trans (Nat.le_of_lt hHl) hc2.size;have hr2:=hr1.below hb2;have hS2:=hS1.below hb2;have y0:=hS2.c0;obtain⟨b,off,DB,cb,e1,hbb,d0,d1,d2,d3,hsl⟩:=hr2.b.blob_at i hi;have hi0:=wX i
 have hi1:(i:Int)<(s.aE.length:Int):=wj
 rw [<-HD.o]at d1 hsl;have HCL:=sqH (kY DB D.length cb D w2 rfl hsl.cap wj hsl.rd);subst e1;clear hr1 hr2 hS1 hS2 hb2 hc2 d0 d2 d3 hsl;go_wp2_with fail;clear y0 d1;refine HCL.o.mono ?_;rintro e_ w3 ⟨v3,rfl,ho3,hb3⟩;dsimp only;have hb03:=hb02.trans (hb3.mono hsz2);have ho:=zb ho3 hsz2;clear ho3 hb3;go_wp2_with fail;go_ret2;exact⟨v3,rfl,ho,hb03⟩
theorem Zi (A:ae) (c:Nat) (B:ae) (d:Nat) (s:StoP) (dg:ac) (w:World) (hg:GoodS s) (hr:RdSt w A c B d s) (hk:∀b∈s.aE,b.dig≠dg) :
  Calls zZZ 124 #[.agg #[aw A s.aE.length c,aw B s.aF.length d,ax ay s.aH,ax ay s.aG],az ⟨dg.toArray⟩] w fun e w' =>
   e= .returned (.tuple #[aw aB 0 0,ax ay 5])/\Below w.heap.size w w':=by
 have hlb:s.aE.length<=24:=hg.b.len;obtain⟨w0,hw0⟩:=wU (w.alloc (aA #[aw A s.aE.length c,aw B s.aF.length d,ax ay s.aH,ax ay s.aG] 27))
 have hb0:Below w.heap.size w w0:=by rw [hw0];exact(Below.refl _ _).alloc ab _
 have hr0:=hr.below hb0;obtain⟨H,hH⟩:=wU w.heap.size
 have hS:Arr w0 H 27 [aw A s.aE.length c,aw B s.aF.length d,ax ay s.aH,ax ay s.aG]:=by rw [hw0,hH];exact Arr.new w 27 _
 have HCK:=sqH (zF A c B d s w0 hg hr0);have HF:=sqH (show s.aE.findIdx? (fun x=>x.dig==dg)=aB by
  rw [List.findIdx?_eq_none_iff];intro x hx;simp [hk x hx])
 obtain⟨sd,hsd⟩:=wU (⟨dg.toArray⟩:ByteArray)
 rw [<-hsd];have HSD:=sqH hsd;rw [<-hH]at hb0 ⊢
 have hHl:H<w0.heap.size:=hS.lt;obtain⟨x0,x1,x2,x3⟩:=sqC4 hS;rw [hw0,hH]at x0 x1 x2 x3;clear hg hr hk hsd;go_enter func124,ntmps124;go_wp2_with fail;rw [<-hw0,<-hH];clear hw0 hH x0 x1 x2 x3;refine wV HCK.o fun w1 hb1=>?_;dsimp only;have hr1:=hr0.below hb1;have hS1:=hS.below hb1;have y0:=hS1.c0;have HFN:=kr A c s.aE dg w1 wj hr1.b;rw [HF.o,xn,<-HSD.o]at HFN;have HFN:=sqH HFN;clear hr0 hS;go_wp2_with fail;clear y0;refine wV HFN.o fun w2 hb2=>?_;dsimp only;have hc2:=wg hb1 hb2;have hb02:=hb0.trans (hc2.mono (Nat.le_of_lt hHl));clear hr1 hS1 hb1 hb2 hc2;go_wp2_with fail;go_ret2;exact⟨rfl,hb02⟩
theorem KT (A:ae) (c:Nat) (B:ae) (d:Nat) (s:StoP) (D:ac) (DA:ae) (dc:Nat) (w:World) (hg:GoodS s) (hr:RdSt w A c B d s) (hd:D.length<=300) (hlen:s.aE.length<24\/(s.aE.findIdx? (fun b=>b.dig==shaS D)).isSome=true) (hus:usd (putB s.aE D)<=s.aH) (hD:Sl w 1 DA D.length dc (bys D)) :
  Calls zZZ 158 #[.agg #[aw A s.aE.length c,aw B s.aF.length d,ax ay s.aH,ax ay s.aG],aw DA D.length dc] w fun e w' =>
   ∃v1 v2,e= .returned (.tuple #[.agg #[v1,v2,ax ay s.aH,ax ay s.aG],az ⟨(shaS D).toArray⟩,ax ay 0])/\OwSt w' w.heap.size v1 v2 (zH s D) (fun b=>b<w.heap.size)/\Below w.heap.size w w':=by
 have hlb:s.aE.length<=24:=hg.b.len;have hle:s.aF.length<=10:=hg.e.len;have hrm:=hg.aH;have hpl:=xw s.aE D;have HGB:=sqH hg.b;obtain⟨sd,hsd⟩:=wU (⟨(shaS D).toArray⟩:ByteArray)
 rw [<-hsd];obtain⟨HSD,HLN,HDD⟩:=sqJ3 hsd hlen (fun W (h:Below w.heap.size w W)=>hD.below h);clear hD hsd hlen;obtain⟨w0,hw0,hS,hR,hb0⟩:=zT w 27 [aw A s.aE.length c,aw B s.aF.length d,ax ay s.aH,ax ay s.aG] [aw aB 0 0,aw aB 0 0,ax ay 0,ax ay 0];have hr0:=hr.below hb0;obtain⟨H,hH⟩:=wU w.heap.size
 have HCK:=sqH (zF A c B d s w0 hg hr0);rw [<-hH]at hS hR hb0 ⊢
 have hHl:H<w0.heap.size:=hS.lt;have hHr:H+1<w0.heap.size:=hR.lt;obtain⟨x0,x1,x2,x3⟩:=sqC4 hS;rw [hw0,hH]at x0 x1 x2 x3;obtain⟨HPL,HQL,HG⟩:=sqJ3 (show ∀b∈s.aE,b.data.length<=1000000 from fun b hb=>by have:=(hg.b.one b hb).2.1;omega) (show ∀x∈s.aF,x.parts.length<=1000000 from fun x hx=>by have:=(zk (hg.e.one x hx).2.1).1;omega) hg;clear hg hr;go_enter func158,ntmps158;go_wp2_with fail;rw [<-hw0,<-hH];have HH:=sqH hH;clear hw0 hH x0 x1 x2 x3;have hD0:=HDD.o w0 (by rw [<-HH.o];exact hb0);refine wV HCK.o fun w1 hb1=>?_;dsimp only;have hr1:=hr0.below hb1;have hS1:=hS.below hb1;have y0:=hS1.c0;have HPT:=YU A c s.aE D DA dc w1 HGB.o hd HLN.o hr1.b (hD0.below hb1);rw [<-HSD.o]at HPT;have HPT:=sqH HPT;clear hr0 hS hD0;go_wp2_with fail;clear y0;refine HPT.o.mono ?_;rintro e_ w2 ⟨v2,rfl,hx2,hb2⟩;dsimp only;have hc2:=wg hb1 hb2;have hr2:=hr1.below hb2;have hS2:=hS1.below hb2;obtain⟨A2,c2,e2,h21,h22,hR2⟩:=hx2.rwo.rows;subst e2;have y2:=hS2.c2;have HFT:=Qb A2 c2 (putB s.aE D) s.aH 0 w2 wj wj hrm wj hR2;rw [if_pos wj]at HFT;have HFT:=sqH HFT;clear hr1 hS1 hR2;go_wp2_with fail;clear y2;refine wV HFT.o fun w3 hb3=>?_;dsimp only;have hc3:=wg hc2 hb3;have hr3:=hr2.below hb3;have hS3:=hS2.below hb3;have hx3:=hx2.below hb3;obtain⟨z0,z1,z2,z3⟩:=sqC4 hS3;have HCP:=sqH (qI A c B d s w3 wj wj HPL.o HQL.o hr3);have q12:=hb2.size;have q23:=hb3.size;clear hr2 hS2 hx2 hb2 hb3 hr3;go_wp2_with fail;clear z0 z1 z2 z3;refine HCP.o.mono ?_;rintro e_ w4 ⟨q1,q2,rfl,ho4',hb4⟩;dsimp only;have hc4:=wg hc3 hb4;have ho4:=((OwSt.mixB hx3 (fun b hb=>Nat.lt_of_lt_of_le hb (Nat.le_trans q12 q23)) (Nat.le_trans q12 q23) ho4' hb4).lower hb1.size).wider (N':=fun b=>b<w0.heap.size) (fun b hb=> .inl (Nat.lt_of_lt_of_le hb hb1.size));clear ho4' hx3 hc3 hb4 hS3 hc2;have h41:∀b,(aw A2 (putB s.aE D).length c2).ownBlock=aC b->b<w4.heap.size:=fun b e=>(ho4.b.rwo.blk e).2;have h42:∀b,(aw (aC ⟨q2,0,aB⟩) s.aF.length s.aF.length).ownBlock=aC b->b<w4.heap.size:=fun b e=>(ho4.e.rwo.blk e).2;have hG:w0.heap.size<=w4.heap.size:=hc4.size;obtain⟨G,hGe⟩:=wU w4.heap.size
 rw [<-hGe]at h41 h42 hG;have hba:=wi w4 (aA #[(aw A2 (putB s.aE D).length c2),(aw (aC ⟨q2,0,aB⟩) s.aF.length s.aF.length),ax ay s.aH,ax ay s.aG] 27);have hX:Arr (w4.alloc (aA #[(aw A2 (putB s.aE D).length c2),(aw (aC ⟨q2,0,aB⟩) s.aF.length s.aF.length),ax ay s.aH,ax ay s.aG] 27)) G 27 [(aw A2 (putB s.aE D).length c2),(aw (aC ⟨q2,0,aB⟩) s.aF.length s.aF.length),ax ay s.aH,ax ay s.aG]:=by rw [hGe];exact Arr.new w4 27 _
 have ho:=(ho4.wider (N':=fun b=>b<w0.heap.size\/b=G) (fun b hb=>hb.imp id (fun e=>wj))).below hba;have hR5:=(hR.below hc4).below hba;have hb5:=(hb0.trans (hc4.mono (Nat.le_of_lt hHl))).alloc wj (aA #[(aw A2 (putB s.aE D).length c2),(aw (aC ⟨q2,0,aB⟩) s.aF.length s.aF.length),ax ay s.aH,ax ay s.aG] 27);clear hR ho4 hc4 hba hb0;have hR:=hR5;clear hR5;have hb:=hb5;clear hb5;obtain⟨z0,z1,z2,z3⟩:=sqC4 hX;obtain⟨f0,f1,f2,f3⟩:=sqF4 hR;obtain⟨y0,y1,y2,y3⟩:=sqC4 hR;have hfin:=hR.all4 (aw A2 (putB s.aE D).length c2) (aw (aC ⟨q2,0,aB⟩) s.aF.length s.aF.length) (ax ay s.aH) (ax ay s.aG);have hoF:=(((ho.set (g:=H+1) (k:=0) hHr (.inl hHr) (aw A2 (putB s.aE D).length c2)).set (g:=H+1) (k:=1) hHr (.inl hHr) (aw (aC ⟨q2,0,aB⟩) s.aF.length s.aF.length)).set (g:=H+1) (k:=2) hHr (.inl hHr) (ax ay s.aH)).set (g:=H+1) (k:=3) hHr (.inl hHr) (ax ay s.aG);have hbF:=(((hb.setCell (p:=⟨H+1,0,aB⟩) ww (aw A2 (putB s.aE D).length c2)).setCell (p:=⟨H+1,1,aB⟩) ww (aw (aC ⟨q2,0,aB⟩) s.aF.length s.aF.length)).setCell (p:=⟨H+1,2,aB⟩) ww (ax ay s.aH)).setCell (p:=⟨H+1,3,aB⟩) ww (ax ay s.aG);clear hR ho hb hX;subst hGe;go_wp2_with fail;refine bodyPost_ret (zz rfl _ _ (H+1) _ _ _ _ wu hfin underlying27 rfl wm) rfl ?_;exact⟨_,_,rfl,(hoF.lower (base':=H) wj).wider (N':=fun b=>b<H) (fun b hb=> .inl (.inl wj)),hbF⟩
theorem z3s (k:Int) (h:k=0\/k=1\/k=2\/k=3) (w:World):(Instr.index 276 (.agg #[ax ay 0,ax ay 0,ax ay 0,ax ay 0]) (ax ay k)).run zZZ w= .ok (ax ay 0) w:=by
 rcases h with rfl | rfl | rfl | rfl<;>kernel_rfl
theorem z07 (A:ae) (c:Nat) (B:ae) (d:Nat) (s:StoP) (key:ac) (ps:List PartP) (PA:ae) (pc:Nat) (w:World) (hg:GoodS s) (hr:RdSt w A c B d s) (hk:hexC key=0) (hpz:chk ps=0) (hhv:qQ s.aE ps=0) (hclk:s.aG<1099511627776) (hlen:s.aF.length<10) (hP:Sl w 3 PA ps.length pc (pcs ps)) :
  Calls zZZ 180 #[.agg #[aw A s.aE.length c,aw B s.aF.length d,ax ay s.aH,ax ay s.aG],az ⟨key.toArray⟩,aw PA ps.length pc] w fun e w' =>
   ∃v1 v2,e= .returned (.tuple #[.agg #[v1,v2,ax ay s.aH,ax ay ((s.aG+1:Nat):Int)],ax ay 0])/\OwSt w' w.heap.size v1 v2 (vu s key ps) (fun b=>b<w.heap.size)/\Below w.heap.size w w':=by
 have hlb:s.aE.length<=24:=hg.b.len;obtain⟨w0,hw0,hS,hR,hb0⟩:=zT w 27 [aw A s.aE.length c,aw B s.aF.length d,ax ay s.aH,ax ay s.aG] [aw aB 0 0,aw aB 0 0,ax ay 0,ax ay 0];have hr0:=hr.below hb0;have hP0:=hP.below hb0;obtain⟨H,hH⟩:=wU w.heap.size
 have HCK:=sqH (fun W (h:Below w0.heap.size w0 W)=>zF A c B d s W hg (hr0.below h));have hkl:=qK hk;have HKX:=sqH (show ∀W,Below w0.heap.size w0 W->Calls zZZ 90 #[az ⟨key.toArray⟩] W fun e w'=>e= .returned (ax ay 0)/\Below W.heap.size W w' from fun W _=>by
  have:=kC ⟨key.toArray⟩ W (by show(key.toArray).size<=_;rw [List.size_toArray];omega);rw [show(⟨key.toArray⟩:ByteArray).data.toList=key from rfl,hk]at this;exact this)
 have HPC:=sqH (show ∀W,Below w0.heap.size w0 W->Calls zZZ 113 #[aw PA ps.length pc] W fun e w'=>e= .returned (ax ay 0)/\Below W.heap.size W w' from fun W h=>by
  have:=xd PA ps.length pc ps W rfl hP0.cap (by have:=(zk hpz).1;omega) (vJ hpz) (hP0.below h).rd
  rwa [hpz]at this)
 have hpl8:=(zk hpz).1;obtain⟨HHV,HGX,HPL,HQL⟩:=sqJ4 (fun W (h:Below w0.heap.size w0 W)=>Qe A c s.aE PA pc ps W wj wj (hr0.b.below h) (hP0.below h).rd) hg (show ∀b∈s.aE,b.data.length<=1000000 from fun b hb=>by have:=(hg.b.one b hb).2.1;omega) (show ∀x∈s.aF,x.parts.length<=1000000 from fun x hx=>by have:=(zk (hg.e.one x hx).2.1).1;omega);have HSB:=sqH (show ∀W,Below w0.heap.size w0 W->wD W H (aw A s.aE.length c) (aw B s.aF.length d) (ax ay s.aH) (ax ay s.aG) from fun W h=>by
  rw [hH];exact sqC4 (hS.below h))
 have HKK:=sqH hk;have HPZ:=sqH hpz;rw [<-hH]at hS hR hb0 ⊢
 have hHl:H<w0.heap.size:=hS.lt;have hHr:H+1<w0.heap.size:=hR.lt;obtain⟨sk,hsk⟩:=wU (⟨key.toArray⟩:ByteArray)
 rw [<-hsk]at HKX ⊢
 have HSK:=sqH hsk;clear hg hr hk hP hpz hsk;go_enter func180,ntmps180;go_wp2_with fail;rw [<-hw0,<-hH];have HH:=sqH hH;clear hw0 hH;rw [hhv]at HHV;refine wp_region_held_drew (S:=(fun w'=>wD w' H (aw A s.aE.length c) (aw B s.aF.length d) (ax ay s.aH) (ax ay s.aG))) wm ?_ (fun hHeld=> ?_)
 ·exact HSB.o _ (Below.refl _ w0).drew
 have hB:=(Below.refl w0.heap.size w0).drew;generalize w0.drew=wn0 at *
 refine wM 0 ?_;refine wM 2 ?_;refine wM 4 ?_;refine wM 6 ?_;refine wM 7 ?_;refine wM 8 ?_;refine wM 11 ?_;refine wQ 1 fun K hK=>?_;go_simp;refine(HCK.o wn0 hB).mono ?_;rintro e5 w5 ⟨rfl,hb5⟩;dsimp only;refine k8 hK ?_ (Below wn0.heap.size wn0) (fun W=>True) ?_ ?_ (fun wn1 hHeld hst hnew=> ?_)
 ·(exact HSB.o _ (wg hB hb5))
 ·(exact hb5)
 ·(trivial)
 have hB:=wg hB hst;clear hst;clear hK K
 try simp only [sqP]
 refine wQ 3 fun K hK=>?_;go_simp;refine(HKX.o wn1 hB).mono ?_;rintro e5 w5 ⟨rfl,hb5⟩;dsimp only;refine k8 hK ?_ (Below wn1.heap.size wn1) (fun W=>True) ?_ ?_ (fun wn2 hHeld hst hnew=> ?_)
 ·(exact HSB.o _ (wg hB hb5))
 ·(exact hb5)
 ·(trivial)
 have hB:=wg hB hst;clear hst;clear hK K
 try simp only [sqP]
 refine wQ 5 fun K hK=>?_;go_simp;refine(HPC.o wn2 hB).mono ?_;rintro e5 w5 ⟨rfl,hb5⟩;dsimp only;refine k8 hK ?_ (Below wn2.heap.size wn2) (fun W=>True) ?_ ?_ (fun wn3 hHeld hst hnew=> ?_)
 ·(exact HSB.o _ (wg hB hb5))
 ·(exact hb5)
 ·(trivial)
 have hB:=wg hB hst;clear hst;clear hK K
 try simp only [sqP]
 refine wQ 9 fun K hK=>?_;go_simp;refine(HHV.o wn3 hB).mono ?_;rintro e5 w5 ⟨rfl,hb5⟩;dsimp only;refine k8 hK ?_ (Below wn3.heap.size wn3) (fun W=>True) ?_ ?_ (fun wn4 hHeld hst hnew=> ?_)
 ·(exact HSB.o _ (wg hB hb5))
 ·(exact hb5)
 ·(trivial)
 have hB:=wg hB hst;clear hst;clear hK K
 refine wM 10 ?_;refine wpAnyH_done wm ?_ _;dsimp only [Exit.then];clear hHeld;generalize wn4=w1 at *
 go_wp2_with fail;go_loopg [25] 4 (fun gn i wr=>∃j:Int,i= ax ay j/\(j=0\/j=1\/j=2\/j=3\/j=4)/\gn=(4 - j).toNat/\wr=w1)
 case atStart=>exact⟨0,rfl,wj,rfl,rfl⟩
 case round =>
  obtain⟨j,rfl,hj,hgn,hwr⟩:=hrel;subst hwr;have ix0:=z3s 0 wj wr;have ix1:=z3s 1 wj wr;have ix2:=z3s 2 wj wr;have ix3:=z3s 3 wj wr;rcases hj with rfl | rfl | rfl | rfl | rfl
  ·go_wp2_with fail;go_roundg 3
   case measure=>omega
   case rel=>exact⟨1,rfl,wj,rfl,rfl⟩
  ·go_wp2_with fail;go_roundg 2
   case measure=>omega
   case rel=>exact⟨2,rfl,wj,rfl,rfl⟩
  ·go_wp2_with fail;go_roundg 1
   case measure=>omega
   case rel=>exact⟨3,rfl,wj,rfl,rfl⟩
  ·go_wp2_with fail;go_roundg 0
   case measure=>omega
   case rel=>exact⟨4,rfl,wj,rfl,rfl⟩
  ·clear hgn ix0 ix1 ix2 ix3;generalize wr=wr0 at *
   obtain⟨z0,z1,z2,z3⟩:=HSB.o wr0 hB;have hr1:=hr0.below hB;have HCP:=sqH (qI A c B d s wr0 wj wj HPL.o HQL.o hr1);have hP1:=hP0.below hB;clear hr0 hP0 hS;go_wp2_with fail;clear z0 z1 z2 z3;refine HCP.o.mono ?_;rintro e_ w4 ⟨q1,q2,rfl,ho4',hb4⟩;dsimp only;have hc4:=wg hB hb4;have hP4:=hP1.below hb4;have ho4:=(ho4'.lower hB.size).wider (N':=fun b=>b<w0.heap.size) (fun b hb=> .inl (Nat.lt_of_lt_of_le hb hB.size));have hPl:=hP4.live;clear ho4' hB hb4 hP1;have h41:∀b,(aw (aC ⟨q1,0,aB⟩) s.aE.length s.aE.length).ownBlock=aC b->b<w4.heap.size:=fun b e=>(ho4.b.rwo.blk e).2;have h42:∀b,(aw (aC ⟨q2,0,aB⟩) s.aF.length s.aF.length).ownBlock=aC b->b<w4.heap.size:=fun b e=>(ho4.e.rwo.blk e).2;have hG:w0.heap.size<=w4.heap.size:=hc4.size;obtain⟨G,hGe⟩:=wU w4.heap.size
   rw [<-hGe]at h41 h42 hG;have hba:=wi w4 (aA #[(aw (aC ⟨q1,0,aB⟩) s.aE.length s.aE.length),(aw (aC ⟨q2,0,aB⟩) s.aF.length s.aF.length),ax ay s.aH,ax ay s.aG] 27);have hX:Arr (w4.alloc (aA #[(aw (aC ⟨q1,0,aB⟩) s.aE.length s.aE.length),(aw (aC ⟨q2,0,aB⟩) s.aF.length s.aF.length),ax ay s.aH,ax ay s.aG] 27)) G 27 [(aw (aC ⟨q1,0,aB⟩) s.aE.length s.aE.length),(aw (aC ⟨q2,0,aB⟩) s.aF.length s.aF.length),ax ay s.aH,ax ay s.aG]:=by rw [hGe];exact Arr.new w4 27 _
   have ho:=(ho4.wider (N':=fun b=>b<w0.heap.size\/b=G) (fun b hb=>hb.imp id (fun e=>wj))).below hba;have hR5:=(hR.below hc4).below hba;have hb5:=(hb0.trans (hc4.mono (Nat.le_of_lt hHl))).alloc wj (aA #[(aw (aC ⟨q1,0,aB⟩) s.aE.length s.aE.length),(aw (aC ⟨q2,0,aB⟩) s.aF.length s.aF.length),ax ay s.aH,ax ay s.aG] 27);clear hR ho4 hc4 hba hb0;have hR:=hR5;clear hR5;have hb:=hb5;clear hb5;have hP5:=hP4.below (wi w4 (aA #[(aw (aC ⟨q1,0,aB⟩) s.aE.length s.aE.length),(aw (aC ⟨q2,0,aB⟩) s.aF.length s.aF.length),ax ay s.aH,ax ay s.aG] 27));have HTK:=sqH (X8 G (aw (aC ⟨q1,0,aB⟩) s.aE.length s.aE.length) (aw (aC ⟨q2,0,aB⟩) s.aF.length s.aF.length) (ax ay s.aH) s.aG _ hclk hX);have hPG:∀a,PA=aC a->a.block≠G:=fun a ha=>by have:=hPl a ha;omega
   clear hP4 hPl;go_wp2_with fail;rw [<-hGe];clear hGe;generalize w4.alloc (aA #[(aw (aC ⟨q1,0,aB⟩) s.aE.length s.aE.length),(aw (aC ⟨q2,0,aB⟩) s.aF.length s.aF.length),ax ay s.aH,ax ay s.aG] 27)=w5 at *
   refine HTK.o.mono ?_;rintro e_ _ ⟨rfl,rfl⟩;dsimp only;have hX6:Arr (w5.setCell ⟨G,3,aB⟩ (ax ay ((s.aG+1:Nat):Int))) G 27 [(aw (aC ⟨q1,0,aB⟩) s.aE.length s.aE.length),(aw (aC ⟨q2,0,aB⟩) s.aF.length s.aF.length),ax ay s.aH,ax ay ((s.aG+1:Nat):Int)]:=hX.set (k:=3) ws (ax ay ((s.aG+1:Nat):Int));have hR6:=hR.other (g':=G) (k:=3) wj (ax ay ((s.aG+1:Nat):Int));have ho6:=ho.setX (g:=G) (k:=3) (.inr rfl) (fun e=>by have:=h41 _ e;omega) (fun e=>by have:=h42 _ e;omega) (ax ay ((s.aG+1:Nat):Int));have hb6:=hb.setCell (p:=⟨G,3,aB⟩) ww (ax ay ((s.aG+1:Nat):Int));have hP6:=hP5.other (g:=G) (k:=3) hPG (ax ay ((s.aG+1:Nat):Int));have hGl:G<(w5.setCell ⟨G,3,aB⟩ (ax ay ((s.aG+1:Nat):Int))).heap.size:=hX6.lt;clear hX hR ho hb hP5 HTK;generalize w5.setCell ⟨G,3,aB⟩ (ax ay ((s.aG+1:Nat):Int))=w6 at *
   obtain⟨A',c',e1,_,_,hRe6⟩:=ho6.e.rwo.rows;cases e1
   have hgx:GoodE1 ⟨key,ps,0,s.aG+1⟩:=⟨HKK.o,HPZ.o,by show 0<=5;omega,by show s.aG+1<=_;omega⟩
   have HPT:=z06 (aC ⟨q2,0,aB⟩) s.aF.length s.aF ⟨key,ps,0,s.aG+1⟩ PA pc w6 HGX.o.e hgx hlen hRe6 hP6;dsimp only at HPT;rw [<-HSK.o]at HPT;have HPT:=sqH HPT;have x1:=hX6.c1;have x3:=hX6.c3;clear hRe6 hP6 hgx;go_wp2_with fail;clear x1 x3;refine HPT.o.mono ?_;rintro e_ w7 ⟨v3,rfl,hx7,hb7⟩;dsimp only;have hN6:∀b,(b<w0.heap.size\/b=G)->b<w6.heap.size:=fun b hb=>by omega
   have ho7:=((OwSt.mixE ho6 hN6 hx7 wj hb7).clk s.aH (s.aG+1))
   have hX7:=hX6.below hb7;have hR7:=hR6.below hb7;have hb7':=hb6.trans (hb7.mono wj);have h43:∀b,v3.ownBlock=aC b->w6.heap.size<=b:=fun b e=>(hx7.rwo.blk e).1;obtain⟨A3,c3,e3,_,_,_⟩:=hx7.rwo.rows;subst e3;clear hX6 hR6 ho6 hb6 hx7 hb7;have f1:=hX7.frozen 1;have x1:=hX7.c1;have hX:Arr (w7.setCell ⟨G,1,aB⟩ (aw A3 (x8 s.aF ⟨key,ps,0,s.aG+1⟩).length c3)) G 27 [(aw (aC ⟨q1,0,aB⟩) s.aE.length s.aE.length),aw A3 (x8 s.aF ⟨key,ps,0,s.aG+1⟩).length c3,ax ay s.aH,ax ay ((s.aG+1:Nat):Int)]:=hX7.set (k:=1) ws _;have hR:=hR7.other (g':=G) (k:=1) wj (aw A3 (x8 s.aF ⟨key,ps,0,s.aG+1⟩).length c3);have ho:=ho7.setX (g:=G) (k:=1) (.inr rfl) (fun e=>by have:=h41 _ e;omega) (fun e=>by have:=h43 _ e;omega) (aw A3 (x8 s.aF ⟨key,ps,0,s.aG+1⟩).length c3);have hb:=hb7'.setCell (p:=⟨G,1,aB⟩) ww (aw A3 (x8 s.aF ⟨key,ps,0,s.aG+1⟩).length c3);clear hX7 hR7 ho7 hb7';obtain⟨z0,z1,z2,z3⟩:=sqC4 hX;obtain⟨f0,f1,f2,f3⟩:=sqF4 hR;obtain⟨y0,y1,y2,y3⟩:=sqC4 hR;have hfin:=hR.all4 (aw (aC ⟨q1,0,aB⟩) s.aE.length s.aE.length) (aw A3 (x8 s.aF ⟨key,ps,0,s.aG+1⟩).length c3) (ax ay s.aH) (ax ay ((s.aG+1:Nat):Int));have hoF:=(((ho.set (g:=H+1) (k:=0) hHr (.inl hHr) (aw (aC ⟨q1,0,aB⟩) s.aE.length s.aE.length)).set (g:=H+1) (k:=1) hHr (.inl hHr) (aw A3 (x8 s.aF ⟨key,ps,0,s.aG+1⟩).length c3)).set (g:=H+1) (k:=2) hHr (.inl hHr) (ax ay s.aH)).set (g:=H+1) (k:=3) hHr (.inl hHr) (ax ay ((s.aG+1:Nat):Int));have hbF:=(((hb.setCell (p:=⟨H+1,0,aB⟩) ww (aw (aC ⟨q1,0,aB⟩) s.aE.length s.aE.length)).setCell (p:=⟨H+1,1,aB⟩) ww (aw A3 (x8 s.aF ⟨key,ps,0,s.aG+1⟩).length c3)).setCell (p:=⟨H+1,2,aB⟩) ww (ax ay s.aH)).setCell (p:=⟨H+1,3,aB⟩) ww (ax ay ((s.aG+1:Nat):Int));clear hR ho hb hX;go_wp2_with fail;refine bodyPost_ret (zI rfl _ _ (H+1) _ _ _ _ wu hfin underlying27 rfl wm) rfl ?_;exact⟨_,_,rfl,(hoF.lower (base':=H) wj).wider (N':=fun b=>b<H) (fun b hb=> .inl (.inl wj)),hbF⟩
theorem kN {g':Nat} (h:g≠g') {a b c d:Value}:((((w.setCell ⟨g',0,aB⟩ a).setCell ⟨g',1,aB⟩ b).setCell ⟨g',2,aB⟩ c).setCell ⟨g',3,aB⟩ d).cell? ⟨g,k,aB⟩=w.cell? ⟨g,k,aB⟩:=by
 refine(World.cell?_of_block (Below.heap_setCell _ _ d g h)).trans ((World.cell?_of_block (Below.heap_setCell _ _ c g h)).trans ((World.cell?_of_block (Below.heap_setCell _ _ b g h)).trans (World.cell?_of_block (Below.heap_setCell _ _ a g h))))
theorem V6 {n:Nat} {size:Nat} {v:Value} {xs:af} (h:w.ownsRow base e size v n xs) (hg:g<base) (a b c d:Value) :
  ((((w.setCell ⟨g,0,aB⟩ a).setCell ⟨g,1,aB⟩ b).setCell ⟨g,2,aB⟩ c).setCell ⟨g,3,aB⟩ d).ownsRow base e size v n xs:=by
 have hne:v.ownBlock≠aC g:=fun e=>by have:=(h.lt g e).1;omega
 exact zd (zd (zd (zd h hne) hne) hne) hne
theorem z0y {k:ac} (hr:RisesBy (·.key) l) (hi:i<l.length) (hk:l[i].key=k):l.findIdx? (fun x=>x.key==k)=aC i:=by
 rw [List.findIdx?_eq_some_iff_getElem];refine⟨hi,by simp [hk],fun j hj=> ?_⟩;have:=List.pairwise_iff_getElem.1 hr j i wj hi hj;rw [<-hk];simpa using yT this
theorem z2v {l:List BlobP} {k:ac} (hr:RisesBy (·.dig) l) (hi:i<l.length) (hk:l[i].dig=k):l.findIdx? (fun x=>x.dig==k)=aC i:=by
 rw [List.findIdx?_eq_some_iff_getElem];refine⟨hi,by simp [hk],fun j hj=> ?_⟩;have:=List.pairwise_iff_getElem.1 hr j i wj hi hj;rw [<-hk];simpa using yT this
theorem Rw.ent_at' {x:EntP} (h:Rw EntS w A l) (hx:l[k]?=aC x) :
  ∃b off B c,A=aC ⟨b,off,aB⟩/\b<w.heap.size/\w.cell? ⟨b,off+k*4,aB⟩=aC (az ⟨x.key.toArray⟩)/\w.cell? ⟨b,off+k*4+1,aB⟩=aC (aw B x.parts.length c) /\
   w.cell? ⟨b,off+k*4+2,aB⟩=aC (ax ay x.pins)/\w.cell? ⟨b,off+k*4+3,aB⟩=aC (ax ay x.aK)/\Sl w 3 B x.parts.length c (pcs x.parts):=by
 obtain⟨hk,rfl⟩:=List.getElem?_eq_some_iff.1 hx;exact h.ent_at k hk
theorem z11 (s:StoP) (i:Nat) (x:EntP) (hi:i<s.aF.length):(kz s i x).aF[i]?=aC { x with aK:=s.aG+1 }:=by
 unfold kz;simp [hi]
theorem YI (A:ae) (c:Nat) (B:ae) (d:Nat) (s:StoP) (key:ac) (i:Nat) (w:World) (hg:GoodS s) (hr:RdSt w A c B d s) (hi:i<s.aF.length) (hk:s.aF[i].key=key) (hclk:s.aG<1099511627776) :
  Calls zZZ 128 #[.agg #[aw A s.aE.length c,aw B s.aF.length d,ax ay s.aH,ax ay s.aG],az ⟨key.toArray⟩] w fun e w' =>
   ∃v1 v2 v3,e= .returned (.tuple #[.agg #[v1,v2,ax ay s.aH,ax ay ((s.aG+1:Nat):Int)],v3,ax ay 0])/\OwSt w' w.heap.size v1 v2 (kz s i s.aF[i]) (fun b=>b<w.heap.size)/\w'.ownsRow w.heap.size 51 3 v3 s.aF[i].parts.length (pcs s.aF[i].parts)/\Below w.heap.size w w':=by
 obtain⟨z,hz⟩:=wU (s.aG+1)
 rw [<-hz];have HZ:=sqH hz;clear hz;have hlb:s.aE.length<=24:=hg.b.len;have hle:s.aF.length<=10:=hg.e.len;have HPN:=sqH (show s.aF[i].parts.length<=8 from(zk (hg.e.one _ (List.getElem_mem hi)).2.1).1);have HFX:=sqH (z0y hg.e.ris hi hk);obtain⟨sk,hsk⟩:=wU (⟨key.toArray⟩:ByteArray)
 rw [<-hsk];have HSK:=sqH hsk;clear hk hsk;obtain⟨w0,hw0,hS,hR,hb0⟩:=zT w 27 [aw A s.aE.length c,aw B s.aF.length d,ax ay s.aH,ax ay s.aG] [aw aB 0 0,aw aB 0 0,ax ay 0,ax ay 0];have hr0:=hr.below hb0;obtain⟨H,hH⟩:=wU w.heap.size
 have HCK:=sqH (zF A c B d s w0 hg hr0);rw [<-hH]at hS hR hb0 ⊢
 have hHl:H<w0.heap.size:=hS.lt;have hHr:H+1<w0.heap.size:=hR.lt;obtain⟨x0,x1,x2,x3⟩:=sqC4 hS;rw [hw0,hH]at x0 x1 x2 x3;obtain⟨HPL,HQL,HG⟩:=sqJ3 (show ∀b∈s.aE,b.data.length<=1000000 from fun b hb=>by have:=(hg.b.one b hb).2.1;omega) (show ∀x∈s.aF,x.parts.length<=1000000 from fun x hx=>by have:=(zk (hg.e.one x hx).2.1).1;omega) hg;clear hg hr;go_enter func128,ntmps128;go_wp2_with fail;rw [<-hw0,<-hH];have HH:=sqH hH;clear hw0 hH x0 x1 x2 x3;refine wV HCK.o fun w1 hb1=>?_;dsimp only;have hr1:=hr0.below hb1;have hS1:=hS.below hb1;have y0:=hS1.c1;have HFN:=kG B d s.aF key w1 wj hr1.e;rw [HFX.o,xn,<-HSK.o]at HFN;have HFN:=sqH HFN;clear hr0 hS;go_wp2_with fail;clear y0;refine wV HFN.o fun w2 hb2=>?_;dsimp only;have hc2:=wg hb1 hb2;have hr2:=hr1.below hb2;have hS2:=hS1.below hb2;obtain⟨z0,z1,z2,z3⟩:=sqC4 hS2;have HCP:=sqH (qI A c B d s w2 wj wj HPL.o HQL.o hr2);clear hr1 hS1 hb1 hb2 hr2;go_wp2_with fail;clear z0 z1 z2 z3;refine HCP.o.mono ?_;rintro e_ w4 ⟨q1,q2,rfl,ho4',hb4⟩;dsimp only;have hc4:=wg hc2 hb4;have ho4:=(ho4'.lower hc2.size).wider (N':=fun b=>b<w0.heap.size) (fun b hb=> .inl (Nat.lt_of_lt_of_le hb hc2.size));clear ho4' hc2 hb4 hS2;have h41:∀b,(aw (aC ⟨q1,0,aB⟩) s.aE.length s.aE.length).ownBlock=aC b->b<w4.heap.size:=fun b e=>(ho4.b.rwo.blk e).2;have h42:∀b,(aw (aC ⟨q2,0,aB⟩) s.aF.length s.aF.length).ownBlock=aC b->b<w4.heap.size:=fun b e=>(ho4.e.rwo.blk e).2;have hG:w0.heap.size<=w4.heap.size:=hc4.size;obtain⟨G,hGe⟩:=wU w4.heap.size
 rw [<-hGe]at h41 h42 hG;have hba:=wi w4 (aA #[(aw (aC ⟨q1,0,aB⟩) s.aE.length s.aE.length),(aw (aC ⟨q2,0,aB⟩) s.aF.length s.aF.length),ax ay s.aH,ax ay s.aG] 27);have hX:Arr (w4.alloc (aA #[(aw (aC ⟨q1,0,aB⟩) s.aE.length s.aE.length),(aw (aC ⟨q2,0,aB⟩) s.aF.length s.aF.length),ax ay s.aH,ax ay s.aG] 27)) G 27 [(aw (aC ⟨q1,0,aB⟩) s.aE.length s.aE.length),(aw (aC ⟨q2,0,aB⟩) s.aF.length s.aF.length),ax ay s.aH,ax ay s.aG]:=by rw [hGe];exact Arr.new w4 27 _
 have ho:=(ho4.wider (N':=fun b=>b<w0.heap.size\/b=G) (fun b hb=>hb.imp id (fun e=>wj))).below hba;have hR5:=(hR.below hc4).below hba;have hb5:=(hb0.trans (hc4.mono (Nat.le_of_lt hHl))).alloc wj (aA #[(aw (aC ⟨q1,0,aB⟩) s.aE.length s.aE.length),(aw (aC ⟨q2,0,aB⟩) s.aF.length s.aF.length),ax ay s.aH,ax ay s.aG] 27);clear hR ho4 hc4 hba hb0;have hR:=hR5;clear hR5;have hb:=hb5;clear hb5;have htk:=(X8 G (aw (aC ⟨q1,0,aB⟩) s.aE.length s.aE.length) (aw (aC ⟨q2,0,aB⟩) s.aF.length s.aF.length) (ax ay s.aH) s.aG _ hclk hX)
 rw [<-HZ.o]at htk;have HTK:=sqH htk;clear htk;have hq2:w0.heap.size<=q2:=(ho.e.rwo.blk rfl).1;have hqG:q2<G:=h42 _ rfl;go_wp2_with fail;rw [<-hGe];clear hGe;generalize w4.alloc (aA #[(aw (aC ⟨q1,0,aB⟩) s.aE.length s.aE.length),(aw (aC ⟨q2,0,aB⟩) s.aF.length s.aF.length),ax ay s.aH,ax ay s.aG] 27)=w5 at *
 refine HTK.o.mono ?_;rintro e_ _ ⟨rfl,rfl⟩;dsimp only;have hX6:Arr (w5.setCell ⟨G,3,aB⟩ (ax ay z)) G 27 [(aw (aC ⟨q1,0,aB⟩) s.aE.length s.aE.length),(aw (aC ⟨q2,0,aB⟩) s.aF.length s.aF.length),ax ay s.aH,ax ay z]:=hX.set (k:=3) ws (ax ay z);have hR6:=hR.other (g':=G) (k:=3) wj (ax ay z);have ho6:=(ho.setX (g:=G) (k:=3) (.inr rfl) (fun e=>by have:=h41 _ e;omega) (fun e=>by have:=h42 _ e;omega) (ax ay z))
 have hb6:=hb.setCell (p:=⟨G,3,aB⟩) ww (ax ay z);clear hX hR ho hb HTK;generalize w5.setCell ⟨G,3,aB⟩ (ax ay z)=w6 at *
 obtain⟨⟨v0,k3⟩,f3,ho7',hg7⟩:=ho6.setE (j:=3) (u:= ax ay z) (y:= { s.aF[i] with aK:=s.aG+1 }) hi wj (fun W cs h=>by rw [HZ.o];exact Xt _ _ W cs h) (yg _);have x1:=hX6.c1;have x3:=hX6.c3;have hi0:=wX i
 have hi1:(i:Int)<(s.aF.length:Int):=wj
 have hX7:=hX6.other (g':=q2) (k:=i*4+3) wj (ax ay z);have hR7:=hR6.other (g':=q2) (k:=i*4+3) wj (ax ay z);have hb7:=hb6.setCell (p:=⟨q2,i*4+3,aB⟩) ww (ax ay z);have ho7:OwSt (w6.setCell ⟨q2,i*4+3,aB⟩ (ax ay z)) w0.heap.size (aw (aC ⟨q1,0,aB⟩) s.aE.length s.aE.length) (aw (aC ⟨q2,0,aB⟩) s.aF.length s.aF.length) (kz s i s.aF[i]) (fun b=>b<w0.heap.size\/b=G):=ho7'.clk s.aH (s.aG+1);have hw7:H<=(w6.setCell ⟨q2,i*4+3,aB⟩ (ax ay z)).heap.size:=by have:=hR7.lt;omega
 clear hX6 hR6 ho6 hb6 ho7' hg7;go_wp2_with fail;clear x1 x3 k3 f3;generalize w6.setCell ⟨q2,i*4+3,aB⟩ (ax ay z)=w7 at *
 have hX:=hX7;have hR:=hR7;have ho:=ho7;have hb:=hb7;clear hX7 hR7 ho7 hb7;obtain⟨A',c',e1,_,_,hRe7⟩:=ho.e.rwo.rows;obtain⟨b',off',XB,xc,e2,_,_,k1,_,_,hsl⟩:=hRe7.ent_at' (z11 s i s.aF[i] hi);dsimp only at k1 hsl;injection e1 with e11 e12 e13;clear e12 e13;subst e11;cases e2
 rw [Nat.zero_add]at k1;have HSB:=sqH (show ∀W,Below w7.heap.size w7 W->(W.cell? ⟨G,0,aB⟩=aC (aw (aC ⟨q1,0,aB⟩) s.aE.length s.aE.length)/\W.cell? ⟨G,1,aB⟩=aC (aw (aC ⟨q2,0,aB⟩) s.aF.length s.aF.length)/\W.cell? ⟨G,2,aB⟩=aC (ax ay s.aH)/\W.cell? ⟨G,3,aB⟩=aC (ax ay z))/\W.cell? ⟨q2,i*4+1,aB⟩=aC (aw XB s.aF[i].parts.length xc) from fun W h =>
  ⟨sqC4 (hX.below h),(h.cell (p:=⟨q2,i*4+1,aB⟩) (ho.e.rwo.blk rfl).2).trans k1⟩)
 have HCL:=sqH (show ∀W,Below w7.heap.size w7 W->Calls zZZ 146 #[aw XB s.aF[i].parts.length xc] W fun e w'=>∃v,e= .returned v/\w'.ownsRow W.heap.size 51 3 v s.aF[i].parts.length (pcs s.aF[i].parts)/\Below W.heap.size W w' from fun W h =>
  yr XB s.aF[i].parts.length xc (pcs s.aF[i].parts) W (wW HPN) (hsl.below h).rd (Z0 _))
 have hGH:G≠H+1:=wj
 have hqH:q2≠H+1:=wj
 have hH7:H+1<w7.heap.size:=hR.lt;clear hRe7 hsl k1 hX;refine wp_region_held_drew (S:=(fun w'=>(w'.cell? ⟨G,0,aB⟩=aC (aw (aC ⟨q1,0,aB⟩) s.aE.length s.aE.length)/\w'.cell? ⟨G,1,aB⟩=aC (aw (aC ⟨q2,0,aB⟩) s.aF.length s.aF.length)/\w'.cell? ⟨G,2,aB⟩=aC (ax ay s.aH)/\w'.cell? ⟨G,3,aB⟩=aC (ax ay z))/\w'.cell? ⟨q2,i*4+1,aB⟩=aC (aw XB s.aF[i].parts.length xc))) wm ?_ (fun hHeld=> ?_)
 ·exact HSB.o _ (Below.refl _ w7).drew
 have hB:=(Below.refl w7.heap.size w7).drew;generalize w7.drew=wn0 at *
 refine wM 0 ?_;refine wM 1 ?_;refine wM 2 ?_;refine wM 3 ?_;refine wM 4 ?_;refine wM 5 ?_;refine wM 6 ?_;refine wQ 7 fun K hK=>?_;go_simp;refine(HCL.o wn0 hB).mono ?_;rintro e9 w9 ⟨v9,rfl,ho9,hb9⟩;dsimp only;refine k8 hK ?_ (Below wn0.heap.size wn0) (fun W=>W.ownsRow w7.heap.size 51 3 v9 s.aF[i].parts.length (pcs s.aF[i].parts)) ?_ ?_ (fun wn1 hHeld hst hnew=> ?_)
 ·(exact HSB.o _ (wg hB hb9))
 ·(exact hb9)
 ·(exact zb ho9 hB.size)
 have hB:=wg hB hst;have ho9':=hnew;clear hnew;clear hst;clear hK K
 try simp only [sqP]
 refine wQ 8 fun K hK=>?_;obtain⟨f0,f1,f2,f3⟩:=sqF4 (hR.below hB);obtain⟨y0,y1,y2,y3⟩:=sqC4 (hR.below hB);go_simp;clear f0 f1 f2 f3 y0 y1 y2 y3;have hB1:=hB;have hfin:=(hR.below hB).all4 (aw (aC ⟨q1,0,aB⟩) s.aE.length s.aE.length) (aw (aC ⟨q2,0,aB⟩) s.aF.length s.aF.length) (ax ay s.aH) (ax ay z);have ho1:=ho.below hB;have hoF:=(((ho1.set (g:=H+1) (k:=0) hHr (.inl hHr) (aw (aC ⟨q1,0,aB⟩) s.aE.length s.aE.length)).set (g:=H+1) (k:=1) hHr (.inl hHr) (aw (aC ⟨q2,0,aB⟩) s.aF.length s.aF.length)).set (g:=H+1) (k:=2) hHr (.inl hHr) (ax ay s.aH)).set (g:=H+1) (k:=3) hHr (.inl hHr) (ax ay z);have hb1:=hb.trans (hB.mono hw7);have hbF:=(((hb1.setCell (p:=⟨H+1,0,aB⟩) ww (aw (aC ⟨q1,0,aB⟩) s.aE.length s.aE.length)).setCell (p:=⟨H+1,1,aB⟩) ww (aw (aC ⟨q2,0,aB⟩) s.aF.length s.aF.length)).setCell (p:=⟨H+1,2,aB⟩) ww (ax ay s.aH)).setCell (p:=⟨H+1,3,aB⟩) ww (ax ay z);have ho9F:=V6 ho9' (g:=H+1) wj (aw (aC ⟨q1,0,aB⟩) s.aE.length s.aE.length) (aw (aC ⟨q2,0,aB⟩) s.aF.length s.aF.length) (ax ay s.aH) (ax ay z);have hne:w7.heap.size<=wn1.heap.size:=hB.size;refine k8 hK ?_ (fun W=>Arr W (H+1) 27 [(aw (aC ⟨q1,0,aB⟩) s.aE.length s.aE.length),(aw (aC ⟨q2,0,aB⟩) s.aF.length s.aF.length),ax ay s.aH,ax ay z]) (fun W=>OwSt W w0.heap.size (aw (aC ⟨q1,0,aB⟩) s.aE.length s.aE.length) (aw (aC ⟨q2,0,aB⟩) s.aF.length s.aF.length) (kz s i s.aF[i]) (fun b=>b<w0.heap.size\/b=G)/\Below H w W/\W.ownsRow w7.heap.size 51 3 v9 s.aF[i].parts.length (pcs s.aF[i].parts)) ?_ ?_ (fun wn2 hHeld hF hG=> ?_)
 ·have h1:=HSB.o _ hB;rw [kN hGH,kN hGH,kN hGH,kN hGH,kN hqH];exact h1
 ·exact hfin
 ·exact⟨hoF,hbF,ho9F⟩
 clear hB hB1 hfin ho1 hoF hb1 hbF ho9F hne ho9';clear hK K
 refine wM 9 ?_;refine wM 10 ?_;refine wpAnyH_done wm ?_ _;dsimp only [Exit.then];clear hHeld;obtain⟨hoF,hbF,ho9⟩:=hG;go_wp2_with fail;refine bodyPost_ret (zz rfl _ _ (H+1) _ _ _ _ wu hF underlying27 rfl wm) rfl ?_;exact⟨_,_,_,rfl,(hoF.lower (base':=H) wj).wider (N':=fun b=>b<H) (fun b hb=> .inl (.inl wj)),zb ho9 wj,hbF⟩
def mvN (n:Nat) (up:Bool):Nat:=if up then n+1 else n - 1
theorem YR (n:Nat) (up:Bool) (w:World) (h:if up then n<5 else 0<n/\n<=5):Calls zZZ 164 #[ax ay n,.bool up] w fun e w'=>e= .returned (.tuple #[ax ay (mvN n up:Nat),ax ay 0])/\w'=w:=by
 have HC:=sqH (show n<=5->∀W,Calls zZZ 143 #[ax ay n] W fun e w'=>e= .returned (ax ay 0)/\W=w' from fun h5 W=>xf (n:Int) wj wj W);cases up with
 | true =>
  have h':n<5:=h;have h5:((n:Int)==5)=false:=beq_eq_false_iff_ne.2 wj;have hw:IntKind.i64.wrap ((n:Int)+1)=(n:Int)+1:=IntWalk.i64_in _ wj;have HC2:=sqH (HC.o wj);clear h HC;go_enter func164,ntmps164;go_wp2_with fail;refine(HC2.o w).mono ?_;rintro e_ _ ⟨rfl,rfl⟩;dsimp only;go_wp2_with fail;go_ret2;exact⟨rfl,rfl⟩
 | false =>
  have h':0<n/\n<=5:=h;have h5:((n:Int)==0)=false:=beq_eq_false_iff_ne.2 wj;have hw:IntKind.i64.wrap ((n:Int) - 1)=(n:Int) - 1:=IntWalk.i64_in _ wj;have HC2:=sqH (HC.o wj);have e1:((mvN n false:Nat):Int)=(n:Int) - 1:=by show((n - 1:Nat):Int)=_;omega
  rw [e1];clear h HC e1;go_enter func164,ntmps164;go_wp2_with fail;refine(HC2.o w).mono ?_;rintro e_ _ ⟨rfl,rfl⟩;dsimp only;go_wp2_with fail;go_ret2;exact⟨rfl,rfl⟩
theorem U3 (A:ae) (c:Nat) (B:ae) (d:Nat) (s:StoP) (key:ac) (up:Bool) (i:Nat) (w:World) (hg:GoodS s) (hr:RdSt w A c B d s) (hi:i<s.aE.length) (hk:s.aE[i].dig=key) (hmv:if up then s.aE[i].pins<5 else 0<s.aE[i].pins/\s.aE[i].pins<=5) :
  Calls zZZ 160 #[.agg #[aw A s.aE.length c,aw B s.aF.length d,ax ay s.aH,ax ay s.aG],az ⟨key.toArray⟩,.bool up] w fun e w' =>
   ∃v1 v2,e= .returned (.tuple #[.agg #[v1,v2,ax ay s.aH,ax ay s.aG],ax ay 0])/\OwSt w' w.heap.size v1 v2 (kf s i s.aE[i] (mvN s.aE[i].pins up)) (fun b=>b<w.heap.size)/\Below w.heap.size w w':=by
 have hlb:s.aE.length<=24:=hg.b.len;have hle:s.aF.length<=10:=hg.e.len;have HFX:=sqH (z2v hg.b.ris hi hk);obtain⟨p,hp⟩:=wU (s.aE[i].pins)
 rw [<-hp]at hmv ⊢
 have HPI:=sqH hp.symm;obtain⟨n,hn⟩:=wU (mvN p up)
 have HMV:=sqH (fun W=>YR p up W hmv);rw [<-hn]at HMV ⊢
 obtain⟨sk,hsk⟩:=wU (⟨key.toArray⟩:ByteArray)
 rw [<-hsk];have HSK:=sqH hsk;clear hk hsk hn hp hmv;obtain⟨w0,hw0,hS,hR,hb0⟩:=zT w 27 [aw A s.aE.length c,aw B s.aF.length d,ax ay s.aH,ax ay s.aG] [aw aB 0 0,aw aB 0 0,ax ay 0,ax ay 0];have hr0:=hr.below hb0;obtain⟨H,hH⟩:=wU w.heap.size
 have HCK:=sqH (zF A c B d s w0 hg hr0);rw [<-hH]at hS hR hb0 ⊢
 have hHl:H<w0.heap.size:=hS.lt;have hHr:H+1<w0.heap.size:=hR.lt;obtain⟨x0,x1,x2,x3⟩:=sqC4 hS;rw [hw0,hH]at x0 x1 x2 x3;obtain⟨HPL,HQL,HG⟩:=sqJ3 (show ∀b∈s.aE,b.data.length<=1000000 from fun b hb=>by have:=(hg.b.one b hb).2.1;omega) (show ∀x∈s.aF,x.parts.length<=1000000 from fun x hx=>by have:=(zk (hg.e.one x hx).2.1).1;omega) hg;clear hg hr;go_enter func160,ntmps160;go_wp2_with fail;rw [<-hw0,<-hH];have HH:=sqH hH;clear hw0 hH x0 x1 x2 x3;refine wV HCK.o fun w1 hb1=>?_;dsimp only;have hr1:=hr0.below hb1;have hS1:=hS.below hb1;have y0:=hS1.c0;have HFN:=kr A c s.aE key w1 wj hr1.b;rw [HFX.o,xn,<-HSK.o]at HFN;have HFN:=sqH HFN;clear hr0 hS;go_wp2_with fail;clear y0;refine wV HFN.o fun w2 hb2=>?_;dsimp only;have hc2:=wg hb1 hb2;have hr2:=hr1.below hb2;have hS2:=hS1.below hb2;obtain⟨b,off,XB,xc,e1,hbb,d0,d1,d2,d3,_⟩:=hr2.b.blob_at i hi;have hi0:=wX i
 have hi1:(i:Int)<(s.aE.length:Int):=wj
 have y0:=hS2.c0;rw [HPI.o]at d2;rw [e1]at y0;clear hr1 hS1 hb1 hb2 d0 d1 d3;go_wp2_with fail;clear y0 d2;refine wV (HMV.o w2) fun wq hwq=>?_;dsimp only;replace hwq:=hwq.symm;subst hwq;obtain⟨z0,z1,z2,z3⟩:=sqC4 hS2;have HCP:=sqH (qI A c B d s w2 wj wj HPL.o HQL.o hr2);clear hr2 e1;go_wp2_with fail;clear z0 z1 z2 z3;refine HCP.o.mono ?_;rintro e_ w4 ⟨q1,q2,rfl,ho4',hb4⟩;dsimp only;have hc4:=wg hc2 hb4;have ho4:=(ho4'.lower hc2.size).wider (N':=fun b=>b<w0.heap.size) (fun b hb=> .inl (Nat.lt_of_lt_of_le hb hc2.size));clear ho4' hc2 hb4 hS2;have h41:∀b,(aw (aC ⟨q1,0,aB⟩) s.aE.length s.aE.length).ownBlock=aC b->b<w4.heap.size:=fun b e=>(ho4.b.rwo.blk e).2;have h42:∀b,(aw (aC ⟨q2,0,aB⟩) s.aF.length s.aF.length).ownBlock=aC b->b<w4.heap.size:=fun b e=>(ho4.e.rwo.blk e).2;have hG:w0.heap.size<=w4.heap.size:=hc4.size;obtain⟨G,hGe⟩:=wU w4.heap.size
 rw [<-hGe]at h41 h42 hG;have hba:=wi w4 (aA #[(aw (aC ⟨q1,0,aB⟩) s.aE.length s.aE.length),(aw (aC ⟨q2,0,aB⟩) s.aF.length s.aF.length),ax ay s.aH,ax ay s.aG] 27);have hX:Arr (w4.alloc (aA #[(aw (aC ⟨q1,0,aB⟩) s.aE.length s.aE.length),(aw (aC ⟨q2,0,aB⟩) s.aF.length s.aF.length),ax ay s.aH,ax ay s.aG] 27)) G 27 [(aw (aC ⟨q1,0,aB⟩) s.aE.length s.aE.length),(aw (aC ⟨q2,0,aB⟩) s.aF.length s.aF.length),ax ay s.aH,ax ay s.aG]:=by rw [hGe];exact Arr.new w4 27 _
 have ho:=(ho4.wider (N':=fun b=>b<w0.heap.size\/b=G) (fun b hb=>hb.imp id (fun e=>wj))).below hba;have hR5:=(hR.below hc4).below hba;have hb5:=(hb0.trans (hc4.mono (Nat.le_of_lt hHl))).alloc wj (aA #[(aw (aC ⟨q1,0,aB⟩) s.aE.length s.aE.length),(aw (aC ⟨q2,0,aB⟩) s.aF.length s.aF.length),ax ay s.aH,ax ay s.aG] 27);clear hR ho4 hc4 hba hb0;have hR:=hR5;clear hR5;have hb:=hb5;clear hb5;have hq:w0.heap.size<=q1:=(ho.b.rwo.blk rfl).1;have hqG:q1<G:=h41 _ rfl
 refine wK 3 ?_;intros
 rw [<-hGe];clear hGe;generalize w4.alloc (aA #[(aw (aC ⟨q1,0,aB⟩) s.aE.length s.aE.length),(aw (aC ⟨q2,0,aB⟩) s.aF.length s.aF.length),ax ay s.aH,ax ay s.aG] 27)=w5 at *
 obtain⟨⟨v0,k3⟩,f3,ho6,hg6⟩:=ho.setB (j:=2) (u:= ax ay n) (y:= { s.aE[i] with pins:=n }) hi wj (fun W cs h=>Xh _ _ W cs h) (yg _);have hX6:=hX.other (g':=q1) (k:=i*4+2) wj (ax ay n);have hR6:=hR.other (g':=q1) (k:=i*4+2) wj (ax ay n);have hb6:=hb.setCell (p:=⟨q1,i*4+2,aB⟩) ww (ax ay n);have x0:=hX.c0;clear hX hR hb ho;have hX:=hX6;have hR:=hR6;have hb:=hb6;have ho:=ho6;clear hX6 hR6 hb6 ho6 hg6;obtain⟨z0,z1,z2,z3⟩:=sqC4 hX;obtain⟨f0,f1,f2,f3⟩:=sqF4 hR;obtain⟨y0,y1,y2,y3⟩:=sqC4 hR;have hfin:=hR.all4 (aw (aC ⟨q1,0,aB⟩) s.aE.length s.aE.length) (aw (aC ⟨q2,0,aB⟩) s.aF.length s.aF.length) (ax ay s.aH) (ax ay s.aG);have hoF:=(((ho.set (g:=H+1) (k:=0) hHr (.inl hHr) (aw (aC ⟨q1,0,aB⟩) s.aE.length s.aE.length)).set (g:=H+1) (k:=1) hHr (.inl hHr) (aw (aC ⟨q2,0,aB⟩) s.aF.length s.aF.length)).set (g:=H+1) (k:=2) hHr (.inl hHr) (ax ay s.aH)).set (g:=H+1) (k:=3) hHr (.inl hHr) (ax ay s.aG);have hbF:=(((hb.setCell (p:=⟨H+1,0,aB⟩) ww (aw (aC ⟨q1,0,aB⟩) s.aE.length s.aE.length)).setCell (p:=⟨H+1,1,aB⟩) ww (aw (aC ⟨q2,0,aB⟩) s.aF.length s.aF.length)).setCell (p:=⟨H+1,2,aB⟩) ww (ax ay s.aH)).setCell (p:=⟨H+1,3,aB⟩) ww (ax ay s.aG);clear hR ho hb hX;go_wp2_with fail;refine bodyPost_ret (zI rfl _ _ (H+1) _ _ _ _ wu hfin underlying27 rfl wm) rfl ?_;exact⟨_,_,rfl,(hoF.lower (base':=H) wj).wider (N':=fun b=>b<H) (fun b hb=> .inl (.inl wj)),hbF⟩
theorem U5 (A:ae) (c:Nat) (B:ae) (d:Nat) (s:StoP) (key:ac) (up:Bool) (i:Nat) (w:World) (hg:GoodS s) (hr:RdSt w A c B d s) (hi:i<s.aF.length) (hk:s.aF[i].key=key) (hmv:if up then s.aF[i].pins<5 else 0<s.aF[i].pins/\s.aF[i].pins<=5) :
  Calls zZZ 129 #[.agg #[aw A s.aE.length c,aw B s.aF.length d,ax ay s.aH,ax ay s.aG],az ⟨key.toArray⟩,.bool up] w fun e w' =>
   ∃v1 v2,e= .returned (.tuple #[.agg #[v1,v2,ax ay s.aH,ax ay s.aG],ax ay 0])/\OwSt w' w.heap.size v1 v2 (ZJ s i s.aF[i] (mvN s.aF[i].pins up)) (fun b=>b<w.heap.size)/\Below w.heap.size w w':=by
 have hlb:s.aE.length<=24:=hg.b.len;have hle:s.aF.length<=10:=hg.e.len;have HFX:=sqH (z0y hg.e.ris hi hk);obtain⟨p,hp⟩:=wU (s.aF[i].pins)
 rw [<-hp]at hmv ⊢
 have HPI:=sqH hp.symm;obtain⟨n,hn⟩:=wU (mvN p up)
 have HMV:=sqH (fun W=>YR p up W hmv);rw [<-hn]at HMV ⊢
 obtain⟨sk,hsk⟩:=wU (⟨key.toArray⟩:ByteArray)
 rw [<-hsk];have HSK:=sqH hsk;clear hk hsk hn hp hmv;obtain⟨w0,hw0,hS,hR,hb0⟩:=zT w 27 [aw A s.aE.length c,aw B s.aF.length d,ax ay s.aH,ax ay s.aG] [aw aB 0 0,aw aB 0 0,ax ay 0,ax ay 0];have hr0:=hr.below hb0;obtain⟨H,hH⟩:=wU w.heap.size
 have HCK:=sqH (zF A c B d s w0 hg hr0);rw [<-hH]at hS hR hb0 ⊢
 have hHl:H<w0.heap.size:=hS.lt;have hHr:H+1<w0.heap.size:=hR.lt;obtain⟨x0,x1,x2,x3⟩:=sqC4 hS;rw [hw0,hH]at x0 x1 x2 x3;obtain⟨HPL,HQL,HG⟩:=sqJ3 (show ∀b∈s.aE,b.data.length<=1000000 from fun b hb=>by have:=(hg.b.one b hb).2.1;omega) (show ∀x∈s.aF,x.parts.length<=1000000 from fun x hx=>by have:=(zk (hg.e.one x hx).2.1).1;omega) hg;clear hg hr;go_enter func129,ntmps129;go_wp2_with fail;rw [<-hw0,<-hH];have HH:=sqH hH;clear hw0 hH x0 x1 x2 x3;refine wV HCK.o fun w1 hb1=>?_;dsimp only;have hr1:=hr0.below hb1;have hS1:=hS.below hb1;have y0:=hS1.c1;have HFN:=kG B d s.aF key w1 wj hr1.e;rw [HFX.o,xn,<-HSK.o]at HFN;have HFN:=sqH HFN;clear hr0 hS;go_wp2_with fail;clear y0;refine wV HFN.o fun w2 hb2=>?_;dsimp only;have hc2:=wg hb1 hb2;have hr2:=hr1.below hb2;have hS2:=hS1.below hb2;obtain⟨b,off,XB,xc,e1,hbb,d0,d1,d2,d3,_⟩:=hr2.e.ent_at i hi;have hi0:=wX i
 have hi1:(i:Int)<(s.aF.length:Int):=wj
 have y0:=hS2.c1;rw [HPI.o]at d2;rw [e1]at y0;clear hr1 hS1 hb1 hb2 d0 d1 d3;go_wp2_with fail;clear y0 d2;refine wV (HMV.o w2) fun wq hwq=>?_;dsimp only;replace hwq:=hwq.symm;subst hwq;obtain⟨z0,z1,z2,z3⟩:=sqC4 hS2;have HCP:=sqH (qI A c B d s w2 wj wj HPL.o HQL.o hr2);clear hr2 e1;go_wp2_with fail;clear z0 z1 z2 z3;refine HCP.o.mono ?_;rintro e_ w4 ⟨q1,q2,rfl,ho4',hb4⟩;dsimp only;have hc4:=wg hc2 hb4;have ho4:=(ho4'.lower hc2.size).wider (N':=fun b=>b<w0.heap.size) (fun b hb=> .inl (Nat.lt_of_lt_of_le hb hc2.size));clear ho4' hc2 hb4 hS2;have h41:∀b,(aw (aC ⟨q1,0,aB⟩) s.aE.length s.aE.length).ownBlock=aC b->b<w4.heap.size:=fun b e=>(ho4.b.rwo.blk e).2;have h42:∀b,(aw (aC ⟨q2,0,aB⟩) s.aF.length s.aF.length).ownBlock=aC b->b<w4.heap.size:=fun b e=>(ho4.e.rwo.blk e).2;have hG:w0.heap.size<=w4.heap.size:=hc4.size;obtain⟨G,hGe⟩:=wU w4.heap.size
 rw [<-hGe]at h41 h42 hG;have hba:=wi w4 (aA #[(aw (aC ⟨q1,0,aB⟩) s.aE.length s.aE.length),(aw (aC ⟨q2,0,aB⟩) s.aF.length s.aF.length),ax ay s.aH,ax ay s.aG] 27);have hX:Arr (w4.alloc (aA #[(aw (aC ⟨q1,0,aB⟩) s.aE.length s.aE.length),(aw (aC ⟨q2,0,aB⟩) s.aF.length s.aF.length),ax ay s.aH,ax ay s.aG] 27)) G 27 [(aw (aC ⟨q1,0,aB⟩) s.aE.length s.aE.length),(aw (aC ⟨q2,0,aB⟩) s.aF.length s.aF.length),ax ay s.aH,ax ay s.aG]:=by rw [hGe];exact Arr.new w4 27 _
 have ho:=(ho4.wider (N':=fun b=>b<w0.heap.size\/b=G) (fun b hb=>hb.imp id (fun e=>wj))).below hba;have hR5:=(hR.below hc4).below hba;have hb5:=(hb0.trans (hc4.mono (Nat.le_of_lt hHl))).alloc wj (aA #[(aw (aC ⟨q1,0,aB⟩) s.aE.length s.aE.length),(aw (aC ⟨q2,0,aB⟩) s.aF.length s.aF.length),ax ay s.aH,ax ay s.aG] 27);clear hR ho4 hc4 hba hb0;have hR:=hR5;clear hR5;have hb:=hb5;clear hb5;have hq:w0.heap.size<=q2:=(ho.e.rwo.blk rfl).1;have hqG:q2<G:=h42 _ rfl
 refine wK 3 ?_;intros
 rw [<-hGe];clear hGe;generalize w4.alloc (aA #[(aw (aC ⟨q1,0,aB⟩) s.aE.length s.aE.length),(aw (aC ⟨q2,0,aB⟩) s.aF.length s.aF.length),ax ay s.aH,ax ay s.aG] 27)=w5 at *
 obtain⟨⟨v0,k3⟩,f3,ho6,hg6⟩:=ho.setE (j:=2) (u:= ax ay n) (y:= { s.aF[i] with pins:=n }) hi wj (fun W cs h=>UB _ _ W cs h) (yg _);have hX6:=hX.other (g':=q2) (k:=i*4+2) wj (ax ay n);have hR6:=hR.other (g':=q2) (k:=i*4+2) wj (ax ay n);have hb6:=hb.setCell (p:=⟨q2,i*4+2,aB⟩) ww (ax ay n);have x0:=hX.c1;clear hX hR hb ho;have hX:=hX6;have hR:=hR6;have hb:=hb6;have ho:=ho6;clear hX6 hR6 hb6 ho6 hg6;obtain⟨z0,z1,z2,z3⟩:=sqC4 hX;obtain⟨f0,f1,f2,f3⟩:=sqF4 hR;obtain⟨y0,y1,y2,y3⟩:=sqC4 hR;have hfin:=hR.all4 (aw (aC ⟨q1,0,aB⟩) s.aE.length s.aE.length) (aw (aC ⟨q2,0,aB⟩) s.aF.length s.aF.length) (ax ay s.aH) (ax ay s.aG);have hoF:=(((ho.set (g:=H+1) (k:=0) hHr (.inl hHr) (aw (aC ⟨q1,0,aB⟩) s.aE.length s.aE.length)).set (g:=H+1) (k:=1) hHr (.inl hHr) (aw (aC ⟨q2,0,aB⟩) s.aF.length s.aF.length)).set (g:=H+1) (k:=2) hHr (.inl hHr) (ax ay s.aH)).set (g:=H+1) (k:=3) hHr (.inl hHr) (ax ay s.aG);have hbF:=(((hb.setCell (p:=⟨H+1,0,aB⟩) ww (aw (aC ⟨q1,0,aB⟩) s.aE.length s.aE.length)).setCell (p:=⟨H+1,1,aB⟩) ww (aw (aC ⟨q2,0,aB⟩) s.aF.length s.aF.length)).setCell (p:=⟨H+1,2,aB⟩) ww (ax ay s.aH)).setCell (p:=⟨H+1,3,aB⟩) ww (ax ay s.aG);clear hR ho hb hX;go_wp2_with fail;refine bodyPost_ret (zI rfl _ _ (H+1) _ _ _ _ wu hfin underlying27 rfl wm) rfl ?_;exact⟨_,_,rfl,(hoF.lower (base':=H) wj).wider (N':=fun b=>b<H) (fun b hb=> .inl (.inl wj)),hbF⟩
end Go.Proofs.YtcjndgldjhmbgaaGreat
