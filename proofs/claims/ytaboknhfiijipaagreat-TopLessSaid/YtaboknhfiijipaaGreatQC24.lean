/- Lemmas, as stated. -/
import Derived.Test.YtaboknhfiijipaaGreatQC23
set_option linter.unusedVariables false
set_option linter.unusedSimpArgs false
set_option maxRecDepth 100000
set_option maxHeartbeats 16000000
open Go.Proofs.Tryz renaming prog->zZZ
open Go.Value renaming slice->aB,int->aC,string->aE
open Go.IntKind renaming i64->aD
open Option renaming none->aG
namespace Go.Proofs
open Go.Shelf
def Tryz.lays193_ren:Go.Shelf.Ren:=⟨fun | 193=>18 | n=>n,fun | 31=>35 | 9=>9 | 4=>4 | 3=>3 | 0=>0 | n=>n,fun | n=>n⟩
theorem Tryz.lays193:Go.Proofs.Lays.n193 zZZ Tryz.lays193_ren:= {
 mixed:=by kernel_rfl
 f193:=Tryz.func18.trans (congrArg some (by kernel_rfl))
 t0:=Tryz.underlying0
 a0:=Tryz.isAgg0
 z0:=Tryz.sizeOf0
 v0:=Tryz.zeroValue0
 t3:=Tryz.underlying3
 a3:=Tryz.isAgg3
 z3:=Tryz.sizeOf3
 v3:=Tryz.zeroValue3
 t4:=Tryz.underlying4
 a4:=Tryz.isAgg4
 z4:=Tryz.sizeOf4
 v4:=Tryz.zeroValue4
 t9:=Tryz.underlying9
 a9:=Tryz.isAgg9
 z9:=Tryz.sizeOf9
 v9:=Tryz.zeroValue9
 t31:=Tryz.underlying35
 a31:=Tryz.isAgg35
 z31:=Tryz.sizeOf35
 v31:=Tryz.zeroValue35 }
open Go.RowKit Go.Lib in
theorem Tryz.slices_Equal_string (b1 o1 n c b2 o2 m d:Nat) (xs ys:List ByteArray) (w:World) (hx:n<=xs.length) (hy:m<=ys.length) (hbig:n<=9223372036854775807) (hbig2:m<=9223372036854775807) (hc1:∀j,j<xs.length->w.cell? ⟨b1,o1+j,none⟩=some (.string (xs.getD j ByteArray.empty))) (hc2:∀j,j<ys.length->w.cell? ⟨b2,o2+j,none⟩=some (.string (ys.getD j ByteArray.empty))) :
  Calls zZZ 18 #[.slice (some ⟨b1,o1,none⟩) n c,.slice (some ⟨b2,o2,none⟩) m d] w fun e w'=>e= .returned (.bool (decide (xs.take n=ys.take m)))/\∃q,w'=w.drewN q:=Any.slices_Equal_string Tryz.lays193 b1 o1 n c b2 o2 m d xs ys w hx hy hbig hbig2 hc1 hc2
open Go.RowKit Go.Lib in
theorem Tryz.slices_Equal_string_empty (a1 a2:Option Addr) (c m d:Nat) (w:World) (hbig2:m<=9223372036854775807) :
  Calls zZZ 18 #[.slice a1 0 c,.slice a2 m d] w fun e w'=>e= .returned (.bool (decide (m=0)))/\w'=w:=Any.slices_Equal_string_empty Tryz.lays193 a1 a2 c m d w hbig2
open Go.RowKit Go.Lib in
theorem Tryz.slices_Equal_string_lens (a1 a2:Option Addr) (n c m d:Nat) (w:World) (hnm:n≠m) :
  Calls zZZ 18 #[.slice a1 n c,.slice a2 m d] w fun e w'=>e= .returned (.bool false)/\w'=w:=Any.slices_Equal_string_lens Tryz.lays193 a1 a2 n c m d w hnm
end Go.Proofs
namespace Go.Proofs.YtaboknhfiijipaaGreat
open Go.RowKit
variable {c:ColP} {s t:StoP}
theorem JH (A B:ak) (c d:Nat) (L M:List aj) (w:World) (hl:L.length<=1000000000) (hm:M.length<=1000000000) (hr:Rd w 1 A L.length (strs L)) (hr2:Rd w 1 B M.length (strs M)) :
  Calls Tryz.prog 18 #[.slice A L.length c,.slice B M.length d] w fun e w'=>e= .returned (.bool (decide (L=M)))/\Below w.heap.size w w':=by
 by_cases hlm:L.length=M.length
 rotate_left
 ·refine(Tryz.slices_Equal_string_lens A B L.length c M.length d w hlm).mono ?_;rintro e w' ⟨rfl,rfl⟩;exact⟨by rw [decide_eq_false (fun h=>hlm (by rw [h]))],Below.refl _ _⟩
 rcases Nat.eq_zero_or_pos L.length with h0 | h0
 ·obtain rfl:L= []:=List.eq_nil_of_length_eq_zero h0;obtain rfl:M= []:=List.eq_nil_of_length_eq_zero (by rw [<-hlm];rfl);refine(Tryz.slices_Equal_string_empty A B c 0 d w ww).mono ?_;rintro e w' ⟨rfl,rfl⟩;exact⟨rfl,Below.refl _ _⟩
 ·obtain⟨b,off,rfl,_,hc⟩:=hr.2 h0;obtain⟨b2,off2,rfl,_,hc2⟩:=hr2.2 ww;have hz:(L.map fun s=>(⟨s.toArray⟩:ByteArray)).length=L.length:=List.length_map _;have hz2:(M.map fun s=>(⟨s.toArray⟩:ByteArray)).length=M.length:=List.length_map _;refine(Tryz.slices_Equal_string b off L.length c b2 off2 M.length d (L.map fun s=>⟨s.toArray⟩) (M.map fun s=>⟨s.toArray⟩) w ww ww ww ww (fun j hj=> ?_) (fun j hj=> ?_)).mono ?_
  ·have hj':j<L.length:=ww
   rw [hc j _ (kJ L j hj')];simp [List.getD,List.getElem?_map,List.getElem?_eq_getElem hj']
  ·have hj':j<M.length:=ww
   rw [hc2 j _ (kJ M j hj')];simp [List.getD,List.getElem?_map,List.getElem?_eq_getElem hj']
  ·rintro e w' ⟨rfl,q,rfl⟩;refine⟨?_,zO (Below.refl _ _) q⟩
   congr 2
   rw [List.take_of_length_le ww,List.take_of_length_le ww];by_cases h:L=M
   ·subst h;simp
   ·rw [decide_eq_false h,decide_eq_false];intro h2;refine h ?_;have h3:=congrArg (fun l:List ByteArray=>l.map fun s=>s.data.toList) h2;simpa [List.map_map,Function.comp_def] using h3
open Go.Sort
section
variable {α:Type} {S:Shp α} {w:World} {e:TypeId} {base g cap:Nat}
end
section
variable {α:Type} {f:α->List UInt8}
end
section
variable {α:Type} {S:Shp α} {w w':World} {e:TypeId} {base base':Nat} {v v':Value} {l:List α} {N N':an}
end
section
variable {w:World} {H:Nat} {vb ve:Value} {s:AccP}
theorem StW.tick (h:StW w H vb ve s) (c:Nat):StW (w.setCell ⟨H+1,3,none⟩ (.int .i64 c)) H vb ve { s with aL:=c }:=by
 obtain⟨h1,h2,h3⟩:=h.rows 3 (.int .i64 c);exact⟨h.box.set (k:=3) ac _,h3,h1,h2,h.ne⟩
end
theorem z14 (s:StoP):Rch (yS s).aJ (rts (yS s))=Rch s.aJ (rts s):=by rw [QB];exact vq (xx s.aJ)
section
variable {s:StoP} {i:Nat}
end
open Go.Maps
theorem UD (A:ak) (c:Nat) (B:ak) (d:Nat) (s:StoP) (Ag:ak) (ng:Nat) (cp:ColP) (w:World) (hg:GoodS s) (hr:RdSt w A c B d s) (hp:cp.aO=0) (hgl:cp.aN.length<=1000) (hgc:GoodC s cp) (hc:RdC w Ag ng cp) :
  Calls Tryz.prog 16 #[.agg #[aB A s.aJ.length c,aB B s.aK.length d,aC aD s.aM,aC aD s.aL],coV (aB Ag cp.aN.length ng) cp] w fun e w' =>
   e= .returned (.tuple #[.agg #[aB aG 0 0,aB aG 0 0,aC aD 0,aC aD 0],.agg #[aC aD 0,aB aG 0 0,aE ⟨#[]⟩],aE ⟨#[]⟩,aC aD 11])/\Below w.heap.size w w':=by
 have hlb:s.aJ.length<=24:=hg.b.len;obtain⟨aO,aN,at_⟩:=cp;simp only at hp hgl;subst hp;obtain⟨w0,hw0,hS,hC,hR,hD,hb0⟩:=qp w 34 37 [aB A s.aJ.length c,aB B s.aK.length d,aC aD s.aM,aC aD s.aL] [aC aD 0,aB Ag aN.length ng,aE ⟨at_.toArray⟩] [aB aG 0 0,aB aG 0 0,aC aD 0,aC aD 0] [aC aD 0,aB aG 0 0,aE ⟨#[]⟩];have hr0:=hr.below hb0;obtain⟨H,hH⟩:=wY w.heap.size
 have HCK:=sqH (qe A c B d s Ag ng ⟨0,aN,at_⟩ w0 hg hr0 hgl hgc (hc.below hb0));rw [<-hH]at hS hC hR hD hb0 ⊢
 have hHl:H+1+1+1<w0.heap.size:=hD.lt;obtain⟨x0,x1,x2,x3⟩:=sqC4 hS;obtain⟨y0,y1,y2⟩:=sqC3 hC;rw [hw0,hH]at x0 x1 x2 x3 y0 y1 y2;clear hg hr hgc hc hr0;go_enter Tryz.func16,Tryz.ntmps16;go_wp2_with fail;rw [<-hw0,<-hH];have HH:=sqH hH;clear hw0 hH x0 x1 x2 x3 y0 y1 y2;refine wZ HCK.o fun w1 hb1=>?_;dsimp only;obtain⟨x0,x1,x2⟩:=sqC3 (hC.below hb1);obtain⟨z0,z1,z2,z3⟩:=sqC4 (hS.below hb1);have hR:=hR.below hb1;have hD:=hD.below hb1;have hB:=hb0.trans (hb1.mono (show H<=w0.heap.size by omega));obtain⟨hF1,hF2,hF5⟩:=sqJ3 (qM (g:=H+1+1) (h:=H+1+1+1) (u0:= aB aG 0 0) (u1:= aB aG 0 0) (u2:= aC aD 0) (u3:= aC aD 0) (x0:= aC aD 0) (x1:= aB aG 0 0) (x2:= aE ⟨#[]⟩) hR ww) (qN (g:=H+1+1) (h:=H+1+1+1) (u0:= aB aG 0 0) (u1:= aB aG 0 0) (u2:= aC aD 0) (u3:= aC aD 0) (x0:= aC aD 0) (x1:= aB aG 0 0) (x2:= aE ⟨#[]⟩) hD ww) (zJ (g:=H+1+1) (h:=H+1+1+1) (u0:= aB aG 0 0) (u1:= aB aG 0 0) (u2:= aC aD 0) (u3:= aC aD 0) (x0:= aC aD 0) (x1:= aB aG 0 0) (x2:= aE ⟨#[]⟩) hB ww ww);obtain⟨f0,f1,f2,f3⟩:=sqF4 hR;obtain⟨y0,y1,y2,y3⟩:=sqC4 hR;obtain⟨e0,e1,e2⟩:=sqF3 hD;obtain⟨q0,q1,q2⟩:=sqC3 hD;clear HCK hR hD hB hb0 hS hC;go_wp2_with fail;refine bodyPost_ret (zU rfl _ _ (H+1+1) (H+1+1+1) _ _ _ _ _ _ _ _ ae hF1.o Tryz.underlying34 rfl aa ae hF2.o Tryz.underlying37 rfl aa) rfl ?_;exact⟨rfl,hF5.o⟩
structure LessI (s t:StoP) (c:ColP):Prop where
 g:GoodS t
 gc:GoodC t c
 gl:8*unm t.aJ+c.aN.length<=1000
 r:Rch t.aJ (rts t)=Rch s.aJ (rts s)
 e:t.aK=s.aK
 ro:t.aM=s.aM
 ck:t.aL=s.aL
theorem LessI.tick (h:LessI s t c) (hp:c.aO≠0):LessI s (zu t c).1 (zu t c).2.1:=by
 obtain⟨h1,h2,h3,h4,h5,h6⟩:=kK h.g h.gc (show c.aO=1\/c.aO=2 by have:=h.gc.ph;omega);have h7:=xX t c;exact⟨h1,h2,by have:=h.gl;omega,h3.trans h.r,h4.trans h.e,h5.trans h.ro,h6.trans h.ck⟩
theorem LessI.beg (h:GoodS s):LessI s (yS s) (j9 s):=⟨xq h,xr h,Kf h,z14 s,rfl,rfl,rfl⟩
theorem LessI.loft {l:LoP} (h:LessI l.st t c) (hl:GoodL l):GoodL ⟨t,c,l.fs⟩ :=
 .of h.g h.gc (by have:=h.gl;show c.aN.length<=1000;omega) hl.f (fun p hp x hx=>hl.apart p hp x (by rw [<-h.e];exact hx))
end Go.Proofs.YtaboknhfiijipaaGreat
