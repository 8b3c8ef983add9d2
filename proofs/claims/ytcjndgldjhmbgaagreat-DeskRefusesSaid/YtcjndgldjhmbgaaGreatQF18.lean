/- Lemmas, as stated. -/
import Derived.Test.YtcjndgldjhmbgaaGreatQF16
set_option linter.unusedVariables false
set_option linter.unusedSimpArgs false
set_option maxRecDepth 100000
set_option maxHeartbeats 8000000
open Go.Proofs.Tryz
open Go.Proofs.Tryz renaming prog->zZZ
open Go.Value renaming slice->aw,int->ax,string->az
open Go.IntKind renaming i64->ay
namespace Go.Proofs.YtcjndgldjhmbgaaGreat
open Go.RowKit Go.Maps
variable {l:LoP} {e:Nat}
theorem UU {s:StoP} {c:ColP} (h:e≠0):zJ l s c e=l:=if_neg h
theorem z0r {m:LoP} (h:e≠0):xI l m e=l:=if_neg h
theorem Jm {o:OrdP} (h:(qt l o).2.err≠0):(qt l o).1=l:=by
 unfold qt blobD entD roomD fliD at h ⊢
 repeat' split
 all_goals first | rfl | skip
 all_goals simp only [*,if_true,if_false,ite_true,ite_false,if_pos,if_neg,not_false_eq_true,reduceCtorEq]at h
 all_goals first | exact UU h | exact z0r h | exact absurd rfl h | skip
noncomputable def ZH:LoP->List OrdP->List OrdP
 | _, []=> []
 | l,o::os=>if (qt l o).2.err=0 then o::ZH (qt l o).1 os else ZH (qt l o).1 os
theorem xY:∀(l:LoP) (os:List OrdP),qI l (ZH l os)=((qI l os).1,(qI l os).2.filter (fun r=>decide (r.err=0)))
 | l, []=>rfl
 | l,o::os=>by
  unfold ZH
  by_cases h:(qt l o).2.err=0
  ·rw [if_pos h]
   show((qI (qt l o).1 (ZH (qt l o).1 os)).1,(qt l o).2::(qI (qt l o).1 (ZH (qt l o).1 os)).2)=_
   rw [xY (qt l o).1 os]
   show _=((qI (qt l o).1 os).1,((qt l o).2::(qI (qt l o).1 os).2).filter _)
   rw [List.filter_cons,if_pos (decide_eq_true h)]
  ·rw [if_neg h]
   show _=((qI (qt l o).1 os).1,((qt l o).2::(qI (qt l o).1 os).2).filter _)
   rw [List.filter_cons,if_neg (by simpa using h),<-xY (qt l o).1 os,Jm h]
def gds:List OrdP->List RepP->List OrdP
 | o::os,r::rs=>if r.err=0 then o::gds os rs else gds os rs
 | _,_=> []
theorem um:∀(l:LoP) (os:List OrdP),gds os (qI l os).2=ZH l os
 | l, []=>rfl
 | l,o::os=>by
  show gds (o::os) ((qt l o).2::(qI (qt l o).1 os).2)=_
  unfold gds ZH
  split
  ·rename_i h;rw [um (qt l o).1 os]
  ·rename_i h;rw [um (qt l o).1 os]
theorem Ki:∀(os:List OrdP) (rs:List RepP) (o:OrdP) (r:RepP),os.length=rs.length->gds (os++ [o]) (rs++ [r])=gds os rs++if r.err=0 then [o] else []
 | [], [],o,r,_=>by simp [gds]
 | a::os,b::rs,o,r,h=>by
  show gds (a::(os++ [o])) (b::(rs++ [r]))=_
  rw [gds,Ki os rs o r (by simpa using h),gds]
  split<;>rfl
theorem Qw:∀(os:List OrdP) (rs:List RepP),(∀x∈gds os rs,x∈os)/\(gds os rs).length<=os.length
 | [],_=>⟨fun x h=>by simp [gds]at h,by simp [gds]⟩
 | a::os, []=>⟨fun x h=>by simp [gds]at h,by simp [gds]⟩
 | a::os,r::rs=>by
  obtain⟨h1,h2⟩:=Qw os rs
  rw [gds]
  split
  ·refine⟨fun x h=> ?_,by simpa using h2⟩
   rcases List.mem_cons.1 h with rfl | h
   ·exact List.mem_cons_self ..
   ·exact List.mem_cons_of_mem _ (h1 x h)
  ·exact⟨fun x h=>List.mem_cons_of_mem _ (h1 x h),by simp only [List.length_cons];omega⟩
theorem z09 (r:RepP) (A:ae) (c:Nat) (A':ae) (c':Nat) (B:ae) (d:Nat) (w:World) (h0:r.err=0) :
  Calls zZZ 22 #[.agg #[ax ay r.err,az ⟨r.dig.toArray⟩,aw A r.data.length c,aw A' r.aL.length c',ax ay r.n,aw B r.who.length d]] w fun e w'=>e= .returned (.bool false)/\Below w.heap.size w w':=by
 rw [h0];have hb1:=wi w (.cells #[ax ay ((0:Nat):Int),az ⟨r.dig.toArray⟩,aw A r.data.length c,aw A' r.aL.length c',ax ay r.n,aw B r.who.length d] 48);go_enter func22,ntmps22;go_wp2_with fail;go_ret;exact⟨by first | rfl | simp,hb1⟩
theorem YU (A:ae) (n c:Nat) (rs:List RepP) (w:World) (hl:rs.length=n) (hn:n<=1000000) (h1:Rw Uq w A rs) (h0:∀r∈rs,r.err=0) :
  Calls zZZ 47 #[aw A n c,.func (.func 22) #[] #[]] w fun e w'=>e= .returned (ax ay (-1))/\Below w.heap.size w w':=by
 have HL:=sqH hl;have H0:=sqH h0;clear hl h0;go_enter func47,ntmps47;go_wp2_with fail;go_loopg [5,8] n (fun gn u i wr=>∃j:Nat,gn=n - j/\i= ax ay j/\j<=n/\Below w.heap.size w wr)
 case atStart=>exact⟨0,rfl,rfl,wj,Below.refl _ _⟩
 case round =>
  obtain⟨j,hgk,rfl,hj,hbl⟩:=hrel;have HGK:=sqH hgk;clear hgk;by_cases hlt:j<n
  ·have hcc:decide (j<n)=true:=decide_eq_true hlt;have hjl:j<rs.length:=by have:=HL.o;omega
   obtain⟨ba,oa,BA,ca,BA',ca',DA,da,rfl,hba,c0,c1,c2,c3,c4,c5, -, -, -⟩:=(h1.below hbl).rep_at j hjl;have hj0:=wX j
   have hj1:(j:Int)<(n:Int):=wj;have HE:=sqH (z09 rs[j] BA ca BA' ca' DA da wr (H0.o _ (List.getElem_mem hjl)));generalize rs[j]=x at *
   go_wp2_with fail;refine wV HE.o fun w5 hb5=>?_;dsimp only;have hb05:=wg hbl hb5;go_wp2_with fail;go_roundg (n - (j+1))
   case measure=>exact wW HGK
   case rel=>exact⟨j+1,rfl,by go_num,wj,hb05⟩
  ·obtain rfl:j=n:=by omega
   have hcc:decide (j<j)=false:=ws;go_wp2_with fail;go_ret;exact⟨rfl,hbl⟩
theorem YK (A:ae) (n c:Nat) (rs:List RepP) (w:World) (hl:rs.length=n) (hn:n<=1000000) (h1:Rw Uq w A rs) (h0:∀r∈rs,r.err=0) :
  Calls zZZ 21 #[aw A n c,.func (.func 22) #[] #[]] w fun e w'=>e= .returned (.bool false)/\Below w.heap.size w w':=by
 have HI:=sqH (YU A n c rs w hl hn h1 h0);clear hl h0 h1;go_enter func21,ntmps21;go_wp2_with fail;refine wV HI.o fun w1 hb1=>?_;dsimp only;go_wp2_with fail;go_ret;exact⟨rfl,hb1⟩
theorem vm (A:ae) (n c:Nat) (l:List RawP) (w:World) (hl:l.length=n) (hc:n<=c) (hm:c<=maxLen) (hok:∀r∈l,RawOk r) (hr:Rd w 4 A n (rcs l)) :
  Calls zZZ 5 #[aw A n c] w fun e w'=>e= .returned (.bool true)/\Below w.heap.size w w':=by
 have HOR:=sqH (vP A n c l 40 40 rfl wj w hl hc hm hok hr);clear hl hc hm hok hr;go_enter func5,ntmps5;go_wp2_with fail;refine HOR.o.mono ?_;rintro e_ w1 ⟨v,os,rfl,hos,hgo,hol,hb1⟩;dsimp only;obtain⟨B,d,rfl,hd1,hd2,hrw⟩:=hos.rows;have HB1:=sqH hb1;have hinv:=(LInv.zero (aH:=500) wj).run (os:=os) wj hgo;have HGL:=sqH (hinv.good wj);have hgd:=xY (lo0 500) os;rw [<-um]at hgd;have hll:=Z4 (lo0 500) os;have hru:=z02 500 B os.length d os w1 wj rfl wj hd1 hd2 hgo hrw;generalize qI (lo0 500) os=lr at *
 obtain⟨lo,rs⟩:=lr;dsimp only at hgd hll hru HGL;have hsub:=Qw os rs;have HR2:=sqH (fun (Bg:ae) (dg:Nat) (W:World) (h1:(gds os rs).length<=dg) (h2:dg<=maxLen) (h3:Rw OrdS W Bg (gds os rs))=>z02 500 Bg (gds os rs).length dg (gds os rs) W wj rfl wj h1 h2 (fun o ho=>hgo o (hsub.1 o ho)) h3);rw [hgd]at HR2;dsimp only at HR2;obtain⟨HRU,HLL,HRW,HSUB⟩:=sqJ4 hru hll hrw hsub;clear hgo hos hb1 hrw HOR hgd hll hru hsub hinv;have h40:os.length<=40:=hol;go_wp2_with fail;refine HRU.o.mono ?_;rintro e_ w2 ⟨vr,v1,v2,v3,v4,rfl,hrx,hol2,hb2⟩;dsimp only;obtain⟨Ar,cr,rfl,hcr,hcm,hRr⟩:=hrx.rwo.rows;obtain⟨⟨X,cX,Y,dY,G,ng,F,cF⟩,rfl,rfl,rfl,rfl,hlo⟩:=hol2.rd;obtain⟨w3,hw3⟩:=wU (w2.alloc (.cells #[aw X lo.st.aE.length cX,aw Y lo.st.aF.length dY,ax ay lo.st.aH,ax ay lo.st.aG,ax ay lo.co.aJ,aw G lo.co.aI.length ng,az ⟨lo.co.at_.toArray⟩,aw F lo.fs.length cF] 33))
 obtain⟨g3,hg3⟩:=wU w2.heap.size
 have hA3:Arr w3 g3 33 [aw X lo.st.aE.length cX,aw Y lo.st.aF.length dY,ax ay lo.st.aH,ax ay lo.st.aG,ax ay lo.co.aJ,aw G lo.co.aI.length ng,az ⟨lo.co.at_.toArray⟩,aw F lo.fs.length cF]:=by rw [hw3,hg3];exact Arr.new w2 33 _
 have hb3:Below w2.heap.size w2 w3:=by rw [hw3];exact(Below.refl _ _).alloc ab _
 have hb13:=wg hb2 hb3;obtain⟨HSV,HA3,HW3,HG3,HB3,HRR,HLO⟩:=sqJ7 (Zm w3) hA3 hw3 hg3 hb13 (hRr.below hb3) (hlo.below hb3);have l1:=HLL.o;have hne:((rs.length:Int) != (os.length:Int))=false:=by rw [bne_eq_false_iff_eq];omega
 clear l1;clear hw3 hg3 hA3 hb3 hb13 hrx hol2 hb2 hRr hcr hcm hlo HRU;go_wp2_with fail;rw [<-HW3.o,<-HG3.o];refine wV HSV.o fun w4 hb4=>?_;dsimp only;have HB4:=sqH hb4;have hb14:=wg HB3.o hb4;obtain⟨HB14,HRo,HRr,HLV⟩:=sqJ4 hb14 (fun W (h:Below w4.heap.size w4 W)=>(HRW.o.below hb14).below h) (fun W (h:Below w4.heap.size w4 W)=>(HRR.o.below hb4).below h) (show ∀(a:Addr),B=some a->a.block<w1.heap.size->a.block<w4.heap.size from fun a _ h=>Nat.lt_of_lt_of_le h hb14.size);clear hb4 hb14 HSV HW3 hol;go_wp2_with fail;go_loopg [7,8,9,36] os.length (fun gn vg v8 v9 vi wr=>∃i:Nat,gn=os.length - i/\vi= ax ay i/\i<=os.length/\Below w4.heap.size w4 wr/\RwO OrdS 55 wr w4.heap.size vg (gds (os.take i) (rs.take i)))
 case atStart=>exact⟨0,rfl,rfl,Nat.zero_le _,Below.refl _ _,RwO.nil_ (World.ownsRow_nil _ _ _ _)⟩
 case round =>
  obtain⟨i,hgk,rfl,hi,hbel,hrow⟩:=hrel;have HGK:=sqH hgk;clear hgk;by_cases hlt:i<os.length
  rotate_left
  ·obtain rfl:i=os.length:=by omega
   have hcc:decide (os.length<os.length)=false:=ws;rw [List.take_of_length_le ab,List.take_of_length_le (wW HLL)]at hrow;obtain⟨Bg,dg,rfl,hg1,hg2,hgr⟩:=hrow.rows;have HRG:=sqH (HR2.o Bg dg wr hg1 hg2 hgr);have HBL:=sqH hbel;clear hrow hgr hbel;go_wp2_with fail;refine HRG.o.mono ?_;rintro e_ w5 ⟨vr,v1,v2,v3,v4,rfl,hrx,hol5,hb5⟩;dsimp only;obtain⟨Sr,sc,rfl,hsc,hsm,hSr⟩:=hrx.rwo.rows;obtain⟨⟨X',cX',Y',dY',G',ng',F',cF'⟩,rfl,rfl,rfl,rfl,hlo5⟩:=hol5.rd;obtain⟨w6,hw6⟩:=wU (w5.alloc (.cells #[aw X' lo.st.aE.length cX',aw Y' lo.st.aF.length dY',ax ay lo.st.aH,ax ay lo.st.aG,ax ay lo.co.aJ,aw G' lo.co.aI.length ng',az ⟨lo.co.at_.toArray⟩,aw F' lo.fs.length cF'] 33))
   obtain⟨g6,hg6⟩:=wU w5.heap.size
   have hA6:Arr w6 g6 33 [aw X' lo.st.aE.length cX',aw Y' lo.st.aF.length dY',ax ay lo.st.aH,ax ay lo.st.aG,ax ay lo.co.aJ,aw G' lo.co.aI.length ng',az ⟨lo.co.at_.toArray⟩,aw F' lo.fs.length cF']:=by rw [hw6,hg6];exact Arr.new w5 33 _
   have hb6:Below w5.heap.size w5 w6:=by rw [hw6];exact(Below.refl _ _).alloc ab _
   have hb46:=HBL.o.trans ((wg hb5 hb6).mono HBL.o.size);obtain⟨HCN,HA6,HW6,HG6,HB6,HL6⟩:=sqJ6 (YK Sr _ sc _ w6 rfl (by have:=List.length_filter_le (fun r:RepP=>decide (r.err=0)) rs;have:=HLL.o;omega) (hSr.below hb6) (fun r hr=>by simpa using (List.mem_filter.1 hr).2)) hA6 hw6 hg6 hb46 (hlo5.below hb6);clear hw6 hg6 hA6 hb6 hb46 hrx hol5 hb5 hSr hsc hsm hlo5 HRG HBL;go_wp2_with fail;rw [<-HW6.o,<-HG6.o];refine wV HCN.o fun w7 hb7=>?_;dsimp only;have hb47:=wg HB6.o hb7;have hb17:=wg HB14.o hb47;obtain⟨x0,x1,x2,x3,x4,x5,x6,x7⟩:=sqC8 ((HA3.o.below HB4.o).below hb47);obtain⟨y0,y1,y2,y3,y4,y5,y6,y7⟩:=sqC8 (HA6.o.below hb7);have HSL:=sqH (vT ⟨X,cX,Y,dY,G,ng,F,cF⟩ ⟨X',cX',Y',dY',G',ng',F',cF'⟩ lo.st lo.st lo.co lo.fs w7 HGL.o.s HGL.o.s HGL.o.f HGL.o.g ((HLO.o.below HB4.o).below hb47) (HL6.o.below hb7) (uz _) (uA _) rfl rfl);have HB7:=sqH (wg HB1.o hb17);clear hb7 hb47 hb17;go_wp2_with fail;refine wV HSL.o fun w8 hb8=>?_;dsimp only;clear x0 x1 x2 x3 x4 x5 x6 x7 y0 y1 y2 y3 y4 y5 y6 y7;go_wp2_with fail;go_ret;exact⟨rfl,wg HB7.o hb8⟩
  have hcc:decide (i<os.length)=true:=decide_eq_true hlt;have hi0:=wX i
  have hi1:(i:Int)<(os.length:Int):=wj;have hir:i<rs.length:=by have:=HLL.o;omega
  have hi2:(i:Int)<(rs.length:Int):=wj;obtain⟨b,off,B',c',B'',c'',rfl,hbb,a0,a1,a2,a3,a4,hs,hs'⟩:=(HRo.o wr hbel).ord_at i hlt;obtain⟨b9,off9,R1,r1,R2,r2,R3,r3,rfl,hbb9,d0, -, -, -, -, -, -, -, -⟩:=(HRr.o wr hbel).rep_at i hir;have hz:(∀a,B'=some a->a.block<w4.heap.size)/\(∀a,B''=some a->a.block<w4.heap.size):=by
   have h4:=(HRo.o w4 (Below.refl _ _)).ord_at i hlt;obtain⟨b',off',E1,e1,E2,e2,hEq,hbb',k0,k1,k2,k3,k4,ks,ks'⟩:=h4;cases hEq
   have q3:=(hbel.cell (p:=⟨b,off+i*5+3,none⟩) hbb').trans k3;have q4:=(hbel.cell (p:=⟨b,off+i*5+4,none⟩) hbb').trans k4;rw [a3]at q3;rw [a4]at q4;cases q3
   cases q4
   exact⟨ks.live,ks'.live⟩
  have hba:=wi wr (.cells #[ax ay (os[i].kind:Int),ax ay (os[i].n:Int),az ⟨os[i].dig.toArray⟩,aw B' os[i].data.length c',aw B'' os[i].aL.length c''] 55);have hAo:=Arr.new wr 55 [ax ay (os[i].kind:Int),ax ay (os[i].n:Int),az ⟨os[i].dig.toArray⟩,aw B' os[i].data.length c',aw B'' os[i].aL.length c''];have e0:=(hba.cell (p:=⟨b9,off9+i*6,none⟩) hbb9).trans d0;have hb9:=wg hbel hba;have hrow9:=hrow.below hba;obtain⟨xs,hx,hop⟩:=hrow9.ordMore (w2:=wr) (v2:= aw none 0 0) (xs:= []) (hs.below hba) (hs'.below hba) hz.1 hz.2;have hsz:=hb9.size;have HGS:=sqH (show gds (os.take (i+1)) (rs.take (i+1))=_ from by
   rw [List.take_succ_eq_append_getElem hlt,List.take_succ_eq_append_getElem hir,Ki _ _ _ _ (by rw [List.length_take,List.length_take];omega)])
  have hlg:=(Qw (os.take i) (rs.take i)).2;rw [List.length_take]at hlg;generalize rs[i]=r at *
  generalize os[i]=o at *
  generalize gds (os.take i) (rs.take i)=G at *
  refine wI 9 ?_;intros;generalize wr.alloc (.cells #[ax ay o.kind,ax ay o.n,az ⟨o.dig.toArray⟩,aw B' o.data.length c',aw B'' o.aL.length c''] 55)=W at *
  generalize wr.heap.size=gy at *
  obtain⟨hx0,hx1,hx2,hx3,hx4⟩:=sqC5 hAo;obtain⟨HX,HOP,HB9,HSZ,HR9⟩:=sqJ5 hx hop hb9 hsz hrow9;clear hx hop hb9 hsz hrow hrow9 hs hs' hz hba hAo hbel a0 a1 a2 a3 a4 d0 hbb hbb9;by_cases h0:r.err=0
  ·have h0':((r.err:Int)==0)=true:=by rw [beq_iff_eq];omega
   have HN:=sqH (HGS.o.trans (by rw [if_pos h0]));clear h0 HGS
   refine wH ?_;intros;refine zg rfl (.tmp 47) (.tmp 49) rfl kU wu HX.o (us:= [ax ay o.kind,ax ay o.n,az ⟨o.dig.toArray⟩,aw B' o.data.length c',aw B'' o.aL.length c'']) wu rfl (qH o B' c' B'' c'') (by show(G.length+1)*80<=140737488355328;omega) HSZ.o ?_;intro v9 w9 ho9 hg9 hv9;have HRO:=sqH (HOP.o w9 v9 ho9 hg9 hv9);have HBE:=sqH (HB9.o.grown hg9 HSZ.o (fun k hk=>((HR9.o.blk hk).1)));clear hx0 hx1 hx2 hx3 hx4 ho9 hg9 hv9 e0;go_wp2_with fail;go_roundg (os.length - (i+1))
   case measure=>exact wW HGK
   case rel=>exact⟨i+1,rfl,by go_num,wj,HBE.o,by rw [HN.o];exact HRO.o⟩
  ·have h0':((r.err:Int)==0)=false:=by rw [beq_eq_false_iff_ne];omega
   have HN:=sqH (HGS.o.trans (by rw [if_neg h0,List.append_nil]));clear h0 HGS;go_wp2_with fail;go_roundg (os.length - (i+1))
   case measure=>exact wW HGK
   case rel=>exact⟨i+1,rfl,by go_num,wj,HB9.o,by rw [HN.o];exact HR9.o⟩
end Go.Proofs.YtcjndgldjhmbgaaGreat
