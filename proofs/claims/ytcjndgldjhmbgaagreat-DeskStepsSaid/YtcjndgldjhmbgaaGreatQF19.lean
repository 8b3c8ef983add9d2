/- Lemmas, as stated. -/
import Derived.Test.YtcjndgldjhmbgaaGreatQF16
set_option linter.unusedVariables false
set_option linter.unusedSimpArgs false
set_option maxRecDepth 100000
set_option maxHeartbeats 8000000
open Go.Proofs.Tryz
open Go.Proofs.Tryz renaming prog->zZZ
open Go.Value renaming slice->aw,int->ax,string->az
open Go.IntKind renaming i64->ay
namespace Go.Proofs.YtcjndgldjhmbgaaGreat
open Go.RowKit Go.Maps
abbrev qS (n:Nat):OrdP:=⟨11,n, [], [], []⟩
theorem y8 (l:LoP) (n:Nat):(qt l (qS n)).1=if l.co.aJ=0 then l else ⟨(ticks n l.st l.co 0).1,(ticks n l.st l.co 0).2.1,l.fs⟩:=by
 show(roomD l (qS n)).1=_;unfold roomD;rw [if_neg (show ¬(11=9) by decide),if_neg (show ¬(11=10) by decide)];split<;>rfl
theorem QM:∀(n:Nat) (s:StoP) (c:ColP) (g:Nat),(ticks n s c g).1=(ticks n s c 0).1/\(ticks n s c g).2.1=(ticks n s c 0).2.1
 | 0,s,c,g=>⟨rfl,rfl⟩
 | n+1,s,c,g=>by
  unfold ticks
  by_cases hp:c.aJ=0
  ·rw [if_pos hp,if_pos hp];exact⟨rfl,rfl⟩
  ·rw [if_neg hp,if_neg hp]
   obtain⟨a,b⟩:=QM n (zU s c).1 (zU s c).2.1 (g+if (zU s c).2.2= [] then 0 else 1)
   obtain⟨a',b'⟩:=QM n (zU s c).1 (zU s c).2.1 (0+if (zU s c).2.2= [] then 0 else 1)
   exact⟨a.trans a'.symm,b.trans b'.symm⟩
theorem jp (l:LoP) (h:l.co.aJ=0):∀n,(qI l (List.replicate n (qS 1))).1=l
 | 0=>rfl
 | n+1=>by
  show(qI (qt l (qS 1)).1 (List.replicate n (qS 1))).1=l
  rw [y8,if_pos h]
  exact jp l h n
theorem jq:∀(n:Nat) (l:LoP),(qt l (qS n)).1=(qI l (List.replicate n (qS 1))).1
 | 0,l=>by
  rw [y8]
  split
  ·rfl
  ·rfl
 | n+1,l=>by
  by_cases hp:l.co.aJ=0
  ·rw [jp l hp,y8,if_pos hp]
  ·show _=(qI (qt l (qS 1)).1 (List.replicate n (qS 1))).1
   have h1:(qt l (qS 1)).1=⟨(zU l.st l.co).1,(zU l.st l.co).2.1,l.fs⟩:=by
    rw [y8,if_neg hp];unfold ticks;rw [if_neg hp];rfl
   rw [h1,<-jq n,y8,y8,if_neg hp];unfold ticks;rw [if_neg hp];obtain⟨a,b⟩:=QM n (zU l.st l.co).1 (zU l.st l.co).2.1 (0+if (zU l.st l.co).2.2= [] then 0 else 1);rw [a,b];dsimp only;by_cases h2:(zU l.st l.co).2.1.aJ=0
   ·rw [if_pos h2];cases n with
    | zero=>rfl
    | succ n=>unfold ticks;rw [if_pos h2]
   ·rw [if_neg h2];cases n with
    | zero=>rfl
    | succ n=>rfl
theorem Zf (A:ae) (n c:Nat) (xs:af) (w:World) (hb:n*80<=140737488355328) (hr:Rd w 5 A n xs) (h1:∀u∈xs,u.oneCell'=true) :
  Calls zZZ 24 #[aw A n c] w fun e w'=>∃v,e= .returned v/\w'.ownsRow w.heap.size 55 5 v n xs/\Below w.heap.size w w':=by
 have heq:=fun W=>Lib.run_eql_slice_nil (P:=zZZ) W 38 55 A n c 0 0 underlying38;cases A with
 | none =>
  obtain rfl:n=0:=by
   rcases Nat.eq_zero_or_pos n with h | h
   ·exact h
   ·obtain⟨_,_,h1,_⟩:=hr.2 h;cases h1
  obtain rfl:xs= []:=List.eq_nil_of_length_eq_zero (by simpa using hr.1);go_enter func24,ntmps24;go_wp2_with fail;go_ret;exact⟨_,rfl,World.ownsRow_nil _ _ _ _,Below.refl _ _⟩
 | some ad =>
  go_enter func24,ntmps24
  refine wH ?_;intros;refine zK rfl (.tmp 5) (.tmp 6) rfl kU wu (World.ownsRow_made (size:=5) w #[] 0 ab (by simp [maxLen]) rfl) wu (hr.alloc _) h1 wj ws ?_;intro v1 w1 hown1 hg1 _;have hb1:=zj ((Below.refl _ _).alloc ab _) (World.ownsRow_made (size:=5) w #[] 0 ab (by simp [maxLen]) rfl) ab hg1;go_wp2_with fail;go_ret;exact⟨_,rfl,by simpa using hown1,hb1⟩
theorem YJ (A:ae) (n c:Nat) (os:List OrdP) (w:World) (hl:os.length=n) (hn:n<=1000) (hr:Rw OrdS w A os) :
  Calls zZZ 24 #[aw A n c] w fun e w'=>∃v,e= .returned v/\RwO OrdS 55 w' w.heap.size v os/\Below w.heap.size w w':=by
 obtain⟨ps,h1,h2,h3⟩:=hr;subst hl;refine(Zf A os.length c (cls ps) w wj h3 h2.ones).mono ?_;rintro e w' ⟨v,rfl,ho,hb⟩;refine⟨v,rfl,⟨ps,h1,h2.below hb,ho,fun p hp b hb' hl=> ?_⟩,hb⟩;have h5:=OrdS.live (h2 p hp) b hl;exact Kp ho h5 hb'
abbrev z2h:OrdP:=⟨10,0, [], [], []⟩
theorem UR:GoodD z2h:=qh (k:=10) (f:=⟨false,false,false,false⟩) rfl (fun _=>rfl) (fun _=>rfl) (fun _=>rfl) (fun _=>rfl) wj (fun h=>by cases h) wo rfl
theorem ZG {n:Nat} (h:n<=4000):GoodD (qS n):=qh (k:=11) (f:=⟨true,false,false,false⟩) rfl (fun h=>by cases h) (fun _=>rfl) (fun _=>rfl) (fun _=>rfl) h (fun h=>by cases h) wo rfl
theorem uI (A:ae) (n c:Nat) (l:List RawP) (z:Int) (w:World) (hl:l.length=n) (hc:n<=c) (hm:c<=maxLen) (hok:∀r∈l,RawOk r) (hr:Rd w 4 A n (rcs l)) (hz0: -9223372036854775808<=z) (hz1:z<=9223372036854775807) :
  Calls zZZ 6 #[aw A n c,ax ay z] w fun e w'=>e= .returned (.bool true)/\Below w.heap.size w w':=by
 have HPK:=sqH (fun W=>q8 z 20 20 rfl W hz0 hz1 wj wj);have hpl:=yw z (m:=20) wj;have HOR:=sqH (vP A n c l 40 40 rfl wj w hl hc hm hok hr);generalize pk z 20=q at *
 obtain⟨m,hm1⟩:=wU (1+q)
 have hw:IntKind.i64.wrap (1+(q:Int))=(m:Int):=by rw [IntWalk.i64_in _ wj];omega
 have hm20:m<=20:=wj;clear hl hc hm hok hr hz0 hz1 hm1 hpl;go_enter func6,ntmps6;go_wp2_with fail;refine HOR.o.mono ?_;rintro e_ w1 ⟨v,os,rfl,hos,hgo,hol,hb1⟩;dsimp only;obtain⟨xs,hx,hop⟩:=hos.ordMore (o:=z2h) (w2:=w1) (v2:=v) (xs:= []) (Sl.nil_ w1 1) (Sl.nil_ w1 3) (fun a e=>by cases e) (fun a e=>by cases e);obtain⟨HX,HOP,HB1⟩:=sqJ3 hx hop hb1;have HGO:=sqH (show ∀o∈os++ [z2h],GoodD o from fun o ho=>by
  rcases List.mem_append.1 ho with h | h
  ·exact hgo o h
  ·have:=List.mem_singleton.1 h;subst this;exact UR)
 have HBK:=sqH (fun k (hk:v.ownBlock=some k)=>(hos.blk hk).1);have HLO:=sqH (show(os++ [z2h]).length<=41 by rw [List.length_append];simp only [List.length_cons,List.length_nil];omega);clear hx hop hos hgo hb1 HOR
 refine wH ?_;intros;refine zg rfl (.tmp 15) (.tmp 17) rfl kU wu HX.o (us:= [ax ay 10,ax ay 0,az ⟨#[]⟩,aw none 0 0,aw none 0 0]) wu rfl (qH z2h none 0 none 0) (by show(os.length+1)*80<=140737488355328;omega) HB1.o.size ?_;intro v2 w2 ho2 hg2 hv2;have hro:=HOP.o w2 v2 ho2 hg2 hv2;have HB2:=sqH (HB1.o.grown hg2 HB1.o.size HBK.o);clear ho2 hg2 hv2 HX HOP HBK HB1 hol;generalize os++ [z2h]=o2 at *
 obtain⟨B,d,rfl,hd1,hd2,hrw⟩:=hro.rows;have HRW:=sqH (fun W (h:Below w2.heap.size w2 W)=>hrw.below h);have HCL:=sqH (fun W (h:Below w2.heap.size w2 W)=>YJ B o2.length d o2 W rfl (wW HLO) (hrw.below h));clear hro hrw;go_wp2_with fail;refine(HPK.o _).mono ?_;rintro e_ _ ⟨rfl,rfl⟩;dsimp only;go_wp2_with fail;refine(((HCL.o w2 (Below.refl _ _)))).mono ?_;rintro e_ w3 ⟨v3,rfl,hr3,hb3⟩;dsimp only;obtain⟨xs,hx,hop⟩:=hr3.ordMore (o:=qS m) (w2:=w3) (v2:=v3) (xs:= []) (Sl.nil_ w3 1) (Sl.nil_ w3 3) (fun a e=>by cases e) (fun a e=>by cases e);obtain⟨HX,HOP,HB3,HBK⟩:=sqJ4 hx hop hb3 (fun k (hk:v3.ownBlock=some k)=>(hr3.blk hk).1);have hol2:o2.length<=41:=HLO.o;clear hx hop hr3 hb3
 refine wH ?_;intros;refine zg rfl (.tmp 23) (.tmp 26) rfl kU wu HX.o (us:= [ax ay 11,ax ay m,az ⟨#[]⟩,aw none 0 0,aw none 0 0]) wu rfl (qH (qS m) none 0 none 0) (by show(o2.length+1)*80<=140737488355328;omega) HB3.o.size ?_;intro v4 w4 ho4 hg4 hv4;have hr4:=HOP.o w4 v4 ho4 hg4 hv4;have hb4:=HB3.o.grown hg4 HB3.o.size HBK.o;obtain⟨M,e,rfl,he1,he2,hmw⟩:=hr4.rows;obtain⟨HB4,HMW,HML⟩:=sqJ3 hb4 (fun W (h:Below w4.heap.size w4 W)=>hmw.below h) (show(o2++ [qS m]).length<=42 by rw [List.length_append];simp only [List.length_cons,List.length_nil];omega);have HG4:=sqH (show ∀o∈o2++ [qS m],GoodD o from fun o ho=>by
  rcases List.mem_append.1 ho with h | h
  ·exact HGO.o o h
  ·have:=List.mem_singleton.1 h;subst this;exact ZG wj)
 have HR4:=sqH (Q2 (lo0 900) o2 (qS m));generalize o2++ [qS m]=o4 at *
 clear ho4 hg4 hv4 hr4 hb4 HX HOP HBK HB3 hmw;go_wp2_with fail;refine((HCL.o w4 HB4.o)).mono ?_;rintro e_ w5 ⟨v5,rfl,hr5,hb5⟩;dsimp only;obtain⟨HB5,HR5,HZ5⟩:=sqJ3 hb5 hr5 hb5.size;clear hb5 hr5 HCL;go_wp2_with fail;go_loopg [7,31] m (fun gn vo vi wr=>∃i:Nat,gn=m - i/\vi= ax ay i/\i<=m/\Below w4.heap.size w4 wr/\RwO OrdS 55 wr w4.heap.size vo (o2++List.replicate i (qS 1)))
 case atStart=>exact⟨0,rfl,rfl,Nat.zero_le _,HB5.o,by rw [List.replicate_zero,List.append_nil];exact HR5.o⟩
 case round =>
  obtain⟨i,hgk,rfl,hi,hbel,hrow⟩:=hrel;have HGK:=sqH hgk;clear hgk;by_cases hlt:i<m
  ·have hcc:decide (i<m)=true:=decide_eq_true hlt;have hcd:decide ((i:Int)<(m:Int))=true:=decide_eq_true wj;obtain⟨xs,hx,hop⟩:=hrow.ordMore (o:=qS 1) (w2:=wr) (v2:=u7) (xs:= []) (Sl.nil_ wr 1) (Sl.nil_ wr 3) (fun a e=>by cases e) (fun a e=>by cases e);have hsz:=hbel.size;have HN:=sqH (show o2++List.replicate i (qS 1)++ [qS 1]=o2++List.replicate (i+1) (qS 1) by rw [List.append_assoc,<-List.replicate_succ']);have hgl:(o2++List.replicate i (qS 1)).length<=61:=by rw [List.length_append,List.length_replicate];omega
   obtain⟨HX,HOP,HBE,HBK⟩:=sqJ4 hx hop hbel (fun k (hk:u7.ownBlock=some k)=>(hrow.blk hk).1);clear hx hop hbel hrow;generalize o2++List.replicate i (qS 1)=o3 at *
   refine wH ?_;intros;refine zg rfl (.tmp 33) (.tmp 35) rfl kU wu HX.o (us:= [ax ay 11,ax ay 1,az ⟨#[]⟩,aw none 0 0,aw none 0 0]) wu rfl (qH (qS 1) none 0 none 0) (by show(o3.length+1)*80<=140737488355328;omega) hsz ?_;intro v9 w9 ho9 hg9 hv9;have HRO:=sqH (HOP.o w9 v9 ho9 hg9 hv9);have HBE9:=sqH (HBE.o.grown hg9 hsz HBK.o);clear ho9 hg9 hv9 HX HOP HBK;go_wp2_with fail;go_roundg (m - (i+1))
   case measure=>exact wW HGK
   case rel=>exact⟨i+1,rfl,by go_num,wj,HBE9.o,by rw [<-HN.o];exact HRO.o⟩
  obtain rfl:i=m:=by omega
  have hcc:decide (i<i)=false:=ws;have hcd:decide ((i:Int)<(i:Int))=false:=ws;obtain⟨O,f,rfl,hf1,hf2,how⟩:=hrow.rows;have hlo:(o2++List.replicate i (qS 1)).length<=61:=by rw [List.length_append,List.length_replicate];omega
  have hgo2:∀o∈o2++List.replicate i (qS 1),GoodD o:=fun o ho=>by
   rcases List.mem_append.1 ho with h | h
   ·exact HGO.o o h
   ·have:=(List.mem_replicate.1 h).2;subst this;exact ZG wj
  have hsm:(qI (lo0 900) (o2++List.replicate i (qS 1))).1=(qI (lo0 900) o4).1:=by
   rw [Z3,HR4.o];exact(jq i _).symm
  generalize o2++List.replicate i (qS 1)=o5 at *
  have hru:=z02 900 M o4.length e o4 wr wj rfl (wW HML) he1 he2 HG4.o (HMW.o wr hbel);have hrv:=fun W (h:Below wr.heap.size wr W)=>z02 900 O o5.length f o5 W wj rfl wj hf1 hf2 hgo2 (how.below h);have hgl:GoodL (qI (lo0 900) o4).1:=((LInv.zero (aH:=900) wj).run (os:=o4) (wW HML) HG4.o).good (wW HML);clear HR4;generalize qI (lo0 900) o4=lr1 at *
  generalize qI (lo0 900) o5=lr2 at *
  obtain⟨lo,rs⟩:=lr1;obtain⟨lo2,rs2⟩:=lr2;dsimp only at hru hrv hgl hsm;subst hsm;obtain⟨HRU,HRV,HGL,HBE⟩:=sqJ4 hru hrv hgl (HB2.o.trans ((wg HB4.o hbel).mono HB2.o.size));clear hrow how hru hrv hgl hgo2 hlo hbel HML HMW HGO HRW HG4;go_wp2_with fail;refine HRU.o.mono ?_;rintro e_ w6 ⟨vr,v1,v2,v3,v4,rfl, -,hol6,hb6⟩;dsimp only;obtain⟨⟨X,cX,Y,dY,G,ng,F,cF⟩,rfl,rfl,rfl,rfl,hlo6⟩:=hol6.rd;obtain⟨w7,hw7⟩:=wU (w6.alloc (.cells #[aw X lo2.st.aE.length cX,aw Y lo2.st.aF.length dY,ax ay lo2.st.aH,ax ay lo2.st.aG,ax ay lo2.co.aJ,aw G lo2.co.aI.length ng,az ⟨lo2.co.at_.toArray⟩,aw F lo2.fs.length cF] 33))
  obtain⟨g7,hg7⟩:=wU w6.heap.size
  have hA7:Arr w7 g7 33 [aw X lo2.st.aE.length cX,aw Y lo2.st.aF.length dY,ax ay lo2.st.aH,ax ay lo2.st.aG,ax ay lo2.co.aJ,aw G lo2.co.aI.length ng,az ⟨lo2.co.at_.toArray⟩,aw F lo2.fs.length cF]:=by rw [hw7,hg7];exact Arr.new w6 33 _
  have hb7:Below w6.heap.size w6 w7:=by rw [hw7];exact(Below.refl _ _).alloc ab _
  have hbr7:=wg hb6 hb7;obtain⟨HA7,HW7,HG7,HB7,HL7,HRZ⟩:=sqJ6 hA7 hw7 hg7 hbr7 (hlo6.below hb7) (HRV.o w7 hbr7);clear hw7 hg7 hA7 hb7 hbr7 hol6 hb6 hlo6 HRU HRV;go_wp2_with fail;rw [<-HW7.o,<-HG7.o];clear HW7;refine HRZ.o.mono ?_;rintro e_ w8 ⟨vr2,v1,v2,v3,v4,rfl, -,hol8,hb8⟩;dsimp only;obtain⟨⟨X',cX',Y',dY',G',ng',F',cF'⟩,rfl,rfl,rfl,rfl,hlo8⟩:=hol8.rd;obtain⟨w9,hw9⟩:=wU (w8.alloc (.cells #[aw X' lo2.st.aE.length cX',aw Y' lo2.st.aF.length dY',ax ay lo2.st.aH,ax ay lo2.st.aG,ax ay lo2.co.aJ,aw G' lo2.co.aI.length ng',az ⟨lo2.co.at_.toArray⟩,aw F' lo2.fs.length cF'] 33))
  obtain⟨g9,hg9⟩:=wU w8.heap.size
  have hA9:Arr w9 g9 33 [aw X' lo2.st.aE.length cX',aw Y' lo2.st.aF.length dY',ax ay lo2.st.aH,ax ay lo2.st.aG,ax ay lo2.co.aJ,aw G' lo2.co.aI.length ng',az ⟨lo2.co.at_.toArray⟩,aw F' lo2.fs.length cF']:=by rw [hw9,hg9];exact Arr.new w8 33 _
  have hb9:Below w8.heap.size w8 w9:=by rw [hw9];exact(Below.refl _ _).alloc ab _
  have hb79:=wg hb8 hb9;obtain⟨HSV,HA9,HW9,HG9,HB9,HL9⟩:=sqJ6 (Zm w9) hA9 hw9 hg9 hb79 (hlo8.below hb9);clear hw9 hg9 hA9 hb9 hb79 hol8 hb8 hlo8 HRZ;go_wp2_with fail;rw [<-HW9.o,<-HG9.o];clear HW9;refine wV HSV.o fun w10 hb10=>?_;dsimp only;have hb710:=wg HB9.o hb10;obtain⟨x0,x1,x2,x3,x4,x5,x6,x7⟩:=sqC8 (HA7.o.below hb710);obtain⟨y0,y1,y2,y3,y4,y5,y6,y7⟩:=sqC8 (HA9.o.below hb10);have HSL:=sqH (vT ⟨X,cX,Y,dY,G,ng,F,cF⟩ ⟨X',cX',Y',dY',G',ng',F',cF'⟩ lo2.st lo2.st lo2.co lo2.fs w10 HGL.o.s HGL.o.s HGL.o.f HGL.o.g (HL7.o.below hb710) (HL9.o.below hb10) (uz _) (uA _) rfl rfl);have hba:=wg HB7.o hb710;have HBA:=sqH (wg HBE.o hba);clear hb10 hb710 hba HSV;go_wp2_with fail;refine wV HSL.o fun w11 hb11=>?_;dsimp only;clear x0 x1 x2 x3 x4 x5 x6 x7 y0 y1 y2 y3 y4 y5 y6 y7;go_wp2_with fail;go_ret;exact⟨rfl,wg HBA.o hb11⟩
end Go.Proofs.YtcjndgldjhmbgaaGreat
