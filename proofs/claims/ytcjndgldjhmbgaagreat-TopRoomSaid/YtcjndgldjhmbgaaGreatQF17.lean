/- Lemmas, as stated. -/
import Derived.Test.YtcjndgldjhmbgaaGreatQF15
set_option linter.unusedVariables false
set_option linter.unusedSimpArgs false
set_option maxRecDepth 100000
set_option maxHeartbeats 8000000
open Go.Proofs.Tryz
open Go.Proofs.Tryz renaming prog->zZZ
open Go.Value renaming slice->aw,int->ax,string->az
open Go.IntKind renaming i64->ay
open Option renaming none->aB,some->aC
namespace Go.Proofs.YtcjndgldjhmbgaaGreat
open Go.RowKit Go.Maps
variable {c:ColP} {l:LoP} {e:Nat} {s:StoP}
theorem VK (s:StoP) (c:ColP):(zU s c).1.aH=s.aH/\(zU s c).1.aG=s.aG/\(zU s c).1.aF=s.aF:=by
 unfold zU;split
 ·have e:=(kE s c).2;exact⟨(congrArg StoP.aH e).trans rfl,(congrArg StoP.aG e).trans rfl,(congrArg StoP.aF e).trans rfl⟩
 ·rcases kY s c with ⟨_,e⟩ | ⟨_,_,_,_,e⟩ | ⟨_,_,_,_,e⟩<;>rw [e]<;>exact⟨rfl,rfl,rfl⟩
section
variable {w w':World} {H K gs gc:Nat} {v1 v2 v3 v3':Value} {Ag:ae} {ng:Nat} {t:StoP} {cc:ColP} {g:List ac}
end
theorem jt:∀(n:Nat) (s:StoP) (c:ColP) (g:Nat),(ticks n s c g).1.aH=s.aH
 | 0,s,c,g=>rfl
 | n+1,s,c,g=>by
  unfold ticks
  split
  ·rfl
  ·rw [jt n];exact(VK s c).1
abbrev wkP:PartP:=⟨[97],shaS kH,3⟩
abbrev wk2:OrdP:=⟨12,1,keyS 2, [], []⟩
abbrev wk3:OrdP:=⟨13,0,keyS 2, [], [wkP]⟩
abbrev wk4:OrdP:=⟨6,0,keyS 2, [], []⟩
abbrev stW:StoP:=⟨[⟨shaS kH,kH,0,false⟩], [⟨keyS 2, [wkP],0,1⟩],50,1⟩
theorem z40:qt ⟨stA 50,⟨0, [], []⟩, []⟩ wk2=(⟨stA 50,⟨0, [], []⟩, [⟨keyS 2,1, []⟩]⟩,⟨0, [], [], [],1, []⟩):=by
 unfold qt;rw [if_neg wo,if_neg wo,if_neg wo];unfold fliD;rw [if_pos rfl];rfl
theorem z2f:qL (stA 50).aE [wkP]=0:=by
 unfold qL;simp [List.findIdx?_cons];rfl
theorem z47:xw (stA 50) (keyS 2) [wkP]=stW:=by
 unfold xw x9;simp [srt]
theorem z2c:qx (stA 50) ⟨0, [], []⟩ (keyS 2) [wkP]=(stW,⟨0, [], []⟩,0):=by
 unfold qx;rw [if_pos z2f,z47,UT rfl]
theorem z43:xd [⟨keyS 2,1, []⟩] (keyS 2)=([], [1],0):=by
 unfold xd;rw [show fnd 0 [(⟨keyS 2,1, []⟩:FlP)] (keyS 2)=aC 0 by simp [fnd]];rfl
theorem z2d:qt ⟨stA 50,⟨0, [], []⟩, [⟨keyS 2,1, []⟩]⟩ wk3=(⟨stW,⟨0, [], []⟩, []⟩,⟨0, [], [], [],0, [1]⟩):=by
 unfold qt;rw [if_neg wo,if_neg wo,if_neg wo];unfold fliD;rw [if_neg wo,if_pos rfl];have h:kL ⟨stA 50,⟨0, [], []⟩, [⟨keyS 2,1, []⟩]⟩ (keyS 2) [wkP]=(⟨stW,⟨0, [], []⟩, []⟩, [1],0):=by
  unfold kL;dsimp only;rw [z43,z2c];rfl
 show(xI _ (kL ⟨stA 50,⟨0, [], []⟩, [⟨keyS 2,1, []⟩]⟩ (keyS 2) [wkP]).1 (kL ⟨stA 50,⟨0, [], []⟩, [⟨keyS 2,1, []⟩]⟩ (keyS 2) [wkP]).2.2,(⟨(kL ⟨stA 50,⟨0, [], []⟩, [⟨keyS 2,1, []⟩]⟩ (keyS 2) [wkP]).2.2, [], [], [],0,(kL ⟨stA 50,⟨0, [], []⟩, [⟨keyS 2,1, []⟩]⟩ (keyS 2) [wkP]).2.1⟩:RepP))=_;rw [h];rfl
theorem z45:∃x:EntP,qt ⟨stW,⟨0, [], []⟩, []⟩ wk4=(⟨⟨stW.aE, [x],50,2⟩,⟨0, [], []⟩, []⟩,⟨0, [], [], [wkP],0, []⟩):=by
 refine⟨⟨keyS 2, [wkP],0,2⟩,?_⟩;have h:atE stW (keyS 2)=aC (0,⟨keyS 2, [wkP],0,1⟩):=by
  unfold atE;simp [List.findIdx?_cons]
 unfold qt;rw [if_neg wo,if_pos wo];unfold entD;rw [if_neg wo,if_pos rfl];unfold gtP;dsimp only;rw [h];rfl
theorem z48:∃x:EntP,∃r0 r1 r2:RepP,qI (lo0 50) [xS,wk2,wk3,wk4]=(⟨⟨stW.aE, [x],50,2⟩,⟨0, [], []⟩, []⟩, [r0,r1,r2,⟨0, [], [], [wkP],0, []⟩]):=by
 obtain⟨x,hx⟩:=z45;refine⟨x,⟨0,shaS kH, [], [],0, []⟩,⟨0, [], [], [],1, []⟩,⟨0, [], [], [],0, [1]⟩,?_⟩;unfold qI;rw [Vm 50 wo wo];dsimp only;unfold qI;rw [z40];dsimp only;unfold qI;rw [z2d];dsimp only;unfold qI;rw [hx];rfl
theorem z42:chk [wkP]=0:=by
 have h:hexC (shaS kH)=0:=zq _;unfold chk;rw [if_neg wo,k5];dsimp only;rw [if_neg wo];simp [h,yr]
theorem z2e:∀o∈ [xS,wk2,wk3,wk4],GoodD o:=by
 intro o ho;simp only [List.mem_cons,List.not_mem_nil,or_false]at ho;rcases ho with rfl | rfl | rfl | rfl
 ·exact qh (k:=1) (f:=⟨false,false,true,false⟩) rfl (fun _=>rfl) (fun _=>rfl) (fun h=>by cases h) (fun _=>rfl) wj (fun h=>by cases h) wo rfl
 ·exact qh (k:=12) (f:=⟨true,true,false,false⟩) rfl (fun h=>by cases h) (fun h=>by cases h) (fun _=>rfl) (fun _=>rfl) wj (fun _=>zq _) wo rfl (h5:=fun _=>⟨2,wo,rfl⟩)
 ·exact qh (k:=13) (f:=⟨false,true,false,true⟩) rfl (fun _=>rfl) (fun h=>by cases h) (fun _=>rfl) (fun h=>by cases h) wj (fun _=>zq _) wo z42 (h5:=fun _=>⟨2,wo,rfl⟩)
 ·exact qh (k:=6) (f:=⟨false,true,false,false⟩) rfl (fun _=>rfl) (fun h=>by cases h) (fun _=>rfl) (fun _=>rfl) wj (fun _=>zq _) wo rfl (h5:=fun _=>⟨2,wo,rfl⟩)
theorem UA (w:World):Calls zZZ 27 #[] w fun e w'=>e= .returned (.bool true)/\Below w.heap.size w w':=by
 obtain⟨w1,hw1⟩:=wU (w.alloc (.cells #[ax .u8 97,ax .u8 98,ax .u8 99] 5 (3,4)))
 have z1:kN w1 w.heap.size (aC ⟨w.heap.size,0,aB⟩) 3 kH:=by rw [hw1];exact jI w
 have hb1:Below w.heap.size w w1:=by rw [hw1];exact(Below.refl _ _).alloc ab _
 obtain⟨HD,HK,HB1,HW1⟩:=sqJ4 (kP (aC ⟨w.heap.size,0,aB⟩) 3 3 kH w1 rfl ab wo z1.sl.1.rd) (fun W=>YZ 2 W wo wo) hb1 hw1;have hkc:=fun (w:World) (C:Array Value) (n c:Nat)=>Lib.run_convert_bytes_const (P:=zZZ) w 44 5 C n c underlying44 underlying5;clear z1 hb1 hw1;go_enter func27,ntmps27;go_wp2_with fail;rw [<-HW1.o];refine wV HD.o fun w2 hb2=>?_;dsimp only;obtain⟨w3,hw3⟩:=wU (w2.alloc (.cells #[ax .u8 97,ax .u8 98,ax .u8 99] 5 (3,4)))
 have z3:kN w3 w2.heap.size (aC ⟨w2.heap.size,0,aB⟩) 3 kH:=by rw [hw3];exact jI w2
 have hb3:Below w2.heap.size w2 w3:=by rw [hw3];exact(Below.refl _ _).alloc ab _
 obtain⟨HB3,HS3,HW3⟩:=sqJ3 ((wg HB1.o hb2).trans (hb3.mono (wg HB1.o hb2).size)) z3.sl.1 hw3;clear hb2 hw3 z3 hb3 HD HB1 HW1;go_wp2_with fail;rw [<-HW3.o];refine wV ((HK.o w3)) fun w4 hb4=>?_;dsimp only;go_wp2_with fail;refine wV ((HK.o w4)) fun w5 hb5=>?_;dsimp only;rw [show keyS (pk 2 7)=keyS 2 from rfl];obtain⟨w6,hw6⟩:=wU (w5.alloc (.cells #[az ⟨#[97]⟩,az ⟨(shaS kH).toArray⟩,ax ay 3] 51))
 have hA6:Arr w6 w5.heap.size 51 (pcs [wkP]):=by rw [hw6];exact Arr.new w5 51 (pcs [wkP])
 have hb6:Below w5.heap.size w5 w6:=by rw [hw6];exact(Below.refl _ _).alloc ab _
 have hs6:Sl w6 3 (aC ⟨w5.heap.size,0,aB⟩) 1 1 (pcs [wkP]):=⟨Rd.of_arr hA6 rfl wu,Nat.le_refl _,wo,fun a e=>by cases e;exact hA6.lt⟩
 have hb45:=wg hb4 hb5;have hb46:=wg hb45 hb6;obtain⟨HB6,HS6,HT6,HW6,HK6⟩:=sqJ5 (wg HB3.o hb46) hs6 (HS3.o.below hb46) hw6 (HK.o w6);clear hb4 hb5 hb45 hb46 hw6 hA6 hb6 hs6 HB3 HS3 HW3 HK;go_wp2_with fail;rw [<-HW6.o];refine wV HK6.o fun w7 hb7=>?_;dsimp only;rw [show keyS (pk 2 7)=keyS 2 from rfl];obtain⟨w8,hw8⟩:=wU (w7.alloc (.cells #[ax ay 1,ax ay 0,az ⟨#[]⟩,aw (aC ⟨w2.heap.size,0,aB⟩) 3 3,aw aB 0 0,ax ay 12,ax ay 1,az ⟨(keyS 2).toArray⟩,aw aB 0 0,aw aB 0 0,ax ay 13,ax ay 0,az ⟨(keyS 2).toArray⟩,aw aB 0 0,aw (aC ⟨w5.heap.size,0,aB⟩) 1 1,ax ay 6,ax ay 0,az ⟨(keyS 2).toArray⟩,aw aB 0 0,aw aB 0 0] 55))
 have hA8:Arr w8 w7.heap.size 55 [ax ay 1,ax ay 0,az ⟨#[]⟩,aw (aC ⟨w2.heap.size,0,aB⟩) 3 3,aw aB 0 0,ax ay 12,ax ay 1,az ⟨(keyS 2).toArray⟩,aw aB 0 0,aw aB 0 0,ax ay 13,ax ay 0,az ⟨(keyS 2).toArray⟩,aw aB 0 0,aw (aC ⟨w5.heap.size,0,aB⟩) 1 1,ax ay 6,ax ay 0,az ⟨(keyS 2).toArray⟩,aw aB 0 0,aw aB 0 0]:=by rw [hw8];exact Arr.new w7 55 _
 have hb8:Below w7.heap.size w7 w8:=by rw [hw8];exact(Below.refl _ _).alloc ab _
 have hb68:=wg hb7 hb8;have hT8:=HT6.o.below hb68;have hS8:=HS6.o.below hb68;have hrw:Rw OrdS w8 (aC ⟨w7.heap.size,0,aB⟩) [xS,wk2,wk3,wk4]:=Rw.of_cells (n:=4) [(xS,yn xS (aC ⟨w2.heap.size,0,aB⟩) 3 aB 0),(wk2,yn wk2 aB 0 aB 0),(wk3,yn wk3 aB 0 (aC ⟨w5.heap.size,0,aB⟩) 1),(wk4,yn wk4 aB 0 aB 0)] rfl (fun p hp=>by
  simp only [List.mem_cons,List.not_mem_nil,or_false]at hp;rcases hp with rfl | rfl | rfl | rfl
  ·exact⟨_,_,_,_,rfl,hT8,Sl.nil_ _ _⟩
  ·exact⟨_,_,_,_,rfl,Sl.nil_ _ _,Sl.nil_ _ _⟩
  ·exact⟨_,_,_,_,rfl,Sl.nil_ _ _,hS8⟩
  ·exact⟨_,_,_,_,rfl,Sl.nil_ _ _,Sl.nil_ _ _⟩) hA8 rfl
 have hru:=z02 50 (aC ⟨w7.heap.size,0,aB⟩) 4 4 [xS,wk2,wk3,wk4] w8 wo rfl wo ab wo z2e hrw;obtain⟨x,r0,r1,r2,hrr⟩:=z48;rw [hrr]at hru;dsimp only at hru;obtain⟨HRU,HW8,HB8⟩:=sqJ3 hru hw8 (wg HB6.o hb68);clear hw8 hA8 hb7 hb8 hb68 hT8 hS8 hrw hru hrr HB6 HS6 HT6 HW6 HK6;go_wp2_with fail;rw [<-HW8.o];refine HRU.o.mono ?_;rintro e_ w9 ⟨vr,v1,v2,v3,v4,rfl,hrx,hol,hb9⟩;dsimp only;obtain⟨Ar,cr,rfl,hcr,hcm,hRr⟩:=hrx.rwo.rows;obtain⟨⟨X,cX,Y,dY,G,ng,F,cF⟩,rfl,rfl,rfl,rfl, -⟩:=hol.rd;obtain⟨b1,o1,B1,c1,B1',c1',C1,d1,hAr,hbw,e0, -, -,e3, -, -, -,hs2, -⟩:=hRr.rep_at 3 (by show 3<4;decide);subst hAr;have HB9:=sqH (wg HB8.o hb9);simp only [List.getElem_cons_succ,List.getElem_cons_zero]at e0 e3 hs2;obtain⟨b2,o2,rfl,hbq,hq⟩:=hs2.rd.2 wo;have q1:=hq 1 _ rfl;have hb0:=World.size_alloc;clear hrx hol hb9 hRr hcr hcm HRU HB8 HW8 hs2 hq hb0;go_wp2_with fail;go_ret;exact⟨rfl,HB9.o.alloc HB9.o.size _⟩
theorem kW (h:e=0->s.aH=l.st.aH):(zJ l s c e).st.aH=l.st.aH:=by
 unfold zJ;split
 ·rename_i h0;exact h h0
 ·rfl
theorem xj {m:LoP} (h:e=0->m.st.aH=l.st.aH):(xI l m e).st.aH=l.st.aH:=by
 unfold xI;split
 ·rename_i h0;exact h h0
 ·rfl
theorem Zu {k:ac} {ps:List PartP} (h:(qx s c k ps).2.2=0):(qx s c k ps).1.aH=s.aH:=by
 unfold qx at h ⊢
 split
 ·exact(yL _ _ _).1
 ·rename_i h0;rw [if_neg h0]at h;exact absurd h h0
theorem Yc (l:LoP) (o:OrdP):(blobD l o).1.st.aH=l.st.aH:=by
 unfold blobD;split
 ·refine kW fun h=> ?_;unfold pbP at h ⊢
  split
  ·exact(yL _ _ _).1
  ·rename_i h0;rw [if_neg h0]at h;cases h
 ·split
  ·rfl
  ·refine kW fun h=> ?_;unfold hbP at h ⊢
   cases hat:atB l.st o.dig with
   | none=>rw [hat]at h;cases h
   | some ib =>
    rw [hat]at h;dsimp only at h ⊢
    split
    ·exact(yL _ _ _).1
    ·rename_i h0;rw [if_neg h0]at h;exact absurd h (Ko _)
theorem XD (l:LoP) (o:OrdP):(entD l o).1.st.aH=l.st.aH:=by
 unfold entD;split
 ·refine xj fun h=> ?_;unfold YF at h ⊢
  split
  ·rename_i h0;rw [if_pos h0]at h;cases h
  ·rename_i h0;rw [if_neg h0]at h;split
   ·rename_i h1;exact Zu h1
   ·rename_i h1;rw [if_neg h1]at h;exact absurd h h1
 ·split
  ·refine kW fun h=> ?_;unfold gtP at h ⊢
   cases hat:atE l.st o.dig with
   | none=>rw [hat]at h;cases h
   | some ib=>rfl
  ·refine kW fun h=> ?_;unfold heP at h ⊢
   cases hat:atE l.st o.dig with
   | none=>rw [hat]at h;cases h
   | some ib =>
    rw [hat]at h;dsimp only at h ⊢
    split
    ·rfl
    ·rename_i h0;rw [if_neg h0]at h;exact absurd h (Ko _)
theorem Ys (l:LoP) (o:OrdP):(roomD l o).1.st.aH=l.st.aH:=by
 unfold roomD;split
 ·refine kW fun h=> ?_;unfold evP at h ⊢
  cases he:kV o.n l.st with
  | none=>rw [he]at h;cases h
  | some tg=>obtain⟨t,g⟩:=tg;exact(Kh he).1
 ·split
  ·split<;>rfl
  ·split
   ·rfl
   ·exact jt _ _ _ _
theorem XN (l:LoP) (o:OrdP):(fliD l o).1.st.aH=l.st.aH:=by
 unfold fliD;split
 ·refine xj fun h=> ?_;unfold jL at h ⊢
  cases hf:l.st.aF.findIdx? (fun x=>x.key==o.dig) with
  | some i =>
   obtain⟨hi,_⟩:=vE hf;simp only [List.getElem?_eq_getElem hi];rfl
  | none =>
   rw [hf]at h;dsimp only at h ⊢
   split
   ·rfl
   ·rename_i h0;rw [if_neg h0]at h;exact absurd h h0
 ·split
  ·refine xj fun h=> ?_;unfold kL at h ⊢
   split
   ·rename_i h0;rw [if_pos h0]at h;split
    ·rename_i h1;exact Zu h1
    ·rename_i h1;rw [if_neg h1]at h;exact absurd h h1
   ·rename_i h0;rw [if_neg h0]at h;exact absurd h h0
  ·refine xj fun h=> ?_;unfold yY at h ⊢
   split
   ·rfl
   ·rename_i h0;rw [if_neg h0]at h;exact absurd h h0
theorem VH (l:LoP) (o:OrdP):(qt l o).1.st.aH=l.st.aH:=by
 unfold qt;split
 ·exact Yc l o
 ·split
  ·exact XD l o
  ·split
   ·exact Ys l o
   ·exact XN l o
theorem Q1:∀(os:List OrdP) (l:LoP),(qI l os).1.st.aH=l.st.aH
 | [],l=>rfl
 | o::os,l=>by
  show(qI (qt l o).1 os).1.st.aH=_
  rw [Q1 os,VH]
theorem z0h (n:Int) (m:Nat) (M:Int) (hM:M=m) (w:World) (h0: -9223372036854775808<=n) (h1:n<=9223372036854775807) (hm:0<m) (hm2:m<=9223372036854775807) :
  Calls zZZ 25 #[ax ay n,ax ay M] w fun e w'=>e= .returned (ax ay (pk n m:Nat))/\w=w':=by
 have HP:=sqH (q8 n m M hM w h0 h1 hm hm2);clear hM hm hm2;generalize pk n m=q at *
 go_enter func25,ntmps25;go_wp2_with fail;refine HP.o.mono ?_;rintro e_ _ ⟨rfl,rfl⟩;dsimp only;go_wp2_with fail;go_ret;exact⟨rfl,rfl⟩
theorem Zo (A:ae) (n c:Nat) (l:List RawP) (z:Int) (w:World) (hl:l.length=n) (hc:n<=c) (hm:c<=maxLen) (hok:∀r∈l,RawOk r) (hr:Rd w 4 A n (rcs l)) (hz0: -9223372036854775808<=z) (hz1:z<=9223372036854775807) :
  Calls zZZ 7 #[aw A n c,ax ay z] w fun e w'=>e= .returned (.bool true)/\Below w.heap.size w w':=by
 have HPK:=sqH (z0h z 400 400 rfl w hz0 hz1 wj wj);have hpl:=yw z (m:=400) wj;have HOR:=sqH (vP A n c l 40 40 rfl wj w hl hc hm hok hr);generalize pk z 400=aH at *
 have hrl:aH<=400:=wj;clear hl hc hm hok hr hz0 hz1 hpl;go_enter func7,ntmps7;go_wp2_with fail;refine HPK.o.mono ?_;rintro e_ _ ⟨rfl,rfl⟩;dsimp only;clear HPK;go_wp2_with fail;refine HOR.o.mono ?_;rintro e_ w1 ⟨v,os,rfl,hos,hgo,hol,hb1⟩;dsimp only;obtain⟨B,d,rfl,hd1,hd2,hrw⟩:=hos.rows;obtain⟨m,hmm⟩:=wU (os.length+1)
 have hw:IntKind.i64.wrap ((os.length:Int)+1)=(m:Int):=by rw [IntWalk.i64_in _ wj];omega
 obtain⟨HRU,HGD,HRO,HB1,HMM,HD⟩:=sqJ6 (fun (k:Nat) (hk:k<=os.length) W (h:Below w1.heap.size w1 W)=>z02 aH B k d (os.take k) W wj (by rw [List.length_take];omega) wj wj hd2 (fun o ho=>hgo o (List.mem_of_mem_take ho)) ((hrw.below h).pre hk)) (show ∀(k:Nat),k<=os.length->GoodL (qI (lo0 aH) (os.take k)).1 from fun k hk=>((LInv.zero (aH:=aH) wj).run (os:=os.take k) (by rw [List.length_take];omega) (fun o ho=>hgo o (List.mem_of_mem_take ho))).good (by rw [List.length_take];omega)) (fun k=>Q1 (os.take k) (lo0 aH)) hb1 hmm (And.intro hd1 hd2);have hdl:os.length<=d:=hd1;clear hos hgo hb1 hrw HOR hmm hd1 hd2;go_wp2_with fail;go_loopg [6,7,8,9,17] m (fun gn v6 v7 v8 v9 vi wr=>∃k:Nat,gn=m - k/\vi= ax ay k/\k<=m/\Below w1.heap.size w1 wr)
 case atStart=>exact⟨0,rfl,rfl,Nat.zero_le _,Below.refl _ _⟩
 case round =>
  obtain⟨k,hgk,rfl,hk,hbel⟩:=hrel;have HGK:=sqH hgk;clear hgk;by_cases hlt:k<m
  rotate_left
  ·obtain rfl:k=m:=by omega
   have hcc:decide (k<k)=false:=ws;have hcd:decide ((k:Int)<(k:Int))=false:=ws;have HWK:=sqH (UA wr);have HB:=sqH (wg HB1.o hbel);go_wp2_with fail;refine wV HWK.o fun w9 hb9=>?_;dsimp only;go_wp2_with fail;go_ret;exact⟨rfl,wg HB.o hb9⟩
  have hcc:decide (k<m)=true:=decide_eq_true hlt;have hcd:decide ((k:Int)<(m:Int))=true:=decide_eq_true wj;have hkl:k<=os.length:=by have:=HMM.o;omega
  have hk0:=wX k
  have hk1:(k:Int)<=(d:Int):=wj;have hk2:k<=d:=wj;by_cases h5:k % 5=0
  ·have c1:((k:Int) % 5 != 0)=false:=by rw [bne_eq_false_iff_eq];omega
   go_wp2_with fail;refine((HRU.o k hkl wr hbel)).mono ?_;rintro e_ w2 ⟨vr,v1,v2,v3,v4,rfl, -,hol2,hb2⟩;dsimp only;obtain⟨⟨X,cX,Y,dY,G,ng,F,cF⟩,rfl,rfl,rfl,rfl,hlo⟩:=hol2.rd;have HGL:=sqH (HGD.o k hkl);have HRM:=sqH (HRO.o k);clear hol2;generalize (qI (lo0 aH) (os.take k)).1=lo at *
   obtain⟨w3,hw3⟩:=wU (w2.alloc (.cells #[aw X lo.st.aE.length cX,aw Y lo.st.aF.length dY,ax ay lo.st.aH,ax ay lo.st.aG,ax ay lo.co.aJ,aw G lo.co.aI.length ng,az ⟨lo.co.at_.toArray⟩,aw F lo.fs.length cF] 33))
   obtain⟨g3,hg3⟩:=wU w2.heap.size
   have hA3:Arr w3 g3 33 [aw X lo.st.aE.length cX,aw Y lo.st.aF.length dY,ax ay lo.st.aH,ax ay lo.st.aG,ax ay lo.co.aJ,aw G lo.co.aI.length ng,az ⟨lo.co.at_.toArray⟩,aw F lo.fs.length cF]:=by rw [hw3,hg3];exact Arr.new w2 33 _
   have hb3:Below w2.heap.size w2 w3:=by rw [hw3];exact(Below.refl _ _).alloc ab _
   have hu:usd lo.st.aE<=lo.st.aH:=HGL.o.s.used;have hrm:lo.st.aH=aH:=HRM.o;have hlb:lo.st.aE.length<=24:=HGL.o.s.b.len;have HUS:=sqH (Qr X cX lo.st.aE w3 wj wj (hlo.below hb3).s.b);have hb23:=hbel.trans ((wg hb2 hb3).mono hbel.size);obtain⟨HB3,HA3,HW3,HG3⟩:=sqJ4 hb23 hA3 hw3 hg3;have hu1:decide ((usd lo.st.aE:Int)>(aH:Int))=false:=decide_eq_false wj;have hu2:decide ((aH:Int)<(usd lo.st.aE:Int))=false:=decide_eq_false wj;have hu3:decide (aH<usd lo.st.aE)=false:=decide_eq_false wj;have hrr:((lo.st.aH:Int) != (aH:Int))=false:=by rw [hrm];simp
   generalize usd lo.st.aE=us at *
   clear hw3 hg3 hA3 hb3 hb2 hlo hu hrm hlb hb23 hbel;go_wp2_with fail;rw [<-HW3.o,<-HG3.o];have x0:=HA3.o.c0;have x2:=HA3.o.c2;go_wp2_with fail;refine wV HUS.o fun w4 hb4=>?_;dsimp only;have x2':=(HA3.o.below hb4).c2;have HB4:=sqH (wg HB3.o hb4);clear x0 x2 hb4;go_wp2_with fail;go_roundg (m - (k+1))
   case measure=>exact wW HGK
   case rel=>exact⟨k+1,rfl,by go_num,wj,HB4.o⟩
  ·have c1:((k:Int) % 5 != 0)=true:=by rw [bne_iff_ne];omega
   by_cases h6:k<os.length
   ·have c2:decide ((k:Int)<(os.length:Int))=true:=decide_eq_true wj;have c3:decide (k<os.length)=true:=decide_eq_true h6;go_wp2_with fail;go_roundg (m - (k+1))
    case measure=>exact wW HGK
    case rel=>exact⟨k+1,rfl,by go_num,wj,hbel⟩
   ·have c2:decide ((k:Int)<(os.length:Int))=false:=decide_eq_false wj;have c3:decide (k<os.length)=false:=decide_eq_false h6;go_wp2_with fail;refine((HRU.o k hkl wr hbel)).mono ?_;rintro e_ w2 ⟨vr,v1,v2,v3,v4,rfl, -,hol2,hb2⟩;dsimp only;obtain⟨⟨X,cX,Y,dY,G,ng,F,cF⟩,rfl,rfl,rfl,rfl,hlo⟩:=hol2.rd;have HGL:=sqH (HGD.o k hkl);have HRM:=sqH (HRO.o k);clear hol2;generalize (qI (lo0 aH) (os.take k)).1=lo at *
    obtain⟨w3,hw3⟩:=wU (w2.alloc (.cells #[aw X lo.st.aE.length cX,aw Y lo.st.aF.length dY,ax ay lo.st.aH,ax ay lo.st.aG,ax ay lo.co.aJ,aw G lo.co.aI.length ng,az ⟨lo.co.at_.toArray⟩,aw F lo.fs.length cF] 33))
    obtain⟨g3,hg3⟩:=wU w2.heap.size
    have hA3:Arr w3 g3 33 [aw X lo.st.aE.length cX,aw Y lo.st.aF.length dY,ax ay lo.st.aH,ax ay lo.st.aG,ax ay lo.co.aJ,aw G lo.co.aI.length ng,az ⟨lo.co.at_.toArray⟩,aw F lo.fs.length cF]:=by rw [hw3,hg3];exact Arr.new w2 33 _
    have hb3:Below w2.heap.size w2 w3:=by rw [hw3];exact(Below.refl _ _).alloc ab _
    have hu:usd lo.st.aE<=lo.st.aH:=HGL.o.s.used;have hrm:lo.st.aH=aH:=HRM.o;have hlb:lo.st.aE.length<=24:=HGL.o.s.b.len;have HUS:=sqH (Qr X cX lo.st.aE w3 wj wj (hlo.below hb3).s.b);have hb23:=hbel.trans ((wg hb2 hb3).mono hbel.size);obtain⟨HB3,HA3,HW3,HG3⟩:=sqJ4 hb23 hA3 hw3 hg3;have hu1:decide ((usd lo.st.aE:Int)>(aH:Int))=false:=decide_eq_false wj;have hu2:decide ((aH:Int)<(usd lo.st.aE:Int))=false:=decide_eq_false wj;have hu3:decide (aH<usd lo.st.aE)=false:=decide_eq_false wj;have hrr:((lo.st.aH:Int) != (aH:Int))=false:=by rw [hrm];simp
    generalize usd lo.st.aE=us at *
    clear hw3 hg3 hA3 hb3 hb2 hlo hu hrm hlb hb23 hbel;go_wp2_with fail;rw [<-HW3.o,<-HG3.o];have x0:=HA3.o.c0;have x2:=HA3.o.c2;go_wp2_with fail;refine wV HUS.o fun w4 hb4=>?_;dsimp only;have x2':=(HA3.o.below hb4).c2;have HB4:=sqH (wg HB3.o hb4);clear x0 x2 hb4;go_wp2_with fail;go_roundg (m - (k+1))
    case measure=>exact wW HGK
    case rel=>exact⟨k+1,rfl,by go_num,wj,HB4.o⟩
end Go.Proofs.YtcjndgldjhmbgaaGreat
