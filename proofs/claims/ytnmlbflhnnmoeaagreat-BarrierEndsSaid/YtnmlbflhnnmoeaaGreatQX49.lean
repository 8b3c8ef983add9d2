/- Lemmas of the proof. Conditions: as stated. -/
import Derived.Test.YtnmlbflhnnmoeaaGreatQX48
set_option linter.unusedVariables false
set_option linter.unusedSimpArgs false
set_option maxRecDepth 100000
set_option maxHeartbeats 16000000
namespace Go.Proofs.YtnmlbflhnnmoeaaGreat
open Go.RowKit Go.Maps
def zR (bl:List BlobP) (L:List (List UInt8)):List BlobP:=bl.map fun b=>if b.dig∈L then { b with mark:=true } else b
theorem KF (bl:List BlobP):zR bl []=bl:=by simp [zR]
theorem qt (bl:List BlobP) (L:List (List UInt8)):(zR bl L).length=bl.length:=by simp [zR]
theorem uf (bl:List BlobP) (L:List (List UInt8)):EqM bl (zR bl L):=by
 unfold EqM zR;rw [List.map_map];refine List.map_congr_left fun b _=> ?_;show NoM b=NoM (if b.dig∈L then { b with mark:=true } else b);split<;>rfl
theorem va (bl:List BlobP) (L:List (List UInt8)) (i:Nat) (h:i<bl.length) (h':i<(zR bl L).length):(zR bl L)[i]=if bl[i].dig∈L then { bl[i] with mark:=true } else bl[i]:=by
 simp [zR]
theorem K8 {bl:List BlobP} (hr:RisesBy (·.dig) bl) (L:List (List UInt8)) (d:List UInt8) {i:Nat} (hi:i<(zR bl L).length) (hd:(zR bl L)[i].dig=d):(zR bl L).set i { (zR bl L)[i] with mark:=true }=zR bl (L++ [d]):=by
 have hi':i<bl.length:=by rw [←qt bl L];exact hi
 refine List.ext_getElem (by rw [List.length_set,qt,qt]) fun j h1 h2=> ?_;have hj:j<bl.length:=by rw [←qt bl (L++ [d])];exact h2
 have hdi:∀k (h:k<bl.length) (h':k<(zR bl L).length),(zR bl L)[k].dig=bl[k].dig:=fun k h h'=>by
  rw [va bl L k h h'];split<;>rfl
 rw [List.getElem_set,va bl (L++ [d]) j hj h2];by_cases hij:i=j
 ·subst hij;rw [if_pos rfl,if_pos (by rw [←hdi i hi' hi,hd];simp),va bl L i hi' hi];split<;>rfl
 ·rw [if_neg hij,va bl L j hj (by rw [qt];exact hj)];have hne:bl[j].dig≠d:=fun e=>by
   rw [←hd,hdi i hi' hi]at e;have hnd:=hr.map.nodup;have:=(List.getElem_inj (xs:=bl.map (·.dig)) (i:=j) (j:=i) (h₀:=by simpa using hj) (h₁:=by simpa using hi') hnd).1 (by simpa using e);exact hij this.symm
  by_cases hm:bl[j].dig∈L
  ·rw [if_pos hm,if_pos (by simp [hm])]
  ·rw [if_neg hm,if_neg (by simp [hm,hne])]
theorem RwX.set1' {α:Type} {S:Shp α} {e:TypeId} {w:World} {base g n cap i j:Nat} {u:Value} {y:α} {l:List α} {N:Nat→Prop} (h:RwX S e w base (.slice (some ⟨g,0,none⟩) n cap) l N) (hn:n=l.length) (hi:i<l.length) (hj:j<S.size)
  (hR:∀W cs,S.R W l[i] cs→S.R W y (cs.set j u)) (hlead:∀b,¬leads b [u]) :
  (∃v0,w.cell? ⟨g,i*S.size+j,none⟩=some v0)∧w.frozen? ⟨g,i*S.size+j,none⟩=false ∧
   RwX S e (w.setCell ⟨g,i*S.size+j,none⟩ u) base (.slice (some ⟨g,0,none⟩) n cap) (l.set i y) N∧w.grownBy (w.setCell ⟨g,i*S.size+j,none⟩ u) (some g):=by
 subst hn;exact h.set1 hi hj hR hlead
theorem Jm (A D:Option Addr) (c dc:Nat) (bl:List BlobP) (ds:List (List UInt8)) (w:World) (hl:bl.length≤1000) (hcap:bl.length≤c) (hcm:c≤maxLen) (hri:RisesBy (·.dig) bl) (hdat:∀b∈bl,b.data.length≤1000000) (hdig:∀x∈bl,x.dig.length≤1000) (hrd:Rw BlobS w A bl) (hdn:ds.length≤1000000) (hrd2:Rd w 1 D ds.length (strs ds)) :
  Calls Tryz.prog 189 #[.slice A bl.length c,.slice D ds.length dc] w fun e w'=>∃g L,e= .returned (.slice (some ⟨g,0,none⟩) bl.length bl.length)∧StrL L (Rch bl ds)∧RwX BlobS 63 w' w.heap.size (.slice (some ⟨g,0,none⟩) bl.length bl.length) (zR bl L) (fun b=>b<w.heap.size)∧Below w.heap.size w w':=by
 have HCP:=sqH (vm A c bl w (by omega) hdat hrd);have HFR:=sqH (fun W (h:Below w.heap.size w W)=>ZH A D c dc bl ds W hl hcap hcm hdig (hrd.below h) hdn (hrd2.below h));have HRI:=sqH hri;clear hdat hdig hrd hdn hrd2 hri;go_enter Tryz.func189,Tryz.ntmps189;go_wp2_with fail;refine HCP.out.mono ?_;rintro e_ w1 ⟨q1,rfl,hx1,hb1⟩;dsimp only;have HF1:=sqH (HFR.out w1 hb1);clear HCP HFR;go_wp2_with fail;refine HF1.out.mono ?_;rintro e_ w2 ⟨v2,L,rfl,hL,hLl,ho2,hb2⟩;dsimp only;obtain⟨AL,cL,rfl,_,hrL⟩:=Rd.of_own' ho2;have hLb:∀a,AL=some a→w1.heap.size≤a.block:=fun a e=>by
  obtain⟨A',c',e1,_,h⟩:=Sl.of_own ho2;injection e1 with e1 _ _;exact h a (by rw [←e1];exact e)
 have hx2:=hx1.below hb2;have hb12:=hb1.trans (hb2.mono hb1.size);have HRL:=sqH hrL;have HL:=sqH hL;have HLB:=sqH hLb;have hq1:q1<w1.heap.size:=(hx1.rwo.blk rfl).2;have hL63:(L.length:Int)≤9223372036854775807:=by omega
 have hb63:(bl.length:Int)≤9223372036854775807:=by omega
 have hx2':RwX BlobS 63 w2 w.heap.size (.slice (some ⟨q1,0,none⟩) bl.length bl.length) (zR bl []) (fun b=>b<w.heap.size):=by rw [KF];exact hx2
 clear hx1 hb1 hb2 ho2 hL hrL hx2 HF1 hLb;go_wp2_with fail;go_loopg [16] L.length (fun gn i wr=>∃k:Nat,gn=L.length - k∧i= .int .i64 k∧k≤L.length∧RwX BlobS 63 wr w.heap.size (.slice (some ⟨q1,0,none⟩) bl.length bl.length) (zR bl (L.take k)) (fun b=>b<w.heap.size)∧Below w.heap.size w wr∧w2.grownBy wr (some q1))
 case atStart=>exact⟨0,rfl,rfl,by omega,hx2',hb12,World.grownBy.refl _ _⟩
 case round =>
  obtain⟨k,hgk,rfl,hk,hx,hbk,hgr⟩:=hrel;have HGK:=sqH hgk;clear hgk hx2' hb12;by_cases hlt:k<L.length
  rotate_left
  ·obtain rfl:k=L.length:=by omega
   have hlb:decide (L.length<L.length)=false:=by simp
   rw [List.take_length]at hx;have HX:=sqH hx;clear hx;go_wp2_with fail;go_ret;exact⟨_,L,rfl,HL.out,HX.out,hbk⟩
  have hlb:decide (k<L.length)=true:=decide_eq_true hlt;have hk0:(0:Int)≤(k:Int):=by omega
  have hk1:(k:Int)<(L.length:Int):=by omega
  have hrLr:Rd wr 1 AL L.length (strs L):=HRL.out.keepb hgr.size (fun b hb ⟨a,e1,e2⟩=>hgr.block b hb (fun e=>by
   injection e with e;have:=HLB.out a e1;omega))
  obtain⟨bb,off,hAb,_,hcell⟩:=hrLr.2 (by omega);subst hAb;have c0:=hcell k _ (qU L k hlt);have hin:InB bl L[k]:=((HL.out.mem _).1 (List.getElem_mem hlt)).inB;have hin2:InB (zR bl (L.take k)) L[k]:=(yz (uf bl (L.take k))).2 hin;obtain⟨i,hfi⟩:∃i,(zR bl (L.take k)).findIdx? (fun b=>b.dig==L[k])=some i:=by
   rw [jh]at hin2;exact Option.isSome_iff_exists.1 hin2
  have hi:i<(zR bl (L.take k)).length:=(List.findIdx?_eq_some_iff_getElem.1 hfi).1;have hid:(zR bl (L.take k))[i].dig=L[k]:=by simpa using (List.findIdx?_eq_some_iff_getElem.1 hfi).2.1
  have hib:i<bl.length:=by rw [←qt bl (L.take k)];exact hi
  have hi0:(0:Int)≤(i:Int):=by omega
  have hi1:(i:Int)<(bl.length:Int):=by omega
  have hsn:=K8 HRI.out (L.take k) L[k] hi hid;have htk:L.take k++ [L[k]]=L.take (k+1):=(List.take_succ_eq_append_getElem hlt).symm;rw [htk]at hsn;have hfb:=yh (some ⟨q1,0,none⟩) bl.length (zR bl (L.take k)) L[k] wr (by rw [qt];omega) (by
   obtain⟨A9,c9,e1,_,_,hrw⟩:=hx.rwo.rows;injection e1 with e1 _ _;subst e1;exact hrw)
  rw [hfi,qt]at hfb;have HFB:=sqH hfb;have HSN:=sqH hsn;have HKL:=sqH hlt;generalize hLk:L[k]=dk at *
  clear hLk hfb hsn htk hfi hin hin2 hcell hid;go_wp2_with fail;clear c0;refine HFB.out.mono ?_;rintro e_ w5 ⟨rfl,hb5⟩;dsimp only;rw [jN];have hx5:=hx.below hb5;have hbk5:=hbk.trans (hb5.mono hbk.size);have hgr5:=kw hgr hb5;obtain⟨⟨v0,c3⟩,f3,hx6,hg6⟩:=hx5.set1' (i:=i) (j:=3) (y:= { (zR bl (L.take k))[i] with mark:=true }) (u:= .bool true) (qt bl (L.take k)).symm hi (by show 3<4;omega) (fun W cs h=>vP _ true W cs h) (qY true);rw [HSN.out]at hx6;have hbk6:=hbk5.grown hg6 hbk5.size (fun b e=>by cases e;exact(hx5.rwo.blk rfl).1);have HX6:=sqH hx6;have HB6:=sqH hbk6;have HG6:=sqH (hgr5.trans hg6);clear hx hx5 hx6 hbk hbk5 hbk6 hgr hgr5 hg6 hb5 hrLr;simp only [show BlobS.size=4 from rfl]at c3 f3 HX6 HB6 HG6;go_wp2_with fail;go_roundg (L.length - (k+1))
  case measure=>have:=HGK.out;have:=HKL.out;omega
  case rel=>exact⟨k+1,rfl,by go_num,by have:=HKL.out;omega,HX6.out,HB6.out,HG6.out⟩
theorem US (x:List UInt8):StrL [x] (fun y=>y∈ [x]):=⟨(by simp),List.pairwise_singleton _ _,fun _=>Iff.rfl⟩
theorem YP {A M K:List UInt8} (hA:A= [97,98,99]) (hM:M=enc [⟨[120],shaS A,3⟩]) (hg:GoodS (zp A M K)):(k9 (zp A M K)).grey.length=1∧(zm (qy (zp A M K)) (k9 (zp A M K))).2.grey.length=1∧(zm (qy (zp A M K)) (k9 (zp A M K))).2.phase=1:=by
 have hp:=kD A M K;have hbM:(⟨shaS M,M,0,false⟩:BlobP)∈(zp A M K).blobs:=hp.mem_iff.2 (by simp);have kM:kids (zp A M K).blobs (shaS M)= [shaS A]:=by
  have:=qW hg.b.ris hbM;dsimp only at this;have hc:chk [(⟨[120],shaS A,3⟩:PartP)]=0:=by
   rw [chk,if_neg (by show ¬1>8;omega),yg (show qg [120]=0 by decide) (fun m hm=>by cases hm) (zu A) (by show 3≤300;omega)];rfl
  rw [this,hM,Q1 _ hc];rfl
 have hg1:(k9 (zp A M K)).grey= [shaS M]:=StrL.uniq (ud (rts (zp A M K))) ⟨(by simp),List.pairwise_singleton _ _,fun x=>by rw [j0,List.mem_singleton]⟩;have hin:InB (qy (zp A M K)).blobs (shaS M):=(yz (yf _)).2 ⟨_,hbM,rfl⟩;refine⟨by rw [hg1];rfl,?_⟩;rcases qi (qy (zp A M K)) (k9 (zp A M K)) with ⟨h,_⟩ | ⟨d,rest,h,hn,_⟩ | ⟨d,rest,i,hi,h,_,_,hm,_⟩ | ⟨d,rest,i,hi,h,_,_,_,e⟩
 ·rw [hg1]at h;cases h
 ·rw [hg1]at h;cases h;exact absurd hin hn
 ·exfalso;obtain⟨a,_,e⟩:=List.mem_map.1 (List.getElem_mem hi);have hm':(qy (zp A M K)).blobs[i].mark=true:=hm;have e':(qy (zp A M K)).blobs[i]= { a with mark:=false }:=e.symm;rw [e']at hm';cases hm'
 ·rw [hg1]at h;cases h
  rw [e];refine⟨?_,rfl⟩;show(uni ([]++kids (qy (zp A M K)).blobs (shaS M))).length=1;rw [show kids (qy (zp A M K)).blobs (shaS M)=kids (zp A M K).blobs (shaS M) from uX (yf _) _,kM,List.nil_append];rw [StrL.uniq (ud [shaS A]) (US (shaS A))];rfl
theorem Qg (w:World) (e1 e2:TypeId) (c1 c2:List Value):∃W,W=(w.alloc (.cells c1.toArray e1)).alloc (.cells c2.toArray e2)∧Arr W w.heap.size e1 c1∧Arr W (w.heap.size+1) e2 c2∧Below w.heap.size w W:=by
 have b1:=(Below.refl w.heap.size w).alloc (Nat.le_refl _) (.cells c1.toArray e1);have b2:=b1.alloc b1.size (.cells c2.toArray e2);have a1:=(Arr.new w e1 c1).alloc (.cells c2.toArray e2);have a2:=Arr.new (w.alloc (.cells c1.toArray e1)) e2 c2;rw [World.size_alloc]at a2;exact⟨_,rfl,a1,a2,b2⟩
theorem Qp (w:World):Calls Tryz.prog 16 #[] w fun e w'=>e= .returned (.bool true)∧Below w.heap.size w w':=by
 obtain⟨A,hA⟩:∃A:List UInt8,A= [97,98,99]:=⟨_,rfl⟩
 obtain⟨M,hM⟩:∃M,M=enc [⟨[120],shaS A,3⟩]:=⟨_,rfl⟩
 obtain⟨K,hK⟩:∃K,K=keyS 0:=⟨_,rfl⟩
 have hAL:A.length=3:=by rw [hA];rfl
 have hg:GoodS (zp A M K):=Qr hAL (ZB hA hM) (Qj hA hM) (by rw [hK];exact zu _);obtain⟨m1,m2,m3⟩:=YP hA hM hg;have HSM:=sqH (show ∀w,Calls Tryz.prog 71 #[] w fun e w'=>∃X c Y d,e= .returned (.agg #[.slice X (zp A M K).blobs.length c,.slice Y (zp A M K).ents.length d,.int .i64 ((zp A M K).room:Int),.int .i64 ((zp A M K).clock:Int)])∧RdSt w' X c Y d (zp A M K)∧Below w.heap.size w w' from fun w=>QQ A M K hA hM hK w);have HBG:=sqH (show ∀X c Y d W,RdSt W X c Y d (zp A M K)→Calls Tryz.prog 14 #[.agg #[.slice X (zp A M K).blobs.length c,.slice Y (zp A M K).ents.length d,.int .i64 ((zp A M K).room:Int),.int .i64 ((zp A M K).clock:Int)]] W fun e w'=>∃v1 v2 v3,e= .returned (.tuple #[stV v1 v2 (qy (zp A M K)),coV v3 (k9 (zp A M K)),.int .i64 0])∧OwSt w' W.heap.size v1 v2 (qy (zp A M K)) (fun b=>b<W.heap.size)∧w'.ownsRow W.heap.size 9 1 v3 (k9 (zp A M K)).grey.length (strs (k9 (zp A M K)).grey)∧Below W.heap.size W w' from fun X c Y d W h=>Qt X c Y d _ W hg h);have HMS:=sqH (fun X c Y d Ag ng W (h:RdSt W X c Y d (qy (zp A M K))) (hc:RdC W Ag ng (k9 (zp A M K)))=>QE X c Y d _ Ag ng (k9 (zp A M K)) W (ku hg) h rfl rfl (by rw [m1];omega) hc);have g1:(((k9 (zp A M K)).phase:Int)==1)=true:=rfl;have g2:(((k9 (zp A M K)).grey.length:Int)==1)=true:=by rw [m1];rfl
 have g3:(((zm (qy (zp A M K)) (k9 (zp A M K))).2.grey.length:Int)==1)=true:=by rw [m2];rfl
 clear hA hM hK hAL hg m1 m2 m3;generalize qy (zp A M K)=t at *
 generalize k9 (zp A M K)=cc at *
 generalize zp A M K=s at *
 go_enter Tryz.func16,Tryz.ntmps16;go_wp2_with fail;refine(HSM.out w).mono ?_;rintro e_ w1 ⟨X,c,Y,d,rfl,hr1,hb1⟩;dsimp only;have HB1:=sqH (HBG.out X c Y d w1 hr1);clear hr1;go_wp2_with fail;refine HB1.out.mono ?_;rintro e_ w2 ⟨v1,v2,v3,rfl,ho2,hl2,hb2⟩;dsimp only;obtain⟨X2,c2,Y2,d2,e1,e2,hr2⟩:=ho2.rows;obtain⟨A3,n3,e3,hc3⟩:=RdC.of_own (c:=cc) hl2;subst e1 e2 e3;have hb12:=hb1.trans (hb2.mono hb1.size);obtain⟨W3,hW3,hA3,hC3,hb3⟩:=Qg w2 26 29 [.slice X2 t.blobs.length c2,.slice Y2 t.ents.length d2,.int .i64 t.room,.int .i64 t.clock] [.int .i64 cc.phase,.slice A3 cc.grey.length n3,.string ⟨cc.at_.toArray⟩];obtain⟨x0,x1,x2,x3⟩:=sqC4 hA3;obtain⟨y0,y1,y2⟩:=sqC3 hC3;have HM3:=sqH (HMS.out X2 c2 Y2 d2 A3 n3 W3 (hr2.below hb3) (hc3.below hb3));have hb13:=hb12.trans (hb3.mono hb12.size);have HC3:=sqH hC3;rw [hW3]at x0 x1 x2 x3 y0 y1 y2;clear ho2 hl2 hr2 hc3 hb2 hb1 hb12 hb3 hA3 hC3 HBG HSM HB1;go_wp2_with fail;rw [←hW3];clear x0 x1 x2 x3 y0 y1 y2 hW3;refine HM3.out.mono ?_;rintro e_ w4 ⟨v4,v5,v6,rfl,ho4,hl4,hb4⟩;dsimp only;obtain⟨X4,c4,Y4,d4,e1,e2,_⟩:=ho4.rows;obtain⟨A6,n6,e3,_,_⟩:=Rd.of_own' hl4;subst e1 e2 e3;have hb14:=hb13.trans (hb4.mono hb13.size);have hC4:=HC3.out.below hb4;obtain⟨W5,hW5,_,hC5,hb5⟩:=Qg w4 26 29 [.slice X4 (zm t cc).1.blobs.length c4,.slice Y4 (zm t cc).1.ents.length d4,.int .i64 t.room,.int .i64 t.clock] [.int .i64 ((zm t cc).2.phase:Int),.slice A6 (zm t cc).2.grey.length n6,.string ⟨(zm t cc).2.at_.toArray⟩];obtain⟨y0,y1⟩:=sqC2 (hC4.below hb5);have z1:=hC5.cell (k:=1) rfl;have hb15:=hb14.trans (hb5.mono hb14.size);rw [hW5]at y0 y1 z1;clear ho4 hl4 hb4 hb13 hb14 hC4 hC5 hb5 HM3 HMS;go_wp2_with fail;go_ret;rw [←hW5];exact⟨by simp,hb15⟩
end Go.Proofs.YtnmlbflhnnmoeaaGreat
namespace Go.Proofs.YtnmlbflhnnmoeaaGreat
open Go.RowKit
noncomputable def Q7 (bl:List BlobP) (ds:List (List UInt8)):List (List UInt8):=(bl.filter (fun b=> @decide (Rch bl ds b.dig) (Classical.propDecidable _))).map (·.dig)
theorem Qu {bl:List BlobP} {ds:List (List UInt8)} {x:List UInt8}:x∈Q7 bl ds↔Rch bl ds x:=by
 unfold Q7;rw [List.mem_map];constructor
 ·rintro⟨b,hb,rfl⟩;exact @of_decide_eq_true _ (Classical.propDecidable _) (List.mem_filter.1 hb).2
 ·intro h;obtain⟨b,hb,rfl⟩:=h.inB;exact⟨b,List.mem_filter.2 ⟨hb, @decide_eq_true _ (Classical.propDecidable _) h⟩,rfl⟩
theorem Qb {bl:List BlobP} (hr:RisesBy (·.dig) bl) (ds:List (List UInt8)):StrL (Q7 bl ds) (Rch bl ds):=by
 have h:Rises (Q7 bl ds):=by
  have:RisesBy (·.dig) (bl.filter (fun b=> @decide (Rch bl ds b.dig) (Classical.propDecidable _))):=List.Pairwise.filter _ hr;exact this.map
 exact⟨h.nodup,XM h,fun x=>Qu⟩
noncomputable def zw (s:StoP) (c:ColP) (ds:List (List UInt8)):StoP×ColP :=
 if c.phase=1 then (s,⟨1,uni (c.grey++ds),c.at_⟩) else if c.phase=2 then ({ s with blobs:=zR s.blobs (Q7 s.blobs ds) },c) else (s,c)
theorem JJ {s:StoP} {c:ColP} {ds:List (List UInt8)} (h:c.phase=0):zw s c ds=(s,c):=by unfold zw;rw [if_neg (by omega),if_neg (by omega)]
theorem z0a {s:StoP} {c:ColP} {ds:List (List UInt8)} (h:c.phase=1):zw s c ds=(s,⟨1,uni (c.grey++ds),c.at_⟩):=by unfold zw;rw [if_pos h]
theorem z06 {s:StoP} {c:ColP} {ds:List (List UInt8)} (h:c.phase=2):zw s c ds=({ s with blobs:=zR s.blobs (Q7 s.blobs ds) },c):=by unfold zw;rw [if_neg (by omega),if_pos h]
theorem VK (s:StoP) (c:ColP) (ds:List (List UInt8)):EqM s.blobs (zw s c ds).1.blobs:=by
 unfold zw;split
 ·exact EqM.rfl_ _
 ·split
  ·exact uf _ _
  ·exact EqM.rfl_ _
theorem yw (s:StoP) (c:ColP) (ds:List (List UInt8)):(zw s c ds).1= { s with blobs:=(zw s c ds).1.blobs }:=by
 unfold zw;split
 ·rfl
 ·split<;>rfl
theorem vU {s:StoP} (c:ColP) (ds:List (List UInt8)) (hg:GoodS s):GoodS (zw s c ds).1:=by
 rw [yw];exact xW (VK s c ds) hg
theorem YU {bl:List BlobP} {L:List (List UInt8)} {x:List UInt8}:x∈mkd (zR bl L)↔x∈mkd bl∨(x∈L∧InB bl x):=by
 rw [qo,qo];unfold zR;constructor
 ·rintro⟨b,hb,hm,rfl⟩;obtain⟨a,ha,rfl⟩:=List.mem_map.1 hb;by_cases h:a.dig∈L
  ·rw [if_pos h];exact .inr ⟨h,a,ha,rfl⟩
  ·rw [if_neg h]at hm ⊢;exact .inl ⟨a,ha,hm,rfl⟩
 ·rintro(⟨b,hb,hm,rfl⟩ | ⟨hx,b,hb,rfl⟩)
  ·refine⟨_,List.mem_map.2 ⟨b,hb,rfl⟩,?_,?_⟩<;>split<;>first | rfl | exact hm
  ·exact⟨_,List.mem_map.2 ⟨b,hb,rfl⟩,by rw [if_pos hx],by rw [if_pos hx]⟩
theorem xF {s t:StoP} {c:ColP} {ds:List (List UInt8)} (hc:GoodC s c) (hr:RisesBy (·.dig) s.blobs) (hr':RisesBy (·.dig) t.blobs)
  (hh:∀d∈ds,hexC d=0) (hrt:∀x∈rts t,x∈rts s∨x∈ds)
  (hin:∀x,InB t.blobs x→InB s.blobs x∨x∈ds)
  (hmk:∀x,x∈mkd t.blobs↔x∈mkd s.blobs)
  (hkd:∀x,InB s.blobs x→kids t.blobs x=kids s.blobs x):GoodC (zw t c ds).1 (zw t c ds).2:=by
 by_cases h1:c.phase=1
 ·rw [z0a h1];refine⟨by show 1≤2;omega,fun d hd=> ?_,kO _,hc.ah,fun h=>absurd rfl h,fun _=>hc.a0 (by omega),fun _ x hx hb=> ?_,fun _ b hb hm x hx hi=> ?_,fun h=>by cases h⟩
  ·rcases List.mem_append.1 (qS.1 hd) with h | h
   ·exact hc.gh d h
   ·exact hh d h
  ·show x∈mkd t.blobs∨x∈uni (c.grey++ds);rw [qS,List.mem_append];rcases hrt x hx with h | h
   ·rcases hin x hb with h2 | h2
    ·rcases hc.mr h1 x h h2 with h3 | h3
     ·exact .inl ((hmk x).2 h3)
     ·exact .inr (.inl h3)
    ·exact .inr (.inr h2)
   ·exact .inr (.inr h)
  ·show x∈mkd t.blobs∨x∈uni (c.grey++ds);rw [qS,List.mem_append];have hbm:b.dig∈mkd s.blobs:=(hmk _).1 (qo.2 ⟨b,hb,hm,rfl⟩);obtain⟨b',hb',hm',e⟩:=qo.1 hbm;have hx':x∈kids s.blobs b'.dig:=by
    have h2:=hkd b'.dig ⟨b',hb',rfl⟩;rw [←h2,e];exact hx
   rcases hin x hi with h2 | h2
   ·rcases hc.mb h1 b' hb' hm' x hx' h2 with h3 | h3
    ·exact .inl ((hmk x).2 h3)
    ·exact .inr (.inl h3)
   ·exact .inr (.inr h2)
 ·by_cases h2:c.phase=2
  ·rw [z06 h2];have hg0:=hc.g0 h1;refine⟨hc.ph,hc.gh,hc.ris,hc.ah,hc.g0,hc.a0,fun h=>absurd h h1,fun h=>absurd h h1,fun _ x hx=> ?_⟩;show x∈mkd (zR t.blobs (Q7 t.blobs ds));have hE:EqM t.blobs (zR t.blobs (Q7 t.blobs ds)):=uf _ _;have hx':Rch t.blobs (rts t) x:=by
    have:Rch (zR t.blobs (Q7 t.blobs ds)) (rts { t with blobs:=zR t.blobs (Q7 t.blobs ds) }) x:=hx;rw [yD hE,uh hE]at this;exact this
   clear hx;rw [YU];have key:Rch s.blobs (rts s) x∨Rch t.blobs ds x:=by
    induction hx' with
    | @root x h3 h4 =>
     rcases hrt x h3 with h | h
     ·rcases hin x h4 with h5 | h5
      ·exact .inl (.root h h5)
      ·exact .inr (.root h5 h4)
     ·exact .inr (.root h h4)
    | @step x y h3 h4 h5 ih =>
     rcases ih with ih | ih
     ·rw [hkd x ih.inB]at h4;rcases hin y h5 with h6 | h6
      ·exact .inl (.step ih h4 h6)
      ·exact .inr (.root h6 h5)
     ·exact .inr (.step ih h4 h5)
   rcases key with h | h
   ·exact .inl ((hmk x).2 (hc.sw h2 x h))
   ·exact .inr ⟨Qu.2 h,h.inB⟩
  ·have h0:c.phase=0:=by have:=hc.ph;omega
   rw [JJ h0];exact⟨hc.ph,hc.gh,hc.ris,hc.ah,hc.g0,hc.a0,fun h=>absurd h h1,fun h=>absurd h h1,fun h=>absurd h h2⟩
theorem vt (s:StoP) (c:ColP) (ds:List (List UInt8)):8*unm (zw s c ds).1.blobs+(zw s c ds).2.grey.length≤8*unm s.blobs+c.grey.length+ds.length:=by
 unfold zw;split
 ·have:=vR (c.grey++ds);rw [List.length_append]at this;show 8*unm s.blobs+(uni (c.grey++ds)).length≤_;omega
 ·split
  ·have h:unm (zR s.blobs (Q7 s.blobs ds))≤unm s.blobs:=by
    unfold unm zR;generalize Q7 s.blobs ds=L;generalize s.blobs=bl
    induction bl with
    | nil=>exact Nat.le_refl _
    | cons b bl ih =>
     rw [List.map_cons,List.filter_cons,List.filter_cons];by_cases hb:b.dig∈L
     ·rw [if_pos hb];cases hm:b.mark with
      | true=>simpa [hm] using ih
      | false=>simp only [hm];simp;omega
     ·rw [if_neg hb];cases hm:b.mark with
      | true=>simpa [hm] using ih
      | false=>simpa [hm] using ih
   show 8*unm (zR s.blobs _)+c.grey.length≤_;omega
  ·show 8*unm s.blobs+c.grey.length≤_;omega
end Go.Proofs.YtnmlbflhnnmoeaaGreat
namespace Go.Proofs.YtnmlbflhnnmoeaaGreat
open Go.RowKit Go.Maps
theorem Vj (A:Option Addr) (c:Nat) (B:Option Addr) (d:Nat) (s:StoP) (Ag:Option Addr) (ng:Nat) (cp:ColP) (w:World) (hg:GoodS s) (hr:RdSt w A c B d s) (hp:cp.phase=2) (hgc:GoodC s cp) :
  Calls Tryz.prog 129 #[.agg #[.slice A s.blobs.length c,.slice B s.ents.length d,.int .i64 s.room,.int .i64 s.clock],coV (.slice Ag cp.grey.length ng) cp] w fun e w' =>
   ∃v1 v2,e= .returned (.tuple #[stV v1 v2 s,coV (.slice none 0 0) (zZ s cp).2.1,.string ⟨(zZ s cp).2.2.toArray⟩,.int .i64 0])∧OwSt w' w.heap.size v1 v2 (zZ s cp).1 (fun b=>b<w.heap.size)∧Below w.heap.size w w':=by
 have hlb:s.blobs.length≤24:=hg.b.len;have hle:s.ents.length≤10:=hg.e.len;have HGD:=sqH hg;have HSW:=sqH (hgc.sw hp);obtain⟨phase,grey,at_⟩:=cp;simp only at hp;subst hp;clear hgc;obtain⟨w0,hw0,hS,hC,hR,hD,hb0⟩:=zU w 26 29 [.slice A s.blobs.length c,.slice B s.ents.length d,.int .i64 s.room,.int .i64 s.clock] [.int .i64 2,.slice Ag grey.length ng,.string ⟨at_.toArray⟩] [.slice none 0 0,.slice none 0 0,.int .i64 0,.int .i64 0] [.int .i64 0,.slice none 0 0,.string ⟨#[]⟩];have hr0:=hr.below hb0;obtain⟨H,hH⟩:∃H,H=w.heap.size:=⟨_,rfl⟩
 have HCK:=sqH (zF A c B d s w0 hg hr0);rw [←hH]at hS hC hR hD hb0 ⊢
 have hHl:H+1+1+1<w0.heap.size:=hD.lt;obtain⟨x0,x1,x2,x3⟩:=sqC4 hS;rw [hw0,hH]at x0 x1 x2 x3;have HPL:=sqH (show ∀b∈s.blobs,b.data.length≤1000000 from fun b hb=>by have:=(hg.b.one b hb).2.1;omega);have HQL:=sqH (show ∀x∈s.ents,x.parts.length≤1000000 from fun x hx=>by have:=(zj (hg.e.one x hx).2.1).1;omega);clear hg hr;go_enter Tryz.func129,Tryz.ntmps129;go_wp2_with fail;rw [←hw0,←hH];have HH:=sqH hH;clear hw0 hH x0 x1 x2 x3;refine HCK.out.mono ?_;rintro e_ w1 ⟨rfl,hb1⟩;dsimp only;have hr1:=hr0.below hb1;have hS1:=hS.below hb1;obtain⟨z0,z1,z2,z3⟩:=sqC4 hS1;have x0:=(hC.below hb1).cell (k:=0) rfl;have HCP:=sqH (qe A c B d s w1 (by omega) (by omega) HPL.out HQL.out hr1);clear HCK;go_wp2_with fail;clear z0 z1 z2 z3 x0;refine HCP.out.mono ?_;rintro e_ w3 ⟨q1,q2,rfl,ho3,hb3⟩;dsimp only;have hc3:=hb1.trans (hb3.mono hb1.size);have ho3:=ho3.lower (base':=w0.heap.size) hb1.size;obtain⟨G,hG⟩:∃G,G=w3.heap.size:=⟨_,rfl⟩
 have hba:=(Below.refl w3.heap.size w3).alloc (Nat.le_refl _) (.cells #[.slice (some ⟨q1,0,none⟩) s.blobs.length s.blobs.length,.slice (some ⟨q2,0,none⟩) s.ents.length s.ents.length,.int .i64 s.room,.int .i64 s.clock] 26);have hX:Arr (w3.alloc (.cells #[.slice (some ⟨q1,0,none⟩) s.blobs.length s.blobs.length,.slice (some ⟨q2,0,none⟩) s.ents.length s.ents.length,.int .i64 s.room,.int .i64 s.clock] 26)) G 26 [.slice (some ⟨q1,0,none⟩) s.blobs.length s.blobs.length,.slice (some ⟨q2,0,none⟩) s.ents.length s.ents.length,.int .i64 s.room,.int .i64 s.clock]:=by rw [hG];exact Arr.new w3 26 _
 have ho:OwSt (w3.alloc (.cells #[.slice (some ⟨q1,0,none⟩) s.blobs.length s.blobs.length,.slice (some ⟨q2,0,none⟩) s.ents.length s.ents.length,.int .i64 s.room,.int .i64 s.clock] 26)) w0.heap.size (.slice (some ⟨q1,0,none⟩) s.blobs.length s.blobs.length) (.slice (some ⟨q2,0,none⟩) s.ents.length s.ents.length) s (fun b=>b<w0.heap.size∨b=G) :=
  (ho3.wider fun b hb=>by
   rcases hb with hb | hb
   ·exact .inl (Nat.lt_of_lt_of_le hb hb1.size)
   ·exact .inr (by rw [hb,hG];exact Nat.le_refl _)).below hba
 have hbk:=hc3.trans (hba.mono hc3.size);have hGL:w0.heap.size≤G:=by rw [hG];exact hc3.size
 have HG:=sqH hG;have x0:=(hS.below hbk).cell (k:=0) rfl;have x2:=(hC.below hbk).cell (k:=2) rfl;have hr4:=hr0.below hbk;have HNX:=sqH (UL A c s.blobs at_ _ (by omega) hr4.b);clear hG ho3 hb3 hr1 HCP hba hb1 hS1 hc3;go_wp2_with fail;rw [←HG.out];clear x0 x2;generalize (w3.alloc (.cells #[.slice (some ⟨q1,0,none⟩) s.blobs.length s.blobs.length,.slice (some ⟨q2,0,none⟩) s.ents.length s.ents.length,.int .i64 s.room,.int .i64 s.clock] 26))=w4 at *
 refine HNX.out.mono ?_;rintro e_ w5 ⟨rfl,hb5⟩;dsimp only;have hX:=hX.below hb5;have ho:=ho.below hb5;have hbk:=hbk.trans (hb5.mono hbk.size);clear hb5 HNX;rcases zV s ⟨2,grey,at_⟩ with ⟨hf,hs⟩ | ⟨i,hi,hf,hm,hs⟩ | ⟨i,hi,hf,hm,hs⟩
 ·have hf':s.blobs.findIdx? (fun b=>Op.bytesLess at_ b.dig)=none:=hf;rw [hf',jN];have HSS:=sqH hs;have hR:=hR.below hbk;have hD:=hD.below hbk;have hB:=hb0.trans (hbk.mono (show H≤w0.heap.size by omega));clear hf hf' hs hr4;have hF1:=sqH (zW (g:=H+1+1) (h:=H+1+1+1) (u0:=(.slice (some ⟨q1,0,none⟩) s.blobs.length s.blobs.length)) (u1:=(.slice (some ⟨q2,0,none⟩) s.ents.length s.ents.length)) (u2:= .int .i64 s.room) (u3:= .int .i64 s.clock) (x0:= .int .i64 0) (x1:= .slice none 0 0) (x2:= .string ⟨#[]⟩) hR (by omega));have hF2:=sqH (zY (g:=H+1+1) (h:=H+1+1+1) (u0:=(.slice (some ⟨q1,0,none⟩) s.blobs.length s.blobs.length)) (u1:=(.slice (some ⟨q2,0,none⟩) s.ents.length s.ents.length)) (u2:= .int .i64 s.room) (u3:= .int .i64 s.clock) (x0:= .int .i64 0) (x1:= .slice none 0 0) (x2:= .string ⟨#[]⟩) hD (by omega));have hF3:=sqH (zT (g:=H+1+1) (h:=H+1+1+1) (u0:=(.slice (some ⟨q1,0,none⟩) s.blobs.length s.blobs.length)) (u1:=(.slice (some ⟨q2,0,none⟩) s.ents.length s.ents.length)) (u2:= .int .i64 s.room) (u3:= .int .i64 s.clock) (x0:= .int .i64 0) (x1:= .slice none 0 0) (x2:= .string ⟨#[]⟩) ho (.inl (by omega)) (.inl (by omega)) (ho.nb hR (by decide) (by decide)).1 (ho.nb hR (by decide) (by decide)).2 (ho.nb hD (by decide) (by decide)).1 (ho.nb hD (by decide) (by decide)).2);have hF5:=sqH (zq (g:=H+1+1) (h:=H+1+1+1) (u0:=(.slice (some ⟨q1,0,none⟩) s.blobs.length s.blobs.length)) (u1:=(.slice (some ⟨q2,0,none⟩) s.ents.length s.ents.length)) (u2:= .int .i64 s.room) (u3:= .int .i64 s.clock) (x0:= .int .i64 0) (x1:= .slice none 0 0) (x2:= .string ⟨#[]⟩) hB (by omega) (by omega));obtain⟨f0,f1,f2,f3⟩:=sqF4 hR;obtain⟨y0,y1,y2,y3⟩:=sqC4 hR;obtain⟨e0,e1,e2⟩:=sqF3 hD;obtain⟨x0,x1,x2⟩:=sqC3 hD;obtain⟨b0,b1,b2,b3⟩:=sqC4 hX;clear hR hD ho hB hX hbk hb0 hS hC;go_wp2_with fail;refine bodyPost_ret (zK rfl _ _ (H+1+1) (H+1+1+1) _ _ _ _ _ _ _ _ (by rfl) hF1.out Tryz.underlying26 rfl (by kernel_rfl) (by rfl) hF2.out Tryz.underlying29 rfl (by kernel_rfl)) rfl ?_;rw [HSS.out];exact⟨_,_,rfl,(hF3.out.lower (by omega)).mono (fun b hb=> .inl (by omega)),hF5.out⟩
 ·have hf':s.blobs.findIdx? (fun b=>Op.bytesLess at_ b.dig)=some i:=hf;rw [hf',jN];have HSS:=sqH hs;obtain⟨bq,oq,Bq,cq,eq,hbq,d0,d1,d2,d3,hsl⟩:=(hr0.below hbk).b.blob_at i hi;subst eq;have hi0:(0:Int)≤(i:Int):=by omega
  have hi1:(i:Int)<(s.blobs.length:Int):=by omega
  have hdg:s.blobs[i].dig=s.blobs[i].dig:=rfl;rw [hm]at d3;have z0:=(hS.below hbk).cell (k:=0) rfl;generalize hqq:s.blobs[i]=q at *
  obtain⟨gb,hgb⟩:∃g,g=w5.heap.size:=⟨_,rfl⟩
  have hba:=(Below.refl w5.heap.size w5).alloc (Nat.le_refl _) (.cells #[.string ⟨q.dig.toArray⟩,.slice Bq q.data.length cq,.int .i64 q.pins,.bool true] 63);have hbb:Arr (w5.alloc (.cells #[.string ⟨q.dig.toArray⟩,.slice Bq q.data.length cq,.int .i64 q.pins,.bool true] 63)) gb 63 [.string ⟨q.dig.toArray⟩,.slice Bq q.data.length cq,.int .i64 q.pins,.bool true]:=by rw [hgb];exact Arr.new w5 63 _
  have hgb5:w0.heap.size≤gb:=by rw [hgb];exact hbk.size
  have hX:=hX.below hba;have ho:=ho.below hba;have hbk:=hbk.trans (hba.mono hbk.size);have hR:=hR.below hbk;have hD:=hD.below hbk;have hB:=hb0.trans (hbk.mono (show H≤w0.heap.size by omega));have HGB:=sqH hgb;have p0:=hbb.cell (k:=0) rfl;have p3:=hbb.cell (k:=3) rfl;rw [hgb]at p0 p3;clear hf hf' hs hr4 hsl hbq hdg hgb hba hm hqq hbb
  repeat' ((fail_if_success (with_reducible refine at_reg_ 12 ?_));(fail_if_success (with_reducible refine at_sreg_ 12 ?_));(fail_if_success (with_reducible refine at_ssreg_ 12 ?_));(fail_if_success at_builtin);(fail_if_success at_make);(first | go_values | go_skip | go_guarded | go_step | go_upon | go_back))
  rw [←HGB.out];rw [←HGB.out]at p0 p3;clear d0 d1 d2 d3 z0;generalize (w5.alloc (.cells #[.string ⟨q.dig.toArray⟩,.slice Bq q.data.length cq,.int .i64 q.pins,.bool true] 63))=w6 at *
  have n1:¬(gb=H+1+1):=by omega
  have n2:¬(G=H+1+1):=by omega
  have hF1:=sqH (zW (g:=H+1+1) (h:=H+1+1+1) (u0:=(.slice (some ⟨q1,0,none⟩) s.blobs.length s.blobs.length)) (u1:=(.slice (some ⟨q2,0,none⟩) s.ents.length s.ents.length)) (u2:= .int .i64 s.room) (u3:= .int .i64 s.clock) (x0:= .int .i64 2) (x1:= .slice none 0 0) (x2:= .string ⟨q.dig.toArray⟩) hR (by omega));have hF2:=sqH (zY (g:=H+1+1) (h:=H+1+1+1) (u0:=(.slice (some ⟨q1,0,none⟩) s.blobs.length s.blobs.length)) (u1:=(.slice (some ⟨q2,0,none⟩) s.ents.length s.ents.length)) (u2:= .int .i64 s.room) (u3:= .int .i64 s.clock) (x0:= .int .i64 2) (x1:= .slice none 0 0) (x2:= .string ⟨q.dig.toArray⟩) hD (by omega));have hF3:=sqH (zT (g:=H+1+1) (h:=H+1+1+1) (u0:=(.slice (some ⟨q1,0,none⟩) s.blobs.length s.blobs.length)) (u1:=(.slice (some ⟨q2,0,none⟩) s.ents.length s.ents.length)) (u2:= .int .i64 s.room) (u3:= .int .i64 s.clock) (x0:= .int .i64 2) (x1:= .slice none 0 0) (x2:= .string ⟨q.dig.toArray⟩) ho (.inl (by omega)) (.inl (by omega)) (ho.nb hR (by decide) (by decide)).1 (ho.nb hR (by decide) (by decide)).2 (ho.nb hD (by decide) (by decide)).1 (ho.nb hD (by decide) (by decide)).2);have hF5:=sqH (zq (g:=H+1+1) (h:=H+1+1+1) (u0:=(.slice (some ⟨q1,0,none⟩) s.blobs.length s.blobs.length)) (u1:=(.slice (some ⟨q2,0,none⟩) s.ents.length s.ents.length)) (u2:= .int .i64 s.room) (u3:= .int .i64 s.clock) (x0:= .int .i64 2) (x1:= .slice none 0 0) (x2:= .string ⟨q.dig.toArray⟩) hB (by omega) (by omega));obtain⟨f0,f1,f2,f3⟩:=sqF4 hR;obtain⟨y0,y1,y2,y3⟩:=sqC4 hR;obtain⟨e0,e1,e2⟩:=sqF3 hD;obtain⟨x0,x1,x2⟩:=sqC3 hD;obtain⟨b0,b1,b2,b3⟩:=sqC4 hX;clear hR hD ho hB hX hbk hb0 hS hC;go_region
  all_goals (try dsimp only [Exit.then])
  go_wp2_with fail;refine bodyPost_ret (zK rfl _ _ (H+1+1) (H+1+1+1) _ _ _ _ _ _ _ _ (by rfl) (Arr.drew hF1.out) Tryz.underlying26 rfl (by kernel_rfl) (by rfl) (Arr.drew hF2.out) Tryz.underlying29 rfl (by kernel_rfl)) rfl ?_;rw [HSS.out];exact⟨_,_,rfl,(hF3.out.drewX.lower (by omega)).mono (fun b hb=> .inl (by omega)),hF5.out.drew⟩
 ·have hf':s.blobs.findIdx? (fun b=>Op.bytesLess at_ b.dig)=some i:=hf;rw [hf',jN];have HSS:=sqH hs;have hn:=Q0 HGD.out hi hm HSW.out;have HPZ:=sqH (jT HGD.out hi hn);have HGE:=sqH (jY HGD.out hi hn);obtain⟨bq,oq,Bq,cq,eq,hbq,d0,d1,d2,d3,hsl⟩:=(hr0.below hbk).b.blob_at i hi;subst eq;have hi0:(0:Int)≤(i:Int):=by omega
  have hi1:(i:Int)<(s.blobs.length:Int):=by omega
  rw [hm]at d3;have z0:=(hS.below hbk).cell (k:=0) rfl;generalize hqq:s.blobs[i]=q at *
  obtain⟨gb,hgb⟩:∃g,g=w5.heap.size:=⟨_,rfl⟩
  have hba:=(Below.refl w5.heap.size w5).alloc (Nat.le_refl _) (.cells #[.string ⟨q.dig.toArray⟩,.slice Bq q.data.length cq,.int .i64 q.pins,.bool false] 63);have hbb:Arr (w5.alloc (.cells #[.string ⟨q.dig.toArray⟩,.slice Bq q.data.length cq,.int .i64 q.pins,.bool false] 63)) gb 63 [.string ⟨q.dig.toArray⟩,.slice Bq q.data.length cq,.int .i64 q.pins,.bool false]:=by rw [hgb];exact Arr.new w5 63 _
  have hgb5:w0.heap.size≤gb:=by rw [hgb];exact hbk.size
  have hnq:q1≠gb:=fun e=>by have h:=(ho.b.rwo.blk rfl).2;rw [hgb]at e;exact absurd (e▸h) (Nat.lt_irrefl _)
  have xx0:=hX.cell (k:=0) rfl;have hGlt:=hX.lt;have hX:=hX.below hba;have ho:=ho.below hba;have hbk:=hbk.trans (hba.mono hbk.size);have p3:=hbb.cell (k:=3) rfl;rw [hgb]at p3;have x0:=hX.cell (k:=0) rfl;have hw1:IntKind.i64.wrap ((i:Int)+1)=(i:Int)+1:=IntWalk.i64_in _ (by omega);have HDL:=sqH (Jw q1 i s.blobs w0.heap.size s.blobs.length _ _ hi ho.b);have HGB:=sqH hgb;clear hf hf' hs hr4 hsl hbq hba hm hqq hgb;go_wp2_with fail;rw [←HGB.out];clear d0 d1 d2 d3 z0 p3 x0 xx0;generalize (w5.alloc (.cells #[.string ⟨q.dig.toArray⟩,.slice Bq q.data.length cq,.int .i64 q.pins,.bool false] 63))=w6 at *
  refine HDL.out.mono ?_;rintro e_ w7 ⟨rfl,hx7,hg7⟩;dsimp only;have hne:=(ho.nb hX (by decide) (by decide)).1;have hne2:=(ho.nb hX (by decide) (by decide)).2;have ho7:=ho.turnB hx7 hg7 rfl;have hX7:=hX.grown hg7 hne;have hbb7:=hbb.grown hg7 (fun e=>by injection e with e;exact hnq e);have hbk7:=hbk.grown hg7 hbk.size (fun b e=>by cases e;exact(ho.b.rwo.blk rfl).1);have f0:=hX7.frozen 0;have x0:=hX7.cell (k:=0) rfl;have hX:=hX7.set (k:=0) (by simp) (.slice (some ⟨q1,0,none⟩) (s.blobs.eraseIdx i).length s.blobs.length);have ho:=ho7.setX (g:=G) (k:=0) (.inr rfl) hne hne2 (.slice (some ⟨q1,0,none⟩) (s.blobs.eraseIdx i).length s.blobs.length);have hbb:=hbb7.other (k:=0) (show gb≠G from Qs hbb7 hX7 (by decide)) (.slice (some ⟨q1,0,none⟩) (s.blobs.eraseIdx i).length s.blobs.length);have hbk:=hbk7.setCell (p:=⟨G,0,none⟩) hGL (.slice (some ⟨q1,0,none⟩) (s.blobs.eraseIdx i).length s.blobs.length);simp only [List.set_cons_zero]at hX;have g1:decide ((q.pins:Int)>0)=false:=decide_eq_false (by have:=HPZ.out;omega);have g2:decide ((0:Int)<(q.pins:Int))=false:=decide_eq_false (by have:=HPZ.out;omega);have g3:decide (0<q.pins)=false:=decide_eq_false (by have:=HPZ.out;omega);have p2:=hbb.cell (k:=2) rfl;have x1:=hX7.cell (k:=1) rfl;have x2:=hX7.cell (k:=2) rfl;have x3:=hX7.cell (k:=3) rfl;obtain⟨A9,c9,B9,d9,e1,e2,hrd9⟩:=ho.rows;injection e1 with e11 e12 e13;injection e2 with e21 e22 e23;subst e11 e13 e21 e23;clear e12 e22;have hck:=zF (some ⟨q1,0,none⟩) s.blobs.length (some ⟨q2,0,none⟩) s.ents.length { s with blobs:=s.blobs.eraseIdx i } _ HGE.out hrd9;have HCK:=sqH hck;have p0:=hbb.cell (k:=0) rfl;clear hx7 hg7 hne hne2 ho7 hX7 hbb7 hbk7 hck hrd9 HDL;go_wp2_with fail;clear f0 x0 x1 x2 x3 p2 p0;generalize (w7.setCell ⟨G,0,none⟩ (.slice (some ⟨q1,0,none⟩) (s.blobs.eraseIdx i).length s.blobs.length))=w8 at *
  refine HCK.out.mono ?_;rintro e_ w9 ⟨rfl,hb9⟩;dsimp only;have hX:=hX.below hb9;have ho:=ho.below hb9;have hbb:=hbb.below hb9;have hbk:=hbk.trans (hb9.mono hbk.size);have hR:=hR.below hbk;have hD:=hD.below hbk;have hB:=hb0.trans (hbk.mono (show H≤w0.heap.size by omega));have p0:=hbb.cell (k:=0) rfl;have n1:¬(gb=H+1+1):=by omega
  have n2:¬(G=H+1+1):=by omega
  clear hb9 hbb HCK
  repeat' ((fail_if_success (with_reducible refine at_reg_ 16 ?_));(fail_if_success (with_reducible refine at_sreg_ 16 ?_));(fail_if_success (with_reducible refine at_ssreg_ 16 ?_));(fail_if_success at_builtin);(fail_if_success at_make);(first | go_values | go_skip | go_guarded | go_step | go_upon | go_back))
  have hF1:=sqH (zW (g:=H+1+1) (h:=H+1+1+1) (u0:=(.slice (some ⟨q1,0,none⟩) (s.blobs.eraseIdx i).length s.blobs.length)) (u1:=(.slice (some ⟨q2,0,none⟩) s.ents.length s.ents.length)) (u2:= .int .i64 s.room) (u3:= .int .i64 s.clock) (x0:= .int .i64 2) (x1:= .slice none 0 0) (x2:= .string ⟨q.dig.toArray⟩) hR (by omega));have hF2:=sqH (zY (g:=H+1+1) (h:=H+1+1+1) (u0:=(.slice (some ⟨q1,0,none⟩) (s.blobs.eraseIdx i).length s.blobs.length)) (u1:=(.slice (some ⟨q2,0,none⟩) s.ents.length s.ents.length)) (u2:= .int .i64 s.room) (u3:= .int .i64 s.clock) (x0:= .int .i64 2) (x1:= .slice none 0 0) (x2:= .string ⟨q.dig.toArray⟩) hD (by omega));have hF3:=sqH (zT (g:=H+1+1) (h:=H+1+1+1) (u0:=(.slice (some ⟨q1,0,none⟩) (s.blobs.eraseIdx i).length s.blobs.length)) (u1:=(.slice (some ⟨q2,0,none⟩) s.ents.length s.ents.length)) (u2:= .int .i64 s.room) (u3:= .int .i64 s.clock) (x0:= .int .i64 2) (x1:= .slice none 0 0) (x2:= .string ⟨q.dig.toArray⟩) ho (.inl (by omega)) (.inl (by omega)) (ho.nb hR (by decide) (by decide)).1 (ho.nb hR (by decide) (by decide)).2 (ho.nb hD (by decide) (by decide)).1 (ho.nb hD (by decide) (by decide)).2);have hF5:=sqH (zq (g:=H+1+1) (h:=H+1+1+1) (u0:=(.slice (some ⟨q1,0,none⟩) (s.blobs.eraseIdx i).length s.blobs.length)) (u1:=(.slice (some ⟨q2,0,none⟩) s.ents.length s.ents.length)) (u2:= .int .i64 s.room) (u3:= .int .i64 s.clock) (x0:= .int .i64 2) (x1:= .slice none 0 0) (x2:= .string ⟨q.dig.toArray⟩) hB (by omega) (by omega));obtain⟨f0,f1,f2,f3⟩:=sqF4 hR;obtain⟨y0,y1,y2,y3⟩:=sqC4 hR;obtain⟨e0,e1,e2⟩:=sqF3 hD;obtain⟨x0,x1,x2⟩:=sqC3 hD;obtain⟨b0,b1,b2,b3⟩:=sqC4 hX;clear hR hD ho hB hX hbk hb0 hS hC;go_region
  all_goals (try dsimp only [Exit.then])
  go_wp2_with fail;refine bodyPost_ret (zK rfl _ _ (H+1+1) (H+1+1+1) _ _ _ _ _ _ _ _ (by rfl) (Arr.drew hF1.out) Tryz.underlying26 rfl (by kernel_rfl) (by rfl) (Arr.drew hF2.out) Tryz.underlying29 rfl (by kernel_rfl)) rfl ?_;rw [HSS.out];exact⟨_,_,rfl,(hF3.out.drewX.lower (by omega)).mono (fun b hb=> .inl (by omega)),hF5.out.drew⟩
def YF (w:World) (l:List (List UInt8)) (f:FuncId) (x:Value) (p:List UInt8→Bool):Prop :=
 (∀args W,(callFunc f args).run Tryz.prog W= .ok (.enter f args) W)∧∀(b:List UInt8) (W:World),b∈l→Below w.heap.size w W →
  Calls Tryz.prog f #[.string ⟨b.toArray⟩,x] W fun e w'=>e= .returned (.bool (p b))∧Below W.heap.size W w'
theorem KG (A:Option Addr) (c:Nat) (l:List (List UInt8)) (f:FuncId) (x:Value) (p:List UInt8→Bool) (w:World) (hl:l.length≤1000000) (hA:Rd w 1 A l.length (strs l)) (HC:YF w l f x p) :
  Calls Tryz.prog 131 #[.slice A l.length c,.func (.func f) #[] #[x]] w fun e w'=>e= .returned (.int .i64 (plc (l.findIdx? p)))∧Below w.heap.size w w':=by
 obtain⟨hcf,hcc0⟩:=HC;have HCC:=sqH hcc0;clear hcc0;generalize hR:l.findIdx? p=R;have HR:=sqH hR;clear hR;go_enter Tryz.func131,Tryz.ntmps131;go_wp2_with fail;go_loopg [5,8] l.length (fun gn u i wr=>∃j:Nat,gn=l.length - j∧i= .int .i64 j∧j≤l.length∧(∀k (h:k<l.length),k<j→p l[k]=false)∧Below w.heap.size w wr)
 case atStart=>exact⟨0,rfl,rfl,by omega,fun k _ h=>absurd h (by omega),Below.refl _ _⟩
 case round =>
  obtain⟨j,hgk,rfl,hj,hno,hbl⟩:=hrel;have HGK:=sqH hgk;have HNO:=sqH hno;clear hgk hno;by_cases hlt:j<l.length
  ·have hcc:decide (j<l.length)=true:=decide_eq_true hlt;obtain⟨b,off,hAb,_,hcell⟩:=(hA.below hbl).2 (by omega);subst hAb;have c0:=hcell j _ (qU l j hlt);have hcl:=HCC.out l[j] wr (List.getElem_mem hlt) hbl;have hj0:(0:Int)≤(j:Int):=by omega
   have hj1:(j:Int)<(l.length:Int):=by omega
   cases hp:p l[j] with
   | true =>
    have HF:=sqH (show R=some j by
     rw [←HR.out,List.findIdx?_eq_some_iff_getElem];exact⟨hlt,hp,fun k hk=>by rw [HNO.out k (by omega) hk];simp⟩)
    rw [hp]at hcl;have HCL:=sqH hcl;clear hp hcl hcell;generalize l[j]=bl at *
    go_wp2_with fail;refine HCL.out.mono ?_;rintro e_ w5 ⟨rfl,hb5⟩;dsimp only;have hb05:=hbl.trans (hb5.mono hbl.size);go_wp2_with fail;go_ret;rw [HF.out];exact⟨rfl,hb05⟩
   | false =>
    have HN:=sqH (show ∀k (h:k<l.length),k<j+1→p l[k]=false from fun k h hk=>by
     rcases Nat.lt_or_ge k j with h1 | h1
     ·exact HNO.out k h h1
     ·have:k=j:=by omega
      subst this;exact hp)
    rw [hp]at hcl;have HCL:=sqH hcl;clear hp hcl hcell;generalize l[j]=bl at *
    go_wp2_with fail;refine HCL.out.mono ?_;rintro e_ w5 ⟨rfl,hb5⟩;dsimp only;have hb05:=hbl.trans (hb5.mono hbl.size);go_wp2_with fail;go_roundg (l.length - (j+1))
    case measure=>have:=HGK.out;omega
    case rel=>exact⟨j+1,rfl,by go_num,by omega,HN.out,hb05⟩
  ·obtain rfl:j=l.length:=by omega
   have hcc:decide (l.length<l.length)=false:=by simp
   have HF:=sqH (show R=none by
    rw [←HR.out,List.findIdx?_eq_none_iff];intro x hx;obtain⟨k,hk,rfl⟩:=List.mem_iff_getElem.1 hx;exact HNO.out k hk hk)
   go_wp2_with fail;go_ret;rw [HF.out];exact⟨rfl,hbl⟩
theorem UT (A:Option Addr) (c:Nat) (l:List (List UInt8)) (f:FuncId) (x:Value) (p:List UInt8→Bool) (w:World) (hl:l.length≤1000000) (hA:Rd w 1 A l.length (strs l)) (HC:YF w l f x p) :
  Calls Tryz.prog 133 #[.slice A l.length c,.func (.func f) #[] #[x]] w fun e w'=>e= .returned (.bool (l.any p))∧Below w.heap.size w w':=by
 have hI:=KG A c l f x p w hl hA HC;clear HC;have HI:=sqH hI;clear hI;have hany:l.any p=(l.findIdx? p).isSome:=by rw [List.findIdx?_isSome]
 rw [hany];cases hf:l.findIdx? p with
 | none =>
  rw [hf]at HI;go_enter Tryz.func133,Tryz.ntmps133;go_wp2_with fail;refine HI.out.mono ?_;rintro e_ w1 ⟨rfl,hb1⟩;dsimp only;go_wp2_with fail;go_ret;exact⟨rfl,hb1⟩
 | some i =>
  rw [hf]at HI;have hi:decide ((i:Int)≥0)=true:=decide_eq_true (by omega);have hi2:decide ((0:Int)≤(i:Int))=true:=decide_eq_true (by omega);go_enter Tryz.func133,Tryz.ntmps133;go_wp2_with fail;refine HI.out.mono ?_;rintro e_ w1 ⟨rfl,hb1⟩;dsimp only;go_wp2_with fail;go_ret;exact⟨rfl,hb1⟩
theorem YM (gk:Nat) (B:Option Addr) (d:Nat) (M l:List (List UInt8)) (w:World) (hk:w.cell? ⟨gk,0,none⟩=some (.slice B M.length d)) (hg:gk<w.heap.size) (hM:M.length≤1000000) (hB:Rd w 1 B M.length (strs M)):YF w l 134 (.pointer (some ⟨gk,0,none⟩)) (fun s=> !decide (s∈M)):=by
 refine⟨fun _ _=>by kernel_rfl,fun b W hb hbel=> ?_⟩;have hk0:W.cell? ⟨gk,0,none⟩=some (.slice B M.length d):=(hbel.cell (p:=⟨gk,0,none⟩) hg).trans hk;have HCT:=sqH (ZF B d M b W (by omega) (hB.below hbel));dsimp only;generalize decide (b∈M)=dv at *
 clear hk hB hbel;go_enter Tryz.func134,Tryz.ntmps134;go_wp2_with fail;refine HCT.out.mono ?_;rintro e_ wx ⟨rfl,rfl⟩;dsimp only;go_wp2_with fail;go_ret;exact⟨rfl,Below.refl _ _⟩
theorem jD (A B:Option Addr) (c d:Nat) (L M:List (List UInt8)) (w:World) (hl:L.length≤1000000) (hm:M.length≤1000000) (hA:Rd w 1 A L.length (strs L)) (hB:Rd w 1 B M.length (strs M)) (hsub:∀x∈L,x∈M) :
  Calls Tryz.prog 84 #[.slice A L.length c,.slice B M.length d] w fun e w'=>e= .returned (.bool true)∧Below w.heap.size w w':=by
 have hb1:=(Below.refl w.heap.size w).alloc (Nat.le_refl _) (.cells #[.slice B M.length d] 27);have hbx:Arr (w.alloc (.cells #[.slice B M.length d] 27)) w.heap.size 27 [.slice B M.length d]:=Arr.new w 27 _;have hct:=UT A c L _ (.pointer (some ⟨w.heap.size,0,none⟩)) (fun s=> !decide (s∈M)) _ hl (hA.below hb1) (YM w.heap.size B d M L _ (hbx.cell (k:=0) rfl) hbx.lt hm (hB.below hb1));rw [show L.any (fun s=> !decide (s∈M))=false from List.any_eq_false.2 fun x hx=>by simp [hsub x hx]]at hct;have HCT:=sqH hct;clear hct hbx hA hB hsub;go_enter Tryz.func84,Tryz.ntmps84;go_wp2_with fail;refine HCT.out.mono ?_;rintro e_ w2 ⟨rfl,hb2⟩;dsimp only;go_wp2_with fail;go_ret;exact⟨rfl,hb1.trans (hb2.mono hb1.size)⟩
theorem K3 {P:Program} {w:World} {ops:Array Oper} {rest:List Oper} {o:Oper} {a:Act} {Q:Exit→Act→World→Prop} (hgd:o.guard=none) (s x:Operand) {t e e':TypeId} {size bytes:Nat}
  (ho:o.op= .call { callee:= .builtin .append,args:=#[s,x],argTypes:=#[t,t] }) (E:El P t e size bytes)
  {base:Nat} {v:Value} {n:Nat} {xs:List Value} (hs:a.eval s=v) (hown:w.ownsRow base e size v n xs) {H:Nat}
  {us:List Value} {m c:Nat} (hx:a.eval x= .slice (some ⟨H,0,none⟩) m c) (hH:H=w.heap.size) (hl:us.length=m*size) (h1:∀u∈us,u.oneCell'=true)
  (hb:(n+m)*bytes≤140737488355328) (hbase:base≤w.heap.size)
  (h:∀v' w',w'.ownsRow base e size v' (n+m) (xs++us)→w.grownBy w' v.ownBlock→(v'.ownBlock=v.ownBlock∨∃g,v'.ownBlock=some g∧w.heap.size≤g)→wpList P ops Q rest (a.put o.dst v') w') :
  wpList P ops Q (o::rest) a (w.alloc (.cells us.toArray e')):=by
 subst hH;exact zn hgd s x ho E hs hown hx hl h1 hb hbase h
theorem VB (bl:List BlobP) (k:Nat) (h:k<bl.length):mkd (bl.take (k+1))=mkd (bl.take k)++(if bl[k].mark then [bl[k].dig] else []):=by
 unfold mkd;rw [List.take_succ_eq_append_getElem h,List.filter_append,List.map_append]
 congr 1
 by_cases hp:bl[k].mark=true
 ·rw [if_pos hp,List.filter_cons_of_pos hp];rfl
 ·rw [if_neg hp,List.filter_cons_of_neg hp];rfl
theorem Zs (bl:List BlobP):(mkd bl).length≤bl.length:=by
 unfold mkd;rw [List.length_map];exact List.length_filter_le _ _
theorem vN (A:Option Addr) (c:Nat) (bl:List BlobP) (w:World) (hl:bl.length≤1000) (hA:Rw BlobS w A bl) :
  Calls Tryz.prog 78 #[.slice A bl.length c] w fun e w'=>∃v,e= .returned v∧w'.ownsRow w.heap.size 9 1 v (mkd bl).length (strs (mkd bl))∧Below w.heap.size w w':=by
 have HA:=sqH hA;have hb63:(bl.length:Int)≤9223372036854775807:=by omega
 clear hA;go_enter Tryz.func78,Tryz.ntmps78;go_wp2_with fail;go_loopg [3,8] bl.length (fun gn u i wr=>∃k:Nat,gn=bl.length - k∧i= .int .i64 k∧k≤bl.length∧wr.ownsRow w.heap.size 9 1 u (mkd (bl.take k)).length (strs (mkd (bl.take k)))∧Below w.heap.size w wr)
 case atStart=>exact⟨0,rfl,rfl,by omega,World.ownsRow_nil _ _ _ _,Below.refl _ _⟩
 case round =>
  obtain⟨k,hgk,rfl,hk,hown,hbel⟩:=hrel;have HGK:=sqH hgk;clear hgk;by_cases hlt:k<bl.length
  rotate_left
  ·obtain rfl:k=bl.length:=by omega
   have hlb:decide (bl.length<bl.length)=false:=by simp
   rw [List.take_length]at hown;have HO:=sqH hown;clear hown;go_wp2_with fail;go_ret;exact⟨_,rfl,HO.out,hbel⟩
  have hlb:decide (k<bl.length)=true:=decide_eq_true hlt;have hk0:(0:Int)≤(k:Int):=by omega
  have hk1:(k:Int)<(bl.length:Int):=by omega
  obtain⟨bq,oq,Bq,cq,hA,hbq,d0,d1,d2,d3,hsl⟩:=(HA.out.below hbel).blob_at k hlt;subst hA;have HSU:=sqH (VB bl k hlt);have HKL:=sqH hlt;have hml:=Zs (bl.take k);rw [List.length_take]at hml;generalize bl[k]=q at *
  generalize q.mark=qm at *
  have hbox:Arr (wr.alloc (.cells #[.string ⟨q.dig.toArray⟩,.slice Bq q.data.length cq,.int .i64 q.pins,.bool qm] 63)) wr.heap.size 63 [.string ⟨q.dig.toArray⟩,.slice Bq q.data.length cq,.int .i64 q.pins,.bool qm]:=Arr.new wr 63 _;have hbA:=hbel.alloc hbel.size (.cells #[.string ⟨q.dig.toArray⟩,.slice Bq q.data.length cq,.int .i64 q.pins,.bool qm] 63);have hownA:=hown.alloc (.cells #[.string ⟨q.dig.toArray⟩,.slice Bq q.data.length cq,.int .i64 q.pins,.bool qm] 63);have p0:=hbox.cell (k:=0) rfl;have p3:=hbox.cell (k:=3) rfl;clear hsl hown hbox;cases qm with
  | false =>
   have hsu:=HSU.out;rw [if_neg (by decide),List.append_nil]at hsu;have HSV:=sqH hsu;have HOA:=sqH hownA;clear hsu hownA;go_wp2_with fail;go_roundg (bl.length - (k+1))
   case measure=>have:=HGK.out;have:=HKL.out;omega
   case rel=>exact⟨k+1,rfl,by go_num,by have:=HKL.out;omega,by rw [HSV.out];exact HOA.out,hbA⟩
  | true =>
   have hsu:=HSU.out;rw [if_pos rfl]at hsu;have HSV:=sqH hsu;have HSZ:=sqH (World.size_alloc wr (.cells #[.string ⟨q.dig.toArray⟩,.slice Bq q.data.length cq,.int .i64 q.pins,.bool true] 63)).symm;clear hsu
   repeat' (fail_if_success (first|at_builtin|at_make));first|go_values|go_skip|go_guarded|go_step|go_upon|go_back
   clear d0 d1 d2 d3;generalize (wr.alloc (.cells #[.string ⟨q.dig.toArray⟩,.slice Bq q.data.length cq,.int .i64 q.pins,.bool true] 63))=wA at *
   refine K3 rfl (.tmp 14) (.tmp 17) rfl vu (by rfl) hownA (us:= [.string ⟨q.dig.toArray⟩]) (by rfl) HSZ.out rfl (by intro u hu;rw [List.mem_singleton.1 hu];rfl) (by omega) hbA.size ?_;intro v9 w9 ho9 hg9 hv9;have hb9:=zi hbA hownA (Nat.le_refl _) hg9;have HO9:=sqH ho9;clear ho9 hg9 hv9 hownA p0 p3;go_wp2_with fail;go_roundg (bl.length - (k+1))
   case measure=>have:=HGK.out;have:=HKL.out;omega
   case rel=>exact⟨k+1,rfl,by go_num,by have:=HKL.out;omega,by rw [HSV.out,xi,List.length_append];exact HO9.out,hb9⟩
end Go.Proofs.YtnmlbflhnnmoeaaGreat
