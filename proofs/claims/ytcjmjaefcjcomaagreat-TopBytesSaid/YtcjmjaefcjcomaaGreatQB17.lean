/- Lemmas, as stated. -/
import Derived.Maps.GroupsBeside
import Derived.Test.YtcjmjaefcjcomaaGreatQB16
set_option linter.unusedVariables false
set_option linter.unusedSimpArgs false
set_option maxRecDepth 100000
set_option maxHeartbeats 8000000
open Go.Proofs.Tryz
open Go.Proofs.Tryz renaming prog->zZZ
open Go.Value renaming slice->aA,int->aB,string->aD
open Go.IntKind renaming i64->aC
open Option renaming none->aF,some->aG
namespace Go.Proofs.YtcjmjaefcjcomaaGreat
open Go.RowKit
variable {x:EntP} {p:FlP} {n:Int} {es:List EntP} {fs:List FlP} {ps:List PartP} {l:LoP} {base g i m:Nat} {s:StoP} {v:Value} {w:World} {k k' key:ai}
theorem z1s {n cap k size:Nat} {e:TypeId} {xs:ak} {u:Value} (h:w.ownsRow base e size (aA (aG ⟨g,0,aF⟩) n cap) n xs) (hk:k<n*size):(w.setCell ⟨g,k,aF⟩ u).ownsRow base e size (aA (aG ⟨g,0,aF⟩) n cap) n (xs.set k u):=by
 refine⟨by rw [List.length_set];exact h.1,?_⟩;rcases h.2 with ⟨h1,_⟩ | ⟨g',cap',cur,h1,hb,hg,hn,hm,hs,ht⟩
 ·cases h1
 ·injection h1 with e1 e2 e3;injection e1 with e1;injection e1 with e1;subst e1 e3;have hA:Arr w g e cur.toList:=by simpa [Arr] using hg
  have hA2:=hA.set (k:=k) (by rw [Array.length_toList,hs];exact Nat.lt_of_lt_of_le hk (Nat.mul_le_mul_right _ hn)) u;refine .inr ⟨g,cap,(cur.toList.set k u).toArray,rfl,hb,hA2,hn,hm,by rw [List.size_toArray,List.length_set,Array.length_toList,hs],?_⟩;rw [<-ht,List.take_set]
theorem uU:∀(fs:List FlP) (As:List (aj×Nat)) (i:Nat) (p p':FlP) (a:aj×Nat),As.length=fs.length->fs[i]?=aG p->p'.key=p.key->p'.lead=p.lead ->
  (ke fs As).set (i*3+2) (aA a.1 p'.wait.length a.2)=ke (fs.set i p') (As.set i a)
 | f::fs,b::As,0,p,p',a,_,hp,hk,hl=>by
  simp only [List.getElem?_cons_zero,Option.some.injEq]at hp
  subst hp
  simp only [ke,List.zip_cons_cons,List.flatMap_cons,List.set_cons_zero,qP,hk,hl]
  rfl
 | f::fs,b::As,i+1,p,p',a,h,hp,hk,hl=>by
  have ih:=uU fs As i p p' a (by simpa using h) (by simpa using hp) hk hl
  simp only [ke]at ih ⊢
  rw [List.set_cons_succ,List.set_cons_succ,List.zip_cons_cons,List.zip_cons_cons,List.flatMap_cons,List.flatMap_cons,<-ih,List.set_append_right _ _ (by simp [qP];omega)]
  congr 2
  simp [qP];omega
theorem YU (A:aj) (c:Nat) (fs:List FlP) (k:ByteArray) (n:Int) (i:Nat) (w:World) (hG:GoodF fs) (hf:Fls w A fs) (hc:fs.length<=c) (hm:c<=maxLen) (hk:hexC k.data.toList=0) (hks:k.size<=140737488351232) (hn1:1<=n) (hn2:n<=1000) (hfn:fnd 0 fs k.data.toList=aG i) (hi:i<fs.length) (hin:(fs[i].lead::fs[i].wait).contains n=false) (h5:fs[i].wait.length<5) :
  Calls zZZ 102 #[aA A fs.length c,aD k,aB aC n] w fun e w'=>∃v,e= .returned (.tuple #[v,.bool false,aB aC 0])/\FlsO w' w.heap.size v (fs.set i ⟨fs[i].key,fs[i].lead,fs[i].wait++ [n]⟩)/\Below w.heap.size w w':=by
 have h66:fs.length<=6:=hG.len;have hfew:=hG.few i hi;have H5:=sqH h5;clear h5;have HIN:=sqH hin;have FF:=sqH hf;clear hin;obtain⟨HCK,HHX,HWH⟩:=sqJ3 (fun w' hf'=>kb A c fs w' hG hf' hc hm) (fun w'=>kF (s:=k) 0 rfl hk w' hks) (fun w'=>jr n w');have hwd:decide (1<=n/\n<=1000)=true:=by simp [hn1,hn2]
 have HWD:=sqH hwd;have HCP:=sqH (fun w' hf'=>kw A c fs w' wu (fun p hp=>by
  obtain⟨j,hj,rfl⟩:=List.mem_iff_getElem.1 hp;have:=hG.few j hj;omega) hf' hc)
 have HFI:=sqH (fun w' hf'=>kP A c fs k w' wu hf');have HF:=sqH hfn;clear hG hk hwd hfn;go_enter func102,ntmps102;go_wp2_with fail;refine wZ (HCK.o w hf) fun w1 hb1=>?_;dsimp only;have hf1:=hf.below hb1;go_wp2_with fail;refine wZ (HHX.o w1) fun w2 hb2=>?_;dsimp only;have hb12:=wm hb1 hb2;have hf2:=hf1.below hb2;go_wp2_with fail;refine(HWH.o w2).mono ?_;rintro e_ _ ⟨rfl,rfl⟩;dsimp only;rw [HWD.o];go_wp2_with fail;refine(HCP.o w2 hf2).mono ?_;rintro e_ w3 ⟨v3,rfl,ho3,hb3⟩;dsimp only;have hb13:=wm hb12 hb3;have hf3:=hf2.below hb3;have hfi:=HFI.o w3 hf3;rw [HF.o]at hfi;dsimp only at hfi;have HFF:=sqH hfi;clear hfi hf hf1 hf2;go_wp2_with fail;refine wZ HFF.o fun w4 hb4=>?_;dsimp only;have hb14:=wm hb13 hb4;obtain⟨b,off,B,cb,rfl,hbb,c0,c1,c2,hrw,hwc,hcbm⟩:=(FF.o.below hb14).at_ i hi;have i1:=we i
 have i2:(i:Int)<(fs.length:Int):=wu;obtain⟨s,hs⟩:=wY (⟨fs[i].key.toArray⟩:ByteArray)
 rw [<-hs]at c0;have ho4:=ho3.below hb4;obtain⟨p,hp⟩:=wY (fs[i])
 rw [<-hp]at c1 c2 hrw hwc hfew HIN H5;have HP:=sqH (show fs[i]?=aG p from by rw [List.getElem?_eq_getElem hi,hp]);have hgoal:fs.set i ⟨fs[i].key,fs[i].lead,fs[i].wait++ [n]⟩=fs.set i ⟨p.key,p.lead,p.wait++ [n]⟩:=by rw [hp]
 have HGO:=sqH hgoal;obtain⟨ld,hld⟩:=wY p.lead
 rw [<-hld]at c1;have HI2:=HIN.o;rw [<-hld]at HI2;have HI3:=sqH HI2;have HLD:=sqH hld;have H55:=H5.o;have e5:((p.wait.length:Int)==5)=false:=by rw [beq_eq_false_iff_ne];omega
 have e5':(p.wait.length==5)=false:=by rw [beq_eq_false_iff_ne];omega
 clear HI2 HIN hs hp hgoal hld H55;go_wp2_with fail;refine(ud s ld B cb p.wait w4 wu hrw).mono ?_;rintro e_ w5 ⟨v5,rfl,ho5,hb5⟩;dsimp only;have hb15:=wm hb14 hb5;obtain⟨A5,c5,rfl,hc5,hr5⟩:=Rd.of_own' ho5;have hcon:=yc A5 c5 (ld::p.wait) n w5 (by simp only [List.length_cons];omega) hr5;rw [HI3.o]at hcon;simp only [List.length_cons]at hcon;have HCO:=sqH hcon;have d2:=(hb5.cell (p:=⟨b,off+i*3+2,aF⟩) hbb).trans c2;have ho55:=ho4.below hb5;obtain⟨As,j1,j2,j3,j4⟩:=ho55;obtain⟨g3,cap3,cs3,rfl,_,hA3,hcap3,hcm3,hcl3,hct3⟩:=yt j2 wu;have hia:i<As.length:=wu;have ha:As[i]?=aG As[i]:=List.getElem?_eq_getElem hia;obtain⟨k1,k2⟩:=j3 i p As[i] HP.o ha;have hcell:=(Rd.of_own j2).2 wu;obtain⟨_,_,e3,_,hcell⟩:=hcell;cases e3
 have x2:=hcell (i*3+2) _ ((ui fs As i 2 p As[i] HP.o ha wu).trans rfl);rw [Nat.zero_add]at x2;obtain⟨a,haE⟩:=wY (As[i])
 rw [<-haE]at k1 k2 x2 ha;obtain⟨Ai,ci⟩:=a;dsimp only at k1 k2 x2;have hcap63:(cap3:Int)<=9223372036854775807:=by unfold maxLen at hcm3;omega
 clear hcon ho5 hr5 c0 c1 c2 ho4 ho3 haE hcell;go_wp2_with fail;refine HCO.o.mono ?_;rintro e_ _ ⟨rfl,rfl⟩;dsimp only
 refine wL ?_;intros;refine zj rfl (.tmp 75) (.tmp 77) rfl z19 ac k1 (us:= [aB aC n]) (m:=1) ac rfl (by intro u hu;simp at hu;subst hu;rfl) wu (Nat.le_trans hb3.size (Nat.le_trans hb4.size hb5.size)) ?_;intro v7 w7 ho7 hg7 hv7;rw [qC (Ai,ci)]at hg7 hv7;rw [show ins p.wait++ [aB aC n]=ins (p.wait++ [n]) by simp [ins]]at ho7;have hw7:(p.wait++ [n]).length=p.wait.length+1:=ab;rw [<-hw7]at ho7;generalize hwn:p.wait++ [n]=wn at *
 have hwl:wn.length<=1000:=by have:=H5.o;omega
 clear hwn hw7;have hsz27:w2.heap.size<=w7.heap.size:=Nat.le_trans hb3.size (Nat.le_trans hb4.size (Nat.le_trans hb5.size hg7.size));have hb17:Below w.heap.size w w7:=hb15.grown hg7 hb15.size (fun g h=>Nat.le_trans hb12.size (k1.lt g (by rw [qC (Ai,ci)];exact h.symm▸rfl)).1);obtain⟨A7,c7,rfl,hc7,hr7⟩:=Rd.of_own' ho7;have HC7:=sqH (Zb A7 c7 (wn) w7 wu hr7);have m2:=j2.kept hg7 (.inr (fun h=>k2 g3 h.symm rfl));have m3:∀(k:Nat) (q:FlP) (b:aj×Nat),k≠i->fs[k]?=aG q->As[k]?=aG b->w7.ownsRow w2.heap.size 3 1 (aA b.1 q.wait.length b.2) q.wait.length (ins q.wait):=fun k q b hki hq hb=>by
  refine(j3 k q b hq hb).1.kept hg7 ?_;rw [qC];cases hbk:blk b with
  | none=>exact .inl rfl
  | some g =>
   refine .inr (fun h=> ?_);rcases Nat.lt_or_gt_of_ne hki with h1 | h1
   ·exact j4 k i b (Ai,ci) h1 hb ha g hbk h.symm
   ·exact j4 i k (Ai,ci) b h1 ha hb g h.symm hbk
 have OLD:=sqH (show ∀(k:Nat) (b:aj×Nat),As[k]?=aG b->∀g,blk b=aG g->g<w7.heap.size from fun k b hb g hg=>by
  have hkl:=(List.getElem?_eq_some_iff.1 hb).1;have hq:fs[k]?=aG (fs[k]'(by omega)):=List.getElem?_eq_getElem _;exact Nat.lt_of_lt_of_le ((j3 k _ b hq hb).1.lt g (by rw [qC];exact hg)).2 hg7.size)
 obtain⟨J3,J4,J1⟩:=sqJ3 j3 j4 j1;clear ho7 hg7 hv7 k1 k2 x2 j2 hr7 j3 j4 d2 hA3 hct3 hcl3;go_wp2_with fail;refine HC7.o.mono ?_;rintro e_ w8 ⟨v8,rfl,ho8,hb8⟩;dsimp only;have hb18:=wm hb17 hb8;have m28:=zc m2 hb8;have hlt3:=(m2.lt g3 rfl)
 obtain⟨_,_,cs9,e9,_,hA9,_,_,hcl9,hct9⟩:=yt m28 wu;injection e9 with e91 _ e93;injection e91 with e91;injection e91 with e91;subst e91 e93;obtain⟨y,hy⟩:∃y,cs9[i*3+2]?=aG y:=⟨_,List.getElem?_eq_getElem wu⟩
 have y2:=hA9.cell hy;have z2:=hA9.frozen (i*3+2);obtain⟨A8,c8,rfl,hc8,_⟩:=Rd.of_own' ho8;have n9:=z1s (u:= aA A8 wn.length c8) m28 (k:=i*3+2) wu;have hcf:=uU fs As i p ⟨p.key,p.lead,wn⟩ (A8,c8) J1.o HP.o rfl rfl;dsimp only at hcf;rw [hcf]at n9;have hbz:Below w.heap.size w (w8.setCell ⟨g3,i*3+2,aF⟩ (aA A8 wn.length c8)):=Below.setCell hb18 (by show w.heap.size<=g3;exact Nat.le_trans hb12.size hlt3.1) _;have hne8:(aA A8 wn.length c8).ownBlock≠aG g3:=fun h=>by have:=(ho8.lt g3 h).1;omega
 have hfin:FlsO (w8.setCell ⟨g3,i*3+2,aF⟩ (aA A8 wn.length c8)) w2.heap.size (aA (aG ⟨g3,0,aF⟩) fs.length cap3) (fs.set i ⟨p.key,p.lead,wn⟩):=by
  refine⟨As.set i (A8,c8),by rw [List.length_set,List.length_set,J1.o],by rw [List.length_set];exact n9,fun k q b hq hb=> ?_,fun k j a' b hkj ha' hb g hag=> ?_⟩
  ·by_cases hki:k=i
   ·subst hki;rw [List.getElem?_set_self hi]at hq;rw [List.getElem?_set_self hia]at hb;cases hq;cases hb
    exact⟨zb (zd ho8 hne8) hsz27,fun g h h'=>hne8 (by rw [qC (A8,c8),h];exact(show aG g3=aG g from h').symm)⟩
   ·rw [List.getElem?_set_ne (Ne.symm hki)]at hq hb;have h1:=zc (m3 k q b hki hq hb) hb8;have h2:=(J3.o k q b hq hb).2;refine⟨zd h1 (fun h=>h2 g3 (by rw [<-qC b q.wait.length];exact h) rfl),h2⟩
  ·by_cases hki:k=i
   ·subst hki;rw [List.getElem?_set_self hia]at ha';cases ha'
    rw [List.getElem?_set_ne wu]at hb;intro hbg;have:=(ho8.lt g (by rw [qC (A8,c8)];exact hag)).1;have:=OLD.o j b hb g hbg;omega
   ·rw [List.getElem?_set_ne (Ne.symm hki)]at ha';by_cases hji:j=i
    ·subst hji;rw [List.getElem?_set_self hia]at hb;cases hb
     intro hbg;have:=(ho8.lt g (by rw [qC (A8,c8)];exact hbg)).1;have:=OLD.o k a' ha' g hag;omega
    ·rw [List.getElem?_set_ne (Ne.symm hji)]at hb;exact J4.o k j a' b hkj ha' hb g hag
 have hfin':=hfin.lower hb12.size;have HFN:=sqH hfin';clear hfin hfin' n9 hcf m2 m3 m28 ho8;go_wp2_with fail;go_ret3;rw [HGO.o];exact⟨_,rfl,HFN.o,hbz⟩
theorem z4g (w:World):(zeroValue 90).run zZZ w= .ok (.agg #[aD ByteArray.empty,aB aC 0,aA aF 0 0]) w:=by kernel_rfl
theorem z0b (g i n cap base:Nat) (xs:ak) (w:World) (h:w.ownsRow base 90 3 (aA (aG ⟨g,0,aF⟩) n cap) n xs) (hi:i<n) (hx:∀u∈xs,u.oneCell'=true) :
  Calls zZZ 147 #[aA (aG ⟨g,0,aF⟩) n cap,aB aC i,aB aC ((i:Int)+1)] w fun e w'=>e= .returned (aA (aG ⟨g,0,aF⟩) (n - 1) cap) /\
   w'.ownsRow base 90 3 (aA (aG ⟨g,0,aF⟩) (n - 1) cap) (n - 1) (xs.take (i*3)++xs.drop ((i+1)*3))/\w.grownBy w' (aG g):=by
 obtain⟨g',cap',cs,e1,hbg,hA,hnc,hcm,hcl,hct⟩:=yt h wu;injection e1 with e11 _ e13;injection e11 with e11;injection e11 with e11;subst e11 e13;obtain⟨i0,hi0,hz0,hz1,hz2⟩:=info_parts (show(zZZ.info? 90).map (fun i=>(i.zero,i.size,i.bytes))=aG (aG (.agg #[aD ByteArray.empty,aB aC 0,aA aF 0 0]),3,48) by kernel_rfl);obtain⟨zs,hzs⟩:=wY ((Builtin.zeroCells (Value.agg #[aD ByteArray.empty,aB aC 0,aA aF 0 0]).cells 1).toList)
 have hzs':zs= [aD ByteArray.empty,aB aC 0,aA aF 0 0]:=by rw [hzs];kernel_rfl
 have hzl:zs.length=3:=by rw [hzs'];rfl
 have hz1':∀u∈zs,u.oneCell'=true:=by rw [hzs'];intro u hu;simp at hu;rcases hu with rfl | rfl | rfl<;>rfl
 obtain⟨a1,a2⟩:=Qr (i:=i) (n:=n) (zs:=zs) hA.drew hcl hnc hi hzl;rw [hct]at a1 a2;have hlen:(xs.drop ((i+1)*3)).length=(n - (i+1))*3:=by rw [List.length_drop,h.1,Nat.sub_mul]
 obtain⟨news,hnews⟩:=wY (xs.drop ((i+1)*3))
 rw [<-hnews]at a1 a2 hlen;obtain⟨W1,hW1⟩:=wY (w.drew.setCells g (i*3) news)
 rw [<-hW1]at a1 a2;have hr:=Rd.of_own h;have HC:=sqH (show ∀k u,xs[k]?=aG u->w.drew.cell? ⟨g,k,aF⟩=aG u from fun k u hu=>by
  refine Arr.cell hA.drew ?_;rw [<-hct,List.getElem?_take]at hu;split at hu
  ·exact hu
  ·cases hu)
 obtain⟨A,hAd,hsrc⟩:∃A:Addr,(if cap=i+1 then aG (⟨g,0,aF⟩:Addr) else aG ⟨g,(i+1)*3,aF⟩)=aG A/\Hid (∀t u,news[t]?=aG u->w.drew.cell? (A.add t)=aG u):=by
  by_cases hce:cap=i+1
  ·refine⟨⟨g,0,aF⟩,by simp [hce],Lib.hid fun t u hu=> ?_⟩;have h0:news.length=0:=by rw [hlen,show n - (i+1)=0 by omega]
   rw [List.length_eq_zero_iff.1 h0]at hu;cases hu
  ·refine⟨⟨g,(i+1)*3,aF⟩,by simp [hce],Lib.hid fun t u hu=> ?_⟩;rw [hnews,List.getElem?_drop]at hu;have:=HC.o _ _ hu;rw [Addr.add_lit];exact this
 have s1:=sqH hlen;have s2:=sqH (show ∀u∈news,u.oneCell'=true from fun u hu=>hx u (by rw [hnews]at hu;exact List.mem_of_mem_drop hu));have s3:=sqH (show ∀t,t<news.length->(w.drew.cell? ⟨g,0+i*3+t,aF⟩).isSome=true/\w.drew.frozen? ⟨g,0+i*3+t,aF⟩=false from fun t ht=>by
  rw [hlen]at ht;have hlt:i*3+t<xs.length:=by rw [h.1];omega
  rw [Nat.zero_add,HC.o _ _ (List.getElem?_eq_getElem hlt)];exact⟨rfl,hA.drew.frozen _⟩)
 have hclr:∀ty,(Builtin.clear_ #[42] ty #[aA (aG ⟨g,(n - 1)*3,aF⟩) (n - (n - 1)) (cap - (n - 1))]).run zZZ W1= .ok (.tuple #[]) (W1.setCells g ((n - 1)*3) zs):=fun ty=>by
  rw [show n - (n - 1)=1 by omega];exact yr W1 _ _ ty _ zs underlying42 z4g hzs.symm hz1' g _ _ (fun j hj=>by
   have hk:(n - 1)*3+j<(cs.take (i*3)++news++cs.drop ((n - 1)*3)).length:=by
    simp only [List.length_append,List.length_take,List.length_drop,hcl,hlen];omega
   rw [a1.cell (List.getElem?_eq_getElem hk)];rfl) (fun j hj=>a1.frozen _)
 have hcapi:i<=cap:=wu;have hci1:i+1<=cap:=wu;have hwi:((i:Int)+1).toNat=i+1:=wu;have hp0:(0:Int)<=(i:Int)+1:=wu;have hp1:(i:Int)+1<=(n:Int):=wu;have hne:((i:Int)==(i:Int)+1)=false:=by rw [beq_eq_false_iff_ne];omega
 obtain⟨A2,HW1,HG,HL,HCL,HN,HT,HX⟩:=sqJ8 a2 hW1 (show w.grownBy (W1.setCells g ((n - 1)*3) zs) (aG g) from(show w.grownBy w.drew (aG g) from⟨rfl,rfl,rfl,Nat.le_refl _,fun _ _ _=>rfl⟩).trans (by rw [hW1];exact(qg _ _ _).trans (qg _ _ _))) hlen hcl hnews hct h.1;clear hW1 a1 a2 hct hnews hlen hzs hzs' hz1' hr hA HC hx hcl;go_enter func147,ntmps147;go_wp2_with fail;go_region_law (refine step_append_room rfl (.tmp 22) (.tmp 25) 42 rfl 90 i0 3 underlying42 hi0 hz1 g 0 i cap (by simp [Act.eval,Act.put]) A (n - (i+1)) (cap - (i+1)) news (by simp [Act.eval,Act.put]) s1.o hsrc.o s2.o wu s3.o ?_;rw [Nat.zero_add,<-HW1.o]);rw [show i+(n - (i+1))=n - 1 by omega];go_wp2_with fail;go_ret;refine⟨rfl,⟨?_,.inr ⟨g,cap,_,rfl,hbg,A2.o,wu,hcm,?_,?_⟩⟩,HG.o⟩
 ·rw [<-HN.o,List.length_append,List.length_take,HL.o,HX.o];omega
 ·simp only [List.size_toArray,List.length_append,List.length_take,List.length_drop,HL.o,hzl,HCL.o];omega
 ·have e1:xs.take (i*3)=cs.take (i*3):=by rw [<-HT.o,List.take_take,Nat.min_eq_left wu]
  rw [e1,<-HN.o,List.append_assoc,List.take_left' (by rw [List.length_append,List.length_take,HL.o,HCL.o];omega)]
theorem vt:∀(fs:List FlP) (As:List (aj×Nat)) (i:Nat),As.length=fs.length->i<fs.length ->
  (ke fs As).take (i*3)++(ke fs As).drop ((i+1)*3)=ke (fs.eraseIdx i) (As.eraseIdx i)
 | f::fs,a::As,0,h,_=>by simp [ke,qP]
 | f::fs,a::As,i+1,h,hi=>by
  have ih:=vt fs As i (by simpa using h) (by simpa using hi)
  simp only [ke,List.eraseIdx_cons_succ,List.zip_cons_cons,List.flatMap_cons]at ih ⊢
  generalize (fs.zip As).flatMap (fun x=>qP x.1 x.2.1 x.2.2)=X at *
  have e1:(qP f a.1 a.2++X).take ((i+1)*3)=qP f a.1 a.2++X.take (i*3):=by
   rw [show(i+1)*3=(qP f a.1 a.2).length+i*3 by simp [qP];omega,List.take_length_add_append]
  have e2:(qP f a.1 a.2++X).drop ((i+1+1)*3)=X.drop ((i+1)*3):=by
   rw [show(i+1+1)*3=(qP f a.1 a.2).length+(i+1)*3 by simp [qP];omega,List.drop_length_add_append]
  rw [e1,e2,List.append_assoc,ih]
theorem zV {α:Type} {l:List α} {k:Nat} {x:α} (h:(l.eraseIdx i)[k]?=aG x):∃k',l[k']?=aG x/\(k'=if k<i then k else k+1):=by
 rw [List.getElem?_eraseIdx]at h;split at h
 ·rename_i hk;exact⟨k,h,by rw [if_pos hk]⟩
 ·rename_i hk;exact⟨k+1,h,by rw [if_neg hk]⟩
theorem FlsO.del {cap:Nat} (h:FlsO w base (aA (aG ⟨g,0,aF⟩) fs.length cap) fs) (hi:i<fs.length) :
  ∃xs,w.ownsRow base 90 3 (aA (aG ⟨g,0,aF⟩) fs.length cap) fs.length xs/\(∀u∈xs,u.oneCell'=true) /\
   ∀w',w'.ownsRow base 90 3 (aA (aG ⟨g,0,aF⟩) (fs.length - 1) cap) (fs.length - 1) (xs.take (i*3)++xs.drop ((i+1)*3))->w.grownBy w' (aG g) ->
    FlsO w' base (aA (aG ⟨g,0,aF⟩) (fs.length - 1) cap) (fs.eraseIdx i):=by
 obtain⟨As,h1,h2,h3,h4⟩:=h;refine⟨_,h2,uT fs As,fun w' ho hg=> ?_⟩;rw [vt fs As i h1 hi]at ho;have hl:(fs.eraseIdx i).length=fs.length - 1:=List.length_eraseIdx_of_lt hi;refine⟨As.eraseIdx i,by rw [List.length_eraseIdx_of_lt wu,hl,h1],by rw [hl];exact ho,fun k p a hp ha=> ?_,fun k j a b hkj ha hb=> ?_⟩
 ·obtain⟨k1,hp1,e1⟩:=zV hp;obtain⟨k2,ha1,e2⟩:=zV ha;rw [<-e1]at e2;subst e2;obtain⟨j1,j2⟩:=h3 k2 p a hp1 ha1;refine⟨j1.kept hg ?_,j2⟩;rw [qC];cases hb:blk a with
  | none=>exact .inl rfl
  | some x=>exact .inr (fun e=>j2 x hb e.symm)
 ·obtain⟨k1,ha1,e1⟩:=zV ha;obtain⟨k2,hb1,e2⟩:=zV hb;refine h4 k1 k2 a b ?_ ha1 hb1;split at e1<;>split at e2<;>omega
theorem FlsO.blk_ex (h:FlsO w base v fs) (h0:0<fs.length):∃g c,v= aA (aG ⟨g,0,aF⟩) fs.length c/\base<=g:=by
 obtain⟨As,h1,h2,h3,h4⟩:=h;obtain⟨g,cap,cs,rfl,hb,_⟩:=yt h2 h0;exact⟨g,cap,rfl,hb⟩
theorem U2 (A:aj) (c:Nat) (fs:List FlP) (k:ByteArray) (w:World) (hG:GoodF fs) (hf:Fls w A fs) (hc:fs.length<=c) (hm:c<=maxLen) (hfn:fnd 0 fs k.data.toList=aF) :
  Calls zZZ 103 #[aA A fs.length c,aD k] w fun e w'=>e= .returned (.tuple #[aA aF 0 0,aA aF 0 0,aB aC 5])/\Below w.heap.size w w':=by
 have h66:fs.length<=6:=hG.len;have HCK:=sqH (fun w' hf'=>kb A c fs w' hG hf' hc hm);have HFI:=sqH (fun w' hf'=>kP A c fs k w' wu hf');have HCP:=sqH (fun w' hf'=>kw A c fs w' wu (fun p hp=>by
  obtain⟨j,hj,rfl⟩:=List.mem_iff_getElem.1 hp;have:=hG.few j hj;omega) hf' hc)
 have HF:=sqH hfn;have hfew:=fun (i:Nat) (h:i<fs.length)=>hG.few i h;have HFE:=sqH hfew;clear hG hfn hfew;go_enter func103,ntmps103;go_wp2_with fail;refine wZ (HCK.o w hf) fun w1 hb1=>?_;dsimp only;have hf1:=hf.below hb1;have hfi:=HFI.o w1 hf1;rw [HF.o]at hfi;dsimp only at hfi;have HFF:=sqH hfi;clear hfi hf;go_wp2_with fail;refine wZ HFF.o fun w4 hb4=>?_;dsimp only;have hb14:=wm hb1 hb4;go_wp2_with fail;go_ret3;exact⟨rfl,hb14⟩
theorem z34 (A:aj) (c:Nat) (fs:List FlP) (k:ByteArray) (i:Nat) (w:World) (hG:GoodF fs) (hf:Fls w A fs) (hc:fs.length<=c) (hm:c<=maxLen) (hfn:fnd 0 fs k.data.toList=aG i) (hi:i<fs.length) :
  Calls zZZ 103 #[aA A fs.length c,aD k] w fun e w'=>∃v u,e= .returned (.tuple #[v,u,aB aC 0])/\FlsO w' w.heap.size v (fs.eraseIdx i) /\
   w'.ownsRow w.heap.size 3 1 u (fs[i].wait.length+1) (ins (fs[i].lead::fs[i].wait))/\Below w.heap.size w w':=by
 have h66:fs.length<=6:=hG.len;have HCK:=sqH (fun w' hf'=>kb A c fs w' hG hf' hc hm);have HFI:=sqH (fun w' hf'=>kP A c fs k w' wu hf');have HCP:=sqH (fun w' hf'=>kw A c fs w' wu (fun p hp=>by
  obtain⟨j,hj,rfl⟩:=List.mem_iff_getElem.1 hp;have:=hG.few j hj;omega) hf' hc)
 have HF:=sqH hfn;have hfew:=fun (i:Nat) (h:i<fs.length)=>hG.few i h;have HFE:=sqH hfew;clear hG hfn hfew;go_enter func103,ntmps103;go_wp2_with fail;refine wZ (HCK.o w hf) fun w1 hb1=>?_;dsimp only;have hf1:=hf.below hb1;have hfi:=HFI.o w1 hf1;rw [HF.o]at hfi;dsimp only at hfi;have HFF:=sqH hfi;clear hfi hf;go_wp2_with fail;refine wZ HFF.o fun w4 hb4=>?_;dsimp only;have hb14:=wm hb1 hb4;have hf4:=hf1.below hb4;have hwl:=HFE.o i hi;obtain⟨b,off,B,cb,rfl,hbb,c0,c1,c2,hrw,hwc,hcbm⟩:=hf4.at_ i hi;obtain⟨s,hs⟩:=wY (⟨fs[i].key.toArray⟩:ByteArray)
 rw [<-hs]at c0;obtain⟨ld,hld⟩:=wY (fs[i].lead)
 obtain⟨wt,hwt⟩:=wY (fs[i].wait)
 rw [<-hld]at c1;rw [<-hwt]at c2 hrw hwc hwl;have HRW:=sqH hrw;have HFL:=sqH hf4;have hLD:=hld.symm;have hWT:=hwt.symm;have HLD:=sqH hLD;have HWT:=sqH hWT;have hi0:=we i
 have hi1:(i:Int)<(fs.length:Int):=wu;have hwi:IntKind.i64.wrap ((i:Int)+1)=(i:Int)+1:=IntWalk.i64_in _ wu;have HS:=sqH (show ∀W:World,Below w4.heap.size w4 W->W.cell? ⟨b,off+i*3,aF⟩=aG (aD s)/\W.cell? ⟨b,off+i*3+1,aF⟩=aG (aB aC ld)/\W.cell? ⟨b,off+i*3+2,aF⟩=aG (aA B wt.length cb) from
  fun W hW=>⟨(hW.cell (p:=⟨b,off+i*3,aF⟩) hbb).trans c0,(hW.cell (p:=⟨b,off+i*3+1,aF⟩) hbb).trans c1,(hW.cell (p:=⟨b,off+i*3+2,aF⟩) hbb).trans c2⟩)
 clear hs hld hwt hLD hWT c0 c1 c2 hrw hf1 hf4;go_wp2_with fail;refine wp_region_held_drew (S:=(fun w'=>w'.cell? ⟨b,off+i*3,aF⟩=aG (aD s)/\w'.cell? ⟨b,off+i*3+1,aF⟩=aG (aB aC ld)/\w'.cell? ⟨b,off+i*3+2,aF⟩=aG (aA B wt.length cb))) ww ?_ (fun hHeld=> ?_)
 ·exact HS.o _ (Below.refl _ w4).drew
 have hB:=(Below.refl w4.heap.size w4).drew;generalize w4.drew=wn0 at *
 refine wQ 0 ?_;refine wQ 2 ?_;refine wQ 3 ?_;refine wQ 4 ?_;refine wQ 6 ?_;refine wQ 7 ?_;refine wQ 8 ?_;refine wQ 9 ?_;refine wU 1 fun K hK=>?_;have hcp:=HCP.o wn0 (HFL.o.below hB);go_simp;refine(hcp).mono ?_;rintro e5 w5 ⟨v5,rfl,ho5,hb5⟩;dsimp only;obtain⟨gf,cf,rfl,hgf⟩:=ho5.blk_ex wu;refine kn hK (HS.o _ (wm hB hb5)) (Below w4.heap.size w4) (fun W=>FlsO W w4.heap.size (aA (aG ⟨gf,0,aF⟩) fs.length cf) fs/\w4.heap.size<=gf) (wm hB hb5) ⟨ho5.lower hB.size,Nat.le_trans hB.size hgf⟩ fun wn1 hHeld hst hnew=> ?_;clear hB;have hB:=hst;obtain⟨hnew,hgw⟩:=hnew;clear hst;clear hK K
 try simp only [sqP]
 refine wU 5 fun K hK=>?_;obtain⟨xs,x1,x2,x3⟩:=hnew.del (i:=i) hi;go_simp;refine(z0b _ i fs.length _ _ xs wn1 x1 hi x2).mono ?_;rintro e5 w5 ⟨rfl,y1,y2⟩;dsimp only;refine kn hK (HS.o _ (hB.grown y2 hB.size (fun g h=>by cases h;exact hgw))) (Below w4.heap.size w4) (fun W=>FlsO W w4.heap.size (aA (aG ⟨gf,0,aF⟩) (fs.length - 1) cf) (fs.eraseIdx i)) (hB.grown y2 hB.size (fun g h=>by cases h;exact hgw)) (x3 _ y1 y2) fun wn2 hHeld hst hnew=> ?_;clear hB;have hB:=hst;clear hst;clear hK K
 try simp only [sqP]
 refine wU 10 fun K hK=>?_;have hcr:=ud s ld B cb wt wn2 wu (HRW.o.below hB);go_simp;refine(hcr).mono ?_;rintro e5 w5 ⟨v5,rfl,ho5,hb5⟩;dsimp only;refine kn hK ?_ (Below w4.heap.size w4) (fun W=>FlsO W w4.heap.size (aA (aG ⟨gf,0,aF⟩) (fs.length - 1) cf) (fs.eraseIdx i)/\W.ownsRow w4.heap.size 3 1 v5 (wt.length+1) (ins (ld::wt))) ?_ ?_ (fun wn3 hHeld hst hnew2=> ?_)
 ·exact HS.o _ (wm hB hb5)
 ·exact wm hB hb5
 ·exact⟨hnew.below hb5,zb ho5 hB.size⟩
 clear hB;have hB:=hst;clear hst hnew;obtain⟨hnew,hown⟩:=hnew2;clear hK K
 refine wQ 11 ?_;refine wQ 12 ?_;refine wQ 13 ?_;refine wpAnyH_done ww ?_ _;clear hHeld;dsimp only [Exit.then];go_wp2_with fail;go_ret3;rw [HLD.o,HWT.o];exact⟨_,_,rfl,hnew.lower hb14.size,zb hown hb14.size,wm hb14 hB⟩
open Go.Maps
open Go.ChangeShapes (lits)
def grp (fs:List FlP) (k:ai):List Int :=
 match fnd 0 fs k with
 | none=> []
 | some i=>match fs[i]? with
  | none=> []
  | some p=>p.lead::p.wait
theorem Kj (h:fnd 0 fs k=aG i) (hi:i<fs.length):grp fs k=fs[i].lead::fs[i].wait:=by
 rw [grp,h];simp only [List.getElem?_eq_getElem hi]
theorem XM:∀(fs:List FlP) (i j:Nat) (k:ai),fnd i fs k=aG j->∃h:j - i<fs.length,i<=j/\fs[j - i].key=k
 | p::r,i,j,k,h=>by
  rw [fnd]at h
  split at h
  ·rename_i e
   cases h
   refine⟨ab,Nat.le_refl _,?_⟩
   simp only [Nat.sub_self,List.getElem_cons_zero]
   exact e
  ·obtain⟨h1,h2,h3⟩:=XM r (i+1) j k h
   refine⟨by simp only [List.length_cons];omega,wu,?_⟩
   have e:j - i=(j - (i+1))+1:=wu;simp only [e,List.getElem_cons_succ]
   exact h3
theorem yi {j:Nat} (h:fnd 0 fs k=aG j):∃h:j<fs.length,fs[j].key=k:=by
 obtain⟨h1,_,h2⟩:=XM fs 0 j k h;exact⟨h1,h2⟩
theorem xy:∀(fs:List FlP) (p:FlP) (i:Nat) (k:ai),fnd i (fs++ [p]) k=match fnd i fs k with | some j=>aG j | none=>if p.key=k then aG (i+fs.length) else none
 | [],p,i,k=>by simp [fnd]
 | f::fs,p,i,k=>by
  rw [List.cons_append,fnd,fnd]
  by_cases h:f.key=k
  ·rw [if_pos h,if_pos h]
  ·rw [if_neg h,if_neg h,xy fs p (i+1) k,show i+1+fs.length=i+(f::fs).length by simp only [List.length_cons];omega]
theorem jP (h:fnd 0 fs k=none):grp (fs++ [⟨k,n, []⟩]) k= [n]:=by
 have e:fnd 0 (fs++ [(⟨k,n, []⟩:FlP)]) k=aG fs.length:=by rw [xy,h];simp
 rw [Kj e ab];simp
theorem uN (h:k≠k'):grp (fs++ [⟨k,n, []⟩]) k'=grp fs k':=by
 unfold grp;rw [xy];cases e:fnd 0 fs k' with
 | none=>simp [h]
 | some j =>
  obtain⟨hj,_⟩:=yi e;simp only [];rw [List.getElem?_append_left hj]
theorem Z1 (fs:List FlP) (i:Nat) (p:FlP) (hi:i<fs.length) (hk:p.key=fs[i].key):(fs.set i p).map (·.key)=fs.map (·.key):=by
 rw [List.map_set];apply List.ext_getElem
 ·simp
 ·intro j h1 h2;rw [List.getElem_set];split
  ·rename_i e;subst e;simpa using hk
  ·rfl
theorem ZE (h:fnd 0 fs k=aG i) (hi:i<fs.length) (hk:p.key=fs[i].key):grp (fs.set i p) k=p.lead::p.wait:=by
 have e:fnd 0 (fs.set i p) k=aG i:=by rw [yQ (fs.set i p) fs 0 k (Z1 fs i p hi hk),h]
 rw [Kj e (by simpa using hi)];simp
theorem jO (h:fnd 0 fs k=aG i) (hi:i<fs.length) (hk:p.key=fs[i].key) (hne:k≠k'):grp (fs.set i p) k'=grp fs k':=by
 unfold grp;rw [yQ (fs.set i p) fs 0 k' (Z1 fs i p hi hk)];cases e:fnd 0 fs k' with
 | none=>rfl
 | some j =>
  have hne':i≠j:=by
   rintro rfl;obtain⟨_,e1⟩:=yi e;obtain⟨_,e2⟩:=yi h;exact hne (e2.symm.trans e1)
  simp only [];rw [List.getElem?_set_ne hne']
def grpD (l:List Int):DataW Unit:=match l with | []=> .nil | _::_=> .slice (lits aC l) []
structure WhoD (fs:List FlP) (D:DataW Unit):Prop where
 tidy:Tidy D
 size:size D=fs.length
 has:∀k,Maps.has D (.string k)=(fnd 0 fs k).isSome
 at_:∀k,D.atKey (.string k) .nil=grpD (grp fs k)
theorem WhoD.nil_:WhoD [] (.map []):=⟨tidy_empty,rfl,fun _=>rfl,fun _=>rfl⟩
theorem jm (k:ai):WideAt.IsKeyLit (.string k):=by simp [WideAt.IsKeyLit]
theorem WhoD.new {D:DataW Unit} (h:WhoD fs D) (hf:fnd 0 fs k=none):WhoD (fs++ [⟨k,n, []⟩]) (D.put (.string k) (grpD [n])):=by
 have hh:Maps.has D (.string k)=false:=by rw [h.has,hf];rfl
 refine⟨h.tidy.put (jm k) _,?_,fun k'=> ?_,fun k'=> ?_⟩
 ·rw [size_put h.tidy,hh,h.size];simp
 ·by_cases e:k'=k
  ·subst e;rw [has_put_same h.tidy.isMap (jm k') _,xy,hf];simp
  ·rw [has_put_other (by simpa using e),h.has,xy];cases fnd 0 fs k' with
   | none=>simp [Ne.symm e]
   | some j=>rfl
 ·by_cases e:k'=k
  ·subst e;rw [atKey_put_same h.tidy.isMap (jm k') _ _,jP hf]
  ·rw [atKey_put_other (by simpa using e),h.at_,uN (Ne.symm e)]
theorem WhoD.more {D:DataW Unit} (h:WhoD fs D) (hf:fnd 0 fs k=aG i) (hi:i<fs.length) (hk:p.key=fs[i].key):WhoD (fs.set i p) (D.put (.string k) (grpD (p.lead::p.wait))):=by
 have hh:Maps.has D (.string k)=true:=by rw [h.has,hf];rfl
 refine⟨h.tidy.put (jm k) _,?_,fun k'=> ?_,fun k'=> ?_⟩
 ·rw [size_put h.tidy,hh,h.size,List.length_set];simp
 ·rw [yQ (fs.set i p) fs 0 k' (Z1 fs i p hi hk)];by_cases e:k'=k
  ·subst e;rw [has_put_same h.tidy.isMap (jm k') _,hf];rfl
  ·rw [has_put_other (by simpa using e),h.has]
 ·by_cases e:k'=k
  ·subst e;rw [atKey_put_same h.tidy.isMap (jm k') _ _,ZE hf hi hk]
  ·rw [atKey_put_other (by simpa using e),h.at_,jO hf hi hk (Ne.symm e)]
section
variable {P:Program} {k e:TypeId} {q:IntKind} {wr w:World} {base b n:Nat} {D:DataW Unit}
end
theorem qH:∀(fs:List FlP) (i:Nat) (k:ai),fnd i fs k=none↔∀p∈fs,p.key≠k
 | [],i,k=>by simp [fnd]
 | f::fs,i,k=>by
  rw [fnd]
  by_cases h:f.key=k
  ·rw [if_pos h]
   constructor
   ·intro e;cases e
   ·intro e;exact absurd h (e f ab)
  ·rw [if_neg h,qH fs (i+1) k]
   constructor
   ·intro e p hp
    rcases List.mem_cons.1 hp with rfl | hp
    ·exact h
    ·exact e p hp
   ·intro e p hp;exact e p (by simp [hp])
theorem GoodF.nodup (h:GoodF fs):(fs.map (·.key)).Nodup:=by
 rw [List.Nodup,List.pairwise_map,List.pairwise_iff_getElem];intro i j hi hj hij;have h1:=(qH _ _ _).1 (h.one j hj) fs[i] (by
  rw [List.mem_take_iff_getElem];exact⟨i,wu,rfl⟩)
 exact h1
theorem GoodF.of (h6:fs.length<=6) (h:∀p∈fs,(hexC p.key=0/\p.key.length<=1000)/\p.wait.length<=5/\CrewOk (p.lead::p.wait)) (hn:(fs.map (·.key)).Nodup):GoodF fs:=by
 refine⟨h6,fun j hj=>(h _ (List.getElem_mem hj)).1,fun j hj=> ?_,fun j hj=>(h _ (List.getElem_mem hj)).2.1,fun j hj=>(h _ (List.getElem_mem hj)).2.2⟩;rw [qH];intro p hp;rw [List.mem_take_iff_getElem]at hp;obtain⟨i,hi,rfl⟩:=hp;rw [List.Nodup,List.pairwise_map,List.pairwise_iff_getElem]at hn;exact hn i j wu hj wu
theorem GoodF.all (h:GoodF fs):∀p∈fs,(hexC p.key=0/\p.key.length<=1000)/\p.wait.length<=5/\CrewOk (p.lead::p.wait):=fun p hp=>by
 obtain⟨j,hj,rfl⟩:=List.mem_iff_getElem.1 hp
 exact⟨h.key j hj,h.few j hj,h.crew j hj⟩
theorem GoodF.erase (h:GoodF fs) (i:Nat):GoodF (fs.eraseIdx i):=by
 refine GoodF.of ?_ (fun p hp=>h.all p (List.mem_of_mem_eraseIdx hp)) ?_
 ·have:=List.length_eraseIdx_le fs i;have:=h.len;omega
 ·exact h.nodup.sublist ((List.eraseIdx_sublist fs i).map _)
theorem uM (hn:(fs.map (·.key)).Nodup) (hi:i<fs.length):fnd 0 (fs.eraseIdx i) fs[i].key=none:=by
 rw [qH];intro p hp e;rw [List.eraseIdx_eq_take_drop_succ]at hp;rw [List.Nodup,List.pairwise_map,List.pairwise_iff_getElem]at hn;rcases List.mem_append.1 hp with h | h
 ·rw [List.mem_take_iff_getElem]at h;obtain⟨j,hj,rfl⟩:=h;exact hn j i wu hi wu e
 ·rw [List.mem_drop_iff_getElem]at h;obtain⟨j,hj,rfl⟩:=h;exact hn i (i+1+j) hi wu wu e.symm
theorem FlsO.cap (h:FlsO w base v fs):∀A n c,v= aA A n c->c<=maxLen:=by
 rintro A n c rfl;obtain⟨As,h1,h2,h3,h4⟩:=h;rcases h2.2 with ⟨h1,h2⟩ | ⟨_,cap,_,h1,_,_,h2,h3,_⟩
 ·injection h1 with _ _ h3;subst h3;simp [maxLen]
 ·injection h1 with _ _ h4;subst h4;exact h3
theorem U7 (A B:aj) (c d:Nat) (l:List Int) (w:World) (hn:l.length<=9223372036854775807) (h1:Rd w 1 A l.length (ins l)) (h2:Rd w 1 B l.length (ins l)) :
  Calls Tryz.prog 34 #[aA A l.length c,aA B l.length d] w fun e w'=>e= .returned (.bool true)/\∃q,w'=w.drewN q:=by
 rcases Nat.eq_zero_or_pos l.length with h0 | h0
 ·rw [h0];refine(Tryz.slices_Equal_int_empty A B c 0 d w wu).mono ?_;rintro e w' ⟨rfl,rfl⟩;exact⟨ab,0,rfl⟩
 ·obtain⟨b1,o1,rfl,_,hc1⟩:=h1.2 wu;obtain⟨b2,o2,rfl,_,hc2⟩:=h2.2 wu;have hg:∀j,j<l.length->(ins l)[j]?=aG (aB aC (l.getD j 0)):=fun j hj=>by
   rw [ins,List.getElem?_map,List.getElem?_eq_getElem hj,List.getD_eq_getElem?_getD,List.getElem?_eq_getElem hj];rfl
  refine(Tryz.slices_Equal_int b1 o1 l.length c b2 o2 l.length d l l w ag ag hn hn (fun j hj=>hc1 j _ (hg j hj)) (fun j hj=>hc2 j _ (hg j hj))).mono ?_;rintro e w' ⟨rfl,h⟩;exact⟨ab,h⟩
theorem Ur (s:ByteArray) (ld:Int) (A B:aj) (c d:Nat) (l:List Int) (w:World) (hn:l.length<=9223372036854775807) (h1:Rd w 1 A l.length (ins l)) (h2:Rd w 1 B l.length (ins l)) :
  Calls Tryz.prog 33 #[.agg #[.string s,aB aC ld,aA A l.length c],.agg #[.string s,aB aC ld,aA B l.length d]] w fun e w'=>e= .returned (.bool true)/\Below w.heap.size w w':=by
 obtain⟨W,hW,hA,hB,hb⟩:=zW w 90 [.string s,aB aC ld,aA A l.length c] [.string s,aB aC ld,aA B l.length d];have HE:=sqH (U7 A B c d l W hn (h1.below hb) (h2.below hb));obtain⟨a0,a1,a2⟩:=sqC3 hA;obtain⟨b0,b1,b2⟩:=sqC3 hB;rw [hW]at a0 a1 a2 b0 b1 b2;go_enter Tryz.func33,Tryz.ntmps33
 refine wL ?_;intros;rw [<-hW]at a0 a1 a2 b0 b1 b2 ⊢
 clear hW;refine HE.o.mono ?_;rintro e_ w1 ⟨rfl,⟨q1,hq1⟩⟩;dsimp only;have hb1:Below W.heap.size W w1:=by rw [hq1];exact below_drewN (Below.refl _ _) q1
 clear hq1
 refine wL ?_;intros;go_ret;exact⟨rfl,wm hb hb1⟩
theorem U5 (A B:aj) (c d:Nat) (fs:List FlP) (w:World) (hn:fs.length<=1000000) (hw:∀p∈fs,p.wait.length<=1000000) (h1:Fls w A fs) (h2:Fls w B fs) :
  Calls Tryz.prog 32 #[aA A fs.length c,aA B fs.length d,.func (.func 33) #[] #[]] w fun e w'=>e= .returned (.bool true)/\Below w.heap.size w w':=by
 have HWT:=sqH hw;clear hw;go_enter Tryz.func32,Tryz.ntmps32
 refine wL ?_;intros;go_loopg [17] fs.length (fun gn i wr=>∃j:Nat,gn=fs.length - j/\i= aB aC j/\j<=fs.length/\Below w.heap.size w wr)
 case atStart=>exact⟨0,rfl,rfl,wu,Below.refl _ _⟩
 case round =>
  obtain⟨j,hgk,rfl,hj,hbl⟩:=hrel;have HGK:=sqH hgk;clear hgk;by_cases hlt:j<fs.length
  ·have hcc:decide (j<fs.length)=true:=decide_eq_true hlt;obtain⟨ba,oa,BA,ca,rfl,hba,c0,c1,c2,hra,_,_⟩:=(h1.below hbl).at_ j hlt;obtain⟨bb,ob,BB,cb,rfl,hbb,d0,d1,d2,hrb,_,_⟩:=(h2.below hbl).at_ j hlt;have hwl:=HWT.o _ (List.getElem_mem hlt);have hj0:=we j
   have hj1:(j:Int)<(fs.length:Int):=wu;generalize (⟨fs[j].key.toArray⟩:ByteArray)=s at *
   generalize fs[j].lead=ld at *
   generalize fs[j].wait=wt at *
   obtain⟨W,hW,hA,hB,hb⟩:=zW wr 90 [.string s,aB aC ld,aA BA wt.length ca] [.string s,aB aC ld,aA BB wt.length cb];have HE:=sqH (Ur s ld BA BB ca cb wt W wu (hra.below hb) (hrb.below hb));obtain⟨a0,a1,a2⟩:=sqC3 hA;obtain⟨b0,b1,b2⟩:=sqC3 hB;have e0:(wr.alloc (.cells #[.string s,aB aC ld,aA BA wt.length ca] 90)).cell? ⟨bb,ob+j*3,none⟩=aG (.string s):=(World.cell?_alloc_lt wr _ _ hbb).trans d0;have e1:(wr.alloc (.cells #[.string s,aB aC ld,aA BA wt.length ca] 90)).cell? ⟨bb,ob+j*3+1,none⟩=aG (aB aC ld):=(World.cell?_alloc_lt wr _ _ hbb).trans d1;have e2:(wr.alloc (.cells #[.string s,aB aC ld,aA BA wt.length ca] 90)).cell? ⟨bb,ob+j*3+2,none⟩=aG (aA BB wt.length cb):=(World.cell?_alloc_lt wr _ _ hbb).trans d2;rw [hW]at a0 a1 a2 b0 b1 b2;have HW:=sqH hW;clear hW hA hB d0 d1 d2 hra hrb
   refine wL ?_;intros;rw [<-HW.o]at a0 a1 a2 b0 b1 b2 ⊢
   refine wZ HE.o fun w5 hb5=>?_;dsimp only;have hb05:=hbl.trans ((wm hb hb5).mono hbl.size)
   refine wL ?_;intros;go_roundg (fs.length - (j+1))
   case measure=>exact wc HGK
   case rel=>exact⟨j+1,rfl,by go_num,wu,hb05⟩
  ·obtain rfl:j=fs.length:=by omega
   have hcc:decide (fs.length<fs.length)=false:=ab;refine wL ?_;intros;go_ret;exact⟨rfl,hbl⟩
abbrev stZ:StoP:=⟨[], [],0,0⟩
abbrev coZ:ColP:=⟨0, [], []⟩
abbrev loZ:LoP:=⟨stZ,coZ, []⟩
def yw (fs:List FlP) (key:ai) (n:Int):List FlP×Bool×Nat :=
 match fnd 0 fs key with
 | none=>if fs.length=6 then ([],false,7) else (fs++ [⟨key,n, []⟩],true,0)
 | some i=>match fs[i]? with
  | none=>([],false,0)
  | some p=>if (p.lead::p.wait).contains n then ([],false,6) else if p.wait.length=5 then ([],false,7) else (fs.set i ⟨p.key,p.lead,p.wait++ [n]⟩,false,0)
def xo (fs:List FlP) (key:ai):List FlP×List Int×Nat :=
 match fnd 0 fs key with
 | none=>([], [],5)
 | some i=>match fs[i]? with
  | none=>([], [],0)
  | some p=>(fs.eraseIdx i,p.lead::p.wait,0)
noncomputable def qN (s:StoP) (c:ColP) (key:ai) (ps:List PartP):StoP×ColP×Nat :=
 if qK s.aI ps=0 then ((zH (xF s key ps) c (ps.map (·.dig))).1,(zH (xF s key ps) c (ps.map (·.dig))).2,0) else (stZ,coZ,qK s.aI ps)
def Za (l:LoP) (key:ai) (n:Int):LoP×List PartP×Bool×Nat :=
 match l.st.aJ.findIdx? (fun x=>x.key==key) with
 | some i=>match l.st.aJ[i]? with
  | none=>(loZ, [],false,0)
  | some x=>({ l with st:=kD l.st i x },x.aP,false,0)
 | none=>if (yw l.fs key n).2.2=0 then ({ l with fs:=(yw l.fs key n).1 }, [],(yw l.fs key n).2.1,0) else (loZ, [],false,(yw l.fs key n).2.2)
noncomputable def kY (l:LoP) (key:ai) (ps:List PartP):LoP×List Int×Nat :=
 if (xo l.fs key).2.2=0 then
  if (qN l.st l.co key ps).2.2=0 then (⟨(qN l.st l.co key ps).1,(qN l.st l.co key ps).2.1,(xo l.fs key).1⟩,(xo l.fs key).2.1,0) else (loZ, [],(qN l.st l.co key ps).2.2)
 else (loZ, [],(xo l.fs key).2.2)
def xu (l:LoP) (key:ai):LoP×List Int×Nat :=
 if (xo l.fs key).2.2=0 then ({ l with fs:=(xo l.fs key).1 },(xo l.fs key).2.1,0) else (loZ, [],(xo l.fs key).2.2)
noncomputable def Vl (l:LoP) (key:ai) (ps:List PartP):LoP×Nat :=
 if (fnd 0 l.fs key).isSome then (loZ,10)
 else if (qN l.st l.co key ps).2.2=0 then (⟨(qN l.st l.co key ps).1,(qN l.st l.co key ps).2.1,l.fs⟩,0) else (loZ,(qN l.st l.co key ps).2.2)
theorem jT (s:StoP) (c:ColP) (ds:List ai):(zH s c ds).1.aL=s.aL/\(zH s c ds).1.aK=s.aK:=by
 rw [kI];exact⟨rfl,rfl⟩
theorem jQ:es.findIdx? (fun x=>x.key==k)=none↔∀x∈es,x.key≠k:=by
 rw [List.findIdx?_eq_none_iff];simp
theorem jR (h:es.findIdx? (fun x=>x.key==k)=some i):∃hi:i<es.length,es[i].key=k:=by
 obtain⟨hi,h1,_⟩:=List.findIdx?_eq_some_iff_getElem.1 h;exact⟨hi,by simpa using h1⟩
theorem GoodL.apart (h:GoodL l):∀p∈l.fs,∀x∈l.st.aJ,x.key≠p.key:=fun p hp=>by
 obtain⟨j,hj,rfl⟩:=List.getElem_of_mem hp
 exact jQ.1 (h.no j hj)
theorem GoodL.of (hs:GoodS l.st) (hc:GoodC l.st l.co) (hg:l.co.aM.length<=1000) (hf:GoodF l.fs) (hn:∀p∈l.fs,∀x∈l.st.aJ,x.key≠p.key):GoodL l :=
 ⟨hs,hc,hg,hf,fun j hj=>jQ.2 (hn _ (List.getElem_mem hj))⟩
theorem xU {t:StoP} {c:ColP} (h:GoodC s c) (hb:t.aI=s.aI) (hr:∀x∈rts t,x∈rts s):GoodC t c :=
 ⟨h.ph,h.gh,h.ris,h.ah,h.g0,h.a0,fun h1 x hx hb'=>by rw [hb]at hb' ⊢;exact h.mr h1 x (hr x hx) hb',fun h1=>by rw [hb];exact h.mb h1,fun h1 x hx=>by
  rw [hb]at hx ⊢
  exact h.sw h1 x (hx.dmono hr)⟩
theorem Ku (hi:i<es.length) (h:x.aP=es[i].aP):ux (es.set i x)=ux es:=by
 unfold ux;rw [List.flatMap_def,List.flatMap_def,Kz (fun x:EntP=>x.aP.map (·.dig)) hi (by rw [h])]
theorem Ki (hi:i<s.aJ.length):rts (kD s i s.aJ[i])=rts s:=by
 show ux (s.aJ.set i { s.aJ[i] with aO:=s.aK+1 })++uF s.aI=ux s.aJ++uF s.aI;rw [Ku (x:= { s.aJ[i] with aO:=s.aK+1 }) hi rfl]
theorem xi {y:EntP} (hi:i<es.length) (hk:x.key=es[i].key) (h:y∈es.set i x):∃z∈es,z.key=y.key:=by
 rcases List.mem_or_eq_of_mem_set h with h | rfl
 ·exact⟨y,h,rfl⟩
 ·exact⟨es[i],List.getElem_mem hi,hk.symm⟩
theorem GoodL.get (h:GoodL l) (hi:i<l.st.aJ.length) (hc:l.st.aK<1099511627776):GoodL { l with st:=kD l.st i l.st.aJ[i] } :=
 .of (ZB h.s hi hc) (xU h.c rfl (fun x hx=>by rw [Ki hi]at hx;exact hx)) h.g h.f fun p hp x hx=>by
  obtain⟨z,hz,e⟩:=xi (x:= { l.st.aJ[i] with aO:=l.st.aK+1 }) hi rfl hx
  rw [<-e]
  exact h.apart p hp z hz
theorem Yi (h:GoodF fs) (hk:hexC key=0) (hkl:key.length<=1000) (h1:1<=n) (h2:n<=1000) (h0:(yw fs key n).2.2=0) :
  GoodF (yw fs key n).1/\(∀p∈(yw fs key n).1,p.key=key\/∃q∈fs,q.key=p.key)/\(yw fs key n).1.length<=fs.length+1:=by
 unfold yw at h0 ⊢
 cases hf:fnd 0 fs key with
 | none =>
  rw [hf]at h0;simp only at h0 ⊢
  by_cases h6:fs.length=6
  ·rw [if_pos h6]at h0;cases h0
  ·rw [if_neg h6];refine⟨h.snoc (by have:=h.len;omega) hk hkl hf h1 h2,fun p hp=> ?_,ab⟩;rcases List.mem_append.1 hp with hp | hp
   ·exact .inr ⟨p,hp,rfl⟩
   ·rw [List.mem_singleton.1 hp];exact .inl rfl
 | some i =>
  obtain⟨hi,hik⟩:=yi hf;rw [hf]at h0;simp only [List.getElem?_eq_getElem hi]at h0 ⊢
  by_cases hc:(fs[i].lead::fs[i].wait).contains n=true
  ·rw [if_pos hc]at h0;cases h0
  ·rw [if_neg hc]at h0 ⊢
   by_cases h5:fs[i].wait.length=5
   ·rw [if_pos h5]at h0;cases h0
   ·rw [if_neg h5];refine⟨h.set hi h1 h2 (by simpa using hc) (by have:=h.few i hi;omega),fun p hp=> ?_,ab⟩;rcases List.mem_or_eq_of_mem_set hp with hp | rfl
    ·exact .inr ⟨p,hp,rfl⟩
    ·exact .inl hik
structure LInv (m:Nat) (l:LoP):Prop where
 b:Bsy m l.st l.co
 f:GoodF l.fs
 ap:∀p∈l.fs,∀x∈l.st.aJ,x.key≠p.key
 k7:∀p∈l.fs,∃j,j<7/\p.key=keyS j
theorem LInv.good (h:LInv m l) (hm:m<=78):GoodL l:= .of h.b.g h.b.gc (by have:=h.b.gr;omega) h.f h.ap
theorem LInv.up {n:Nat} (h:LInv m l) (hn:m<=n):LInv n l:=⟨h.b.up hn,h.f,h.ap,h.k7⟩
theorem LInv.get (h:LInv m l) (hm:m<=1000) (hi:i<l.st.aJ.length):LInv (m+1) { l with st:=kD l.st i l.st.aJ[i] }:=by
 have hc:l.st.aK<1099511627776:=by have:=h.b.ck;omega
 have hk:∀x∈(kD l.st i l.st.aJ[i]).aJ,∃z∈l.st.aJ,z.key=x.key:=fun x hx=>xi (x:= { l.st.aJ[i] with aO:=l.st.aK+1 }) hi rfl hx;refine⟨⟨ZB h.b.g hi hc,xU h.b.gc rfl (fun x hx=>by rw [Ki hi]at hx;exact hx),?_,fun x hx=> ?_,?_⟩,h.f,fun p hp x hx=> ?_,h.k7⟩
 ·have:=h.b.gr;show 8*unm l.st.aI+l.co.aM.length<=_;omega
 ·obtain⟨z,hz,e⟩:=hk x hx;rw [<-e];exact h.b.k7 z hz
 ·have:=h.b.ck;show l.st.aK+1<=_;omega
 ·obtain⟨z,hz,e⟩:=hk x hx;rw [<-e];exact h.ap p hp z hz
theorem LInv.ask (h:LInv m l) (hm:m<=78) (hk:∃j,j<7/\key=keyS j) (h1:1<=n) (h2:n<=1000) (h0:(Za l key n).2.2.2=0):LInv (m+1) (Za l key n).1:=by
 have hkx:hexC key=0/\key.length<=1000:=by obtain⟨j,_,rfl⟩:=hk;exact⟨zE _,by rw [keyS,Z2];omega⟩
 unfold Za at h0 ⊢
 cases hf:l.st.aJ.findIdx? (fun x=>x.key==key) with
 | some i =>
  obtain⟨hi,_⟩:=jR hf;simp only [List.getElem?_eq_getElem hi];exact h.get wu hi
 | none =>
  rw [hf]at h0;simp only at h0 ⊢
  split at h0
  ·rename_i hj;rw [if_pos hj];obtain⟨a1,a2,_⟩:=Yi h.f hkx.1 hkx.2 h1 h2 hj;refine⟨h.b.up (Nat.le_succ _),a1,fun p hp x hx=> ?_,fun p hp=> ?_⟩
   ·rcases a2 p hp with e | ⟨q,hq,e⟩
    ·rw [e];exact jQ.1 hf x hx
    ·rw [<-e];exact h.ap q hq x hx
   ·rcases a2 p hp with e | ⟨q,hq,e⟩
    ·rw [e];exact hk
    ·rw [<-e];exact h.k7 q hq
  ·rename_i hj;exact absurd h0 hj
theorem Zy (h:GoodF fs) (h0:(xo fs key).2.2=0) :
  GoodF (xo fs key).1/\(∀p∈(xo fs key).1,p∈fs/\p.key≠key)/\∃i,∃hi:i<fs.length,fs[i].key=key/\xo fs key=(fs.eraseIdx i,fs[i].lead::fs[i].wait,0):=by
 unfold xo at h0 ⊢
 cases hf:fnd 0 fs key with
 | none=>rw [hf]at h0;cases h0
 | some i =>
  obtain⟨hi,hik⟩:=yi hf;simp only [List.getElem?_eq_getElem hi];refine⟨h.erase i,fun p hp=>⟨List.mem_of_mem_eraseIdx hp,fun e=> ?_⟩,i,hi,hik,rfl⟩;have:=uM h.nodup hi;rw [hik]at this;exact(qH _ _ _).1 this p hp e
theorem LInv.done (h:LInv m l) (hm:m<=78) (hk:∃j,j<7/\key=keyS j) (hp:chk ps=0) (h0:(kY l key ps).2.2=0):LInv (m+1) (kY l key ps).1:=by
 unfold kY at h0 ⊢
 split at h0
 ·rename_i he;rw [if_pos he];obtain⟨a1,a2,_⟩:=Zy h.f he;split at h0
  ·rename_i hb;rw [if_pos hb];unfold qN at hb ⊢
   by_cases hh:qK l.st.aI ps=0
   ·rw [if_pos hh];refine⟨h.b.pute hk hp hh (by have:=h.b.ck;omega),a1,fun p hp x hx=> ?_,fun p hp=>h.k7 p (a2 p hp).1⟩;dsimp only at hx;rw [kI]at hx;rcases jY (show x∈xl l.st.aJ _ from hx) with h3 | ⟨h3,_⟩
    ·exact h.ap p (a2 p hp).1 x h3
    ·rw [h3];exact fun e=>(a2 p hp).2 e.symm
   ·rw [if_neg hh]at hb;exact absurd hb hh
  ·rename_i hb;exact absurd h0 hb
 ·rename_i he;exact absurd h0 he
theorem LInv.fail (h:LInv m l) (h0:(xu l key).2.2=0):LInv (m+1) (xu l key).1:=by
 unfold xu at h0 ⊢
 split at h0
 ·rename_i he;rw [if_pos he];obtain⟨a1,a2,_⟩:=Zy h.f he;exact⟨h.b.up (Nat.le_succ _),a1,fun p hp=>h.ap p (a2 p hp).1,fun p hp=>h.k7 p (a2 p hp).1⟩
 ·rename_i he;exact absurd h0 he
theorem LInv.put (h:LInv m l) (hm:m<=78) (hk:∃j,j<7/\key=keyS j) (hp:chk ps=0) (h0:(Vl l key ps).2=0):LInv (m+1) (Vl l key ps).1:=by
 unfold Vl at h0 ⊢
 split at h0
 ·cases h0
 ·rename_i he;rw [if_neg he];split at h0
  ·rename_i hb;rw [if_pos hb];unfold qN at hb ⊢
   by_cases hh:qK l.st.aI ps=0
   ·rw [if_pos hh];refine⟨h.b.pute hk hp hh (by have:=h.b.ck;omega),h.f,fun p hp x hx=> ?_,h.k7⟩;dsimp only at hx;rw [kI]at hx;rcases jY (show x∈xl l.st.aJ _ from hx) with h3 | ⟨h3,_⟩
    ·exact h.ap p hp x h3
    ·rw [h3];intro e;have hn:fnd 0 l.fs key=none:=by
      cases hf:fnd 0 l.fs key with
      | none=>rfl
      | some i=>rw [hf]at he;exact absurd rfl he
     exact(qH _ _ _).1 hn p hp e.symm
   ·rw [if_neg hh]at hb;exact absurd hb hh
  ·rename_i hb;exact absurd h0 hb
end Go.Proofs.YtcjmjaefcjcomaaGreat
