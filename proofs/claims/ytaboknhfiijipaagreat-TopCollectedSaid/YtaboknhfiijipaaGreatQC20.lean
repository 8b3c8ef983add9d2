/- Lemmas, as stated. -/
import Derived.Maps.GroupsBeside
import Derived.Test.YtaboknhfiijipaaGreatQC12
set_option linter.unusedVariables false
set_option linter.unusedSimpArgs false
set_option maxRecDepth 100000
set_option maxHeartbeats 8000000
open Go.Proofs.Tryz
open Go.Proofs.Tryz renaming prog->zZZ
open Go.Value renaming slice->aB,int->aC,string->aE
open Go.IntKind renaming i64->aD
open Option renaming none->aG,some->aH
namespace Go.Proofs.YtaboknhfiijipaaGreat
variable {p:FlP} {n:Int} {fs:List FlP} {base c cap g i:Nat} {e:TypeId} {v:Value} {w w':World} {k k':aj} {xs:al}
theorem yN:∀(fs gs:List FlP) (i:Nat) (k:aj),fs.map (·.key)=gs.map (·.key)->fnd i fs k=fnd i gs k
 | [], [],i,k,_=>rfl
 | f::fs,g::gs,i,k,h=>by
  simp only [List.map_cons,List.cons.injEq]at h
  rw [fnd,fnd,h.1,yN fs gs (i+1) k h.2]
theorem CrewOk.snoc {l:List Int} (h:CrewOk l) (h1:1<=n) (h2:n<=1000) (hn:l.contains n=false):CrewOk (l++ [n]):=fun j hj=>by
 rw [List.length_append]at hj
 simp only [List.length_cons,List.length_nil]at hj
 by_cases hl:j<l.length
 ·rw [List.getElem_append_left hl,List.take_append_of_le_length ww]
  exact h j hl
 ·have he:j=l.length:=ww
  subst he
  rw [List.getElem_append_right ai,List.take_left]
  simp only [Nat.sub_self,List.getElem_cons_zero]
  exact⟨⟨h1,h2⟩,hn⟩
theorem CrewOk.one (h1:1<=n) (h2:n<=1000):CrewOk [n]:=fun j hj=>by
 have h0:j=0:=by simpa using hj
 subst h0
 exact⟨⟨h1,h2⟩,rfl⟩
theorem GoodF.nil_:GoodF []:=⟨ac,(fun j h=>by cases h),(fun j h=>by cases h),(fun j h=>by cases h),(fun j h=>by cases h)⟩
theorem GoodF.snoc (h:GoodF fs) (h6:fs.length<6) (hk:hexC k=0) (hkl:k.length<=1000) (hf:fnd 0 fs k=aG) (h1:1<=n) (h2:n<=1000):GoodF (fs++ [⟨k,n, []⟩]):=by
 have split:∀j,j<(fs++ [(⟨k,n, []⟩:FlP)]).length->j<fs.length\/j=fs.length:=fun j hj=>by
  rw [List.length_append]at hj;simp only [List.length_cons,List.length_nil]at hj;omega
 refine⟨by rw [List.length_append];simp only [List.length_cons,List.length_nil];omega,fun j hj=> ?_,fun j hj=> ?_,fun j hj=> ?_,fun j hj=> ?_⟩
 ·rcases split j hj with hl | rfl
  ·rw [List.getElem_append_left hl];exact h.key j hl
  ·rw [List.getElem_append_right ai];simp only [Nat.sub_self,List.getElem_cons_zero];exact⟨hk,hkl⟩
 ·rcases split j hj with hl | rfl
  ·rw [List.getElem_append_left hl,List.take_append_of_le_length ww];exact h.one j hl
  ·rw [List.getElem_append_right ai,List.take_left];simp only [Nat.sub_self,List.getElem_cons_zero];exact hf
 ·rcases split j hj with hl | rfl
  ·rw [List.getElem_append_left hl];exact h.few j hl
  ·rw [List.getElem_append_right ai];simp only [Nat.sub_self,List.getElem_cons_zero];exact Nat.zero_le _
 ·rcases split j hj with hl | rfl
  ·rw [List.getElem_append_left hl];exact h.crew j hl
  ·rw [List.getElem_append_right ai];simp only [Nat.sub_self,List.getElem_cons_zero];exact CrewOk.one h1 h2
theorem GoodF.set (h:GoodF fs) (hi:i<fs.length) (h1:1<=n) (h2:n<=1000) (hin:(fs[i].lead::fs[i].wait).contains n=false) (h5:fs[i].wait.length<5) :
  GoodF (fs.set i ⟨fs[i].key,fs[i].lead,fs[i].wait++ [n]⟩):=by
 have hkeys:∀m,((fs.set i ⟨fs[i].key,fs[i].lead,fs[i].wait++ [n]⟩).take m).map (·.key)=(fs.take m).map (·.key):=fun m=>by
  rw [List.map_take,List.map_take,List.map_set]
  congr 1
  apply List.ext_getElem
  ·simp
  ·intro j h1 h2;rw [List.getElem_set];split
   ·rename_i e;subst e;simp
   ·rfl
 refine⟨by rw [List.length_set];exact h.len,fun j hj=> ?_,fun j hj=> ?_,fun j hj=> ?_,fun j hj=> ?_⟩
 all_goals
  rw [List.length_set]at hj;by_cases e:i=j
  ·subst e
   first
    | (rw [List.getElem_set_self];exact h.key i hi)
    | (rw [List.getElem_set_self,yN _ _ _ _ (hkeys i)];exact h.one i hi)
    | (rw [List.getElem_set_self,List.length_append];simp only [List.length_cons,List.length_nil];omega)
    | (rw [List.getElem_set_self];exact(h.crew i hi).snoc h1 h2 hin)
  ·first
    | (rw [List.getElem_set_ne e];exact h.key j hj)
    | (rw [List.getElem_set_ne e,yN _ _ _ _ (hkeys j)];exact h.one j hj)
    | (rw [List.getElem_set_ne e];exact h.few j hj)
    | (rw [List.getElem_set_ne e];exact h.crew j hj)
open Go.RowKit
theorem z4n:El zZZ 38 93 3 48:=El.mk' (z:= .agg #[aE ByteArray.empty,aC aD 0,aB aG 0 0]) underlying38 aa rfl ww ww
theorem Zp (A:ak) (c:Nat) (l:List Int) (w:World) (hb:l.length<=1000000) (hr:Rd w 1 A l.length (ins l)) :
  Calls zZZ 171 #[aB A l.length c] w fun e w'=>∃v,e= .returned v/\w'.ownsRow w.heap.size 3 1 v l.length (ins l)/\Below w.heap.size w w':=by
 have heq:=fun W=>Lib.run_eql_slice_nil (P:=zZZ) W 45 3 A l.length c 0 0 underlying45;cases A with
 | none =>
  have h0:l.length=0:=by
   rcases Nat.eq_zero_or_pos l.length with h | h
   ·exact h
   ·obtain⟨_,_,h1,_⟩:=hr.2 h;cases h1
  obtain rfl:l= []:=List.eq_nil_of_length_eq_zero h0;have heq:=fun W=>Lib.run_eql_slice_nil (P:=zZZ) W 45 3 aG 0 c 0 0 underlying45;rw [List.length_nil];go_enter func171,ntmps171;go_wp2_with fail;go_ret;exact⟨_,rfl,World.ownsRow_nil _ _ _ _,Below.refl _ _⟩
 | some ad =>
  go_enter func171,ntmps171
  refine wL ?_;intros;refine zP rfl (.tmp 5) (.tmp 6) rfl z1h ae (World.ownsRow_made (size:=1) w #[] 0 ai (by simp [maxLen]) rfl) ae (hr.alloc _) (V3 l) ww ac ?_;intro v1 w1 hown1 hg1 _;have hb1:=zk ((Below.refl _ _).alloc ai _) (World.ownsRow_made (size:=1) w #[] 0 ai (by simp [maxLen]) rfl) ai hg1;go_wp2_with fail;go_ret;exact⟨_,rfl,by simpa using hown1,hb1⟩
def kf (fs:List FlP) (As:List (ak×Nat)):al:=(fs.zip As).flatMap fun x=>qR x.1 x.2.1 x.2.2
def blk (a:ak×Nat):Option Nat:=a.1.map (·.block)
theorem qJ (a:ak×Nat) (n:Nat):(aB a.1 n a.2).ownBlock=blk a:=by
 obtain⟨A,c⟩:=a;cases A<;>rfl
def FlsO (w:World) (base:Nat) (v:Value) (fs:List FlP):Prop :=
 ∃(As:List (ak×Nat)),As.length=fs.length/\w.ownsRow base 93 3 v fs.length (kf fs As) /\
  (∀(k:Nat) (p:FlP) (a:ak×Nat),fs[k]?=aH p->As[k]?=aH a->w.ownsRow base 3 1 (aB a.1 p.wait.length a.2) p.wait.length (ins p.wait)/\∀g,blk a=aH g->v.ownBlock≠aH g) /\
  (∀(k j:Nat) (a b:ak×Nat),k<j->As[k]?=aH a->As[j]?=aH b->∀g,blk a=aH g->blk b≠aH g)
theorem z1y {n:Nat} {A:ak} (h:w.ownsRow base e 1 (aB A n c) n xs):n<=c/\c<=maxLen:=by
 rcases h.2 with ⟨h1,h2⟩ | ⟨_,cap,_,h1,_,_,h2,h3,_⟩
 ·injection h1 with _ _ h3;subst h3;omega
 ·injection h1 with _ _ h4;subst h4;exact⟨h2,h3⟩
theorem FlsO.fls (h:FlsO w base v fs):∃A c,v= aB A fs.length c/\fs.length<=c/\Fls w A fs:=by
 obtain⟨As,h1,h2,h3,h4⟩:=h;obtain⟨A,c,rfl,hc,hr⟩:=Rd.of_own' h2;refine⟨A,c,rfl,hc,As,h1,hr,fun k p a hp ha=> ?_⟩;have ho:=(h3 k p a hp ha).1;exact⟨Rd.of_own ho,z1y ho⟩
theorem FlsO.nil_ (w:World) (base:Nat) (v:Value) (h:w.ownsRow base 93 3 v 0 []):FlsO w base v [] :=
 ⟨[],rfl,h,(fun k p a hp _=>by cases hp),(fun k j a b _ ha=>by cases ha)⟩
theorem FlsO.below (h:FlsO w base v fs) (hb:Below w.heap.size w w'):FlsO w' base v fs:=by
 obtain⟨As,h1,h2,h3,h4⟩:=h;exact⟨As,h1,zc h2 hb,(fun k p a hp ha=>⟨zc (h3 k p a hp ha).1 hb,(h3 k p a hp ha).2⟩),h4⟩
theorem FlsO.lower {b':Nat} (h:FlsO w base v fs) (hb:b'<=base):FlsO w b' v fs:=by
 obtain⟨As,h1,h2,h3,h4⟩:=h;exact⟨As,h1,zb h2 hb,(fun k p a hp ha=>⟨zb (h3 k p a hp ha).1 hb,(h3 k p a hp ha).2⟩),h4⟩
theorem ut:∀(fs:List FlP) (As:List (ak×Nat)) (p:FlP) (a:ak×Nat),As.length=fs.length->kf (fs++ [p]) (As++ [a])=kf fs As++qR p a.1 a.2
 | [], [],p,a,_=>by simp [kf]
 | f::fs,b::As,p,a,h=>by
  have ih:=ut fs As p a (by simpa using h)
  simp only [kf]at ih ⊢
  rw [List.cons_append,List.cons_append,List.zip_cons_cons,List.zip_cons_cons,List.flatMap_cons,List.flatMap_cons,ih,List.append_assoc]
theorem FlsO.snoc {v':Value} {B:ak} {As:List (ak×Nat)} (h1:As.length=fs.length)
  (h3:∀(k:Nat) (p:FlP) (a:ak×Nat),fs[k]?=aH p->As[k]?=aH a->w.ownsRow base 3 1 (aB a.1 p.wait.length a.2) p.wait.length (ins p.wait)/\∀g,blk a=aH g->v.ownBlock≠aH g)
  (h4:∀(k j:Nat) (a b:ak×Nat),k<j->As[k]?=aH a->As[j]?=aH b->∀g,blk a=aH g->blk b≠aH g)
  (ho:w'.ownsRow base 93 3 v' (fs.length+1) (kf fs As++qR p B c))
  (hg:w.grownBy w' v.ownBlock) (hv:v'.ownBlock=v.ownBlock\/∃g,v'.ownBlock=aH g/\w.heap.size<=g)
  (hB:w.ownsRow base 3 1 (aB B p.wait.length c) p.wait.length (ins p.wait)) (hne:∀g,blk (B,c)=aH g->v.ownBlock≠aH g)
  (hfr:∀(k:Nat) (a:ak×Nat),As[k]?=aH a->∀g,blk a=aH g->blk (B,c)≠aH g):FlsO w' base v' (fs++ [p]):=by
 have keep:∀(a:ak×Nat) (l:List Int),w.ownsRow base 3 1 (aB a.1 l.length a.2) l.length (ins l)->(∀g,blk a=aH g->v.ownBlock≠aH g) ->
   w'.ownsRow base 3 1 (aB a.1 l.length a.2) l.length (ins l)/\∀g,blk a=aH g->v'.ownBlock≠aH g:=fun a l hr hn=>by
  refine⟨hr.kept hg ?_,fun g e=> ?_⟩
  ·rw [qJ];cases hb:blk a with
   | none=>exact .inl rfl
   | some g=>exact .inr (fun h=>hn g hb h.symm)
  ·rcases hv with h | ⟨g',h,hge⟩
   ·rw [h];exact hn g e
   ·rw [h];have:=(hr.lt g (by rw [qJ];exact e)).2;intro h';cases h';omega
 refine⟨As++ [(B,c)],by simp [h1],?_,fun k q a hq ha=> ?_,fun k j a b hkj ha hb g hag=> ?_⟩
 ·rw [ut fs As p (B,c) h1,List.length_append];exact ho
 ·by_cases hk:k<fs.length
  ·rw [List.getElem?_append_left hk]at hq;rw [List.getElem?_append_left ww]at ha;obtain⟨i1,i2⟩:=h3 k q a hq ha;exact keep a q.wait i1 i2
  ·rw [List.getElem?_append_right ww]at hq ha;have hk0:k - fs.length=0:=by
    have:=(List.getElem?_eq_some_iff.1 hq).1;simp at this;exact this
   rw [h1,hk0]at ha;rw [hk0]at hq;simp only [List.getElem?_cons_zero,Option.some.injEq]at hq ha;subst hq ha;exact keep (B,c) p.wait hB hne
 ·have hjl:=(List.getElem?_eq_some_iff.1 hb).1;rw [List.length_append]at hjl;simp only [List.length_cons,List.length_nil]at hjl;rw [List.getElem?_append_left ww]at ha;by_cases hj:j<As.length
  ·rw [List.getElem?_append_left hj]at hb;exact h4 k j a b hkj ha hb g hag
  ·rw [List.getElem?_append_right ww]at hb;have:j - As.length=0:=by omega
   rw [this]at hb;simp only [List.getElem?_cons_zero,Option.some.injEq]at hb;subst hb;exact hfr k a ha g hag
theorem ku (A:ak) (c:Nat) (fs:List FlP) (w:World) (hn:fs.length<=1000) (hw:∀p∈fs,p.wait.length<=1000) (hf:Fls w A fs) (hc:fs.length<=c) :
  Calls zZZ 150 #[aB A fs.length c] w fun e w'=>∃v,e= .returned v/\FlsO w' w.heap.size v fs/\Below w.heap.size w w':=by
 have HWT:=sqH hw;clear hw;go_enter func150,ntmps150
 refine wL ?_;intros;refine ya rfl _ _ rfl z4n fs.length rfl rfl ww ww ?_;intro w1 g1 hown1 hb1;have ho1:=FlsO.nil_ w1 w.heap.size _ hown1
 refine wL ?_;intros;go_loopg [3,11,5] fs.length (fun gn v i u wr=>∃k:Nat,gn=fs.length - k/\i= aC aD k/\k<=fs.length/\FlsO wr w.heap.size v (fs.take k)/\Below w.heap.size w wr)
 case atStart=>exact⟨0,rfl,rfl,ww,ho1,hb1⟩
 case round =>
  clear ho1 hown1 hb1;obtain⟨k,hgq,rfl,hk,ho,hbl⟩:=hrel;have HGK:=sqH hgq;clear hgq;by_cases hlt:k<fs.length
  ·have hcc:decide (k<fs.length)=true:=decide_eq_true hlt;obtain⟨b,off,B,cb,rfl,hbb,c0,c1,c2,hrw,hwc,hcbm⟩:=(hf.below hbl).at_ k hlt;have hwl:=HWT.o fs[k] (List.getElem_mem hlt);have HST:=sqH (show fs.take (k+1)=fs.take k++ [fs[k]] from List.take_succ_eq_append_getElem hlt);have htl:(fs.take k).length=k:=by rw [List.length_take];omega
   obtain⟨p,hp⟩:=wY (fs[k])
   rw [<-hp]at c0 c1 c2 hrw hwc hwl HST;obtain⟨s,hs⟩:=wY (⟨p.key.toArray⟩:ByteArray)
   rw [<-hs]at c0;have HS:=sqH hs;have HTL:=sqH htl;have hk0:=wg k
   have hk1:(k:Int)<(fs.length:Int):=ww;obtain⟨ld,hld⟩:=wY p.lead
   rw [<-hld]at c1;have HLD:=sqH hld;have hP1:Arr (wr.alloc (.cells #[aE s,aC aD ld,aB B p.wait.length cb] 93)) wr.heap.size 93 [aE s,aC aD ld,aB B p.wait.length cb]:=Arr.new wr _ _;have hbr1:=wu wr (.cells #[aE s,aC aD ld,aB B p.wait.length cb] 93);have hs1:(wr.alloc (.cells #[aE s,aC aD ld,aB B p.wait.length cb] 93)).heap.size=wr.heap.size+1:=World.size_alloc _ _;have hrw1:=hrw.alloc (.cells #[aE s,aC aD ld,aB B p.wait.length cb] 93);clear hs hp hld htl hrw
   refine wL ?_;intros;generalize wr.alloc (.cells #[aE s,aC aD ld,aB B p.wait.length cb] 93)=w1 at *
   obtain⟨gp,hgp⟩:=wY wr.heap.size
   rw [<-hgp]at hP1 ⊢
   have HGP:=sqH hgp;clear hgp c0 c1 c2;refine(Zp B cb p.wait w1 ww hrw1).mono ?_;rintro e_ w2 ⟨v2,rfl,ho2,hb2⟩;dsimp only;have hbr2:=wo hbr1 hb2;have hP2:=hP1.below hb2;have hrd2:∀b,v2.ownBlock=aH b->b≠gp:=fun b h=>by have:=(ho2.lt b h).1;have:=HGP.o;omega
   obtain⟨A2,c2,rfl,hc2,hr2⟩:=Rd.of_own' ho2;have hc2m:c2<=maxLen:=by
    rcases ho2.2 with ⟨h1,h2⟩ | ⟨_,cap,_,h1,_,_,_,h2,_⟩
    ·injection h1 with _ _ h3;subst h3;exact Nat.zero_le _
    ·injection h1 with _ _ h3;subst h3;exact h2
   have y2:=hP2.c2;have z2:=hP2.frozen 2;have hP3:=hP2.set (k:=2) ac (aB A2 p.wait.length c2);have hbr3:Below wr.heap.size wr (w2.setCell ⟨gp,2,aG⟩ (aB A2 p.wait.length c2)):=Below.setCell hbr2 (by show wr.heap.size<=gp;have:=HGP.o;omega) _;have hr3:Rd (w2.setCell ⟨gp,2,aG⟩ (aB A2 p.wait.length c2)) 1 A2 p.wait.length (ins p.wait):=by
    refine⟨hr2.1,fun h0=> ?_⟩;obtain⟨b',o',e',hb',hcc'⟩:=hr2.2 h0;have hn':=hrd2 b' (by rw [e'];rfl);subst e';exact(hr2.other hn' _).2 h0
   have hbelow2:True:=trivial;obtain⟨f0,f1,f2⟩:=sqC3 hP3;have hneA:∀b off,A2=aH ⟨b,off,aG⟩->0<p.wait.length->wr.heap.size<=b:=fun b off e _=>by
    have:=(ho2.lt b (by rw [e];rfl)).1;omega
   have ho22:=zd (k:=2) (u:= aB A2 p.wait.length c2) ho2 (fun h=>hrd2 gp h rfl);clear ho2 hr2 hrw1
   refine wL ?_;intros;have hsz:(w2.setCell ⟨gp,2,aG⟩ (aB A2 p.wait.length c2)).heap.size=w2.heap.size:=by simp [World.setCell]
   rw [<-hsz];obtain⟨w3,hw3⟩:=wY (w2.setCell ⟨gp,2,aG⟩ (aB A2 p.wait.length c2))
   rw [<-hw3]at hbr3 hr3 ho22 ⊢
   clear f0 f1 f2 y2 z2 hP3 hw3 hsz;obtain⟨As,j1,j2,j3,j4⟩:=ho;have i1:=j1;have i2:=zc j2 hbr3;have i3:=fun (k:Nat) (p:FlP) (a:ak×Nat) hp ha=>(⟨zc (j3 k p a hp ha).1 hbr3,(j3 k p a hp ha).2⟩:_/\_)
   have i4:=j4;have OLD:=sqH (show ∀k' a,As[k']?=aH a->∀g,blk a=aH g->g<wr.heap.size from fun k' a ha g hg=>by
    have hkl:=(List.getElem?_eq_some_iff.1 ha).1;have hq:(fs.take k)[k']?=aH ((fs.take k)[k']'(by omega)):=List.getElem?_eq_getElem _;exact((j3 k' _ a hq ha).1.lt g (by rw [qJ];exact hg)).2)
   have hfc:qR p A2 c2= [aE s,aC aD ld,aB A2 p.wait.length c2]:=by rw [qR,<-HS.o,<-HLD.o]
   rw [HTL.o]at i2;refine zh rfl (.tmp 19) (.tmp 21) rfl z4n ae i2 (us:= [aE s,aC aD ld,aB A2 p.wait.length c2]) (m:=1) ae rfl (by intro u hu;simp at hu;rcases hu with rfl | rfl | rfl<;>rfl) ww (Nat.le_trans hbl.size hbr3.size) ?_;intro v5 w5 ho5 hg5 hv5;have hlt5:∀g',v5.ownBlock=aH g'->w.heap.size<=g':=fun g' h=>(ho5.lt g' h).1;have hbel5:Below w.heap.size w w5:=(wo hbl hbr3).grown hg5 (Nat.le_trans hbl.size hbr3.size) (fun k hk=>(i2.lt k hk).1);rw [<-hfc]at ho5;have hlow:w.heap.size<=w1.heap.size:=Nat.le_trans hbl.size hbr1.size;have ho6:=FlsO.snoc (p:=p) (B:=A2) (c:=c2) i1 i3 i4 (by rw [HTL.o];exact ho5) hg5 hv5 (zb ho22 hlow) (fun g h h'=>by
    have h1:=(ho22.lt g (by rw [qJ (A2,c2)];exact h)).1;have:=(j2.lt g h').2;omega) (fun k' a ha g h h'=>by
    have h1:=(ho22.lt g (by rw [qJ (A2,c2)];exact h')).1;have:=OLD.o k' a ha g h;omega)
   rw [<-HST.o]at ho6;clear i1 i2 i3 i4 j1 j2 j3 j4 ho22 ho5 hg5 hv5 hr3 hbr3 hlt5
   refine wL ?_;intros;go_roundg (fs.length - (k+1))
   case measure=>exact we HGK
   case rel=>exact⟨k+1,rfl,by go_num,ww,ho6,hbel5⟩
  ·obtain rfl:k=fs.length:=by omega
   have hcc:decide (fs.length<fs.length)=false:=ac;rw [List.take_length]at ho;obtain⟨A5,c5,rfl,_,_⟩:=ho.fls
   refine wL ?_;intros;go_ret;exact⟨_,rfl,ho,hbl⟩
theorem jc (fs:List FlP) (As:List (ak×Nat)):∀u∈kf fs As,u.oneCell'=true:=by
 intro u hu;simp only [kf,List.mem_flatMap]at hu;obtain⟨x,_,hx⟩:=hu;simp only [qR,List.mem_cons,List.not_mem_nil,or_false]at hx;rcases hx with rfl | rfl | rfl<;>rfl
theorem YW (v:Value) (base:Nat) (fs:List FlP) (w:World) (hn:fs.length<=1000) (h0:0<fs.length) (hbs:base<=w.heap.size) (h:FlsO w base v fs) :
  Calls zZZ 174 #[v] w fun e w'=>∃v',e= .returned v'/\FlsO w' base v' fs/\Below w.heap.size w w':=by
 obtain⟨As,i1,i2,i3,i4⟩:=h;obtain⟨g,cap,cs,rfl,_,_,hcap,_,_,_⟩:=yq i2 h0;have hr:=Rd.of_own i2;obtain⟨I3,I4,I1⟩:=sqJ3 i3 i4 i1;have heq:=fun W=>Lib.run_eql_slice_nil (P:=zZZ) W 38 93 (aH ⟨g,0,aG⟩) fs.length cap 0 0 underlying38;clear i1 i2 i3 i4;go_enter func174,ntmps174
 refine wL ?_;intros;refine zP rfl (.tmp 5) (.tmp 6) rfl z4n ae (World.ownsRow_made (size:=3) w #[] 0 ai (by simp [maxLen]) rfl) ae (hr.alloc _) (jc fs As) ww ac ?_;intro v1 w1 hown1 hg1 _;have hb1:=zk ((Below.refl _ _).alloc ai _) (World.ownsRow_made (size:=3) w #[] 0 ai (by simp [maxLen]) rfl) ai hg1;rw [Nat.zero_add,List.nil_append]at hown1;go_wp2_with fail;go_ret;refine⟨_,rfl,⟨As,I1.o,zb hown1 hbs,(fun k p a hp ha=> ?_),I4.o⟩,hb1⟩;obtain⟨j1,_⟩:=I3.o k p a hp ha;exact⟨zc j1 hb1,fun g h h'=>by
  have:=(j1.lt g (by rw [qJ];exact h)).2;have:=(hown1.lt g h').1;omega⟩
theorem Uu (A:ak) (c:Nat) (fs:List FlP) (k:ByteArray) (n:Int) (w:World) (hG:GoodF fs) (hf:Fls w A fs) (hc:fs.length<=c) (hm:c<=maxLen) (hk:hexC k.data.toList=0) (hks:k.size<=140737488351232) (hn1:1<=n) (hn2:n<=1000) (hfn:fnd 0 fs k.data.toList=aG) (h6:fs.length<6) :
  Calls zZZ 155 #[aB A fs.length c,aE k,aC aD n] w fun e w'=>∃v,e= .returned (.tuple #[v,.bool true,aC aD 0])/\FlsO w' w.heap.size v (fs++ [⟨k.data.toList,n, []⟩])/\Below w.heap.size w w':=by
 obtain⟨HCK,HHX,HWH⟩:=sqJ3 (fun w' hf'=>ke A c fs w' hG hf' hc hm) (fun w'=>kE (s:=k) 0 rfl hk w' hks) (fun w'=>jK n w');have hwd:decide (1<=n/\n<=1000)=true:=by simp [hn1,hn2]
 have HWD:=sqH hwd;have HCP:=sqH (fun w' hf'=>ku A c fs w' ww (fun p hp=>by
  obtain⟨j,hj,rfl⟩:=List.mem_iff_getElem.1 hp;have:=hG.few j hj;omega) hf' hc)
 have HFI:=sqH (fun w' hf'=>kP A c fs k w' ww hf');have HF:=sqH hfn;have e6:((fs.length:Int)==6)=false:=by rw [beq_eq_false_iff_ne];omega
 have e6':(fs.length==6)=false:=by rw [beq_eq_false_iff_ne];omega
 clear hG hk hwd hfn;go_enter func155,ntmps155
 refine wL ?_;intros;refine wZ (HCK.o w hf) fun w1 hb1=>?_;dsimp only;have hf1:=hf.below hb1
 refine wL ?_;intros;refine wZ (HHX.o w1) fun w2 hb2=>?_;dsimp only;have hb12:=wo hb1 hb2;have hf2:=hf1.below hb2
 refine wL ?_;intros;refine(HWH.o w2).mono ?_;rintro e_ _ ⟨rfl,rfl⟩;dsimp only;rw [HWD.o]
 refine wL ?_;intros;refine(HCP.o w2 hf2).mono ?_;rintro e_ w3 ⟨v3,rfl,ho3,hb3⟩;dsimp only;have hb13:=wo hb12 hb3;have hf3:=hf2.below hb3;have hfi:=HFI.o w3 hf3;rw [HF.o]at hfi;dsimp only at hfi;have HFF:=sqH hfi;clear hfi hf hf1 hf2
 refine wL ?_;intros;refine wZ HFF.o fun w4 hb4=>?_;dsimp only;have hb14:=wo hb13 hb4;have ho4:=ho3.below hb4;clear ho3 hf3
 refine wL ?_;intros;obtain⟨As,i1,i2,i3,i4⟩:=ho4;refine zh rfl (.tmp 46) (.tmp 50) rfl z4n ae i2 (us:= [aE k,aC aD n,aB aG 0 0]) (m:=1) ae rfl (by intro u hu;simp at hu;rcases hu with rfl | rfl | rfl<;>rfl) ww (Nat.le_trans hb3.size hb4.size) ?_;intro v5 w5 ho5 hg5 hv5;have hbel5:Below w.heap.size w w5:=hb14.grown hg5 hb14.size (fun k hk=>Nat.le_trans hb12.size (i2.lt k hk).1);have ho6:=FlsO.snoc (p:=⟨k.data.toList,n, []⟩) (B:=aG) (c:=0) i1 i3 i4 ho5 hg5 hv5 (World.ownsRow_nil _ _ _ _) (fun g h=>by cases h) (fun k' a _ g _ h=>by cases h);have ho6:=ho6.lower hb12.size;clear i1 i2 i3 i4 ho5 hg5 hv5;have hlen:(fs++ [(⟨k.data.toList,n, []⟩:FlP)]).length<=7:=by rw [List.length_append];simp only [List.length_cons,List.length_nil];omega
 have hpos:0<(fs++ [(⟨k.data.toList,n, []⟩:FlP)]).length:=by rw [List.length_append];simp
 generalize hgs:fs++ [(⟨k.data.toList,n, []⟩:FlP)]=gs at *
 have HGS:=sqH hgs;clear hgs
 refine wL ?_;intros;refine(YW _ _ gs w5 ww hpos hbel5.size ho6).mono ?_;rintro e_ w6 ⟨v6,rfl,ho8,hb6⟩;dsimp only;rw [<-HGS.o]at ho8
 refine wL ?_;intros;go_ret3;exact⟨v6,rfl,ho8,wo hbel5 hb6⟩
theorem Xe (A:ak) (c:Nat) (fs:List FlP) (k:ByteArray) (n:Int) (w:World) (hG:GoodF fs) (hf:Fls w A fs) (hc:fs.length<=c) (hm:c<=maxLen) (hk:hexC k.data.toList=0) (hks:k.size<=140737488351232) (hn1:1<=n) (hn2:n<=1000) (hfn:fnd 0 fs k.data.toList=aG) (h6:fs.length=6) :
  Calls zZZ 155 #[aB A fs.length c,aE k,aC aD n] w fun e w'=>e= .returned (.tuple #[aB aG 0 0,.bool false,aC aD 7])/\Below w.heap.size w w':=by
 have e6:((fs.length:Int)==6)=true:=by rw [beq_iff_eq];omega
 have H6:=sqH h6;have h66:fs.length<=6:=ww;clear h6;obtain⟨HCK,HHX,HWH⟩:=sqJ3 (fun w' hf'=>ke A c fs w' hG hf' hc hm) (fun w'=>kE (s:=k) 0 rfl hk w' hks) (fun w'=>jK n w');have hwd:decide (1<=n/\n<=1000)=true:=by simp [hn1,hn2]
 have HWD:=sqH hwd;have HCP:=sqH (fun w' hf'=>ku A c fs w' ww (fun p hp=>by
  obtain⟨j,hj,rfl⟩:=List.mem_iff_getElem.1 hp;have:=hG.few j hj;omega) hf' hc)
 have HFI:=sqH (fun w' hf'=>kP A c fs k w' ww hf');have HF:=sqH hfn;clear hG hk hwd hfn;go_enter func155,ntmps155;go_wp2_with fail;refine wZ (HCK.o w hf) fun w1 hb1=>?_;dsimp only;have hf1:=hf.below hb1;go_wp2_with fail;refine wZ (HHX.o w1) fun w2 hb2=>?_;dsimp only;have hb12:=wo hb1 hb2;have hf2:=hf1.below hb2;go_wp2_with fail;refine(HWH.o w2).mono ?_;rintro e_ _ ⟨rfl,rfl⟩;dsimp only;rw [HWD.o];go_wp2_with fail;refine(HCP.o w2 hf2).mono ?_;rintro e_ w3 ⟨v3,rfl,ho3,hb3⟩;dsimp only;have hb13:=wo hb12 hb3;have hf3:=hf2.below hb3;have hfi:=HFI.o w3 hf3;rw [HF.o]at hfi;dsimp only at hfi;have HFF:=sqH hfi;clear hfi hf hf1 hf2;go_wp2_with fail;refine wZ HFF.o fun w4 hb4=>?_;dsimp only;have hb14:=wo hb13 hb4;go_wp2_with fail;go_ret3;exact⟨rfl,hb14⟩
theorem z0o (A:ak) (c:Nat) (fs:List FlP) (k:ByteArray) (n:Int) (i:Nat) (w:World) (hG:GoodF fs) (hf:Fls w A fs) (hc:fs.length<=c) (hm:c<=maxLen) (hk:hexC k.data.toList=0) (hks:k.size<=140737488351232) (hn1:1<=n) (hn2:n<=1000) (hfn:fnd 0 fs k.data.toList=aH i) (hi:i<fs.length) (hin:(fs[i].lead::fs[i].wait).contains n=true) :
  Calls zZZ 155 #[aB A fs.length c,aE k,aC aD n] w fun e w'=>e= .returned (.tuple #[aB aG 0 0,.bool false,aC aD 6])/\Below w.heap.size w w':=by
 have h66:fs.length<=6:=hG.len;have hfew:=hG.few i hi;have HIN:=sqH hin;have FF:=sqH hf;clear hin;obtain⟨HCK,HHX,HWH⟩:=sqJ3 (fun w' hf'=>ke A c fs w' hG hf' hc hm) (fun w'=>kE (s:=k) 0 rfl hk w' hks) (fun w'=>jK n w');have hwd:decide (1<=n/\n<=1000)=true:=by simp [hn1,hn2]
 have HWD:=sqH hwd;have HCP:=sqH (fun w' hf'=>ku A c fs w' ww (fun p hp=>by
  obtain⟨j,hj,rfl⟩:=List.mem_iff_getElem.1 hp;have:=hG.few j hj;omega) hf' hc)
 have HFI:=sqH (fun w' hf'=>kP A c fs k w' ww hf');have HF:=sqH hfn;clear hG hk hwd hfn;go_enter func155,ntmps155;go_wp2_with fail;refine wZ (HCK.o w hf) fun w1 hb1=>?_;dsimp only;have hf1:=hf.below hb1;go_wp2_with fail;refine wZ (HHX.o w1) fun w2 hb2=>?_;dsimp only;have hb12:=wo hb1 hb2;have hf2:=hf1.below hb2;go_wp2_with fail;refine(HWH.o w2).mono ?_;rintro e_ _ ⟨rfl,rfl⟩;dsimp only;rw [HWD.o];go_wp2_with fail;refine(HCP.o w2 hf2).mono ?_;rintro e_ w3 ⟨v3,rfl,ho3,hb3⟩;dsimp only;have hb13:=wo hb12 hb3;have hf3:=hf2.below hb3;have hfi:=HFI.o w3 hf3;rw [HF.o]at hfi;dsimp only at hfi;have HFF:=sqH hfi;clear hfi hf hf1 hf2;go_wp2_with fail;refine wZ HFF.o fun w4 hb4=>?_;dsimp only;have hb14:=wo hb13 hb4;obtain⟨b,off,B,cb,rfl,hbb,c0,c1,c2,hrw,hwc,hcbm⟩:=(FF.o.below hb14).at_ i hi;have i1:=wg i
 have i2:(i:Int)<(fs.length:Int):=ww;obtain⟨s,hs⟩:=wY (⟨fs[i].key.toArray⟩:ByteArray)
 rw [<-hs]at c0;have HI2:=HIN.o;generalize fs[i].lead=ld at *
 generalize fs[i].wait=wt at *
 have HI3:=sqH HI2;clear HI2 HIN hs;go_wp2_with fail;refine(uy s ld B cb wt w4 ww hrw).mono ?_;rintro e_ w5 ⟨v5,rfl,ho5,hb5⟩;dsimp only;have hb15:=wo hb14 hb5;obtain⟨A5,c5,rfl,hc5,hr5⟩:=Rd.of_own' ho5;have hcon:=ye A5 c5 (ld::wt) n w5 (by simp only [List.length_cons];omega) hr5;rw [HI3.o]at hcon;simp only [List.length_cons]at hcon;have HCO:=sqH hcon;clear hcon ho5 hr5 c0 c1 c2;go_wp2_with fail;refine HCO.o.mono ?_;rintro e_ _ ⟨rfl,rfl⟩;dsimp only;go_wp2_with fail;go_ret3;exact⟨rfl,hb15⟩
theorem Xf (A:ak) (c:Nat) (fs:List FlP) (k:ByteArray) (n:Int) (i:Nat) (w:World) (hG:GoodF fs) (hf:Fls w A fs) (hc:fs.length<=c) (hm:c<=maxLen) (hk:hexC k.data.toList=0) (hks:k.size<=140737488351232) (hn1:1<=n) (hn2:n<=1000) (hfn:fnd 0 fs k.data.toList=aH i) (hi:i<fs.length) (hin:(fs[i].lead::fs[i].wait).contains n=false) (h5:fs[i].wait.length=5) :
  Calls zZZ 155 #[aB A fs.length c,aE k,aC aD n] w fun e w'=>e= .returned (.tuple #[aB aG 0 0,.bool false,aC aD 7])/\Below w.heap.size w w':=by
 have h66:fs.length<=6:=hG.len;have hfew:=hG.few i hi;have H5:=sqH h5;clear h5;have HIN:=sqH hin;have FF:=sqH hf;clear hin;obtain⟨HCK,HHX,HWH⟩:=sqJ3 (fun w' hf'=>ke A c fs w' hG hf' hc hm) (fun w'=>kE (s:=k) 0 rfl hk w' hks) (fun w'=>jK n w');have hwd:decide (1<=n/\n<=1000)=true:=by simp [hn1,hn2]
 have HWD:=sqH hwd;have HCP:=sqH (fun w' hf'=>ku A c fs w' ww (fun p hp=>by
  obtain⟨j,hj,rfl⟩:=List.mem_iff_getElem.1 hp;have:=hG.few j hj;omega) hf' hc)
 have HFI:=sqH (fun w' hf'=>kP A c fs k w' ww hf');have HF:=sqH hfn;clear hG hk hwd hfn;go_enter func155,ntmps155;go_wp2_with fail;refine wZ (HCK.o w hf) fun w1 hb1=>?_;dsimp only;have hf1:=hf.below hb1;go_wp2_with fail;refine wZ (HHX.o w1) fun w2 hb2=>?_;dsimp only;have hb12:=wo hb1 hb2;have hf2:=hf1.below hb2;go_wp2_with fail;refine(HWH.o w2).mono ?_;rintro e_ _ ⟨rfl,rfl⟩;dsimp only;rw [HWD.o];go_wp2_with fail;refine(HCP.o w2 hf2).mono ?_;rintro e_ w3 ⟨v3,rfl,ho3,hb3⟩;dsimp only;have hb13:=wo hb12 hb3;have hf3:=hf2.below hb3;have hfi:=HFI.o w3 hf3;rw [HF.o]at hfi;dsimp only at hfi;have HFF:=sqH hfi;clear hfi hf hf1 hf2;go_wp2_with fail;refine wZ HFF.o fun w4 hb4=>?_;dsimp only;have hb14:=wo hb13 hb4;obtain⟨b,off,B,cb,rfl,hbb,c0,c1,c2,hrw,hwc,hcbm⟩:=(FF.o.below hb14).at_ i hi;have i1:=wg i
 have i2:(i:Int)<(fs.length:Int):=ww;obtain⟨s,hs⟩:=wY (⟨fs[i].key.toArray⟩:ByteArray)
 rw [<-hs]at c0;have HI2:=HIN.o;generalize fs[i].lead=ld at *
 generalize fs[i].wait=wt at *
 have HI3:=sqH HI2;have H55:=H5.o;have e5:((wt.length:Int)==5)=true:=by rw [beq_iff_eq];omega
 have e5':(wt.length==5)=true:=by rw [beq_iff_eq];omega
 clear HI2 HIN hs H55;go_wp2_with fail;refine(uy s ld B cb wt w4 ww hrw).mono ?_;rintro e_ w5 ⟨v5,rfl,ho5,hb5⟩;dsimp only;have hb15:=wo hb14 hb5;obtain⟨A5,c5,rfl,hc5,hr5⟩:=Rd.of_own' ho5;have hcon:=ye A5 c5 (ld::wt) n w5 (by simp only [List.length_cons];omega) hr5;rw [HI3.o]at hcon;simp only [List.length_cons]at hcon;have HCO:=sqH hcon;have d2:=(hb5.cell (p:=⟨b,off+i*3+2,aG⟩) hbb).trans c2;clear hcon ho5 hr5 c0 c1 c2;go_wp2_with fail;refine HCO.o.mono ?_;rintro e_ _ ⟨rfl,rfl⟩;dsimp only;go_wp2_with fail;go_ret3;exact⟨rfl,hb15⟩
theorem z20 {n k size:Nat} {u:Value} (h:w.ownsRow base e size (aB (aH ⟨g,0,aG⟩) n cap) n xs) (hk:k<n*size):(w.setCell ⟨g,k,aG⟩ u).ownsRow base e size (aB (aH ⟨g,0,aG⟩) n cap) n (xs.set k u):=by
 refine⟨by rw [List.length_set];exact h.1,?_⟩;rcases h.2 with ⟨h1,_⟩ | ⟨g',cap',cur,h1,hb,hg,hn,hm,hs,ht⟩
 ·cases h1
 ·injection h1 with e1 e2 e3;injection e1 with e1;injection e1 with e1;subst e1 e3;have hA:Arr w g e cur.toList:=by simpa [Arr] using hg
  have hA2:=hA.set (k:=k) (by rw [Array.length_toList,hs];exact Nat.lt_of_lt_of_le hk (Nat.mul_le_mul_right _ hn)) u;refine .inr ⟨g,cap,(cur.toList.set k u).toArray,rfl,hb,hA2,hn,hm,by rw [List.size_toArray,List.length_set,Array.length_toList,hs],?_⟩;rw [<-ht,List.take_set]
theorem jd:∀(fs:List FlP) (As:List (ak×Nat)) (i:Nat) (p p':FlP) (a:ak×Nat),As.length=fs.length->fs[i]?=aH p->p'.key=p.key->p'.lead=p.lead ->
  (kf fs As).set (i*3+2) (aB a.1 p'.wait.length a.2)=kf (fs.set i p') (As.set i a)
 | f::fs,b::As,0,p,p',a,_,hp,hk,hl=>by
  simp only [List.getElem?_cons_zero,Option.some.injEq]at hp
  subst hp
  simp only [kf,List.zip_cons_cons,List.flatMap_cons,List.set_cons_zero,qR,hk,hl]
  rfl
 | f::fs,b::As,i+1,p,p',a,h,hp,hk,hl=>by
  have ih:=jd fs As i p p' a (by simpa using h) (by simpa using hp) hk hl
  simp only [kf]at ih ⊢
  rw [List.set_cons_succ,List.set_cons_succ,List.zip_cons_cons,List.zip_cons_cons,List.flatMap_cons,List.flatMap_cons,<-ih,List.set_append_right _ _ (by simp [qR];omega)]
  congr 2
  simp [qR];omega
theorem Xg (A:ak) (c:Nat) (fs:List FlP) (k:ByteArray) (n:Int) (i:Nat) (w:World) (hG:GoodF fs) (hf:Fls w A fs) (hc:fs.length<=c) (hm:c<=maxLen) (hk:hexC k.data.toList=0) (hks:k.size<=140737488351232) (hn1:1<=n) (hn2:n<=1000) (hfn:fnd 0 fs k.data.toList=aH i) (hi:i<fs.length) (hin:(fs[i].lead::fs[i].wait).contains n=false) (h5:fs[i].wait.length<5) :
  Calls zZZ 155 #[aB A fs.length c,aE k,aC aD n] w fun e w'=>∃v,e= .returned (.tuple #[v,.bool false,aC aD 0])/\FlsO w' w.heap.size v (fs.set i ⟨fs[i].key,fs[i].lead,fs[i].wait++ [n]⟩)/\Below w.heap.size w w':=by
 have h66:fs.length<=6:=hG.len;have hfew:=hG.few i hi;have H5:=sqH h5;clear h5;have HIN:=sqH hin;have FF:=sqH hf;clear hin;obtain⟨HCK,HHX,HWH⟩:=sqJ3 (fun w' hf'=>ke A c fs w' hG hf' hc hm) (fun w'=>kE (s:=k) 0 rfl hk w' hks) (fun w'=>jK n w');have hwd:decide (1<=n/\n<=1000)=true:=by simp [hn1,hn2]
 have HWD:=sqH hwd;have HCP:=sqH (fun w' hf'=>ku A c fs w' ww (fun p hp=>by
  obtain⟨j,hj,rfl⟩:=List.mem_iff_getElem.1 hp;have:=hG.few j hj;omega) hf' hc)
 have HFI:=sqH (fun w' hf'=>kP A c fs k w' ww hf');have HF:=sqH hfn;clear hG hk hwd hfn;go_enter func155,ntmps155;go_wp2_with fail;refine wZ (HCK.o w hf) fun w1 hb1=>?_;dsimp only;have hf1:=hf.below hb1;go_wp2_with fail;refine wZ (HHX.o w1) fun w2 hb2=>?_;dsimp only;have hb12:=wo hb1 hb2;have hf2:=hf1.below hb2;go_wp2_with fail;refine(HWH.o w2).mono ?_;rintro e_ _ ⟨rfl,rfl⟩;dsimp only;rw [HWD.o];go_wp2_with fail;refine(HCP.o w2 hf2).mono ?_;rintro e_ w3 ⟨v3,rfl,ho3,hb3⟩;dsimp only;have hb13:=wo hb12 hb3;have hf3:=hf2.below hb3;have hfi:=HFI.o w3 hf3;rw [HF.o]at hfi;dsimp only at hfi;have HFF:=sqH hfi;clear hfi hf hf1 hf2;go_wp2_with fail;refine wZ HFF.o fun w4 hb4=>?_;dsimp only;have hb14:=wo hb13 hb4;obtain⟨b,off,B,cb,rfl,hbb,c0,c1,c2,hrw,hwc,hcbm⟩:=(FF.o.below hb14).at_ i hi;have i1:=wg i
 have i2:(i:Int)<(fs.length:Int):=ww;obtain⟨s,hs⟩:=wY (⟨fs[i].key.toArray⟩:ByteArray)
 rw [<-hs]at c0;have ho4:=ho3.below hb4;obtain⟨p,hp⟩:=wY (fs[i])
 rw [<-hp]at c1 c2 hrw hwc hfew HIN H5;have HP:=sqH (show fs[i]?=aH p from by rw [List.getElem?_eq_getElem hi,hp]);have hgoal:fs.set i ⟨fs[i].key,fs[i].lead,fs[i].wait++ [n]⟩=fs.set i ⟨p.key,p.lead,p.wait++ [n]⟩:=by rw [hp]
 have HGO:=sqH hgoal;obtain⟨ld,hld⟩:=wY p.lead
 rw [<-hld]at c1;have HI2:=HIN.o;rw [<-hld]at HI2;have HI3:=sqH HI2;have HLD:=sqH hld;have H55:=H5.o;have e5:((p.wait.length:Int)==5)=false:=by rw [beq_eq_false_iff_ne];omega
 have e5':(p.wait.length==5)=false:=by rw [beq_eq_false_iff_ne];omega
 clear HI2 HIN hs hp hgoal hld H55;go_wp2_with fail;refine(uy s ld B cb p.wait w4 ww hrw).mono ?_;rintro e_ w5 ⟨v5,rfl,ho5,hb5⟩;dsimp only;have hb15:=wo hb14 hb5;obtain⟨A5,c5,rfl,hc5,hr5⟩:=Rd.of_own' ho5;have hcon:=ye A5 c5 (ld::p.wait) n w5 (by simp only [List.length_cons];omega) hr5;rw [HI3.o]at hcon;simp only [List.length_cons]at hcon;have HCO:=sqH hcon;have d2:=(hb5.cell (p:=⟨b,off+i*3+2,aG⟩) hbb).trans c2;have ho55:=ho4.below hb5;obtain⟨As,j1,j2,j3,j4⟩:=ho55;obtain⟨g3,cap3,cs3,rfl,_,hA3,hcap3,hcm3,hcl3,hct3⟩:=yq j2 ww;have hia:i<As.length:=ww;have ha:As[i]?=aH As[i]:=List.getElem?_eq_getElem hia;obtain⟨k1,k2⟩:=j3 i p As[i] HP.o ha;have hcell:=(Rd.of_own j2).2 ww;obtain⟨_,_,e3,_,hcell⟩:=hcell;cases e3
 have x2:=hcell (i*3+2) _ ((uC fs As i 2 p As[i] HP.o ha ww).trans rfl);rw [Nat.zero_add]at x2;obtain⟨a,haE⟩:=wY (As[i])
 rw [<-haE]at k1 k2 x2 ha;obtain⟨Ai,ci⟩:=a;dsimp only at k1 k2 x2;have hcap63:(cap3:Int)<=9223372036854775807:=by unfold maxLen at hcm3;omega
 clear hcon ho5 hr5 c0 c1 c2 ho4 ho3 haE hcell;go_wp2_with fail;refine HCO.o.mono ?_;rintro e_ _ ⟨rfl,rfl⟩;dsimp only
 refine wL ?_;intros;refine zh rfl (.tmp 75) (.tmp 77) rfl z1h ae k1 (us:= [aC aD n]) (m:=1) ae rfl (by intro u hu;simp at hu;subst hu;rfl) ww (Nat.le_trans hb3.size (Nat.le_trans hb4.size hb5.size)) ?_;intro v7 w7 ho7 hg7 hv7;rw [qJ (Ai,ci)]at hg7 hv7;rw [show ins p.wait++ [aC aD n]=ins (p.wait++ [n]) by simp [ins]]at ho7;have hw7:(p.wait++ [n]).length=p.wait.length+1:=ac;rw [<-hw7]at ho7;generalize hwn:p.wait++ [n]=wn at *
 have hwl:wn.length<=1000:=by have:=H5.o;omega
 clear hwn hw7;have hsz27:w2.heap.size<=w7.heap.size:=Nat.le_trans hb3.size (Nat.le_trans hb4.size (Nat.le_trans hb5.size hg7.size));have hb17:Below w.heap.size w w7:=hb15.grown hg7 hb15.size (fun g h=>Nat.le_trans hb12.size (k1.lt g (by rw [qJ (Ai,ci)];exact h.symm▸rfl)).1);obtain⟨A7,c7,rfl,hc7,hr7⟩:=Rd.of_own' ho7;have HC7:=sqH (Zp A7 c7 (wn) w7 ww hr7);have m2:=j2.kept hg7 (.inr (fun h=>k2 g3 h.symm rfl));have m3:∀(k:Nat) (q:FlP) (b:ak×Nat),k≠i->fs[k]?=aH q->As[k]?=aH b->w7.ownsRow w2.heap.size 3 1 (aB b.1 q.wait.length b.2) q.wait.length (ins q.wait):=fun k q b hki hq hb=>by
  refine(j3 k q b hq hb).1.kept hg7 ?_;rw [qJ];cases hbk:blk b with
  | none=>exact .inl rfl
  | some g =>
   refine .inr (fun h=> ?_);rcases Nat.lt_or_gt_of_ne hki with h1 | h1
   ·exact j4 k i b (Ai,ci) h1 hb ha g hbk h.symm
   ·exact j4 i k (Ai,ci) b h1 ha hb g h.symm hbk
 have OLD:=sqH (show ∀(k:Nat) (b:ak×Nat),As[k]?=aH b->∀g,blk b=aH g->g<w7.heap.size from fun k b hb g hg=>by
  have hkl:=(List.getElem?_eq_some_iff.1 hb).1;have hq:fs[k]?=aH (fs[k]'(by omega)):=List.getElem?_eq_getElem _;exact Nat.lt_of_lt_of_le ((j3 k _ b hq hb).1.lt g (by rw [qJ];exact hg)).2 hg7.size)
 obtain⟨J3,J4,J1⟩:=sqJ3 j3 j4 j1;clear ho7 hg7 hv7 k1 k2 x2 j2 hr7 j3 j4 d2 hA3 hct3 hcl3;go_wp2_with fail;refine HC7.o.mono ?_;rintro e_ w8 ⟨v8,rfl,ho8,hb8⟩;dsimp only;have hb18:=wo hb17 hb8;have m28:=zc m2 hb8;have hlt3:=(m2.lt g3 rfl)
 obtain⟨_,_,cs9,e9,_,hA9,_,_,hcl9,hct9⟩:=yq m28 ww;injection e9 with e91 _ e93;injection e91 with e91;injection e91 with e91;subst e91 e93;obtain⟨y,hy⟩:∃y,cs9[i*3+2]?=aH y:=⟨_,List.getElem?_eq_getElem ww⟩
 have y2:=hA9.cell hy;have z2:=hA9.frozen (i*3+2);obtain⟨A8,c8,rfl,hc8,_⟩:=Rd.of_own' ho8;have n9:=z20 (u:= aB A8 wn.length c8) m28 (k:=i*3+2) ww;have hcf:=jd fs As i p ⟨p.key,p.lead,wn⟩ (A8,c8) J1.o HP.o rfl rfl;dsimp only at hcf;rw [hcf]at n9;have hbz:Below w.heap.size w (w8.setCell ⟨g3,i*3+2,aG⟩ (aB A8 wn.length c8)):=Below.setCell hb18 (by show w.heap.size<=g3;exact Nat.le_trans hb12.size hlt3.1) _;have hne8:(aB A8 wn.length c8).ownBlock≠aH g3:=fun h=>by have:=(ho8.lt g3 h).1;omega
 have hfin:FlsO (w8.setCell ⟨g3,i*3+2,aG⟩ (aB A8 wn.length c8)) w2.heap.size (aB (aH ⟨g3,0,aG⟩) fs.length cap3) (fs.set i ⟨p.key,p.lead,wn⟩):=by
  refine⟨As.set i (A8,c8),by rw [List.length_set,List.length_set,J1.o],by rw [List.length_set];exact n9,fun k q b hq hb=> ?_,fun k j a' b hkj ha' hb g hag=> ?_⟩
  ·by_cases hki:k=i
   ·subst hki;rw [List.getElem?_set_self hi]at hq;rw [List.getElem?_set_self hia]at hb;cases hq;cases hb
    exact⟨zb (zd ho8 hne8) hsz27,fun g h h'=>hne8 (by rw [qJ (A8,c8),h];exact(show aH g3=aH g from h').symm)⟩
   ·rw [List.getElem?_set_ne (Ne.symm hki)]at hq hb;have h1:=zc (m3 k q b hki hq hb) hb8;have h2:=(J3.o k q b hq hb).2;refine⟨zd h1 (fun h=>h2 g3 (by rw [<-qJ b q.wait.length];exact h) rfl),h2⟩
  ·by_cases hki:k=i
   ·subst hki;rw [List.getElem?_set_self hia]at ha';cases ha'
    rw [List.getElem?_set_ne ww]at hb;intro hbg;have:=(ho8.lt g (by rw [qJ (A8,c8)];exact hag)).1;have:=OLD.o j b hb g hbg;omega
   ·rw [List.getElem?_set_ne (Ne.symm hki)]at ha';by_cases hji:j=i
    ·subst hji;rw [List.getElem?_set_self hia]at hb;cases hb
     intro hbg;have:=(ho8.lt g (by rw [qJ (A8,c8)];exact hbg)).1;have:=OLD.o k a' ha' g hag;omega
    ·rw [List.getElem?_set_ne (Ne.symm hji)]at hb;exact J4.o k j a' b hkj ha' hb g hag
 have hfin':=hfin.lower hb12.size;have HFN:=sqH hfin';clear hfin hfin' n9 hcf m2 m3 m28 ho8;go_wp2_with fail;go_ret3;rw [HGO.o];exact⟨_,rfl,HFN.o,hbz⟩
theorem z4m (w:World):(zeroValue 93).run zZZ w= .ok (.agg #[aE ByteArray.empty,aC aD 0,aB aG 0 0]) w:=by kernel_rfl
theorem z0j (g i n cap base:Nat) (xs:al) (w:World) (h:w.ownsRow base 93 3 (aB (aH ⟨g,0,aG⟩) n cap) n xs) (hi:i<n) (hx:∀u∈xs,u.oneCell'=true) :
  Calls zZZ 175 #[aB (aH ⟨g,0,aG⟩) n cap,aC aD i,aC aD ((i:Int)+1)] w fun e w'=>e= .returned (aB (aH ⟨g,0,aG⟩) (n - 1) cap) /\
   w'.ownsRow base 93 3 (aB (aH ⟨g,0,aG⟩) (n - 1) cap) (n - 1) (xs.take (i*3)++xs.drop ((i+1)*3))/\w.grownBy w' (aH g):=by
 obtain⟨g',cap',cs,e1,hbg,hA,hnc,hcm,hcl,hct⟩:=yq h ww;injection e1 with e11 _ e13;injection e11 with e11;injection e11 with e11;subst e11 e13;obtain⟨i0,hi0,hz0,hz1,hz2⟩:=info_parts (show(zZZ.info? 93).map (fun i=>(i.zero,i.size,i.bytes))=aH (aH (.agg #[aE ByteArray.empty,aC aD 0,aB aG 0 0]),3,48) by kernel_rfl);obtain⟨zs,hzs⟩:=wY ((Builtin.zeroCells (Value.agg #[aE ByteArray.empty,aC aD 0,aB aG 0 0]).cells 1).toList)
 have hzs':zs= [aE ByteArray.empty,aC aD 0,aB aG 0 0]:=by rw [hzs];kernel_rfl
 have hzl:zs.length=3:=by rw [hzs'];rfl
 have hz1':∀u∈zs,u.oneCell'=true:=by rw [hzs'];intro u hu;simp at hu;rcases hu with rfl | rfl | rfl<;>rfl
 obtain⟨a1,a2⟩:=QH (i:=i) (n:=n) (zs:=zs) hA.drew hcl hnc hi hzl;rw [hct]at a1 a2;have hlen:(xs.drop ((i+1)*3)).length=(n - (i+1))*3:=by rw [List.length_drop,h.1,Nat.sub_mul]
 obtain⟨news,hnews⟩:=wY (xs.drop ((i+1)*3))
 rw [<-hnews]at a1 a2 hlen;obtain⟨W1,hW1⟩:=wY (w.drew.setCells g (i*3) news)
 rw [<-hW1]at a1 a2;have hr:=Rd.of_own h;have HC:=sqH (show ∀k u,xs[k]?=aH u->w.drew.cell? ⟨g,k,aG⟩=aH u from fun k u hu=>by
  refine Arr.cell hA.drew ?_;rw [<-hct,List.getElem?_take]at hu;split at hu
  ·exact hu
  ·cases hu)
 obtain⟨A,hAd,hsrc⟩:∃A:Addr,(if cap=i+1 then aH (⟨g,0,aG⟩:Addr) else aH ⟨g,(i+1)*3,aG⟩)=aH A/\Hid (∀t u,news[t]?=aH u->w.drew.cell? (A.add t)=aH u):=by
  by_cases hce:cap=i+1
  ·refine⟨⟨g,0,aG⟩,by simp [hce],Lib.hid fun t u hu=> ?_⟩;have h0:news.length=0:=by rw [hlen,show n - (i+1)=0 by omega]
   rw [List.length_eq_zero_iff.1 h0]at hu;cases hu
  ·refine⟨⟨g,(i+1)*3,aG⟩,by simp [hce],Lib.hid fun t u hu=> ?_⟩;rw [hnews,List.getElem?_drop]at hu;have:=HC.o _ _ hu;rw [Addr.add_lit];exact this
 have s1:=sqH hlen;have s2:=sqH (show ∀u∈news,u.oneCell'=true from fun u hu=>hx u (by rw [hnews]at hu;exact List.mem_of_mem_drop hu));have s3:=sqH (show ∀t,t<news.length->(w.drew.cell? ⟨g,0+i*3+t,aG⟩).isSome=true/\w.drew.frozen? ⟨g,0+i*3+t,aG⟩=false from fun t ht=>by
  rw [hlen]at ht;have hlt:i*3+t<xs.length:=by rw [h.1];omega
  rw [Nat.zero_add,HC.o _ _ (List.getElem?_eq_getElem hlt)];exact⟨rfl,hA.drew.frozen _⟩)
 have hclr:∀ty,(Builtin.clear_ #[38] ty #[aB (aH ⟨g,(n - 1)*3,aG⟩) (n - (n - 1)) (cap - (n - 1))]).run zZZ W1= .ok (.tuple #[]) (W1.setCells g ((n - 1)*3) zs):=fun ty=>by
  rw [show n - (n - 1)=1 by omega];exact yp W1 _ _ ty _ zs underlying38 z4m hzs.symm hz1' g _ _ (fun j hj=>by
   have hk:(n - 1)*3+j<(cs.take (i*3)++news++cs.drop ((n - 1)*3)).length:=by
    simp only [List.length_append,List.length_take,List.length_drop,hcl,hlen];omega
   rw [a1.cell (List.getElem?_eq_getElem hk)];rfl) (fun j hj=>a1.frozen _)
 have hcapi:i<=cap:=ww;have hci1:i+1<=cap:=ww;have hwi:((i:Int)+1).toNat=i+1:=ww;have hp0:(0:Int)<=(i:Int)+1:=ww;have hp1:(i:Int)+1<=(n:Int):=ww;have hne:((i:Int)==(i:Int)+1)=false:=by rw [beq_eq_false_iff_ne];omega
 obtain⟨A2,HW1,HG,HL,HCL,HN,HT,HX⟩:=sqJ8 a2 hW1 (show w.grownBy (W1.setCells g ((n - 1)*3) zs) (aH g) from(show w.grownBy w.drew (aH g) from⟨rfl,rfl,rfl,Nat.le_refl _,fun _ _ _=>rfl⟩).trans (by rw [hW1];exact(qt _ _ _).trans (qt _ _ _))) hlen hcl hnews hct h.1;clear hW1 a1 a2 hct hnews hlen hzs hzs' hz1' hr hA HC hx hcl;go_enter func175,ntmps175;go_wp2_with fail;go_region_law (refine step_append_room rfl (.tmp 22) (.tmp 25) 38 rfl 93 i0 3 underlying38 hi0 hz1 g 0 i cap (by simp [Act.eval,Act.put]) A (n - (i+1)) (cap - (i+1)) news (by simp [Act.eval,Act.put]) s1.o hsrc.o s2.o ww s3.o ?_;rw [Nat.zero_add,<-HW1.o]);rw [show i+(n - (i+1))=n - 1 by omega];go_wp2_with fail;go_ret;refine⟨rfl,⟨?_,.inr ⟨g,cap,_,rfl,hbg,A2.o,ww,hcm,?_,?_⟩⟩,HG.o⟩
 ·rw [<-HN.o,List.length_append,List.length_take,HL.o,HX.o];omega
 ·simp only [List.size_toArray,List.length_append,List.length_take,List.length_drop,HL.o,hzl,HCL.o];omega
 ·have e1:xs.take (i*3)=cs.take (i*3):=by rw [<-HT.o,List.take_take,Nat.min_eq_left ww]
  rw [e1,<-HN.o,List.append_assoc,List.take_left' (by rw [List.length_append,List.length_take,HL.o,HCL.o];omega)]
theorem vJ:∀(fs:List FlP) (As:List (ak×Nat)) (i:Nat),As.length=fs.length->i<fs.length ->
  (kf fs As).take (i*3)++(kf fs As).drop ((i+1)*3)=kf (fs.eraseIdx i) (As.eraseIdx i)
 | f::fs,a::As,0,h,_=>by simp [kf,qR]
 | f::fs,a::As,i+1,h,hi=>by
  have ih:=vJ fs As i (by simpa using h) (by simpa using hi)
  simp only [kf,List.eraseIdx_cons_succ,List.zip_cons_cons,List.flatMap_cons]at ih ⊢
  generalize (fs.zip As).flatMap (fun x=>qR x.1 x.2.1 x.2.2)=X at *
  have e1:(qR f a.1 a.2++X).take ((i+1)*3)=qR f a.1 a.2++X.take (i*3):=by
   rw [show(i+1)*3=(qR f a.1 a.2).length+i*3 by simp [qR];omega,List.take_length_add_append]
  have e2:(qR f a.1 a.2++X).drop ((i+1+1)*3)=X.drop ((i+1)*3):=by
   rw [show(i+1+1)*3=(qR f a.1 a.2).length+(i+1)*3 by simp [qR];omega,List.drop_length_add_append]
  rw [e1,e2,List.append_assoc,ih]
theorem zW {α:Type} {l:List α} {k:Nat} {x:α} (h:(l.eraseIdx i)[k]?=aH x):∃k',l[k']?=aH x/\(k'=if k<i then k else k+1):=by
 rw [List.getElem?_eraseIdx]at h;split at h
 ·rename_i hk;exact⟨k,h,by rw [if_pos hk]⟩
 ·rename_i hk;exact⟨k+1,h,by rw [if_neg hk]⟩
theorem FlsO.del (h:FlsO w base (aB (aH ⟨g,0,aG⟩) fs.length cap) fs) (hi:i<fs.length) :
  ∃xs,w.ownsRow base 93 3 (aB (aH ⟨g,0,aG⟩) fs.length cap) fs.length xs/\(∀u∈xs,u.oneCell'=true) /\
   ∀w',w'.ownsRow base 93 3 (aB (aH ⟨g,0,aG⟩) (fs.length - 1) cap) (fs.length - 1) (xs.take (i*3)++xs.drop ((i+1)*3))->w.grownBy w' (aH g) ->
    FlsO w' base (aB (aH ⟨g,0,aG⟩) (fs.length - 1) cap) (fs.eraseIdx i):=by
 obtain⟨As,h1,h2,h3,h4⟩:=h;refine⟨_,h2,jc fs As,fun w' ho hg=> ?_⟩;rw [vJ fs As i h1 hi]at ho;have hl:(fs.eraseIdx i).length=fs.length - 1:=List.length_eraseIdx_of_lt hi;refine⟨As.eraseIdx i,by rw [List.length_eraseIdx_of_lt ww,hl,h1],by rw [hl];exact ho,fun k p a hp ha=> ?_,fun k j a b hkj ha hb=> ?_⟩
 ·obtain⟨k1,hp1,e1⟩:=zW hp;obtain⟨k2,ha1,e2⟩:=zW ha;rw [<-e1]at e2;subst e2;obtain⟨j1,j2⟩:=h3 k2 p a hp1 ha1;refine⟨j1.kept hg ?_,j2⟩;rw [qJ];cases hb:blk a with
  | none=>exact .inl rfl
  | some x=>exact .inr (fun e=>j2 x hb e.symm)
 ·obtain⟨k1,ha1,e1⟩:=zW ha;obtain⟨k2,hb1,e2⟩:=zW hb;refine h4 k1 k2 a b ?_ ha1 hb1;split at e1<;>split at e2<;>omega
theorem FlsO.blk_ex (h:FlsO w base v fs) (h0:0<fs.length):∃g c,v= aB (aH ⟨g,0,aG⟩) fs.length c/\base<=g:=by
 obtain⟨As,h1,h2,h3,h4⟩:=h;obtain⟨g,cap,cs,rfl,hb,_⟩:=yq h2 h0;exact⟨g,cap,rfl,hb⟩
theorem Uf (A:ak) (c:Nat) (fs:List FlP) (k:ByteArray) (w:World) (hG:GoodF fs) (hf:Fls w A fs) (hc:fs.length<=c) (hm:c<=maxLen) (hfn:fnd 0 fs k.data.toList=aG) :
  Calls Tryz.prog 156 #[aB A fs.length c,aE k] w fun e w'=>e= .returned (.tuple #[aB aG 0 0,aB aG 0 0,.int .i64 5])/\Below w.heap.size w w':=by
 have h66:fs.length<=6:=hG.len;have HCK:=sqH (fun w' hf'=>ke A c fs w' hG hf' hc hm);have HFI:=sqH (fun w' hf'=>kP A c fs k w' ww hf');have HCP:=sqH (fun w' hf'=>ku A c fs w' ww (fun p hp=>by
  obtain⟨j,hj,rfl⟩:=List.mem_iff_getElem.1 hp;have:=hG.few j hj;omega) hf' hc)
 have HF:=sqH hfn;have hfew:=fun (i:Nat) (h:i<fs.length)=>hG.few i h;have HFE:=sqH hfew;clear hG hfn hfew;go_enter Tryz.func156,Tryz.ntmps156;go_wp2_with fail;refine wZ (HCK.o w hf) fun w1 hb1=>?_;dsimp only;have hf1:=hf.below hb1;have hfi:=HFI.o w1 hf1;rw [HF.o]at hfi;dsimp only at hfi;have HFF:=sqH hfi;clear hfi hf;go_wp2_with fail;refine wZ HFF.o fun w4 hb4=>?_;dsimp only;have hb14:=wo hb1 hb4;go_wp2_with fail;go_ret3;exact⟨rfl,hb14⟩
theorem z3e (A:ak) (c:Nat) (fs:List FlP) (k:ByteArray) (i:Nat) (w:World) (hG:GoodF fs) (hf:Fls w A fs) (hc:fs.length<=c) (hm:c<=maxLen) (hfn:fnd 0 fs k.data.toList=aH i) (hi:i<fs.length) :
  Calls Tryz.prog 156 #[aB A fs.length c,aE k] w fun e w'=>∃v u,e= .returned (.tuple #[v,u,.int .i64 0])/\FlsO w' w.heap.size v (fs.eraseIdx i) /\
   w'.ownsRow w.heap.size 3 1 u (fs[i].wait.length+1) (ins (fs[i].lead::fs[i].wait))/\Below w.heap.size w w':=by
 have h66:fs.length<=6:=hG.len;have HCK:=sqH (fun w' hf'=>ke A c fs w' hG hf' hc hm);have HFI:=sqH (fun w' hf'=>kP A c fs k w' ww hf');have HCP:=sqH (fun w' hf'=>ku A c fs w' ww (fun p hp=>by
  obtain⟨j,hj,rfl⟩:=List.mem_iff_getElem.1 hp;have:=hG.few j hj;omega) hf' hc)
 have HF:=sqH hfn;have hfew:=fun (i:Nat) (h:i<fs.length)=>hG.few i h;have HFE:=sqH hfew;clear hG hfn hfew;go_enter Tryz.func156,Tryz.ntmps156;go_wp2_with fail;refine wZ (HCK.o w hf) fun w1 hb1=>?_;dsimp only;have hf1:=hf.below hb1;have hfi:=HFI.o w1 hf1;rw [HF.o]at hfi;dsimp only at hfi;have HFF:=sqH hfi;clear hfi hf;go_wp2_with fail;refine wZ HFF.o fun w4 hb4=>?_;dsimp only;have hb14:=wo hb1 hb4;have hf4:=hf1.below hb4;have hwl:=HFE.o i hi;obtain⟨b,off,B,cb,rfl,hbb,c0,c1,c2,hrw,hwc,hcbm⟩:=hf4.at_ i hi;obtain⟨s,hs⟩:=wY (⟨fs[i].key.toArray⟩:ByteArray)
 rw [<-hs]at c0;obtain⟨ld,hld⟩:=wY (fs[i].lead)
 obtain⟨wt,hwt⟩:=wY (fs[i].wait)
 rw [<-hld]at c1;rw [<-hwt]at c2 hrw hwc hwl;have HRW:=sqH hrw;have HFL:=sqH hf4;have hLD:=hld.symm;have hWT:=hwt.symm;have HLD:=sqH hLD;have HWT:=sqH hWT;have hi0:=wg i
 have hi1:(i:Int)<(fs.length:Int):=ww;have hwi:IntKind.i64.wrap ((i:Int)+1)=(i:Int)+1:=IntWalk.i64_in _ ww;have HS:=sqH (show ∀W:World,Below w4.heap.size w4 W->W.cell? ⟨b,off+i*3,aG⟩=aH (aE s)/\W.cell? ⟨b,off+i*3+1,aG⟩=aH (.int .i64 ld)/\W.cell? ⟨b,off+i*3+2,aG⟩=aH (aB B wt.length cb) from
  fun W hW=>⟨(hW.cell (p:=⟨b,off+i*3,aG⟩) hbb).trans c0,(hW.cell (p:=⟨b,off+i*3+1,aG⟩) hbb).trans c1,(hW.cell (p:=⟨b,off+i*3+2,aG⟩) hbb).trans c2⟩)
 clear hs hld hwt hLD hWT c0 c1 c2 hrw hf1 hf4;go_wp2_with fail;refine wp_region_held_drew (S:=(fun w'=>w'.cell? ⟨b,off+i*3,aG⟩=aH (aE s)/\w'.cell? ⟨b,off+i*3+1,aG⟩=aH (.int .i64 ld)/\w'.cell? ⟨b,off+i*3+2,aG⟩=aH (aB B wt.length cb))) aa ?_ (fun hHeld=> ?_)
 ·exact HS.o _ (Below.refl _ w4).drew
 have hB:=(Below.refl w4.heap.size w4).drew;generalize w4.drew=wn0 at *
 refine wQ 0 ?_;refine wQ 2 ?_;refine wQ 3 ?_;refine wQ 4 ?_;refine wQ 6 ?_;refine wQ 7 ?_;refine wQ 8 ?_;refine wQ 9 ?_;refine wU 1 fun K hK=>?_;have hcp:=HCP.o wn0 (HFL.o.below hB);go_simp;refine(hcp).mono ?_;rintro e5 w5 ⟨v5,rfl,ho5,hb5⟩;dsimp only;obtain⟨gf,cf,rfl,hgf⟩:=ho5.blk_ex ww;refine qF hK (HS.o _ (wo hB hb5)) (Below w4.heap.size w4) (fun W=>FlsO W w4.heap.size (aB (aH ⟨gf,0,aG⟩) fs.length cf) fs/\w4.heap.size<=gf) (wo hB hb5) ⟨ho5.lower hB.size,Nat.le_trans hB.size hgf⟩ fun wn1 hHeld hst hnew=> ?_;clear hB;have hB:=hst;obtain⟨hnew,hgw⟩:=hnew;clear hst;clear hK K
 try simp only [sqP]
 refine wU 5 fun K hK=>?_;obtain⟨xs,x1,x2,x3⟩:=hnew.del (i:=i) hi;go_simp;refine(z0j _ i fs.length _ _ xs wn1 x1 hi x2).mono ?_;rintro e5 w5 ⟨rfl,y1,y2⟩;dsimp only;refine qF hK (HS.o _ (hB.grown y2 hB.size (fun g h=>by cases h;exact hgw))) (Below w4.heap.size w4) (fun W=>FlsO W w4.heap.size (aB (aH ⟨gf,0,aG⟩) (fs.length - 1) cf) (fs.eraseIdx i)) (hB.grown y2 hB.size (fun g h=>by cases h;exact hgw)) (x3 _ y1 y2) fun wn2 hHeld hst hnew=> ?_;clear hB;have hB:=hst;clear hst;clear hK K
 try simp only [sqP]
 refine wU 10 fun K hK=>?_;have hcr:=uy s ld B cb wt wn2 ww (HRW.o.below hB);go_simp;refine(hcr).mono ?_;rintro e5 w5 ⟨v5,rfl,ho5,hb5⟩;dsimp only;refine qF hK ?_ (Below w4.heap.size w4) (fun W=>FlsO W w4.heap.size (aB (aH ⟨gf,0,aG⟩) (fs.length - 1) cf) (fs.eraseIdx i)/\W.ownsRow w4.heap.size 3 1 v5 (wt.length+1) (ins (ld::wt))) ?_ ?_ (fun wn3 hHeld hst hnew2=> ?_)
 ·exact HS.o _ (wo hB hb5)
 ·exact wo hB hb5
 ·exact⟨hnew.below hb5,zb ho5 hB.size⟩
 clear hB;have hB:=hst;clear hst hnew;obtain⟨hnew,hown⟩:=hnew2;clear hK K
 refine wQ 11 ?_;refine wQ 12 ?_;refine wQ 13 ?_;refine wpAnyH_done aa ?_ _;clear hHeld;dsimp only [Exit.then];go_wp2_with fail;go_ret3;rw [HLD.o,HWT.o];exact⟨_,_,rfl,hnew.lower hb14.size,zb hown hb14.size,wo hb14 hB⟩
open Go.Maps
open Go.ChangeShapes (lits)
def grp (fs:List FlP) (k:aj):List Int :=
 match fnd 0 fs k with
 | none=> []
 | some i=>match fs[i]? with
  | none=> []
  | some p=>p.lead::p.wait
theorem Kr (h:fnd 0 fs k=some i) (hi:i<fs.length):grp fs k=fs[i].lead::fs[i].wait:=by
 rw [grp,h];simp only [List.getElem?_eq_getElem hi]
theorem XT:∀(fs:List FlP) (i j:Nat) (k:aj),fnd i fs k=some j->∃h:j - i<fs.length,i<=j/\fs[j - i].key=k
 | p::r,i,j,k,h=>by
  rw [fnd]at h
  split at h
  ·rename_i e
   cases h
   refine⟨ac,Nat.le_refl _,?_⟩
   simp only [Nat.sub_self,List.getElem_cons_zero]
   exact e
  ·obtain⟨h1,h2,h3⟩:=XT r (i+1) j k h
   refine⟨by simp only [List.length_cons];omega,ww,?_⟩
   have e:j - i=(j - (i+1))+1:=ww;simp only [e,List.getElem_cons_succ]
   exact h3
theorem yj {j:Nat} (h:fnd 0 fs k=some j):∃h:j<fs.length,fs[j].key=k:=by
 obtain⟨h1,_,h2⟩:=XT fs 0 j k h;exact⟨h1,h2⟩
theorem xE:∀(fs:List FlP) (p:FlP) (i:Nat) (k:aj),fnd i (fs++ [p]) k=match fnd i fs k with | some j=>some j | none=>if p.key=k then some (i+fs.length) else none
 | [],p,i,k=>by simp [fnd]
 | f::fs,p,i,k=>by
  rw [List.cons_append,fnd,fnd]
  by_cases h:f.key=k
  ·rw [if_pos h,if_pos h]
  ·rw [if_neg h,if_neg h,xE fs p (i+1) k,show i+1+fs.length=i+(f::fs).length by simp only [List.length_cons];omega]
theorem Z7 (h:fnd 0 fs k=none):grp (fs++ [⟨k,n, []⟩]) k= [n]:=by
 have e:fnd 0 (fs++ [(⟨k,n, []⟩:FlP)]) k=some fs.length:=by rw [xE,h];simp
 rw [Kr e ac];simp
theorem j0 (h:k≠k'):grp (fs++ [⟨k,n, []⟩]) k'=grp fs k':=by
 unfold grp;rw [xE];cases e:fnd 0 fs k' with
 | none=>simp [h]
 | some j =>
  obtain⟨hj,_⟩:=yj e;simp only [];rw [List.getElem?_append_left hj]
theorem Zf (fs:List FlP) (i:Nat) (p:FlP) (hi:i<fs.length) (hk:p.key=fs[i].key):(fs.set i p).map (·.key)=fs.map (·.key):=by
 rw [List.map_set];apply List.ext_getElem
 ·simp
 ·intro j h1 h2;rw [List.getElem_set];split
  ·rename_i e;subst e;simpa using hk
  ·rfl
theorem ZR (h:fnd 0 fs k=some i) (hi:i<fs.length) (hk:p.key=fs[i].key):grp (fs.set i p) k=p.lead::p.wait:=by
 have e:fnd 0 (fs.set i p) k=some i:=by rw [yN (fs.set i p) fs 0 k (Zf fs i p hi hk),h]
 rw [Kr e (by simpa using hi)];simp
theorem Z6 (h:fnd 0 fs k=some i) (hi:i<fs.length) (hk:p.key=fs[i].key) (hne:k≠k'):grp (fs.set i p) k'=grp fs k':=by
 unfold grp;rw [yN (fs.set i p) fs 0 k' (Zf fs i p hi hk)];cases e:fnd 0 fs k' with
 | none=>rfl
 | some j =>
  have hne':i≠j:=by
   rintro rfl;obtain⟨_,e1⟩:=yj e;obtain⟨_,e2⟩:=yj h;exact hne (e2.symm.trans e1)
  simp only [];rw [List.getElem?_set_ne hne']
def grpD (l:List Int):DataW Unit:=match l with | []=> .nil | _::_=> .slice (lits .i64 l) []
structure WhoD (fs:List FlP) (D:DataW Unit):Prop where
 tidy:Tidy D
 size:size D=fs.length
 has:∀k,Maps.has D (.string k)=(fnd 0 fs k).isSome
 at_:∀k,D.atKey (.string k) .nil=grpD (grp fs k)
theorem WhoD.nil_:WhoD [] (.map []):=⟨tidy_empty,rfl,fun _=>rfl,fun _=>rfl⟩
theorem jE (k:aj):WideAt.IsKeyLit (.string k):=by simp [WideAt.IsKeyLit]
theorem WhoD.new {D:DataW Unit} (h:WhoD fs D) (hf:fnd 0 fs k=none):WhoD (fs++ [⟨k,n, []⟩]) (D.put (.string k) (grpD [n])):=by
 have hh:Maps.has D (.string k)=false:=by rw [h.has,hf];rfl
 refine⟨h.tidy.put (jE k) _,?_,fun k'=> ?_,fun k'=> ?_⟩
 ·rw [size_put h.tidy,hh,h.size];simp
 ·by_cases e:k'=k
  ·subst e;rw [has_put_same h.tidy.isMap (jE k') _,xE,hf];simp
  ·rw [has_put_other (by simpa using e),h.has,xE];cases fnd 0 fs k' with
   | none=>simp [Ne.symm e]
   | some j=>rfl
 ·by_cases e:k'=k
  ·subst e;rw [atKey_put_same h.tidy.isMap (jE k') _ _,Z7 hf]
  ·rw [atKey_put_other (by simpa using e),h.at_,j0 (Ne.symm e)]
theorem WhoD.more {D:DataW Unit} (h:WhoD fs D) (hf:fnd 0 fs k=some i) (hi:i<fs.length) (hk:p.key=fs[i].key):WhoD (fs.set i p) (D.put (.string k) (grpD (p.lead::p.wait))):=by
 have hh:Maps.has D (.string k)=true:=by rw [h.has,hf];rfl
 refine⟨h.tidy.put (jE k) _,?_,fun k'=> ?_,fun k'=> ?_⟩
 ·rw [size_put h.tidy,hh,h.size,List.length_set];simp
 ·rw [yN (fs.set i p) fs 0 k' (Zf fs i p hi hk)];by_cases e:k'=k
  ·subst e;rw [has_put_same h.tidy.isMap (jE k') _,hf];rfl
  ·rw [has_put_other (by simpa using e),h.has]
 ·by_cases e:k'=k
  ·subst e;rw [atKey_put_same h.tidy.isMap (jE k') _ _,ZR hf hi hk]
  ·rw [atKey_put_other (by simpa using e),h.at_,Z6 hf hi hk (Ne.symm e)]
section
variable {P:Program} {k e:TypeId} {q:IntKind} {wr w:World} {base b n:Nat} {D:DataW Unit}
end
theorem qL:∀(fs:List FlP) (i:Nat) (k:aj),fnd i fs k=none↔∀p∈fs,p.key≠k
 | [],i,k=>by simp [fnd]
 | f::fs,i,k=>by
  rw [fnd]
  by_cases h:f.key=k
  ·rw [if_pos h]
   constructor
   ·intro e;cases e
   ·intro e;exact absurd h (e f ac)
  ·rw [if_neg h,qL fs (i+1) k]
   constructor
   ·intro e p hp
    rcases List.mem_cons.1 hp with rfl | hp
    ·exact h
    ·exact e p hp
   ·intro e p hp;exact e p (by simp [hp])
theorem GoodF.nodup (h:GoodF fs):(fs.map (·.key)).Nodup:=by
 rw [List.Nodup,List.pairwise_map,List.pairwise_iff_getElem];intro i j hi hj hij;have h1:=(qL _ _ _).1 (h.one j hj) fs[i] (by
  rw [List.mem_take_iff_getElem];exact⟨i,ww,rfl⟩)
 exact h1
theorem GoodF.of (h6:fs.length<=6) (h:∀p∈fs,(hexC p.key=0/\p.key.length<=1000)/\p.wait.length<=5/\CrewOk (p.lead::p.wait)) (hn:(fs.map (·.key)).Nodup):GoodF fs:=by
 refine⟨h6,fun j hj=>(h _ (List.getElem_mem hj)).1,fun j hj=> ?_,fun j hj=>(h _ (List.getElem_mem hj)).2.1,fun j hj=>(h _ (List.getElem_mem hj)).2.2⟩;rw [qL];intro p hp;rw [List.mem_take_iff_getElem]at hp;obtain⟨i,hi,rfl⟩:=hp;rw [List.Nodup,List.pairwise_map,List.pairwise_iff_getElem]at hn;exact hn i j ww hj ww
theorem GoodF.all (h:GoodF fs):∀p∈fs,(hexC p.key=0/\p.key.length<=1000)/\p.wait.length<=5/\CrewOk (p.lead::p.wait):=fun p hp=>by
 obtain⟨j,hj,rfl⟩:=List.mem_iff_getElem.1 hp
 exact⟨h.key j hj,h.few j hj,h.crew j hj⟩
theorem GoodF.erase (h:GoodF fs) (i:Nat):GoodF (fs.eraseIdx i):=by
 refine GoodF.of ?_ (fun p hp=>h.all p (List.mem_of_mem_eraseIdx hp)) ?_
 ·have:=List.length_eraseIdx_le fs i;have:=h.len;omega
 ·exact h.nodup.sublist ((List.eraseIdx_sublist fs i).map _)
theorem uZ (hn:(fs.map (·.key)).Nodup) (hi:i<fs.length):fnd 0 (fs.eraseIdx i) fs[i].key=none:=by
 rw [qL];intro p hp e;rw [List.eraseIdx_eq_take_drop_succ]at hp;rw [List.Nodup,List.pairwise_map,List.pairwise_iff_getElem]at hn;rcases List.mem_append.1 hp with h | h
 ·rw [List.mem_take_iff_getElem]at h;obtain⟨j,hj,rfl⟩:=h;exact hn j i ww hi ww e
 ·rw [List.mem_drop_iff_getElem]at h;obtain⟨j,hj,rfl⟩:=h;exact hn i (i+1+j) hi ww ww e.symm
end Go.Proofs.YtaboknhfiijipaaGreat
