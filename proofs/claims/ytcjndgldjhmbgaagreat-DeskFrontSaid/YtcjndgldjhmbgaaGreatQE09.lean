/- Lemmas, as stated. -/
import Derived.Maps.GroupsBeside
import Derived.Test.YtcjndgldjhmbgaaGreatQE08
set_option linter.unusedVariables false
set_option linter.unusedSimpArgs false
set_option maxRecDepth 100000
set_option maxHeartbeats 8000000
open Go.Proofs.Tryz
open Go.Proofs.Tryz renaming prog->zZZ
open Go.Value renaming slice->aw,int->ax,string->az
open Go.IntKind renaming i64->ay
open Option renaming none->aB,some->aC
namespace Go.Proofs.YtcjndgldjhmbgaaGreat
variable {p:FlP} {n:Int} {fs:List FlP} {base c cap g i:Nat} {e:TypeId} {v:Value} {w w':World} {k k':ac} {xs:af}
theorem yH:∀(fs gs:List FlP) (i:Nat) (k:ac),fs.map (·.key)=gs.map (·.key)->fnd i fs k=fnd i gs k
 | [], [],i,k,_=>rfl
 | f::fs,g::gs,i,k,h=>by
  simp only [List.map_cons,List.cons.injEq]at h
  rw [fnd,fnd,h.1,yH fs gs (i+1) k h.2]
theorem CrewOk.snoc {l:List Int} (h:CrewOk l) (h1:1<=n) (h2:n<=1000) (hn:l.contains n=false):CrewOk (l++ [n]):=fun j hj=>by
 rw [List.length_append]at hj
 simp only [List.length_cons,List.length_nil]at hj
 by_cases hl:j<l.length
 ·rw [List.getElem_append_left hl,List.take_append_of_le_length wj]
  exact h j hl
 ·have he:j=l.length:=wj
  subst he
  rw [List.getElem_append_right ab,List.take_left]
  simp only [Nat.sub_self,List.getElem_cons_zero]
  exact⟨⟨h1,h2⟩,hn⟩
theorem CrewOk.one (h1:1<=n) (h2:n<=1000):CrewOk [n]:=fun j hj=>by
 have h0:j=0:=by simpa using hj
 subst h0
 exact⟨⟨h1,h2⟩,rfl⟩
theorem GoodF.nil_:GoodF []:=⟨ws,(fun j h=>by cases h),(fun j h=>by cases h),(fun j h=>by cases h),(fun j h=>by cases h)⟩
theorem GoodF.snoc (h:GoodF fs) (h6:fs.length<6) (hk:hexC k=0) (hkl:k.length<=1000) (hf:fnd 0 fs k=aB) (h1:1<=n) (h2:n<=1000):GoodF (fs++ [⟨k,n, []⟩]):=by
 have split:∀j,j<(fs++ [(⟨k,n, []⟩:FlP)]).length->j<fs.length\/j=fs.length:=fun j hj=>by
  rw [List.length_append]at hj;simp only [List.length_cons,List.length_nil]at hj;omega
 refine⟨by rw [List.length_append];simp only [List.length_cons,List.length_nil];omega,fun j hj=> ?_,fun j hj=> ?_,fun j hj=> ?_,fun j hj=> ?_⟩
 ·rcases split j hj with hl | rfl
  ·rw [List.getElem_append_left hl];exact h.key j hl
  ·rw [List.getElem_append_right ab];simp only [Nat.sub_self,List.getElem_cons_zero];exact⟨hk,hkl⟩
 ·rcases split j hj with hl | rfl
  ·rw [List.getElem_append_left hl,List.take_append_of_le_length wj];exact h.one j hl
  ·rw [List.getElem_append_right ab,List.take_left];simp only [Nat.sub_self,List.getElem_cons_zero];exact hf
 ·rcases split j hj with hl | rfl
  ·rw [List.getElem_append_left hl];exact h.few j hl
  ·rw [List.getElem_append_right ab];simp only [Nat.sub_self,List.getElem_cons_zero];exact Nat.zero_le _
 ·rcases split j hj with hl | rfl
  ·rw [List.getElem_append_left hl];exact h.crew j hl
  ·rw [List.getElem_append_right ab];simp only [Nat.sub_self,List.getElem_cons_zero];exact CrewOk.one h1 h2
theorem GoodF.set (h:GoodF fs) (hi:i<fs.length) (h1:1<=n) (h2:n<=1000) (hin:(fs[i].lead::fs[i].wait).contains n=false) (h5:fs[i].wait.length<5) :
  GoodF (fs.set i ⟨fs[i].key,fs[i].lead,fs[i].wait++ [n]⟩):=by
 have hkeys:∀m,((fs.set i ⟨fs[i].key,fs[i].lead,fs[i].wait++ [n]⟩).take m).map (·.key)=(fs.take m).map (·.key):=fun m=>by
  rw [List.map_take,List.map_take,List.map_set]
  congr 1
  apply List.ext_getElem
  ·simp
  ·intro j h1 h2;rw [List.getElem_set];split
   ·rename_i e;subst e;simp
   ·rfl
 refine⟨by rw [List.length_set];exact h.len,fun j hj=> ?_,fun j hj=> ?_,fun j hj=> ?_,fun j hj=> ?_⟩
 all_goals
  rw [List.length_set]at hj;by_cases e:i=j
  ·subst e
   first
    | (rw [List.getElem_set_self];exact h.key i hi)
    | (rw [List.getElem_set_self,yH _ _ _ _ (hkeys i)];exact h.one i hi)
    | (rw [List.getElem_set_self,List.length_append];simp only [List.length_cons,List.length_nil];omega)
    | (rw [List.getElem_set_self];exact(h.crew i hi).snoc h1 h2 hin)
  ·first
    | (rw [List.getElem_set_ne e];exact h.key j hj)
    | (rw [List.getElem_set_ne e,yH _ _ _ _ (hkeys j)];exact h.one j hj)
    | (rw [List.getElem_set_ne e];exact h.few j hj)
    | (rw [List.getElem_set_ne e];exact h.crew j hj)
open Go.RowKit
theorem z3r:El zZZ 31 95 3 48:=El.mk' (z:= .agg #[az ByteArray.empty,ax ay 0,aw aB 0 0]) underlying31 wm rfl wj wj
theorem Ze (A:ae) (c:Nat) (l:List Int) (w:World) (hb:l.length<=1000000) (hr:Rd w 1 A l.length (ins l)) :
  Calls zZZ 182 #[aw A l.length c] w fun e w'=>∃v,e= .returned v/\w'.ownsRow w.heap.size 3 1 v l.length (ins l)/\Below w.heap.size w w':=by
 have heq:=fun W=>Lib.run_eql_slice_nil (P:=zZZ) W 46 3 A l.length c 0 0 underlying46;cases A with
 | none =>
  have h0:l.length=0:=by
   rcases Nat.eq_zero_or_pos l.length with h | h
   ·exact h
   ·obtain⟨_,_,h1,_⟩:=hr.2 h;cases h1
  obtain rfl:l= []:=List.eq_nil_of_length_eq_zero h0;have heq:=fun W=>Lib.run_eql_slice_nil (P:=zZZ) W 46 3 aB 0 c 0 0 underlying46;rw [List.length_nil];go_enter func182,ntmps182;go_wp2_with fail;go_ret;exact⟨_,rfl,World.ownsRow_nil _ _ _ _,Below.refl _ _⟩
 | some ad =>
  go_enter func182,ntmps182
  refine wH ?_;intros
  refine zJ rfl (.tmp 5) (.tmp 6) rfl z0s wu (World.ownsRow_made (size:=1) w #[] 0 ab (by simp [maxLen]) rfl) wu (hr.alloc _) (XM l) wj ws ?_;intro v1 w1 hown1 hg1 _;have hb1:=zj ((Below.refl _ _).alloc ab _) (World.ownsRow_made (size:=1) w #[] 0 ab (by simp [maxLen]) rfl) ab hg1;go_wp2_with fail;go_ret;exact⟨_,rfl,by simpa using hown1,hb1⟩
def ke (fs:List FlP) (As:List (ae×Nat)):af:=(fs.zip As).flatMap fun x=>qJ x.1 x.2.1 x.2.2
def blk (a:ae×Nat):Option Nat:=a.1.map (·.block)
theorem qy (a:ae×Nat) (n:Nat):(aw a.1 n a.2).ownBlock=blk a:=by
 obtain⟨A,c⟩:=a;cases A<;>rfl
def FlsO (w:World) (base:Nat) (v:Value) (fs:List FlP):Prop :=
 ∃(As:List (ae×Nat)),As.length=fs.length/\w.ownsRow base 95 3 v fs.length (ke fs As) /\
  (∀(k:Nat) (p:FlP) (a:ae×Nat),fs[k]?=aC p->As[k]?=aC a->w.ownsRow base 3 1 (aw a.1 p.wait.length a.2) p.wait.length (ins p.wait)/\∀g,blk a=aC g->v.ownBlock≠aC g) /\
  (∀(k j:Nat) (a b:ae×Nat),k<j->As[k]?=aC a->As[j]?=aC b->∀g,blk a=aC g->blk b≠aC g)
theorem z1b {n:Nat} {A:ae} (h:w.ownsRow base e 1 (aw A n c) n xs):n<=c/\c<=maxLen:=by
 rcases h.2 with ⟨h1,h2⟩ | ⟨_,cap,_,h1,_,_,h2,h3,_⟩
 ·injection h1 with _ _ h3;subst h3;omega
 ·injection h1 with _ _ h4;subst h4;exact⟨h2,h3⟩
theorem FlsO.fls (h:FlsO w base v fs):∃A c,v= aw A fs.length c/\fs.length<=c/\Fls w A fs:=by
 obtain⟨As,h1,h2,h3,h4⟩:=h;obtain⟨A,c,rfl,hc,hr⟩:=Rd.of_own' h2;refine⟨A,c,rfl,hc,As,h1,hr,fun k p a hp ha=> ?_⟩;have ho:=(h3 k p a hp ha).1;exact⟨Rd.of_own ho,z1b ho⟩
theorem FlsO.nil_ (w:World) (base:Nat) (v:Value) (h:w.ownsRow base 95 3 v 0 []):FlsO w base v [] :=
 ⟨[],rfl,h,(fun k p a hp _=>by cases hp),(fun k j a b _ ha=>by cases ha)⟩
theorem FlsO.below (h:FlsO w base v fs) (hb:Below w.heap.size w w'):FlsO w' base v fs:=by
 obtain⟨As,h1,h2,h3,h4⟩:=h;exact⟨As,h1,zc h2 hb,(fun k p a hp ha=>⟨zc (h3 k p a hp ha).1 hb,(h3 k p a hp ha).2⟩),h4⟩
theorem FlsO.lower {b':Nat} (h:FlsO w base v fs) (hb:b'<=base):FlsO w b' v fs:=by
 obtain⟨As,h1,h2,h3,h4⟩:=h;exact⟨As,h1,zb h2 hb,(fun k p a hp ha=>⟨zb (h3 k p a hp ha).1 hb,(h3 k p a hp ha).2⟩),h4⟩
theorem vY:∀(fs:List FlP) (As:List (ae×Nat)) (p:FlP) (a:ae×Nat),As.length=fs.length->ke (fs++ [p]) (As++ [a])=ke fs As++qJ p a.1 a.2
 | [], [],p,a,_=>by simp [ke]
 | f::fs,b::As,p,a,h=>by
  have ih:=vY fs As p a (by simpa using h)
  simp only [ke]at ih ⊢
  rw [List.cons_append,List.cons_append,List.zip_cons_cons,List.zip_cons_cons,List.flatMap_cons,List.flatMap_cons,ih,List.append_assoc]
theorem FlsO.snoc {v':Value} {B:ae} {As:List (ae×Nat)} (h1:As.length=fs.length)
  (h3:∀(k:Nat) (p:FlP) (a:ae×Nat),fs[k]?=aC p->As[k]?=aC a->w.ownsRow base 3 1 (aw a.1 p.wait.length a.2) p.wait.length (ins p.wait)/\∀g,blk a=aC g->v.ownBlock≠aC g)
  (h4:∀(k j:Nat) (a b:ae×Nat),k<j->As[k]?=aC a->As[j]?=aC b->∀g,blk a=aC g->blk b≠aC g)
  (ho:w'.ownsRow base 95 3 v' (fs.length+1) (ke fs As++qJ p B c))
  (hg:w.grownBy w' v.ownBlock) (hv:v'.ownBlock=v.ownBlock\/∃g,v'.ownBlock=aC g/\w.heap.size<=g)
  (hB:w.ownsRow base 3 1 (aw B p.wait.length c) p.wait.length (ins p.wait)) (hne:∀g,blk (B,c)=aC g->v.ownBlock≠aC g)
  (hfr:∀(k:Nat) (a:ae×Nat),As[k]?=aC a->∀g,blk a=aC g->blk (B,c)≠aC g):FlsO w' base v' (fs++ [p]):=by
 have keep:∀(a:ae×Nat) (l:List Int),w.ownsRow base 3 1 (aw a.1 l.length a.2) l.length (ins l)->(∀g,blk a=aC g->v.ownBlock≠aC g) ->
   w'.ownsRow base 3 1 (aw a.1 l.length a.2) l.length (ins l)/\∀g,blk a=aC g->v'.ownBlock≠aC g:=fun a l hr hn=>by
  refine⟨hr.kept hg ?_,fun g e=> ?_⟩
  ·rw [qy];cases hb:blk a with
   | none=>exact .inl rfl
   | some g=>exact .inr (fun h=>hn g hb h.symm)
  ·rcases hv with h | ⟨g',h,hge⟩
   ·rw [h];exact hn g e
   ·rw [h];have:=(hr.lt g (by rw [qy];exact e)).2;intro h';cases h';omega
 refine⟨As++ [(B,c)],by simp [h1],?_,fun k q a hq ha=> ?_,fun k j a b hkj ha hb g hag=> ?_⟩
 ·rw [vY fs As p (B,c) h1,List.length_append];exact ho
 ·by_cases hk:k<fs.length
  ·rw [List.getElem?_append_left hk]at hq;rw [List.getElem?_append_left wj]at ha;obtain⟨i1,i2⟩:=h3 k q a hq ha;exact keep a q.wait i1 i2
  ·rw [List.getElem?_append_right wj]at hq ha;have hk0:k - fs.length=0:=by
    have:=(List.getElem?_eq_some_iff.1 hq).1;simp at this;exact this
   rw [h1,hk0]at ha;rw [hk0]at hq;simp only [List.getElem?_cons_zero,Option.some.injEq]at hq ha;subst hq ha;exact keep (B,c) p.wait hB hne
 ·have hjl:=(List.getElem?_eq_some_iff.1 hb).1;rw [List.length_append]at hjl;simp only [List.length_cons,List.length_nil]at hjl;rw [List.getElem?_append_left wj]at ha;by_cases hj:j<As.length
  ·rw [List.getElem?_append_left hj]at hb;exact h4 k j a b hkj ha hb g hag
  ·rw [List.getElem?_append_right wj]at hb;have:j - As.length=0:=by omega
   rw [this]at hb;simp only [List.getElem?_cons_zero,Option.some.injEq]at hb;subst hb;exact hfr k a ha g hag
theorem ko (A:ae) (c:Nat) (fs:List FlP) (w:World) (hn:fs.length<=1000) (hw:∀p∈fs,p.wait.length<=1000) (hf:Fls w A fs) (hc:fs.length<=c) :
  Calls zZZ 162 #[aw A fs.length c] w fun e w'=>∃v,e= .returned v/\FlsO w' w.heap.size v fs/\Below w.heap.size w w':=by
 have HWT:=sqH hw;clear hw;go_enter func162,ntmps162
 refine wH ?_;intros
 refine kV rfl _ _ rfl z3r fs.length rfl rfl wj wj ?_;intro w1 g1 hown1 hb1;have ho1:=FlsO.nil_ w1 w.heap.size _ hown1
 refine wH ?_;intros
 go_loopg [3,11,5] fs.length (fun gn v i u wr=>∃k:Nat,gn=fs.length - k/\i= ax ay k/\k<=fs.length/\FlsO wr w.heap.size v (fs.take k)/\Below w.heap.size w wr)
 case atStart=>exact⟨0,rfl,rfl,wj,ho1,hb1⟩
 case round =>
  clear ho1 hown1 hb1;obtain⟨k,hgq,rfl,hk,ho,hbl⟩:=hrel;have HGK:=sqH hgq;clear hgq;by_cases hlt:k<fs.length
  ·have hcc:decide (k<fs.length)=true:=decide_eq_true hlt;obtain⟨b,off,B,cb,rfl,hbb,c0,c1,c2,hrw,hwc,hcbm⟩:=(hf.below hbl).at_ k hlt;have hwl:=HWT.o fs[k] (List.getElem_mem hlt);have HST:=sqH (show fs.take (k+1)=fs.take k++ [fs[k]] from List.take_succ_eq_append_getElem hlt);have htl:(fs.take k).length=k:=by rw [List.length_take];omega
   obtain⟨p,hp⟩:=wU (fs[k])
   rw [<-hp]at c0 c1 c2 hrw hwc hwl HST;obtain⟨s,hs⟩:=wU (⟨p.key.toArray⟩:ByteArray)
   rw [<-hs]at c0;have HS:=sqH hs;have HTL:=sqH htl;have hk0:=wX k
   have hk1:(k:Int)<(fs.length:Int):=wj
   obtain⟨ld,hld⟩:=wU p.lead
   rw [<-hld]at c1;have HLD:=sqH hld;have hP1:Arr (wr.alloc (.cells #[az s,ax ay ld,aw B p.wait.length cb] 95)) wr.heap.size 95 [az s,ax ay ld,aw B p.wait.length cb]:=Arr.new wr _ _;have hbr1:=wi wr (.cells #[az s,ax ay ld,aw B p.wait.length cb] 95);have hs1:(wr.alloc (.cells #[az s,ax ay ld,aw B p.wait.length cb] 95)).heap.size=wr.heap.size+1:=World.size_alloc _ _;have hrw1:=hrw.alloc (.cells #[az s,ax ay ld,aw B p.wait.length cb] 95);clear hs hp hld htl hrw
   refine wH ?_;intros
   generalize wr.alloc (.cells #[az s,ax ay ld,aw B p.wait.length cb] 95)=w1 at *
   obtain⟨gp,hgp⟩:=wU wr.heap.size
   rw [<-hgp]at hP1 ⊢
   have HGP:=sqH hgp;clear hgp c0 c1 c2;refine(Ze B cb p.wait w1 wj hrw1).mono ?_;rintro e_ w2 ⟨v2,rfl,ho2,hb2⟩;dsimp only;have hbr2:=wg hbr1 hb2;have hP2:=hP1.below hb2;have hrd2:∀b,v2.ownBlock=aC b->b≠gp:=fun b h=>by have:=(ho2.lt b h).1;have:=HGP.o;omega
   obtain⟨A2,c2,rfl,hc2,hr2⟩:=Rd.of_own' ho2;have hc2m:c2<=maxLen:=by
    rcases ho2.2 with ⟨h1,h2⟩ | ⟨_,cap,_,h1,_,_,_,h2,_⟩
    ·injection h1 with _ _ h3;subst h3;exact Nat.zero_le _
    ·injection h1 with _ _ h3;subst h3;exact h2
   have y2:=hP2.c2;have z2:=hP2.frozen 2;have hP3:=hP2.set (k:=2) ws (aw A2 p.wait.length c2);have hbr3:Below wr.heap.size wr (w2.setCell ⟨gp,2,aB⟩ (aw A2 p.wait.length c2)):=Below.setCell hbr2 (by show wr.heap.size<=gp;have:=HGP.o;omega) _;have hr3:Rd (w2.setCell ⟨gp,2,aB⟩ (aw A2 p.wait.length c2)) 1 A2 p.wait.length (ins p.wait):=by
    refine⟨hr2.1,fun h0=> ?_⟩;obtain⟨b',o',e',hb',hcc'⟩:=hr2.2 h0;have hn':=hrd2 b' (by rw [e'];rfl);subst e';exact(hr2.other hn' _).2 h0
   have hbelow2:True:=trivial;obtain⟨f0,f1,f2⟩:=sqC3 hP3;have hneA:∀b off,A2=aC ⟨b,off,aB⟩->0<p.wait.length->wr.heap.size<=b:=fun b off e _=>by
    have:=(ho2.lt b (by rw [e];rfl)).1;omega
   have ho22:=zd (k:=2) (u:= aw A2 p.wait.length c2) ho2 (fun h=>hrd2 gp h rfl);clear ho2 hr2 hrw1
   refine wH ?_;intros
   have hsz:(w2.setCell ⟨gp,2,aB⟩ (aw A2 p.wait.length c2)).heap.size=w2.heap.size:=by simp [World.setCell]
   rw [<-hsz];obtain⟨w3,hw3⟩:=wU (w2.setCell ⟨gp,2,aB⟩ (aw A2 p.wait.length c2))
   rw [<-hw3]at hbr3 hr3 ho22 ⊢
   clear f0 f1 f2 y2 z2 hP3 hw3 hsz;obtain⟨As,j1,j2,j3,j4⟩:=ho;have i1:=j1;have i2:=zc j2 hbr3;have i3:=fun (k:Nat) (p:FlP) (a:ae×Nat) hp ha=>(⟨zc (j3 k p a hp ha).1 hbr3,(j3 k p a hp ha).2⟩:_/\_)
   have i4:=j4;have OLD:=sqH (show ∀k' a,As[k']?=aC a->∀g,blk a=aC g->g<wr.heap.size from fun k' a ha g hg=>by
    have hkl:=(List.getElem?_eq_some_iff.1 ha).1;have hq:(fs.take k)[k']?=aC ((fs.take k)[k']'(by omega)):=List.getElem?_eq_getElem _;exact((j3 k' _ a hq ha).1.lt g (by rw [qy];exact hg)).2)
   have hfc:qJ p A2 c2= [az s,ax ay ld,aw A2 p.wait.length c2]:=by rw [qJ,<-HS.o,<-HLD.o]
   rw [HTL.o]at i2;refine zg rfl (.tmp 19) (.tmp 21) rfl z3r wu i2 (us:= [az s,ax ay ld,aw A2 p.wait.length c2]) (m:=1) wu rfl (by intro u hu;simp at hu;rcases hu with rfl | rfl | rfl<;>rfl) wj (Nat.le_trans hbl.size hbr3.size) ?_;intro v5 w5 ho5 hg5 hv5;have hlt5:∀g',v5.ownBlock=aC g'->w.heap.size<=g':=fun g' h=>(ho5.lt g' h).1;have hbel5:Below w.heap.size w w5:=(wg hbl hbr3).grown hg5 (Nat.le_trans hbl.size hbr3.size) (fun k hk=>(i2.lt k hk).1);rw [<-hfc]at ho5;have hlow:w.heap.size<=w1.heap.size:=Nat.le_trans hbl.size hbr1.size;have ho6:=FlsO.snoc (p:=p) (B:=A2) (c:=c2) i1 i3 i4 (by rw [HTL.o];exact ho5) hg5 hv5 (zb ho22 hlow) (fun g h h'=>by
    have h1:=(ho22.lt g (by rw [qy (A2,c2)];exact h)).1;have:=(j2.lt g h').2;omega) (fun k' a ha g h h'=>by
    have h1:=(ho22.lt g (by rw [qy (A2,c2)];exact h')).1;have:=OLD.o k' a ha g h;omega)
   rw [<-HST.o]at ho6;clear i1 i2 i3 i4 j1 j2 j3 j4 ho22 ho5 hg5 hv5 hr3 hbr3 hlt5
   refine wH ?_;intros
   go_roundg (fs.length - (k+1))
   case measure=>exact wW HGK
   case rel=>exact⟨k+1,rfl,by go_num,wj,ho6,hbel5⟩
  ·obtain rfl:k=fs.length:=by omega
   have hcc:decide (fs.length<fs.length)=false:=ws
   rw [List.take_length]at ho;obtain⟨A5,c5,rfl,_,_⟩:=ho.fls
   refine wH ?_;intros
   go_ret;exact⟨_,rfl,ho,hbl⟩
theorem uW (fs:List FlP) (As:List (ae×Nat)):∀u∈ke fs As,u.oneCell'=true:=by
 intro u hu;simp only [ke,List.mem_flatMap]at hu;obtain⟨x,_,hx⟩:=hu;simp only [qJ,List.mem_cons,List.not_mem_nil,or_false]at hx;rcases hx with rfl | rfl | rfl<;>rfl
theorem Yy (v:Value) (base:Nat) (fs:List FlP) (w:World) (hn:fs.length<=1000) (h0:0<fs.length) (hbs:base<=w.heap.size) (h:FlsO w base v fs) :
  Calls zZZ 185 #[v] w fun e w'=>∃v',e= .returned v'/\FlsO w' base v' fs/\Below w.heap.size w w':=by
 obtain⟨As,i1,i2,i3,i4⟩:=h;obtain⟨g,cap,cs,rfl,_,_,hcap,_,_,_⟩:=yl i2 h0;have hr:=Rd.of_own i2;obtain⟨I3,I4,I1⟩:=sqJ3 i3 i4 i1;have heq:=fun W=>Lib.run_eql_slice_nil (P:=zZZ) W 31 95 (aC ⟨g,0,aB⟩) fs.length cap 0 0 underlying31;clear i1 i2 i3 i4;go_enter func185,ntmps185
 refine wH ?_;intros
 refine zJ rfl (.tmp 5) (.tmp 6) rfl z3r wu (World.ownsRow_made (size:=3) w #[] 0 ab (by simp [maxLen]) rfl) wu (hr.alloc _) (uW fs As) wj ws ?_;intro v1 w1 hown1 hg1 _;have hb1:=zj ((Below.refl _ _).alloc ab _) (World.ownsRow_made (size:=3) w #[] 0 ab (by simp [maxLen]) rfl) ab hg1;rw [Nat.zero_add,List.nil_append]at hown1;go_wp2_with fail;go_ret;refine⟨_,rfl,⟨As,I1.o,zb hown1 hbs,(fun k p a hp ha=> ?_),I4.o⟩,hb1⟩;obtain⟨j1,_⟩:=I3.o k p a hp ha;exact⟨zc j1 hb1,fun g h h'=>by
  have:=(j1.lt g (by rw [qy];exact h)).2;have:=(hown1.lt g h').1;omega⟩
theorem U9 (A:ae) (c:Nat) (fs:List FlP) (k:ByteArray) (n:Int) (w:World) (hG:GoodF fs) (hf:Fls w A fs) (hc:fs.length<=c) (hm:c<=maxLen) (hk:hexC k.data.toList=0) (hks:k.size<=140737488351232) (hn1:1<=n) (hn2:n<=1000) (hfn:fnd 0 fs k.data.toList=aB) (h6:fs.length<6) :
  Calls zZZ 167 #[aw A fs.length c,az k,ax ay n] w fun e w'=>∃v,e= .returned (.tuple #[v,.bool true,ax ay 0])/\FlsO w' w.heap.size v (fs++ [⟨k.data.toList,n, []⟩])/\Below w.heap.size w w':=by
 obtain⟨HCK,HHX,HWH⟩:=sqJ3 (fun w' hf'=>kb A c fs w' hG hf' hc hm) (fun w'=>kB (s:=k) 0 rfl hk w' hks) (fun w'=>jx n w');have hwd:decide (1<=n/\n<=1000)=true:=by simp [hn1,hn2]
 have HWD:=sqH hwd;have HCP:=sqH (fun w' hf'=>ko A c fs w' wj (fun p hp=>by
  obtain⟨j,hj,rfl⟩:=List.mem_iff_getElem.1 hp;have:=hG.few j hj;omega) hf' hc)
 have HFI:=sqH (fun w' hf'=>kI A c fs k w' wj hf');have HF:=sqH hfn;have e6:((fs.length:Int)==6)=false:=by rw [beq_eq_false_iff_ne];omega
 have e6':(fs.length==6)=false:=by rw [beq_eq_false_iff_ne];omega
 clear hG hk hwd hfn;go_enter func167,ntmps167
 refine wH ?_;intros
 refine wV (HCK.o w hf) fun w1 hb1=>?_;dsimp only;have hf1:=hf.below hb1
 refine wH ?_;intros
 refine wV (HHX.o w1) fun w2 hb2=>?_;dsimp only;have hb12:=wg hb1 hb2;have hf2:=hf1.below hb2
 refine wH ?_;intros
 refine(HWH.o w2).mono ?_;rintro e_ _ ⟨rfl,rfl⟩;dsimp only;rw [HWD.o]
 refine wH ?_;intros
 refine(HCP.o w2 hf2).mono ?_;rintro e_ w3 ⟨v3,rfl,ho3,hb3⟩;dsimp only;have hb13:=wg hb12 hb3;have hf3:=hf2.below hb3;have hfi:=HFI.o w3 hf3;rw [HF.o]at hfi;dsimp only at hfi;have HFF:=sqH hfi;clear hfi hf hf1 hf2
 refine wH ?_;intros
 refine wV HFF.o fun w4 hb4=>?_;dsimp only;have hb14:=wg hb13 hb4;have ho4:=ho3.below hb4;clear ho3 hf3
 refine wH ?_;intros
 obtain⟨As,i1,i2,i3,i4⟩:=ho4;refine zg rfl (.tmp 46) (.tmp 50) rfl z3r wu i2 (us:= [az k,ax ay n,aw aB 0 0]) (m:=1) wu rfl (by intro u hu;simp at hu;rcases hu with rfl | rfl | rfl<;>rfl) wj (Nat.le_trans hb3.size hb4.size) ?_;intro v5 w5 ho5 hg5 hv5;have hbel5:Below w.heap.size w w5:=hb14.grown hg5 hb14.size (fun k hk=>Nat.le_trans hb12.size (i2.lt k hk).1);have ho6:=FlsO.snoc (p:=⟨k.data.toList,n, []⟩) (B:=aB) (c:=0) i1 i3 i4 ho5 hg5 hv5 (World.ownsRow_nil _ _ _ _) (fun g h=>by cases h) (fun k' a _ g _ h=>by cases h);have ho6:=ho6.lower hb12.size;clear i1 i2 i3 i4 ho5 hg5 hv5;have hlen:(fs++ [(⟨k.data.toList,n, []⟩:FlP)]).length<=7:=by rw [List.length_append];simp only [List.length_cons,List.length_nil];omega
 have hpos:0<(fs++ [(⟨k.data.toList,n, []⟩:FlP)]).length:=by rw [List.length_append];simp
 generalize hgs:fs++ [(⟨k.data.toList,n, []⟩:FlP)]=gs at *
 have HGS:=sqH hgs;clear hgs
 refine wH ?_;intros
 refine(Yy _ _ gs w5 wj hpos hbel5.size ho6).mono ?_;rintro e_ w6 ⟨v6,rfl,ho8,hb6⟩;dsimp only;rw [<-HGS.o]at ho8
 refine wH ?_;intros
 go_ret3;exact⟨v6,rfl,ho8,wg hbel5 hb6⟩
theorem YM (A:ae) (c:Nat) (fs:List FlP) (k:ByteArray) (n:Int) (w:World) (hG:GoodF fs) (hf:Fls w A fs) (hc:fs.length<=c) (hm:c<=maxLen) (hk:hexC k.data.toList=0) (hks:k.size<=140737488351232) (hn1:1<=n) (hn2:n<=1000) (hfn:fnd 0 fs k.data.toList=aB) (h6:fs.length=6) :
  Calls zZZ 167 #[aw A fs.length c,az k,ax ay n] w fun e w'=>e= .returned (.tuple #[aw aB 0 0,.bool false,ax ay 7])/\Below w.heap.size w w':=by
 have e6:((fs.length:Int)==6)=true:=by rw [beq_iff_eq];omega
 have H6:=sqH h6;have h66:fs.length<=6:=wj
 clear h6;obtain⟨HCK,HHX,HWH⟩:=sqJ3 (fun w' hf'=>kb A c fs w' hG hf' hc hm) (fun w'=>kB (s:=k) 0 rfl hk w' hks) (fun w'=>jx n w');have hwd:decide (1<=n/\n<=1000)=true:=by simp [hn1,hn2]
 have HWD:=sqH hwd;have HCP:=sqH (fun w' hf'=>ko A c fs w' wj (fun p hp=>by
  obtain⟨j,hj,rfl⟩:=List.mem_iff_getElem.1 hp;have:=hG.few j hj;omega) hf' hc)
 have HFI:=sqH (fun w' hf'=>kI A c fs k w' wj hf');have HF:=sqH hfn;clear hG hk hwd hfn;go_enter func167,ntmps167;go_wp2_with fail;refine wV (HCK.o w hf) fun w1 hb1=>?_;dsimp only;have hf1:=hf.below hb1;go_wp2_with fail;refine wV (HHX.o w1) fun w2 hb2=>?_;dsimp only;have hb12:=wg hb1 hb2;have hf2:=hf1.below hb2;go_wp2_with fail;refine(HWH.o w2).mono ?_;rintro e_ _ ⟨rfl,rfl⟩;dsimp only;rw [HWD.o];go_wp2_with fail;refine(HCP.o w2 hf2).mono ?_;rintro e_ w3 ⟨v3,rfl,ho3,hb3⟩;dsimp only;have hb13:=wg hb12 hb3;have hf3:=hf2.below hb3;have hfi:=HFI.o w3 hf3;rw [HF.o]at hfi;dsimp only at hfi;have HFF:=sqH hfi;clear hfi hf hf1 hf2;go_wp2_with fail;refine wV HFF.o fun w4 hb4=>?_;dsimp only;have hb14:=wg hb13 hb4;go_wp2_with fail;go_ret3;exact⟨rfl,hb14⟩
theorem z01 (A:ae) (c:Nat) (fs:List FlP) (k:ByteArray) (n:Int) (i:Nat) (w:World) (hG:GoodF fs) (hf:Fls w A fs) (hc:fs.length<=c) (hm:c<=maxLen) (hk:hexC k.data.toList=0) (hks:k.size<=140737488351232) (hn1:1<=n) (hn2:n<=1000) (hfn:fnd 0 fs k.data.toList=aC i) (hi:i<fs.length) (hin:(fs[i].lead::fs[i].wait).contains n=true) :
  Calls zZZ 167 #[aw A fs.length c,az k,ax ay n] w fun e w'=>e= .returned (.tuple #[aw aB 0 0,.bool false,ax ay 6])/\Below w.heap.size w w':=by
 have h66:fs.length<=6:=hG.len;have hfew:=hG.few i hi;have HIN:=sqH hin;have FF:=sqH hf;clear hin;obtain⟨HCK,HHX,HWH⟩:=sqJ3 (fun w' hf'=>kb A c fs w' hG hf' hc hm) (fun w'=>kB (s:=k) 0 rfl hk w' hks) (fun w'=>jx n w');have hwd:decide (1<=n/\n<=1000)=true:=by simp [hn1,hn2]
 have HWD:=sqH hwd;have HCP:=sqH (fun w' hf'=>ko A c fs w' wj (fun p hp=>by
  obtain⟨j,hj,rfl⟩:=List.mem_iff_getElem.1 hp;have:=hG.few j hj;omega) hf' hc)
 have HFI:=sqH (fun w' hf'=>kI A c fs k w' wj hf');have HF:=sqH hfn;clear hG hk hwd hfn;go_enter func167,ntmps167;go_wp2_with fail;refine wV (HCK.o w hf) fun w1 hb1=>?_;dsimp only;have hf1:=hf.below hb1;go_wp2_with fail;refine wV (HHX.o w1) fun w2 hb2=>?_;dsimp only;have hb12:=wg hb1 hb2;have hf2:=hf1.below hb2;go_wp2_with fail;refine(HWH.o w2).mono ?_;rintro e_ _ ⟨rfl,rfl⟩;dsimp only;rw [HWD.o];go_wp2_with fail;refine(HCP.o w2 hf2).mono ?_;rintro e_ w3 ⟨v3,rfl,ho3,hb3⟩;dsimp only;have hb13:=wg hb12 hb3;have hf3:=hf2.below hb3;have hfi:=HFI.o w3 hf3;rw [HF.o]at hfi;dsimp only at hfi;have HFF:=sqH hfi;clear hfi hf hf1 hf2;go_wp2_with fail;refine wV HFF.o fun w4 hb4=>?_;dsimp only;have hb14:=wg hb13 hb4;obtain⟨b,off,B,cb,rfl,hbb,c0,c1,c2,hrw,hwc,hcbm⟩:=(FF.o.below hb14).at_ i hi;have i1:=wX i
 have i2:(i:Int)<(fs.length:Int):=wj
 obtain⟨s,hs⟩:=wU (⟨fs[i].key.toArray⟩:ByteArray)
 rw [<-hs]at c0;have HI2:=HIN.o;generalize fs[i].lead=ld at *
 generalize fs[i].wait=wt at *
 have HI3:=sqH HI2;clear HI2 HIN hs;go_wp2_with fail;refine(ug s ld B cb wt w4 wj hrw).mono ?_;rintro e_ w5 ⟨v5,rfl,ho5,hb5⟩;dsimp only;have hb15:=wg hb14 hb5;obtain⟨A5,c5,rfl,hc5,hr5⟩:=Rd.of_own' ho5;have hcon:=kZ A5 c5 (ld::wt) n w5 (by simp only [List.length_cons];omega) hr5;rw [HI3.o]at hcon;simp only [List.length_cons]at hcon;have HCO:=sqH hcon;clear hcon ho5 hr5 c0 c1 c2;go_wp2_with fail;refine HCO.o.mono ?_;rintro e_ _ ⟨rfl,rfl⟩;dsimp only;go_wp2_with fail;go_ret3;exact⟨rfl,hb15⟩
theorem YN (A:ae) (c:Nat) (fs:List FlP) (k:ByteArray) (n:Int) (i:Nat) (w:World) (hG:GoodF fs) (hf:Fls w A fs) (hc:fs.length<=c) (hm:c<=maxLen) (hk:hexC k.data.toList=0) (hks:k.size<=140737488351232) (hn1:1<=n) (hn2:n<=1000) (hfn:fnd 0 fs k.data.toList=aC i) (hi:i<fs.length) (hin:(fs[i].lead::fs[i].wait).contains n=false) (h5:fs[i].wait.length=5) :
  Calls zZZ 167 #[aw A fs.length c,az k,ax ay n] w fun e w'=>e= .returned (.tuple #[aw aB 0 0,.bool false,ax ay 7])/\Below w.heap.size w w':=by
 have h66:fs.length<=6:=hG.len;have hfew:=hG.few i hi;have H5:=sqH h5;clear h5;have HIN:=sqH hin;have FF:=sqH hf;clear hin;obtain⟨HCK,HHX,HWH⟩:=sqJ3 (fun w' hf'=>kb A c fs w' hG hf' hc hm) (fun w'=>kB (s:=k) 0 rfl hk w' hks) (fun w'=>jx n w');have hwd:decide (1<=n/\n<=1000)=true:=by simp [hn1,hn2]
 have HWD:=sqH hwd;have HCP:=sqH (fun w' hf'=>ko A c fs w' wj (fun p hp=>by
  obtain⟨j,hj,rfl⟩:=List.mem_iff_getElem.1 hp;have:=hG.few j hj;omega) hf' hc)
 have HFI:=sqH (fun w' hf'=>kI A c fs k w' wj hf');have HF:=sqH hfn;clear hG hk hwd hfn;go_enter func167,ntmps167;go_wp2_with fail;refine wV (HCK.o w hf) fun w1 hb1=>?_;dsimp only;have hf1:=hf.below hb1;go_wp2_with fail;refine wV (HHX.o w1) fun w2 hb2=>?_;dsimp only;have hb12:=wg hb1 hb2;have hf2:=hf1.below hb2;go_wp2_with fail;refine(HWH.o w2).mono ?_;rintro e_ _ ⟨rfl,rfl⟩;dsimp only;rw [HWD.o];go_wp2_with fail;refine(HCP.o w2 hf2).mono ?_;rintro e_ w3 ⟨v3,rfl,ho3,hb3⟩;dsimp only;have hb13:=wg hb12 hb3;have hf3:=hf2.below hb3;have hfi:=HFI.o w3 hf3;rw [HF.o]at hfi;dsimp only at hfi;have HFF:=sqH hfi;clear hfi hf hf1 hf2;go_wp2_with fail;refine wV HFF.o fun w4 hb4=>?_;dsimp only;have hb14:=wg hb13 hb4;obtain⟨b,off,B,cb,rfl,hbb,c0,c1,c2,hrw,hwc,hcbm⟩:=(FF.o.below hb14).at_ i hi;have i1:=wX i
 have i2:(i:Int)<(fs.length:Int):=wj
 obtain⟨s,hs⟩:=wU (⟨fs[i].key.toArray⟩:ByteArray)
 rw [<-hs]at c0;have HI2:=HIN.o;generalize fs[i].lead=ld at *
 generalize fs[i].wait=wt at *
 have HI3:=sqH HI2;have H55:=H5.o;have e5:((wt.length:Int)==5)=true:=by rw [beq_iff_eq];omega
 have e5':(wt.length==5)=true:=by rw [beq_iff_eq];omega
 clear HI2 HIN hs H55;go_wp2_with fail;refine(ug s ld B cb wt w4 wj hrw).mono ?_;rintro e_ w5 ⟨v5,rfl,ho5,hb5⟩;dsimp only;have hb15:=wg hb14 hb5;obtain⟨A5,c5,rfl,hc5,hr5⟩:=Rd.of_own' ho5;have hcon:=kZ A5 c5 (ld::wt) n w5 (by simp only [List.length_cons];omega) hr5;rw [HI3.o]at hcon;simp only [List.length_cons]at hcon;have HCO:=sqH hcon;have d2:=(hb5.cell (p:=⟨b,off+i*3+2,aB⟩) hbb).trans c2;clear hcon ho5 hr5 c0 c1 c2;go_wp2_with fail;refine HCO.o.mono ?_;rintro e_ _ ⟨rfl,rfl⟩;dsimp only;go_wp2_with fail;go_ret3;exact⟨rfl,hb15⟩
theorem z1d {n k size:Nat} {u:Value} (h:w.ownsRow base e size (aw (aC ⟨g,0,aB⟩) n cap) n xs) (hk:k<n*size):(w.setCell ⟨g,k,aB⟩ u).ownsRow base e size (aw (aC ⟨g,0,aB⟩) n cap) n (xs.set k u):=by
 refine⟨by rw [List.length_set];exact h.1,?_⟩;rcases h.2 with ⟨h1,_⟩ | ⟨g',cap',cur,h1,hb,hg,hn,hm,hs,ht⟩
 ·cases h1
 ·injection h1 with e1 e2 e3;injection e1 with e1;injection e1 with e1;subst e1 e3;have hA:Arr w g e cur.toList:=by simpa [Arr] using hg
  have hA2:=hA.set (k:=k) (by rw [Array.length_toList,hs];exact Nat.lt_of_lt_of_le hk (Nat.mul_le_mul_right _ hn)) u;refine .inr ⟨g,cap,(cur.toList.set k u).toArray,rfl,hb,hA2,hn,hm,by rw [List.size_toArray,List.length_set,Array.length_toList,hs],?_⟩;rw [<-ht,List.take_set]
theorem uX:∀(fs:List FlP) (As:List (ae×Nat)) (i:Nat) (p p':FlP) (a:ae×Nat),As.length=fs.length->fs[i]?=aC p->p'.key=p.key->p'.lead=p.lead ->
  (ke fs As).set (i*3+2) (aw a.1 p'.wait.length a.2)=ke (fs.set i p') (As.set i a)
 | f::fs,b::As,0,p,p',a,_,hp,hk,hl=>by
  simp only [List.getElem?_cons_zero,Option.some.injEq]at hp
  subst hp
  simp only [ke,List.zip_cons_cons,List.flatMap_cons,List.set_cons_zero,qJ,hk,hl]
  rfl
 | f::fs,b::As,i+1,p,p',a,h,hp,hk,hl=>by
  have ih:=uX fs As i p p' a (by simpa using h) (by simpa using hp) hk hl
  simp only [ke]at ih ⊢
  rw [List.set_cons_succ,List.set_cons_succ,List.zip_cons_cons,List.zip_cons_cons,List.flatMap_cons,List.flatMap_cons,<-ih,List.set_append_right _ _ (by simp [qJ];omega)]
  congr 2
  simp [qJ];omega
theorem YO (A:ae) (c:Nat) (fs:List FlP) (k:ByteArray) (n:Int) (i:Nat) (w:World) (hG:GoodF fs) (hf:Fls w A fs) (hc:fs.length<=c) (hm:c<=maxLen) (hk:hexC k.data.toList=0) (hks:k.size<=140737488351232) (hn1:1<=n) (hn2:n<=1000) (hfn:fnd 0 fs k.data.toList=aC i) (hi:i<fs.length) (hin:(fs[i].lead::fs[i].wait).contains n=false) (h5:fs[i].wait.length<5) :
  Calls zZZ 167 #[aw A fs.length c,az k,ax ay n] w fun e w'=>∃v,e= .returned (.tuple #[v,.bool false,ax ay 0])/\FlsO w' w.heap.size v (fs.set i ⟨fs[i].key,fs[i].lead,fs[i].wait++ [n]⟩)/\Below w.heap.size w w':=by
 have h66:fs.length<=6:=hG.len;have hfew:=hG.few i hi;have H5:=sqH h5;clear h5;have HIN:=sqH hin;have FF:=sqH hf;clear hin;obtain⟨HCK,HHX,HWH⟩:=sqJ3 (fun w' hf'=>kb A c fs w' hG hf' hc hm) (fun w'=>kB (s:=k) 0 rfl hk w' hks) (fun w'=>jx n w');have hwd:decide (1<=n/\n<=1000)=true:=by simp [hn1,hn2]
 have HWD:=sqH hwd;have HCP:=sqH (fun w' hf'=>ko A c fs w' wj (fun p hp=>by
  obtain⟨j,hj,rfl⟩:=List.mem_iff_getElem.1 hp;have:=hG.few j hj;omega) hf' hc)
 have HFI:=sqH (fun w' hf'=>kI A c fs k w' wj hf');have HF:=sqH hfn;clear hG hk hwd hfn;go_enter func167,ntmps167;go_wp2_with fail;refine wV (HCK.o w hf) fun w1 hb1=>?_;dsimp only;have hf1:=hf.below hb1;go_wp2_with fail;refine wV (HHX.o w1) fun w2 hb2=>?_;dsimp only;have hb12:=wg hb1 hb2;have hf2:=hf1.below hb2;go_wp2_with fail;refine(HWH.o w2).mono ?_;rintro e_ _ ⟨rfl,rfl⟩;dsimp only;rw [HWD.o];go_wp2_with fail;refine(HCP.o w2 hf2).mono ?_;rintro e_ w3 ⟨v3,rfl,ho3,hb3⟩;dsimp only;have hb13:=wg hb12 hb3;have hf3:=hf2.below hb3;have hfi:=HFI.o w3 hf3;rw [HF.o]at hfi;dsimp only at hfi;have HFF:=sqH hfi;clear hfi hf hf1 hf2;go_wp2_with fail;refine wV HFF.o fun w4 hb4=>?_;dsimp only;have hb14:=wg hb13 hb4;obtain⟨b,off,B,cb,rfl,hbb,c0,c1,c2,hrw,hwc,hcbm⟩:=(FF.o.below hb14).at_ i hi;have i1:=wX i
 have i2:(i:Int)<(fs.length:Int):=wj
 obtain⟨s,hs⟩:=wU (⟨fs[i].key.toArray⟩:ByteArray)
 rw [<-hs]at c0;have ho4:=ho3.below hb4;obtain⟨p,hp⟩:=wU (fs[i])
 rw [<-hp]at c1 c2 hrw hwc hfew HIN H5;have HP:=sqH (show fs[i]?=aC p from by rw [List.getElem?_eq_getElem hi,hp]);have hgoal:fs.set i ⟨fs[i].key,fs[i].lead,fs[i].wait++ [n]⟩=fs.set i ⟨p.key,p.lead,p.wait++ [n]⟩:=by rw [hp]
 have HGO:=sqH hgoal;obtain⟨ld,hld⟩:=wU p.lead
 rw [<-hld]at c1;have HI2:=HIN.o;rw [<-hld]at HI2;have HI3:=sqH HI2;have HLD:=sqH hld;have H55:=H5.o;have e5:((p.wait.length:Int)==5)=false:=by rw [beq_eq_false_iff_ne];omega
 have e5':(p.wait.length==5)=false:=by rw [beq_eq_false_iff_ne];omega
 clear HI2 HIN hs hp hgoal hld H55;go_wp2_with fail;refine(ug s ld B cb p.wait w4 wj hrw).mono ?_;rintro e_ w5 ⟨v5,rfl,ho5,hb5⟩;dsimp only;have hb15:=wg hb14 hb5;obtain⟨A5,c5,rfl,hc5,hr5⟩:=Rd.of_own' ho5;have hcon:=kZ A5 c5 (ld::p.wait) n w5 (by simp only [List.length_cons];omega) hr5;rw [HI3.o]at hcon;simp only [List.length_cons]at hcon;have HCO:=sqH hcon;have d2:=(hb5.cell (p:=⟨b,off+i*3+2,aB⟩) hbb).trans c2;have ho55:=ho4.below hb5;obtain⟨As,j1,j2,j3,j4⟩:=ho55;obtain⟨g3,cap3,cs3,rfl,_,hA3,hcap3,hcm3,hcl3,hct3⟩:=yl j2 wj;have hia:i<As.length:=wj
 have ha:As[i]?=aC As[i]:=List.getElem?_eq_getElem hia;obtain⟨k1,k2⟩:=j3 i p As[i] HP.o ha;have hcell:=(Rd.of_own j2).2 wj;obtain⟨_,_,e3,_,hcell⟩:=hcell;cases e3
 have x2:=hcell (i*3+2) _ ((um fs As i 2 p As[i] HP.o ha wj).trans rfl);rw [Nat.zero_add]at x2;obtain⟨a,haE⟩:=wU (As[i])
 rw [<-haE]at k1 k2 x2 ha;obtain⟨Ai,ci⟩:=a;dsimp only at k1 k2 x2;have hcap63:(cap3:Int)<=9223372036854775807:=by unfold maxLen at hcm3;omega
 clear hcon ho5 hr5 c0 c1 c2 ho4 ho3 haE hcell;go_wp2_with fail;refine HCO.o.mono ?_;rintro e_ _ ⟨rfl,rfl⟩;dsimp only
 refine wH ?_;intros
 refine zg rfl (.tmp 75) (.tmp 77) rfl z0s wu k1 (us:= [ax ay n]) (m:=1) wu rfl (by intro u hu;simp at hu;subst hu;rfl) wj (Nat.le_trans hb3.size (Nat.le_trans hb4.size hb5.size)) ?_;intro v7 w7 ho7 hg7 hv7;rw [qy (Ai,ci)]at hg7 hv7;rw [show ins p.wait++ [ax ay n]=ins (p.wait++ [n]) by simp [ins]]at ho7;have hw7:(p.wait++ [n]).length=p.wait.length+1:=ws
 rw [<-hw7]at ho7;generalize hwn:p.wait++ [n]=wn at *
 have hwl:wn.length<=1000:=by have:=H5.o;omega
 clear hwn hw7;have hsz27:w2.heap.size<=w7.heap.size:=Nat.le_trans hb3.size (Nat.le_trans hb4.size (Nat.le_trans hb5.size hg7.size));have hb17:Below w.heap.size w w7:=hb15.grown hg7 hb15.size (fun g h=>Nat.le_trans hb12.size (k1.lt g (by rw [qy (Ai,ci)];exact h.symm▸rfl)).1);obtain⟨A7,c7,rfl,hc7,hr7⟩:=Rd.of_own' ho7;have HC7:=sqH (Ze A7 c7 (wn) w7 wj hr7);have m2:=j2.kept hg7 (.inr (fun h=>k2 g3 h.symm rfl));have m3:∀(k:Nat) (q:FlP) (b:ae×Nat),k≠i->fs[k]?=aC q->As[k]?=aC b->w7.ownsRow w2.heap.size 3 1 (aw b.1 q.wait.length b.2) q.wait.length (ins q.wait):=fun k q b hki hq hb=>by
  refine(j3 k q b hq hb).1.kept hg7 ?_;rw [qy];cases hbk:blk b with
  | none=>exact .inl rfl
  | some g =>
   refine .inr (fun h=> ?_);rcases Nat.lt_or_gt_of_ne hki with h1 | h1
   ·exact j4 k i b (Ai,ci) h1 hb ha g hbk h.symm
   ·exact j4 i k (Ai,ci) b h1 ha hb g h.symm hbk
 have OLD:=sqH (show ∀(k:Nat) (b:ae×Nat),As[k]?=aC b->∀g,blk b=aC g->g<w7.heap.size from fun k b hb g hg=>by
  have hkl:=(List.getElem?_eq_some_iff.1 hb).1;have hq:fs[k]?=aC (fs[k]'(by omega)):=List.getElem?_eq_getElem _;exact Nat.lt_of_lt_of_le ((j3 k _ b hq hb).1.lt g (by rw [qy];exact hg)).2 hg7.size)
 obtain⟨J3,J4,J1⟩:=sqJ3 j3 j4 j1;clear ho7 hg7 hv7 k1 k2 x2 j2 hr7 j3 j4 d2 hA3 hct3 hcl3;go_wp2_with fail;refine HC7.o.mono ?_;rintro e_ w8 ⟨v8,rfl,ho8,hb8⟩;dsimp only;have hb18:=wg hb17 hb8;have m28:=zc m2 hb8;have hlt3:=(m2.lt g3 rfl)
 obtain⟨_,_,cs9,e9,_,hA9,_,_,hcl9,hct9⟩:=yl m28 wj;injection e9 with e91 _ e93;injection e91 with e91;injection e91 with e91;subst e91 e93;obtain⟨y,hy⟩:∃y,cs9[i*3+2]?=aC y:=⟨_,List.getElem?_eq_getElem wj⟩
 have y2:=hA9.cell hy;have z2:=hA9.frozen (i*3+2);obtain⟨A8,c8,rfl,hc8,_⟩:=Rd.of_own' ho8;have n9:=z1d (u:= aw A8 wn.length c8) m28 (k:=i*3+2) wj;have hcf:=uX fs As i p ⟨p.key,p.lead,wn⟩ (A8,c8) J1.o HP.o rfl rfl;dsimp only at hcf;rw [hcf]at n9;have hbz:Below w.heap.size w (w8.setCell ⟨g3,i*3+2,aB⟩ (aw A8 wn.length c8)):=Below.setCell hb18 (by show w.heap.size<=g3;exact Nat.le_trans hb12.size hlt3.1) _;have hne8:(aw A8 wn.length c8).ownBlock≠aC g3:=fun h=>by have:=(ho8.lt g3 h).1;omega
 have hfin:FlsO (w8.setCell ⟨g3,i*3+2,aB⟩ (aw A8 wn.length c8)) w2.heap.size (aw (aC ⟨g3,0,aB⟩) fs.length cap3) (fs.set i ⟨p.key,p.lead,wn⟩):=by
  refine⟨As.set i (A8,c8),by rw [List.length_set,List.length_set,J1.o],by rw [List.length_set];exact n9,fun k q b hq hb=> ?_,fun k j a' b hkj ha' hb g hag=> ?_⟩
  ·by_cases hki:k=i
   ·subst hki;rw [List.getElem?_set_self hi]at hq;rw [List.getElem?_set_self hia]at hb;cases hq;cases hb
    exact⟨zb (zd ho8 hne8) hsz27,fun g h h'=>hne8 (by rw [qy (A8,c8),h];exact(show aC g3=aC g from h').symm)⟩
   ·rw [List.getElem?_set_ne (Ne.symm hki)]at hq hb;have h1:=zc (m3 k q b hki hq hb) hb8;have h2:=(J3.o k q b hq hb).2;refine⟨zd h1 (fun h=>h2 g3 (by rw [<-qy b q.wait.length];exact h) rfl),h2⟩
  ·by_cases hki:k=i
   ·subst hki;rw [List.getElem?_set_self hia]at ha';cases ha'
    rw [List.getElem?_set_ne wj]at hb;intro hbg;have:=(ho8.lt g (by rw [qy (A8,c8)];exact hag)).1;have:=OLD.o j b hb g hbg;omega
   ·rw [List.getElem?_set_ne (Ne.symm hki)]at ha';by_cases hji:j=i
    ·subst hji;rw [List.getElem?_set_self hia]at hb;cases hb
     intro hbg;have:=(ho8.lt g (by rw [qy (A8,c8)];exact hbg)).1;have:=OLD.o k a' ha' g hag;omega
    ·rw [List.getElem?_set_ne (Ne.symm hji)]at hb;exact J4.o k j a' b hkj ha' hb g hag
 have hfin':=hfin.lower hb12.size;have HFN:=sqH hfin';clear hfin hfin' n9 hcf m2 m3 m28 ho8;go_wp2_with fail;go_ret3;rw [HGO.o];exact⟨_,rfl,HFN.o,hbz⟩
theorem z3q (w:World):(zeroValue 95).run zZZ w= .ok (.agg #[az ByteArray.empty,ax ay 0,aw aB 0 0]) w:=by kernel_rfl
theorem JV (g i n cap base:Nat) (xs:af) (w:World) (h:w.ownsRow base 95 3 (aw (aC ⟨g,0,aB⟩) n cap) n xs) (hi:i<n) (hx:∀u∈xs,u.oneCell'=true) :
  Calls zZZ 186 #[aw (aC ⟨g,0,aB⟩) n cap,ax ay i,ax ay ((i:Int)+1)] w fun e w'=>e= .returned (aw (aC ⟨g,0,aB⟩) (n - 1) cap) /\
   w'.ownsRow base 95 3 (aw (aC ⟨g,0,aB⟩) (n - 1) cap) (n - 1) (xs.take (i*3)++xs.drop ((i+1)*3))/\w.grownBy w' (aC g):=by
 obtain⟨g',cap',cs,e1,hbg,hA,hnc,hcm,hcl,hct⟩:=yl h wj;injection e1 with e11 _ e13;injection e11 with e11;injection e11 with e11;subst e11 e13;obtain⟨i0,hi0,hz0,hz1,hz2⟩:=info_parts (show(zZZ.info? 95).map (fun i=>(i.zero,i.size,i.bytes))=aC (aC (.agg #[az ByteArray.empty,ax ay 0,aw aB 0 0]),3,48) by kernel_rfl);obtain⟨zs,hzs⟩:=wU ((Builtin.zeroCells (Value.agg #[az ByteArray.empty,ax ay 0,aw aB 0 0]).cells 1).toList)
 have hzs':zs= [az ByteArray.empty,ax ay 0,aw aB 0 0]:=by rw [hzs];kernel_rfl
 have hzl:zs.length=3:=by rw [hzs'];rfl
 have hz1':∀u∈zs,u.oneCell'=true:=by rw [hzs'];intro u hu;simp at hu;rcases hu with rfl | rfl | rfl<;>rfl
 obtain⟨a1,a2⟩:=Qo (i:=i) (n:=n) (zs:=zs) hA.drew hcl hnc hi hzl;rw [hct]at a1 a2;have hlen:(xs.drop ((i+1)*3)).length=(n - (i+1))*3:=by rw [List.length_drop,h.1,Nat.sub_mul]
 obtain⟨news,hnews⟩:=wU (xs.drop ((i+1)*3))
 rw [<-hnews]at a1 a2 hlen;obtain⟨W1,hW1⟩:=wU (w.drew.setCells g (i*3) news)
 rw [<-hW1]at a1 a2;have hr:=Rd.of_own h;have HC:=sqH (show ∀k u,xs[k]?=aC u->w.drew.cell? ⟨g,k,aB⟩=aC u from fun k u hu=>by
  refine Arr.cell hA.drew ?_;rw [<-hct,List.getElem?_take]at hu;split at hu
  ·exact hu
  ·cases hu)
 obtain⟨A,hAd,hsrc⟩:∃A:Addr,(if cap=i+1 then aC (⟨g,0,aB⟩:Addr) else aC ⟨g,(i+1)*3,aB⟩)=aC A/\Hid (∀t u,news[t]?=aC u->w.drew.cell? (A.add t)=aC u):=by
  by_cases hce:cap=i+1
  ·refine⟨⟨g,0,aB⟩,by simp [hce],Lib.hid fun t u hu=> ?_⟩;have h0:news.length=0:=by rw [hlen,show n - (i+1)=0 by omega]
   rw [List.length_eq_zero_iff.1 h0]at hu;cases hu
  ·refine⟨⟨g,(i+1)*3,aB⟩,by simp [hce],Lib.hid fun t u hu=> ?_⟩;rw [hnews,List.getElem?_drop]at hu;have:=HC.o _ _ hu;rw [Addr.add_lit];exact this
 have s1:=sqH hlen;have s2:=sqH (show ∀u∈news,u.oneCell'=true from fun u hu=>hx u (by rw [hnews]at hu;exact List.mem_of_mem_drop hu));have s3:=sqH (show ∀t,t<news.length->(w.drew.cell? ⟨g,0+i*3+t,aB⟩).isSome=true/\w.drew.frozen? ⟨g,0+i*3+t,aB⟩=false from fun t ht=>by
  rw [hlen]at ht;have hlt:i*3+t<xs.length:=by rw [h.1];omega
  rw [Nat.zero_add,HC.o _ _ (List.getElem?_eq_getElem hlt)];exact⟨rfl,hA.drew.frozen _⟩)
 have hclr:∀ty,(Builtin.clear_ #[31] ty #[aw (aC ⟨g,(n - 1)*3,aB⟩) (n - (n - 1)) (cap - (n - 1))]).run zZZ W1= .ok (.tuple #[]) (W1.setCells g ((n - 1)*3) zs):=fun ty=>by
  rw [show n - (n - 1)=1 by omega];exact yj W1 _ _ ty _ zs underlying31 z3q hzs.symm hz1' g _ _ (fun j hj=>by
   have hk:(n - 1)*3+j<(cs.take (i*3)++news++cs.drop ((n - 1)*3)).length:=by
    simp only [List.length_append,List.length_take,List.length_drop,hcl,hlen];omega
   rw [a1.cell (List.getElem?_eq_getElem hk)];rfl) (fun j hj=>a1.frozen _)
 have hcapi:i<=cap:=wj
 have hci1:i+1<=cap:=wj
 have hwi:((i:Int)+1).toNat=i+1:=wj
 have hp0:(0:Int)<=(i:Int)+1:=wj
 have hp1:(i:Int)+1<=(n:Int):=wj
 have hne:((i:Int)==(i:Int)+1)=false:=by rw [beq_eq_false_iff_ne];omega
 obtain⟨A2,HW1,HG,HL,HCL,HN,HT,HX⟩:=sqJ8 a2 hW1 (show w.grownBy (W1.setCells g ((n - 1)*3) zs) (aC g) from(show w.grownBy w.drew (aC g) from⟨rfl,rfl,rfl,Nat.le_refl _,fun _ _ _=>rfl⟩).trans (by rw [hW1];exact(qh _ _ _).trans (qh _ _ _))) hlen hcl hnews hct h.1;clear hW1 a1 a2 hct hnews hlen hzs hzs' hz1' hr hA HC hx hcl;go_enter func186,ntmps186;go_wp2_with fail;go_region_law (refine step_append_room rfl (.tmp 22) (.tmp 25) 31 rfl 95 i0 3 underlying31 hi0 hz1 g 0 i cap (by simp [Act.eval,Act.put]) A (n - (i+1)) (cap - (i+1)) news (by simp [Act.eval,Act.put]) s1.o hsrc.o s2.o wj s3.o ?_;rw [Nat.zero_add,<-HW1.o]);rw [show i+(n - (i+1))=n - 1 by omega];go_wp2_with fail;go_ret;refine⟨rfl,⟨?_,.inr ⟨g,cap,_,rfl,hbg,A2.o,wj,hcm,?_,?_⟩⟩,HG.o⟩
 ·rw [<-HN.o,List.length_append,List.length_take,HL.o,HX.o];omega
 ·simp only [List.size_toArray,List.length_append,List.length_take,List.length_drop,HL.o,hzl,HCL.o];omega
 ·have e1:xs.take (i*3)=cs.take (i*3):=by rw [<-HT.o,List.take_take,Nat.min_eq_left wj]
  rw [e1,<-HN.o,List.append_assoc,List.take_left' (by rw [List.length_append,List.length_take,HL.o,HCL.o];omega)]
theorem vh:∀(fs:List FlP) (As:List (ae×Nat)) (i:Nat),As.length=fs.length->i<fs.length ->
  (ke fs As).take (i*3)++(ke fs As).drop ((i+1)*3)=ke (fs.eraseIdx i) (As.eraseIdx i)
 | f::fs,a::As,0,h,_=>by simp [ke,qJ]
 | f::fs,a::As,i+1,h,hi=>by
  have ih:=vh fs As i (by simpa using h) (by simpa using hi)
  simp only [ke,List.eraseIdx_cons_succ,List.zip_cons_cons,List.flatMap_cons]at ih ⊢
  generalize (fs.zip As).flatMap (fun x=>qJ x.1 x.2.1 x.2.2)=X at *
  have e1:(qJ f a.1 a.2++X).take ((i+1)*3)=qJ f a.1 a.2++X.take (i*3):=by
   rw [show(i+1)*3=(qJ f a.1 a.2).length+i*3 by simp [qJ];omega,List.take_length_add_append]
  have e2:(qJ f a.1 a.2++X).drop ((i+1+1)*3)=X.drop ((i+1)*3):=by
   rw [show(i+1+1)*3=(qJ f a.1 a.2).length+(i+1)*3 by simp [qJ];omega,List.drop_length_add_append]
  rw [e1,e2,List.append_assoc,ih]
theorem zV {α:Type} {l:List α} {k:Nat} {x:α} (h:(l.eraseIdx i)[k]?=aC x):∃k',l[k']?=aC x/\(k'=if k<i then k else k+1):=by
 rw [List.getElem?_eraseIdx]at h;split at h
 ·rename_i hk;exact⟨k,h,by rw [if_pos hk]⟩
 ·rename_i hk;exact⟨k+1,h,by rw [if_neg hk]⟩
theorem FlsO.del (h:FlsO w base (aw (aC ⟨g,0,aB⟩) fs.length cap) fs) (hi:i<fs.length) :
  ∃xs,w.ownsRow base 95 3 (aw (aC ⟨g,0,aB⟩) fs.length cap) fs.length xs/\(∀u∈xs,u.oneCell'=true) /\
   ∀w',w'.ownsRow base 95 3 (aw (aC ⟨g,0,aB⟩) (fs.length - 1) cap) (fs.length - 1) (xs.take (i*3)++xs.drop ((i+1)*3))->w.grownBy w' (aC g) ->
    FlsO w' base (aw (aC ⟨g,0,aB⟩) (fs.length - 1) cap) (fs.eraseIdx i):=by
 obtain⟨As,h1,h2,h3,h4⟩:=h;refine⟨_,h2,uW fs As,fun w' ho hg=> ?_⟩;rw [vh fs As i h1 hi]at ho;have hl:(fs.eraseIdx i).length=fs.length - 1:=List.length_eraseIdx_of_lt hi;refine⟨As.eraseIdx i,by rw [List.length_eraseIdx_of_lt wj,hl,h1],by rw [hl];exact ho,fun k p a hp ha=> ?_,fun k j a b hkj ha hb=> ?_⟩
 ·obtain⟨k1,hp1,e1⟩:=zV hp;obtain⟨k2,ha1,e2⟩:=zV ha;rw [<-e1]at e2;subst e2;obtain⟨j1,j2⟩:=h3 k2 p a hp1 ha1;refine⟨j1.kept hg ?_,j2⟩;rw [qy];cases hb:blk a with
  | none=>exact .inl rfl
  | some x=>exact .inr (fun e=>j2 x hb e.symm)
 ·obtain⟨k1,ha1,e1⟩:=zV ha;obtain⟨k2,hb1,e2⟩:=zV hb;refine h4 k1 k2 a b ?_ ha1 hb1;split at e1<;>split at e2<;>omega
theorem FlsO.blk_ex (h:FlsO w base v fs) (h0:0<fs.length):∃g c,v= aw (aC ⟨g,0,aB⟩) fs.length c/\base<=g:=by
 obtain⟨As,h1,h2,h3,h4⟩:=h;obtain⟨g,cap,cs,rfl,hb,_⟩:=yl h2 h0;exact⟨g,cap,rfl,hb⟩
theorem VR (A:ae) (c:Nat) (fs:List FlP) (k:ByteArray) (w:World) (hG:GoodF fs) (hf:Fls w A fs) (hc:fs.length<=c) (hm:c<=maxLen) (hfn:fnd 0 fs k.data.toList=aB) :
  Calls Tryz.prog 168 #[aw A fs.length c,az k] w fun e w'=>e= .returned (.tuple #[aw aB 0 0,aw aB 0 0,.int .i64 5])/\Below w.heap.size w w':=by
 have h66:fs.length<=6:=hG.len;have HCK:=sqH (fun w' hf'=>kb A c fs w' hG hf' hc hm);have HFI:=sqH (fun w' hf'=>kI A c fs k w' wj hf');have HCP:=sqH (fun w' hf'=>ko A c fs w' wj (fun p hp=>by
  obtain⟨j,hj,rfl⟩:=List.mem_iff_getElem.1 hp;have:=hG.few j hj;omega) hf' hc)
 have HF:=sqH hfn;have hfew:=fun (i:Nat) (h:i<fs.length)=>hG.few i h;have HFE:=sqH hfew;clear hG hfn hfew;go_enter Tryz.func168,Tryz.ntmps168;go_wp2_with fail;refine wV (HCK.o w hf) fun w1 hb1=>?_;dsimp only;have hf1:=hf.below hb1;have hfi:=HFI.o w1 hf1;rw [HF.o]at hfi;dsimp only at hfi;have HFF:=sqH hfi;clear hfi hf;go_wp2_with fail;refine wV HFF.o fun w4 hb4=>?_;dsimp only;have hb14:=wg hb1 hb4;go_wp2_with fail;go_ret3;exact⟨rfl,hb14⟩
theorem z2k (A:ae) (c:Nat) (fs:List FlP) (k:ByteArray) (i:Nat) (w:World) (hG:GoodF fs) (hf:Fls w A fs) (hc:fs.length<=c) (hm:c<=maxLen) (hfn:fnd 0 fs k.data.toList=aC i) (hi:i<fs.length) :
  Calls Tryz.prog 168 #[aw A fs.length c,az k] w fun e w'=>∃v u,e= .returned (.tuple #[v,u,.int .i64 0])/\FlsO w' w.heap.size v (fs.eraseIdx i) /\
   w'.ownsRow w.heap.size 3 1 u (fs[i].wait.length+1) (ins (fs[i].lead::fs[i].wait))/\Below w.heap.size w w':=by
 have h66:fs.length<=6:=hG.len;have HCK:=sqH (fun w' hf'=>kb A c fs w' hG hf' hc hm);have HFI:=sqH (fun w' hf'=>kI A c fs k w' wj hf');have HCP:=sqH (fun w' hf'=>ko A c fs w' wj (fun p hp=>by
  obtain⟨j,hj,rfl⟩:=List.mem_iff_getElem.1 hp;have:=hG.few j hj;omega) hf' hc)
 have HF:=sqH hfn;have hfew:=fun (i:Nat) (h:i<fs.length)=>hG.few i h;have HFE:=sqH hfew;clear hG hfn hfew;go_enter Tryz.func168,Tryz.ntmps168;go_wp2_with fail;refine wV (HCK.o w hf) fun w1 hb1=>?_;dsimp only;have hf1:=hf.below hb1;have hfi:=HFI.o w1 hf1;rw [HF.o]at hfi;dsimp only at hfi;have HFF:=sqH hfi;clear hfi hf;go_wp2_with fail;refine wV HFF.o fun w4 hb4=>?_;dsimp only;have hb14:=wg hb1 hb4;have hf4:=hf1.below hb4;have hwl:=HFE.o i hi;obtain⟨b,off,B,cb,rfl,hbb,c0,c1,c2,hrw,hwc,hcbm⟩:=hf4.at_ i hi;obtain⟨s,hs⟩:=wU (⟨fs[i].key.toArray⟩:ByteArray)
 rw [<-hs]at c0;obtain⟨ld,hld⟩:=wU (fs[i].lead)
 obtain⟨wt,hwt⟩:=wU (fs[i].wait)
 rw [<-hld]at c1;rw [<-hwt]at c2 hrw hwc hwl;have HRW:=sqH hrw;have HFL:=sqH hf4;have hLD:=hld.symm;have hWT:=hwt.symm;have HLD:=sqH hLD;have HWT:=sqH hWT;have hi0:=wX i
 have hi1:(i:Int)<(fs.length:Int):=wj
 have hwi:IntKind.i64.wrap ((i:Int)+1)=(i:Int)+1:=IntWalk.i64_in _ wj;have HS:=sqH (show ∀W:World,Below w4.heap.size w4 W->W.cell? ⟨b,off+i*3,aB⟩=aC (az s)/\W.cell? ⟨b,off+i*3+1,aB⟩=aC (.int .i64 ld)/\W.cell? ⟨b,off+i*3+2,aB⟩=aC (aw B wt.length cb) from
  fun W hW=>⟨(hW.cell (p:=⟨b,off+i*3,aB⟩) hbb).trans c0,(hW.cell (p:=⟨b,off+i*3+1,aB⟩) hbb).trans c1,(hW.cell (p:=⟨b,off+i*3+2,aB⟩) hbb).trans c2⟩)
 clear hs hld hwt hLD hWT c0 c1 c2 hrw hf1 hf4;go_wp2_with fail;refine wp_region_held_drew (S:=(fun w'=>w'.cell? ⟨b,off+i*3,aB⟩=aC (az s)/\w'.cell? ⟨b,off+i*3+1,aB⟩=aC (.int .i64 ld)/\w'.cell? ⟨b,off+i*3+2,aB⟩=aC (aw B wt.length cb))) wm ?_ (fun hHeld=> ?_)
 ·exact HS.o _ (Below.refl _ w4).drew
 have hB:=(Below.refl w4.heap.size w4).drew;generalize w4.drew=wn0 at *
 refine wM 0 ?_;refine wM 2 ?_;refine wM 3 ?_;refine wM 4 ?_;refine wM 6 ?_;refine wM 7 ?_;refine wM 8 ?_;refine wM 9 ?_;refine wQ 1 fun K hK=>?_;have hcp:=HCP.o wn0 (HFL.o.below hB);go_simp;refine(hcp).mono ?_;rintro e5 w5 ⟨v5,rfl,ho5,hb5⟩;dsimp only;obtain⟨gf,cf,rfl,hgf⟩:=ho5.blk_ex wj;refine k8 hK ?_ (Below w4.heap.size w4) (fun W=>FlsO W w4.heap.size (aw (aC ⟨gf,0,aB⟩) fs.length cf) fs/\w4.heap.size<=gf) ?_ ?_ (fun wn1 hHeld hst hnew=> ?_)
 ·exact HS.o _ (wg hB hb5)
 ·exact wg hB hb5
 ·exact⟨ho5.lower hB.size,Nat.le_trans hB.size hgf⟩
 clear hB;have hB:=hst;obtain⟨hnew,hgw⟩:=hnew;clear hst;clear hK K
 try simp only [sqP]
 refine wQ 5 fun K hK=>?_;obtain⟨xs,x1,x2,x3⟩:=hnew.del (i:=i) hi;go_simp;refine(JV _ i fs.length _ _ xs wn1 x1 hi x2).mono ?_;rintro e5 w5 ⟨rfl,y1,y2⟩;dsimp only;refine k8 hK ?_ (Below w4.heap.size w4) (fun W=>FlsO W w4.heap.size (aw (aC ⟨gf,0,aB⟩) (fs.length - 1) cf) (fs.eraseIdx i)) ?_ ?_ (fun wn2 hHeld hst hnew=> ?_)
 ·exact HS.o _ (hB.grown y2 hB.size (fun g h=>by cases h;exact hgw))
 ·exact hB.grown y2 hB.size (fun g h=>by cases h;exact hgw)
 ·exact x3 _ y1 y2
 clear hB;have hB:=hst;clear hst;clear hK K
 try simp only [sqP]
 refine wQ 10 fun K hK=>?_;have hcr:=ug s ld B cb wt wn2 wj (HRW.o.below hB);go_simp;refine(hcr).mono ?_;rintro e5 w5 ⟨v5,rfl,ho5,hb5⟩;dsimp only;refine k8 hK ?_ (Below w4.heap.size w4) (fun W=>FlsO W w4.heap.size (aw (aC ⟨gf,0,aB⟩) (fs.length - 1) cf) (fs.eraseIdx i)/\W.ownsRow w4.heap.size 3 1 v5 (wt.length+1) (ins (ld::wt))) ?_ ?_ (fun wn3 hHeld hst hnew2=> ?_)
 ·exact HS.o _ (wg hB hb5)
 ·exact wg hB hb5
 ·exact⟨hnew.below hb5,zb ho5 hB.size⟩
 clear hB;have hB:=hst;clear hst hnew;obtain⟨hnew,hown⟩:=hnew2;clear hK K
 refine wM 11 ?_;refine wM 12 ?_;refine wM 13 ?_;refine wpAnyH_done wm ?_ _;clear hHeld;dsimp only [Exit.then];go_wp2_with fail;go_ret3;rw [HLD.o,HWT.o];exact⟨_,_,rfl,hnew.lower hb14.size,zb hown hb14.size,wg hb14 hB⟩
open Go.Maps
open Go.ChangeShapes (lits)
def grp (fs:List FlP) (k:ac):List Int :=
 match fnd 0 fs k with
 | none=> []
 | some i=>match fs[i]? with
  | none=> []
  | some p=>p.lead::p.wait
theorem Ke (h:fnd 0 fs k=some i) (hi:i<fs.length):grp fs k=fs[i].lead::fs[i].wait:=by
 rw [grp,h];simp only [List.getElem?_eq_getElem hi]
theorem XD:∀(fs:List FlP) (i j:Nat) (k:ac),fnd i fs k=some j->∃h:j - i<fs.length,i<=j/\fs[j - i].key=k
 | p::r,i,j,k,h=>by
  rw [fnd]at h
  split at h
  ·rename_i e
   cases h
   refine⟨ws,Nat.le_refl _,?_⟩
   simp only [Nat.sub_self,List.getElem_cons_zero]
   exact e
  ·obtain⟨h1,h2,h3⟩:=XD r (i+1) j k h
   refine⟨by simp only [List.length_cons];omega,wj,?_⟩
   have e:j - i=(j - (i+1))+1:=wj
   simp only [e,List.getElem_cons_succ]
   exact h3
theorem yd {j:Nat} (h:fnd 0 fs k=some j):∃h:j<fs.length,fs[j].key=k:=by
 obtain⟨h1,_,h2⟩:=XD fs 0 j k h;exact⟨h1,h2⟩
theorem xo:∀(fs:List FlP) (p:FlP) (i:Nat) (k:ac),fnd i (fs++ [p]) k=match fnd i fs k with | some j=>some j | none=>if p.key=k then some (i+fs.length) else none
 | [],p,i,k=>by simp [fnd]
 | f::fs,p,i,k=>by
  rw [List.cons_append,fnd,fnd]
  by_cases h:f.key=k
  ·rw [if_pos h,if_pos h]
  ·rw [if_neg h,if_neg h,xo fs p (i+1) k,show i+1+fs.length=i+(f::fs).length by simp only [List.length_cons];omega]
theorem jT (h:fnd 0 fs k=none):grp (fs++ [⟨k,n, []⟩]) k= [n]:=by
 have e:fnd 0 (fs++ [(⟨k,n, []⟩:FlP)]) k=some fs.length:=by rw [xo,h];simp
 rw [Ke e ws];simp
theorem uP (h:k≠k'):grp (fs++ [⟨k,n, []⟩]) k'=grp fs k':=by
 unfold grp;rw [xo];cases e:fnd 0 fs k' with
 | none=>simp [h]
 | some j =>
  obtain⟨hj,_⟩:=yd e;simp only [];rw [List.getElem?_append_left hj]
theorem Z4 (fs:List FlP) (i:Nat) (p:FlP) (hi:i<fs.length) (hk:p.key=fs[i].key):(fs.set i p).map (·.key)=fs.map (·.key):=by
 rw [List.map_set];apply List.ext_getElem
 ·simp
 ·intro j h1 h2;rw [List.getElem_set];split
  ·rename_i e;subst e;simpa using hk
  ·rfl
theorem ZF (h:fnd 0 fs k=some i) (hi:i<fs.length) (hk:p.key=fs[i].key):grp (fs.set i p) k=p.lead::p.wait:=by
 have e:fnd 0 (fs.set i p) k=some i:=by rw [yH (fs.set i p) fs 0 k (Z4 fs i p hi hk),h]
 rw [Ke e (by simpa using hi)];simp
theorem jS (h:fnd 0 fs k=some i) (hi:i<fs.length) (hk:p.key=fs[i].key) (hne:k≠k'):grp (fs.set i p) k'=grp fs k':=by
 unfold grp;rw [yH (fs.set i p) fs 0 k' (Z4 fs i p hi hk)];cases e:fnd 0 fs k' with
 | none=>rfl
 | some j =>
  have hne':i≠j:=by
   rintro rfl;obtain⟨_,e1⟩:=yd e;obtain⟨_,e2⟩:=yd h;exact hne (e2.symm.trans e1)
  simp only [];rw [List.getElem?_set_ne hne']
def grpD (l:List Int):DataW Unit:=match l with | []=> .nil | _::_=> .slice (lits .i64 l) []
structure WhoD (fs:List FlP) (D:DataW Unit):Prop where
 tidy:Tidy D
 size:size D=fs.length
 has:∀k,Maps.has D (.string k)=(fnd 0 fs k).isSome
 at_:∀k,D.atKey (.string k) .nil=grpD (grp fs k)
theorem WhoD.nil_:WhoD [] (.map []):=⟨tidy_empty,rfl,fun _=>rfl,fun _=>rfl⟩
theorem js (k:ac):WideAt.IsKeyLit (.string k):=by simp [WideAt.IsKeyLit]
theorem WhoD.new {D:DataW Unit} (h:WhoD fs D) (hf:fnd 0 fs k=none):WhoD (fs++ [⟨k,n, []⟩]) (D.put (.string k) (grpD [n])):=by
 have hh:Maps.has D (.string k)=false:=by rw [h.has,hf];rfl
 refine⟨h.tidy.put (js k) _,?_,fun k'=> ?_,fun k'=> ?_⟩
 ·rw [size_put h.tidy,hh,h.size];simp
 ·by_cases e:k'=k
  ·subst e;rw [has_put_same h.tidy.isMap (js k') _,xo,hf];simp
  ·rw [has_put_other (by simpa using e),h.has,xo];cases fnd 0 fs k' with
   | none=>simp [Ne.symm e]
   | some j=>rfl
 ·by_cases e:k'=k
  ·subst e;rw [atKey_put_same h.tidy.isMap (js k') _ _,jT hf]
  ·rw [atKey_put_other (by simpa using e),h.at_,uP (Ne.symm e)]
theorem WhoD.more {D:DataW Unit} (h:WhoD fs D) (hf:fnd 0 fs k=some i) (hi:i<fs.length) (hk:p.key=fs[i].key):WhoD (fs.set i p) (D.put (.string k) (grpD (p.lead::p.wait))):=by
 have hh:Maps.has D (.string k)=true:=by rw [h.has,hf];rfl
 refine⟨h.tidy.put (js k) _,?_,fun k'=> ?_,fun k'=> ?_⟩
 ·rw [size_put h.tidy,hh,h.size,List.length_set];simp
 ·rw [yH (fs.set i p) fs 0 k' (Z4 fs i p hi hk)];by_cases e:k'=k
  ·subst e;rw [has_put_same h.tidy.isMap (js k') _,hf];rfl
  ·rw [has_put_other (by simpa using e),h.has]
 ·by_cases e:k'=k
  ·subst e;rw [atKey_put_same h.tidy.isMap (js k') _ _,ZF hf hi hk]
  ·rw [atKey_put_other (by simpa using e),h.at_,jS hf hi hk (Ne.symm e)]
section
variable {P:Program} {k e:TypeId} {q:IntKind} {wr w:World} {base b n:Nat} {D:DataW Unit}
end
theorem qD:∀(fs:List FlP) (i:Nat) (k:ac),fnd i fs k=none↔∀p∈fs,p.key≠k
 | [],i,k=>by simp [fnd]
 | f::fs,i,k=>by
  rw [fnd]
  by_cases h:f.key=k
  ·rw [if_pos h]
   constructor
   ·intro e;cases e
   ·intro e;exact absurd h (e f ws)
  ·rw [if_neg h,qD fs (i+1) k]
   constructor
   ·intro e p hp
    rcases List.mem_cons.1 hp with rfl | hp
    ·exact h
    ·exact e p hp
   ·intro e p hp;exact e p (by simp [hp])
theorem GoodF.nodup (h:GoodF fs):(fs.map (·.key)).Nodup:=by
 rw [List.Nodup,List.pairwise_map,List.pairwise_iff_getElem];intro i j hi hj hij;have h1:=(qD _ _ _).1 (h.one j hj) fs[i] (by
  rw [List.mem_take_iff_getElem];exact⟨i,wj,rfl⟩)
 exact h1
theorem GoodF.of (h6:fs.length<=6) (h:∀p∈fs,(hexC p.key=0/\p.key.length<=1000)/\p.wait.length<=5/\CrewOk (p.lead::p.wait)) (hn:(fs.map (·.key)).Nodup):GoodF fs:=by
 refine⟨h6,fun j hj=>(h _ (List.getElem_mem hj)).1,fun j hj=> ?_,fun j hj=>(h _ (List.getElem_mem hj)).2.1,fun j hj=>(h _ (List.getElem_mem hj)).2.2⟩;rw [qD];intro p hp;rw [List.mem_take_iff_getElem]at hp;obtain⟨i,hi,rfl⟩:=hp;rw [List.Nodup,List.pairwise_map,List.pairwise_iff_getElem]at hn;exact hn i j wj hj wj
theorem GoodF.all (h:GoodF fs):∀p∈fs,(hexC p.key=0/\p.key.length<=1000)/\p.wait.length<=5/\CrewOk (p.lead::p.wait):=fun p hp=>by
 obtain⟨j,hj,rfl⟩:=List.mem_iff_getElem.1 hp
 exact⟨h.key j hj,h.few j hj,h.crew j hj⟩
theorem GoodF.erase (h:GoodF fs) (i:Nat):GoodF (fs.eraseIdx i):=by
 refine GoodF.of ?_ (fun p hp=>h.all p (List.mem_of_mem_eraseIdx hp)) ?_
 ·have:=List.length_eraseIdx_le fs i;have:=h.len;omega
 ·exact h.nodup.sublist ((List.eraseIdx_sublist fs i).map _)
theorem uO (hn:(fs.map (·.key)).Nodup) (hi:i<fs.length):fnd 0 (fs.eraseIdx i) fs[i].key=none:=by
 rw [qD];intro p hp e;rw [List.eraseIdx_eq_take_drop_succ]at hp;rw [List.Nodup,List.pairwise_map,List.pairwise_iff_getElem]at hn;rcases List.mem_append.1 hp with h | h
 ·rw [List.mem_take_iff_getElem]at h;obtain⟨j,hj,rfl⟩:=h;exact hn j i wj hi wj e
 ·rw [List.mem_drop_iff_getElem]at h;obtain⟨j,hj,rfl⟩:=h;exact hn i (i+1+j) hi wj wj e.symm
end Go.Proofs.YtcjndgldjhmbgaaGreat
