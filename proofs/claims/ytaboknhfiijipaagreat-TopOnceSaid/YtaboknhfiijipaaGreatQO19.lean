/- Lemmas, as stated. -/
import Derived.Maps.GroupsBeside
import Derived.Test.YtaboknhfiijipaaGreatQO11
set_option linter.unusedVariables false
set_option linter.unusedSimpArgs false
set_option maxRecDepth 100000
set_option maxHeartbeats 8000000
open Go.Proofs.Tryz
open Go.Proofs.Tryz renaming prog->zZZ
open Go.Value renaming slice->aA,int->aB,string->aD
open Go.IntKind renaming i64->aC
open Option renaming none->aF,some->aG
namespace Go.Proofs.YtaboknhfiijipaaGreat
variable {p:FlP} {n:Int} {fs:List FlP} {l:List Int} {base c g i:Nat} {e:TypeId} {key v:Value} {w w':World} {k k':ai} {xs:ak}
theorem yH:∀(fs gs:List FlP) (i:Nat) (k:ai),fs.map (·.key)=gs.map (·.key)->fnd i fs k=fnd i gs k
 | [], [],i,k,_=>rfl
 | f::fs,g::gs,i,k,h=>by
  simp only [List.map_cons,List.cons.injEq]at h
  rw [fnd,fnd,h.1,yH fs gs (i+1) k h.2]
theorem CrewOk.snoc (h:CrewOk l) (h1:1<=n) (h2:n<=1000) (hn:l.contains n=false):CrewOk (l++ [n]):=fun j hj=>by
 rw [List.length_append]at hj
 simp only [List.length_cons,List.length_nil]at hj
 by_cases hl:j<l.length
 ·rw [List.getElem_append_left hl,List.take_append_of_le_length wu]
  exact h j hl
 ·have he:j=l.length:=wu
  subst he
  rw [List.getElem_append_right ag,List.take_left]
  simp only [Nat.sub_self,List.getElem_cons_zero]
  exact⟨⟨h1,h2⟩,hn⟩
theorem CrewOk.one (h1:1<=n) (h2:n<=1000):CrewOk [n]:=fun j hj=>by
 have h0:j=0:=by simpa using hj
 subst h0
 exact⟨⟨h1,h2⟩,rfl⟩
theorem GoodF.nil_:GoodF []:=⟨ab,(fun j h=>by cases h),(fun j h=>by cases h),(fun j h=>by cases h),(fun j h=>by cases h)⟩
theorem GoodF.snoc (h:GoodF fs) (h6:fs.length<6) (hk:hexC k=0) (hkl:k.length<=1000) (hf:fnd 0 fs k=aF) (h1:1<=n) (h2:n<=1000):GoodF (fs++ [⟨k,n, []⟩]):=by
 have split:∀j,j<(fs++ [(⟨k,n, []⟩:FlP)]).length->j<fs.length\/j=fs.length:=fun j hj=>by
  rw [List.length_append]at hj;simp only [List.length_cons,List.length_nil]at hj;omega
 refine⟨by rw [List.length_append];simp only [List.length_cons,List.length_nil];omega,fun j hj=> ?_,fun j hj=> ?_,fun j hj=> ?_,fun j hj=> ?_⟩
 ·rcases split j hj with hl | rfl
  ·rw [List.getElem_append_left hl];exact h.key j hl
  ·rw [List.getElem_append_right ag];simp only [Nat.sub_self,List.getElem_cons_zero];exact⟨hk,hkl⟩
 ·rcases split j hj with hl | rfl
  ·rw [List.getElem_append_left hl,List.take_append_of_le_length wu];exact h.one j hl
  ·rw [List.getElem_append_right ag,List.take_left];simp only [Nat.sub_self,List.getElem_cons_zero];exact hf
 ·rcases split j hj with hl | rfl
  ·rw [List.getElem_append_left hl];exact h.few j hl
  ·rw [List.getElem_append_right ag];simp only [Nat.sub_self,List.getElem_cons_zero];exact Nat.zero_le _
 ·rcases split j hj with hl | rfl
  ·rw [List.getElem_append_left hl];exact h.crew j hl
  ·rw [List.getElem_append_right ag];simp only [Nat.sub_self,List.getElem_cons_zero];exact CrewOk.one h1 h2
theorem GoodF.set (h:GoodF fs) (hi:i<fs.length) (h1:1<=n) (h2:n<=1000) (hin:(fs[i].lead::fs[i].wait).contains n=false) (h5:fs[i].wait.length<5) :
  GoodF (fs.set i ⟨fs[i].key,fs[i].lead,fs[i].wait++ [n]⟩):=by
 have hkeys:∀m,((fs.set i ⟨fs[i].key,fs[i].lead,fs[i].wait++ [n]⟩).take m).map (·.key)=(fs.take m).map (·.key):=fun m=>by
  rw [List.map_take,List.map_take,List.map_set]
  congr 1
  apply List.ext_getElem
  ·simp
  ·intro j h1 h2;rw [List.getElem_set];split
   ·rename_i e;subst e;simp
   ·rfl
 refine⟨by rw [List.length_set];exact h.len,fun j hj=> ?_,fun j hj=> ?_,fun j hj=> ?_,fun j hj=> ?_⟩
 all_goals
  rw [List.length_set]at hj;by_cases e:i=j
  ·subst e
   first
    | (rw [List.getElem_set_self];exact h.key i hi)
    | (rw [List.getElem_set_self,yH _ _ _ _ (hkeys i)];exact h.one i hi)
    | (rw [List.getElem_set_self,List.length_append];simp only [List.length_cons,List.length_nil];omega)
    | (rw [List.getElem_set_self];exact(h.crew i hi).snoc h1 h2 hin)
  ·first
    | (rw [List.getElem_set_ne e];exact h.key j hj)
    | (rw [List.getElem_set_ne e,yH _ _ _ _ (hkeys j)];exact h.one j hj)
    | (rw [List.getElem_set_ne e];exact h.few j hj)
    | (rw [List.getElem_set_ne e];exact h.crew j hj)
open Go.RowKit
theorem z39:El zZZ 38 93 3 48:=El.mk' (z:= .agg #[aD ByteArray.empty,aB aC 0,aA aF 0 0]) underlying38 ww rfl wu wu
theorem jU (A:aj) (c:Nat) (l:List Int) (w:World) (hb:l.length<=1000000) (hr:Rd w 1 A l.length (ins l)) :
  Calls zZZ 171 #[aA A l.length c] w fun e w'=>∃v,e= .returned v/\w'.ownsRow w.heap.size 3 1 v l.length (ins l)/\Below w.heap.size w w':=by
 have heq:=fun W=>Lib.run_eql_slice_nil (P:=zZZ) W 45 3 A l.length c 0 0 underlying45;cases A with
 | none =>
  have h0:l.length=0:=by
   rcases Nat.eq_zero_or_pos l.length with h | h
   ·exact h
   ·obtain⟨_,_,h1,_⟩:=hr.2 h;cases h1
  obtain rfl:l= []:=List.eq_nil_of_length_eq_zero h0;have heq:=fun W=>Lib.run_eql_slice_nil (P:=zZZ) W 45 3 aF 0 c 0 0 underlying45;rw [List.length_nil];go_enter func171,ntmps171;go_wp2_with fail;go_ret;exact⟨_,rfl,World.ownsRow_nil _ _ _ _,Below.refl _ _⟩
 | some ad =>
  go_enter func171,ntmps171
  refine wL ?_;intros;refine zM rfl (.tmp 5) (.tmp 6) rfl U0 ac (World.ownsRow_made (size:=1) w #[] 0 ag (by simp [maxLen]) rfl) ac (hr.alloc _) (Xi l) wu ab ?_;intro v1 w1 hown1 hg1 _;have hb1:=zj ((Below.refl _ _).alloc ag _) (World.ownsRow_made (size:=1) w #[] 0 ag (by simp [maxLen]) rfl) ag hg1;go_wp2_with fail;go_ret;exact⟨_,rfl,by simpa using hown1,hb1⟩
def kb (fs:List FlP) (As:List (aj×Nat)):ak:=(fs.zip As).flatMap fun x=>qM x.1 x.2.1 x.2.2
def blk (a:aj×Nat):Option Nat:=a.1.map (·.block)
theorem qC (a:aj×Nat) (n:Nat):(aA a.1 n a.2).ownBlock=blk a:=by
 obtain⟨A,c⟩:=a;cases A<;>rfl
def FlsO (w:World) (base:Nat) (v:Value) (fs:List FlP):Prop :=
 ∃(As:List (aj×Nat)),As.length=fs.length/\w.ownsRow base 93 3 v fs.length (kb fs As) /\
  (∀(k:Nat) (p:FlP) (a:aj×Nat),fs[k]?=aG p->As[k]?=aG a->w.ownsRow base 3 1 (aA a.1 p.wait.length a.2) p.wait.length (ins p.wait)/\∀g,blk a=aG g->v.ownBlock≠aG g) /\
  (∀(k j:Nat) (a b:aj×Nat),k<j->As[k]?=aG a->As[j]?=aG b->∀g,blk a=aG g->blk b≠aG g)
theorem z0j {n:Nat} {A:aj} (h:w.ownsRow base e 1 (aA A n c) n xs):n<=c/\c<=maxLen:=by
 rcases h.2 with ⟨h1,h2⟩ | ⟨_,cap,_,h1,_,_,h2,h3,_⟩
 ·injection h1 with _ _ h3;subst h3;omega
 ·injection h1 with _ _ h4;subst h4;exact⟨h2,h3⟩
theorem FlsO.fls (h:FlsO w base v fs):∃A c,v= aA A fs.length c/\fs.length<=c/\Fls w A fs:=by
 obtain⟨As,h1,h2,h3,h4⟩:=h;obtain⟨A,c,rfl,hc,hr⟩:=Rd.of_own' h2;refine⟨A,c,rfl,hc,As,h1,hr,fun k p a hp ha=> ?_⟩;have ho:=(h3 k p a hp ha).1;exact⟨Rd.of_own ho,z0j ho⟩
theorem FlsO.nil_ (w:World) (base:Nat) (v:Value) (h:w.ownsRow base 93 3 v 0 []):FlsO w base v [] :=
 ⟨[],rfl,h,(fun k p a hp _=>by cases hp),(fun k j a b _ ha=>by cases ha)⟩
theorem FlsO.below (h:FlsO w base v fs) (hb:Below w.heap.size w w'):FlsO w' base v fs:=by
 obtain⟨As,h1,h2,h3,h4⟩:=h;exact⟨As,h1,zc h2 hb,(fun k p a hp ha=>⟨zc (h3 k p a hp ha).1 hb,(h3 k p a hp ha).2⟩),h4⟩
theorem FlsO.lower {b':Nat} (h:FlsO w base v fs) (hb:b'<=base):FlsO w b' v fs:=by
 obtain⟨As,h1,h2,h3,h4⟩:=h;exact⟨As,h1,zb h2 hb,(fun k p a hp ha=>⟨zb (h3 k p a hp ha).1 hb,(h3 k p a hp ha).2⟩),h4⟩
theorem vR:∀(fs:List FlP) (As:List (aj×Nat)) (p:FlP) (a:aj×Nat),As.length=fs.length->kb (fs++ [p]) (As++ [a])=kb fs As++qM p a.1 a.2
 | [], [],p,a,_=>by simp [kb]
 | f::fs,b::As,p,a,h=>by
  have ih:=vR fs As p a (by simpa using h)
  simp only [kb]at ih ⊢
  rw [List.cons_append,List.cons_append,List.zip_cons_cons,List.zip_cons_cons,List.flatMap_cons,List.flatMap_cons,ih,List.append_assoc]
theorem FlsO.snoc {v':Value} {B:aj} {As:List (aj×Nat)} (h1:As.length=fs.length)
  (h3:∀(k:Nat) (p:FlP) (a:aj×Nat),fs[k]?=aG p->As[k]?=aG a->w.ownsRow base 3 1 (aA a.1 p.wait.length a.2) p.wait.length (ins p.wait)/\∀g,blk a=aG g->v.ownBlock≠aG g)
  (h4:∀(k j:Nat) (a b:aj×Nat),k<j->As[k]?=aG a->As[j]?=aG b->∀g,blk a=aG g->blk b≠aG g)
  (ho:w'.ownsRow base 93 3 v' (fs.length+1) (kb fs As++qM p B c))
  (hg:w.grownBy w' v.ownBlock) (hv:v'.ownBlock=v.ownBlock\/∃g,v'.ownBlock=aG g/\w.heap.size<=g)
  (hB:w.ownsRow base 3 1 (aA B p.wait.length c) p.wait.length (ins p.wait)) (hne:∀g,blk (B,c)=aG g->v.ownBlock≠aG g)
  (hfr:∀(k:Nat) (a:aj×Nat),As[k]?=aG a->∀g,blk a=aG g->blk (B,c)≠aG g):FlsO w' base v' (fs++ [p]):=by
 have keep:∀(a:aj×Nat) (l:List Int),w.ownsRow base 3 1 (aA a.1 l.length a.2) l.length (ins l)->(∀g,blk a=aG g->v.ownBlock≠aG g) ->
   w'.ownsRow base 3 1 (aA a.1 l.length a.2) l.length (ins l)/\∀g,blk a=aG g->v'.ownBlock≠aG g:=fun a l hr hn=>by
  refine⟨hr.kept hg ?_,fun g e=> ?_⟩
  ·rw [qC];cases hb:blk a with
   | none=>exact .inl rfl
   | some g=>exact .inr (fun h=>hn g hb h.symm)
  ·rcases hv with h | ⟨g',h,hge⟩
   ·rw [h];exact hn g e
   ·rw [h];have:=(hr.lt g (by rw [qC];exact e)).2;intro h';cases h';omega
 refine⟨As++ [(B,c)],by simp [h1],?_,fun k q a hq ha=> ?_,fun k j a b hkj ha hb g hag=> ?_⟩
 ·rw [vR fs As p (B,c) h1,List.length_append];exact ho
 ·by_cases hk:k<fs.length
  ·rw [List.getElem?_append_left hk]at hq;rw [List.getElem?_append_left wu]at ha;obtain⟨i1,i2⟩:=h3 k q a hq ha;exact keep a q.wait i1 i2
  ·rw [List.getElem?_append_right wu]at hq ha;have hk0:k - fs.length=0:=by
    have:=(List.getElem?_eq_some_iff.1 hq).1;simp at this;exact this
   rw [h1,hk0]at ha;rw [hk0]at hq;simp only [List.getElem?_cons_zero,Option.some.injEq]at hq ha;subst hq ha;exact keep (B,c) p.wait hB hne
 ·have hjl:=(List.getElem?_eq_some_iff.1 hb).1;rw [List.length_append]at hjl;simp only [List.length_cons,List.length_nil]at hjl;rw [List.getElem?_append_left wu]at ha;by_cases hj:j<As.length
  ·rw [List.getElem?_append_left hj]at hb;exact h4 k j a b hkj ha hb g hag
  ·rw [List.getElem?_append_right wu]at hb;have:j - As.length=0:=by omega
   rw [this]at hb;simp only [List.getElem?_cons_zero,Option.some.injEq]at hb;subst hb;exact hfr k a ha g hag
theorem kn (A:aj) (c:Nat) (fs:List FlP) (w:World) (hn:fs.length<=1000) (hw:∀p∈fs,p.wait.length<=1000) (hf:Fls w A fs) (hc:fs.length<=c) :
  Calls zZZ 150 #[aA A fs.length c] w fun e w'=>∃v,e= .returned v/\FlsO w' w.heap.size v fs/\Below w.heap.size w w':=by
 have HWT:=sqH hw;clear hw;go_enter func150,ntmps150
 refine wL ?_;intros;refine kV rfl _ _ rfl z39 fs.length rfl rfl wu wu ?_;intro w1 g1 hown1 hb1;have ho1:=FlsO.nil_ w1 w.heap.size _ hown1
 refine wL ?_;intros;go_loopg [3,11,5] fs.length (fun gn v i u wr=>∃k:Nat,gn=fs.length - k/\i= aB aC k/\k<=fs.length/\FlsO wr w.heap.size v (fs.take k)/\Below w.heap.size w wr)
 case atStart=>exact⟨0,rfl,rfl,wu,ho1,hb1⟩
 case round =>
  clear ho1 hown1 hb1;obtain⟨k,hgq,rfl,hk,ho,hbl⟩:=hrel;have HGK:=sqH hgq;clear hgq;by_cases hlt:k<fs.length
  ·have hcc:decide (k<fs.length)=true:=decide_eq_true hlt;obtain⟨b,off,B,cb,rfl,hbb,c0,c1,c2,hrw,hwc,hcbm⟩:=(hf.below hbl).at_ k hlt;have hwl:=HWT.o fs[k] (List.getElem_mem hlt);have HST:=sqH (show fs.take (k+1)=fs.take k++ [fs[k]] from List.take_succ_eq_append_getElem hlt);have htl:(fs.take k).length=k:=by rw [List.length_take];omega
   obtain⟨p,hp⟩:=wY (fs[k])
   rw [<-hp]at c0 c1 c2 hrw hwc hwl HST;obtain⟨s,hs⟩:=wY (⟨p.key.toArray⟩:ByteArray)
   rw [<-hs]at c0;have HS:=sqH hs;have HTL:=sqH htl;have hk0:=we k
   have hk1:(k:Int)<(fs.length:Int):=wu;obtain⟨ld,hld⟩:=wY p.lead
   rw [<-hld]at c1;have HLD:=sqH hld;have hP1:Arr (wr.alloc (.cells #[aD s,aB aC ld,aA B p.wait.length cb] 93)) wr.heap.size 93 [aD s,aB aC ld,aA B p.wait.length cb]:=Arr.new wr _ _;have hbr1:=ws wr (.cells #[aD s,aB aC ld,aA B p.wait.length cb] 93);have hs1:(wr.alloc (.cells #[aD s,aB aC ld,aA B p.wait.length cb] 93)).heap.size=wr.heap.size+1:=World.size_alloc _ _;have hrw1:=hrw.alloc (.cells #[aD s,aB aC ld,aA B p.wait.length cb] 93);clear hs hp hld htl hrw
   refine wL ?_;intros;generalize wr.alloc (.cells #[aD s,aB aC ld,aA B p.wait.length cb] 93)=w1 at *
   obtain⟨gp,hgp⟩:=wY wr.heap.size
   rw [<-hgp]at hP1 ⊢
   have HGP:=sqH hgp;clear hgp c0 c1 c2;refine(jU B cb p.wait w1 wu hrw1).mono ?_;rintro e_ w2 ⟨v2,rfl,ho2,hb2⟩;dsimp only;have hbr2:=wm hbr1 hb2;have hP2:=hP1.below hb2;have hrd2:∀b,v2.ownBlock=aG b->b≠gp:=fun b h=>by have:=(ho2.lt b h).1;have:=HGP.o;omega
   obtain⟨A2,c2,rfl,hc2,hr2⟩:=Rd.of_own' ho2;have hc2m:c2<=maxLen:=by
    rcases ho2.2 with ⟨h1,h2⟩ | ⟨_,cap,_,h1,_,_,_,h2,_⟩
    ·injection h1 with _ _ h3;subst h3;exact Nat.zero_le _
    ·injection h1 with _ _ h3;subst h3;exact h2
   have y2:=hP2.c2;have z2:=hP2.frozen 2;have hP3:=hP2.set (k:=2) ab (aA A2 p.wait.length c2);have hbr3:Below wr.heap.size wr (w2.setCell ⟨gp,2,aF⟩ (aA A2 p.wait.length c2)):=Below.setCell hbr2 (by show wr.heap.size<=gp;have:=HGP.o;omega) _;have hr3:Rd (w2.setCell ⟨gp,2,aF⟩ (aA A2 p.wait.length c2)) 1 A2 p.wait.length (ins p.wait):=by
    refine⟨hr2.1,fun h0=> ?_⟩;obtain⟨b',o',e',hb',hcc'⟩:=hr2.2 h0;have hn':=hrd2 b' (by rw [e'];rfl);subst e';exact(hr2.other hn' _).2 h0
   have hbelow2:True:=trivial;obtain⟨f0,f1,f2⟩:=sqC3 hP3;have hneA:∀b off,A2=aG ⟨b,off,aF⟩->0<p.wait.length->wr.heap.size<=b:=fun b off e _=>by
    have:=(ho2.lt b (by rw [e];rfl)).1;omega
   have ho22:=zd (k:=2) (u:= aA A2 p.wait.length c2) ho2 (fun h=>hrd2 gp h rfl);clear ho2 hr2 hrw1
   refine wL ?_;intros;have hsz:(w2.setCell ⟨gp,2,aF⟩ (aA A2 p.wait.length c2)).heap.size=w2.heap.size:=by simp [World.setCell]
   rw [<-hsz];obtain⟨w3,hw3⟩:=wY (w2.setCell ⟨gp,2,aF⟩ (aA A2 p.wait.length c2))
   rw [<-hw3]at hbr3 hr3 ho22 ⊢
   clear f0 f1 f2 y2 z2 hP3 hw3 hsz;obtain⟨As,j1,j2,j3,j4⟩:=ho;have i1:=j1;have i2:=zc j2 hbr3;have i3:=fun (k:Nat) (p:FlP) (a:aj×Nat) hp ha=>(⟨zc (j3 k p a hp ha).1 hbr3,(j3 k p a hp ha).2⟩:_/\_)
   have i4:=j4;have OLD:=sqH (show ∀k' a,As[k']?=aG a->∀g,blk a=aG g->g<wr.heap.size from fun k' a ha g hg=>by
    have hkl:=(List.getElem?_eq_some_iff.1 ha).1;have hq:(fs.take k)[k']?=aG ((fs.take k)[k']'(by omega)):=List.getElem?_eq_getElem _;exact((j3 k' _ a hq ha).1.lt g (by rw [qC];exact hg)).2)
   have hfc:qM p A2 c2= [aD s,aB aC ld,aA A2 p.wait.length c2]:=by rw [qM,<-HS.o,<-HLD.o]
   rw [HTL.o]at i2;refine zh rfl (.tmp 19) (.tmp 21) rfl z39 ac i2 (us:= [aD s,aB aC ld,aA A2 p.wait.length c2]) (m:=1) ac rfl (by intro u hu;simp at hu;rcases hu with rfl | rfl | rfl<;>rfl) wu (Nat.le_trans hbl.size hbr3.size) ?_;intro v5 w5 ho5 hg5 hv5;have hlt5:∀g',v5.ownBlock=aG g'->w.heap.size<=g':=fun g' h=>(ho5.lt g' h).1;have hbel5:Below w.heap.size w w5:=(wm hbl hbr3).grown hg5 (Nat.le_trans hbl.size hbr3.size) (fun k hk=>(i2.lt k hk).1);rw [<-hfc]at ho5;have hlow:w.heap.size<=w1.heap.size:=Nat.le_trans hbl.size hbr1.size;have ho6:=FlsO.snoc (p:=p) (B:=A2) (c:=c2) i1 i3 i4 (by rw [HTL.o];exact ho5) hg5 hv5 (zb ho22 hlow) (fun g h h'=>by
    have h1:=(ho22.lt g (by rw [qC (A2,c2)];exact h)).1;have:=(j2.lt g h').2;omega) (fun k' a ha g h h'=>by
    have h1:=(ho22.lt g (by rw [qC (A2,c2)];exact h')).1;have:=OLD.o k' a ha g h;omega)
   rw [<-HST.o]at ho6;clear i1 i2 i3 i4 j1 j2 j3 j4 ho22 ho5 hg5 hv5 hr3 hbr3 hlt5
   refine wL ?_;intros;go_roundg (fs.length - (k+1))
   case measure=>exact wc HGK
   case rel=>exact⟨k+1,rfl,by go_num,wu,ho6,hbel5⟩
  ·obtain rfl:k=fs.length:=by omega
   have hcc:decide (fs.length<fs.length)=false:=ab;rw [List.take_length]at ho;obtain⟨A5,c5,rfl,_,_⟩:=ho.fls
   refine wL ?_;intros;go_ret;exact⟨_,rfl,ho,hbl⟩
theorem uN (fs:List FlP) (As:List (aj×Nat)):∀u∈kb fs As,u.oneCell'=true:=by
 intro u hu;simp only [kb,List.mem_flatMap]at hu;obtain⟨x,_,hx⟩:=hu;simp only [qM,List.mem_cons,List.not_mem_nil,or_false]at hx;rcases hx with rfl | rfl | rfl<;>rfl
theorem Y5 (v:Value) (base:Nat) (fs:List FlP) (w:World) (hn:fs.length<=1000) (h0:0<fs.length) (hbs:base<=w.heap.size) (h:FlsO w base v fs) :
  Calls zZZ 174 #[v] w fun e w'=>∃v',e= .returned v'/\FlsO w' base v' fs/\Below w.heap.size w w':=by
 obtain⟨As,i1,i2,i3,i4⟩:=h;obtain⟨g,cap,cs,rfl,_,_,hcap,_,_,_⟩:=ym i2 h0;have hr:=Rd.of_own i2;obtain⟨I3,I4,I1⟩:=sqJ3 i3 i4 i1;have heq:=fun W=>Lib.run_eql_slice_nil (P:=zZZ) W 38 93 (aG ⟨g,0,aF⟩) fs.length cap 0 0 underlying38;clear i1 i2 i3 i4;go_enter func174,ntmps174
 refine wL ?_;intros;refine zM rfl (.tmp 5) (.tmp 6) rfl z39 ac (World.ownsRow_made (size:=3) w #[] 0 ag (by simp [maxLen]) rfl) ac (hr.alloc _) (uN fs As) wu ab ?_;intro v1 w1 hown1 hg1 _;have hb1:=zj ((Below.refl _ _).alloc ag _) (World.ownsRow_made (size:=3) w #[] 0 ag (by simp [maxLen]) rfl) ag hg1;rw [Nat.zero_add,List.nil_append]at hown1;go_wp2_with fail;go_ret;refine⟨_,rfl,⟨As,I1.o,zb hown1 hbs,(fun k p a hp ha=> ?_),I4.o⟩,hb1⟩;obtain⟨j1,_⟩:=I3.o k p a hp ha;exact⟨zc j1 hb1,fun g h h'=>by
  have:=(j1.lt g (by rw [qC];exact h)).2;have:=(hown1.lt g h').1;omega⟩
theorem VB (A:aj) (c:Nat) (fs:List FlP) (k:ByteArray) (n:Int) (w:World) (hG:GoodF fs) (hf:Fls w A fs) (hc:fs.length<=c) (hm:c<=maxLen) (hk:hexC k.data.toList=0) (hks:k.size<=140737488351232) (hn1:1<=n) (hn2:n<=1000) (hfn:fnd 0 fs k.data.toList=aF) (h6:fs.length<6) :
  Calls zZZ 155 #[aA A fs.length c,aD k,aB aC n] w fun e w'=>∃v,e= .returned (.tuple #[v,.bool true,aB aC 0])/\FlsO w' w.heap.size v (fs++ [⟨k.data.toList,n, []⟩])/\Below w.heap.size w w':=by
 obtain⟨HCK,HHX,HWH⟩:=sqJ3 (fun w' hf'=>ka A c fs w' hG hf' hc hm) (fun w'=>kz (s:=k) 0 rfl hk w' hks) (fun w'=>ji n w');have hwd:decide (1<=n/\n<=1000)=true:=by simp [hn1,hn2]
 have HWD:=sqH hwd;have HCP:=sqH (fun w' hf'=>kn A c fs w' wu (fun p hp=>by
  obtain⟨j,hj,rfl⟩:=List.mem_iff_getElem.1 hp;have:=hG.few j hj;omega) hf' hc)
 have HFI:=sqH (fun w' hf'=>kG A c fs k w' wu hf');have HF:=sqH hfn;have e6:((fs.length:Int)==6)=false:=by rw [beq_eq_false_iff_ne];omega
 have e6':(fs.length==6)=false:=by rw [beq_eq_false_iff_ne];omega
 clear hG hk hwd hfn;go_enter func155,ntmps155
 refine wL ?_;intros;refine wZ (HCK.o w hf) fun w1 hb1=>?_;dsimp only;have hf1:=hf.below hb1
 refine wL ?_;intros;refine wZ (HHX.o w1) fun w2 hb2=>?_;dsimp only;have hb12:=wm hb1 hb2;have hf2:=hf1.below hb2
 refine wL ?_;intros;refine(HWH.o w2).mono ?_;rintro e_ _ ⟨rfl,rfl⟩;dsimp only;rw [HWD.o]
 refine wL ?_;intros;refine(HCP.o w2 hf2).mono ?_;rintro e_ w3 ⟨v3,rfl,ho3,hb3⟩;dsimp only;have hb13:=wm hb12 hb3;have hf3:=hf2.below hb3;have hfi:=HFI.o w3 hf3;rw [HF.o]at hfi;dsimp only at hfi;have HFF:=sqH hfi;clear hfi hf hf1 hf2
 refine wL ?_;intros;refine wZ HFF.o fun w4 hb4=>?_;dsimp only;have hb14:=wm hb13 hb4;have ho4:=ho3.below hb4;clear ho3 hf3
 refine wL ?_;intros;obtain⟨As,i1,i2,i3,i4⟩:=ho4;refine zh rfl (.tmp 46) (.tmp 50) rfl z39 ac i2 (us:= [aD k,aB aC n,aA aF 0 0]) (m:=1) ac rfl (by intro u hu;simp at hu;rcases hu with rfl | rfl | rfl<;>rfl) wu (Nat.le_trans hb3.size hb4.size) ?_;intro v5 w5 ho5 hg5 hv5;have hbel5:Below w.heap.size w w5:=hb14.grown hg5 hb14.size (fun k hk=>Nat.le_trans hb12.size (i2.lt k hk).1);have ho6:=FlsO.snoc (p:=⟨k.data.toList,n, []⟩) (B:=aF) (c:=0) i1 i3 i4 ho5 hg5 hv5 (World.ownsRow_nil _ _ _ _) (fun g h=>by cases h) (fun k' a _ g _ h=>by cases h);have ho6:=ho6.lower hb12.size;clear i1 i2 i3 i4 ho5 hg5 hv5;have hlen:(fs++ [(⟨k.data.toList,n, []⟩:FlP)]).length<=7:=by rw [List.length_append];simp only [List.length_cons,List.length_nil];omega
 have hpos:0<(fs++ [(⟨k.data.toList,n, []⟩:FlP)]).length:=by rw [List.length_append];simp
 generalize hgs:fs++ [(⟨k.data.toList,n, []⟩:FlP)]=gs at *
 have HGS:=sqH hgs;clear hgs
 refine wL ?_;intros;refine(Y5 _ _ gs w5 wu hpos hbel5.size ho6).mono ?_;rintro e_ w6 ⟨v6,rfl,ho8,hb6⟩;dsimp only;rw [<-HGS.o]at ho8
 refine wL ?_;intros;go_ret3;exact⟨v6,rfl,ho8,wm hbel5 hb6⟩
theorem Yi (A:aj) (c:Nat) (fs:List FlP) (k:ByteArray) (n:Int) (w:World) (hG:GoodF fs) (hf:Fls w A fs) (hc:fs.length<=c) (hm:c<=maxLen) (hk:hexC k.data.toList=0) (hks:k.size<=140737488351232) (hn1:1<=n) (hn2:n<=1000) (hfn:fnd 0 fs k.data.toList=aF) (h6:fs.length=6) :
  Calls zZZ 155 #[aA A fs.length c,aD k,aB aC n] w fun e w'=>e= .returned (.tuple #[aA aF 0 0,.bool false,aB aC 7])/\Below w.heap.size w w':=by
 have e6:((fs.length:Int)==6)=true:=by rw [beq_iff_eq];omega
 have H6:=sqH h6;have h66:fs.length<=6:=wu;clear h6;obtain⟨HCK,HHX,HWH⟩:=sqJ3 (fun w' hf'=>ka A c fs w' hG hf' hc hm) (fun w'=>kz (s:=k) 0 rfl hk w' hks) (fun w'=>ji n w');have hwd:decide (1<=n/\n<=1000)=true:=by simp [hn1,hn2]
 have HWD:=sqH hwd;have HCP:=sqH (fun w' hf'=>kn A c fs w' wu (fun p hp=>by
  obtain⟨j,hj,rfl⟩:=List.mem_iff_getElem.1 hp;have:=hG.few j hj;omega) hf' hc)
 have HFI:=sqH (fun w' hf'=>kG A c fs k w' wu hf');have HF:=sqH hfn;clear hG hk hwd hfn;go_enter func155,ntmps155;go_wp2_with fail;refine wZ (HCK.o w hf) fun w1 hb1=>?_;dsimp only;have hf1:=hf.below hb1;go_wp2_with fail;refine wZ (HHX.o w1) fun w2 hb2=>?_;dsimp only;have hb12:=wm hb1 hb2;have hf2:=hf1.below hb2;go_wp2_with fail;refine(HWH.o w2).mono ?_;rintro e_ _ ⟨rfl,rfl⟩;dsimp only;rw [HWD.o];go_wp2_with fail;refine(HCP.o w2 hf2).mono ?_;rintro e_ w3 ⟨v3,rfl,ho3,hb3⟩;dsimp only;have hb13:=wm hb12 hb3;have hf3:=hf2.below hb3;have hfi:=HFI.o w3 hf3;rw [HF.o]at hfi;dsimp only at hfi;have HFF:=sqH hfi;clear hfi hf hf1 hf2;go_wp2_with fail;refine wZ HFF.o fun w4 hb4=>?_;dsimp only;have hb14:=wm hb13 hb4;go_wp2_with fail;go_ret3;exact⟨rfl,hb14⟩
theorem Jy (A:aj) (c:Nat) (fs:List FlP) (k:ByteArray) (n:Int) (i:Nat) (w:World) (hG:GoodF fs) (hf:Fls w A fs) (hc:fs.length<=c) (hm:c<=maxLen) (hk:hexC k.data.toList=0) (hks:k.size<=140737488351232) (hn1:1<=n) (hn2:n<=1000) (hfn:fnd 0 fs k.data.toList=aG i) (hi:i<fs.length) (hin:(fs[i].lead::fs[i].wait).contains n=true) :
  Calls zZZ 155 #[aA A fs.length c,aD k,aB aC n] w fun e w'=>e= .returned (.tuple #[aA aF 0 0,.bool false,aB aC 6])/\Below w.heap.size w w':=by
 have h66:fs.length<=6:=hG.len;have hfew:=hG.few i hi;have HIN:=sqH hin;have FF:=sqH hf;clear hin;obtain⟨HCK,HHX,HWH⟩:=sqJ3 (fun w' hf'=>ka A c fs w' hG hf' hc hm) (fun w'=>kz (s:=k) 0 rfl hk w' hks) (fun w'=>ji n w');have hwd:decide (1<=n/\n<=1000)=true:=by simp [hn1,hn2]
 have HWD:=sqH hwd;have HCP:=sqH (fun w' hf'=>kn A c fs w' wu (fun p hp=>by
  obtain⟨j,hj,rfl⟩:=List.mem_iff_getElem.1 hp;have:=hG.few j hj;omega) hf' hc)
 have HFI:=sqH (fun w' hf'=>kG A c fs k w' wu hf');have HF:=sqH hfn;clear hG hk hwd hfn;go_enter func155,ntmps155;go_wp2_with fail;refine wZ (HCK.o w hf) fun w1 hb1=>?_;dsimp only;have hf1:=hf.below hb1;go_wp2_with fail;refine wZ (HHX.o w1) fun w2 hb2=>?_;dsimp only;have hb12:=wm hb1 hb2;have hf2:=hf1.below hb2;go_wp2_with fail;refine(HWH.o w2).mono ?_;rintro e_ _ ⟨rfl,rfl⟩;dsimp only;rw [HWD.o];go_wp2_with fail;refine(HCP.o w2 hf2).mono ?_;rintro e_ w3 ⟨v3,rfl,ho3,hb3⟩;dsimp only;have hb13:=wm hb12 hb3;have hf3:=hf2.below hb3;have hfi:=HFI.o w3 hf3;rw [HF.o]at hfi;dsimp only at hfi;have HFF:=sqH hfi;clear hfi hf hf1 hf2;go_wp2_with fail;refine wZ HFF.o fun w4 hb4=>?_;dsimp only;have hb14:=wm hb13 hb4;obtain⟨b,off,B,cb,rfl,hbb,c0,c1,c2,hrw,hwc,hcbm⟩:=(FF.o.below hb14).at_ i hi;have i1:=we i
 have i2:(i:Int)<(fs.length:Int):=wu;obtain⟨s,hs⟩:=wY (⟨fs[i].key.toArray⟩:ByteArray)
 rw [<-hs]at c0;have HI2:=HIN.o;generalize fs[i].lead=ld at *
 generalize fs[i].wait=wt at *
 have HI3:=sqH HI2;clear HI2 HIN hs;go_wp2_with fail;refine(vX s ld B cb wt w4 wu hrw).mono ?_;rintro e_ w5 ⟨v5,rfl,ho5,hb5⟩;dsimp only;have hb15:=wm hb14 hb5;obtain⟨A5,c5,rfl,hc5,hr5⟩:=Rd.of_own' ho5;have hcon:=y8 A5 c5 (ld::wt) n w5 (by simp only [List.length_cons];omega) hr5;rw [HI3.o]at hcon;simp only [List.length_cons]at hcon;have HCO:=sqH hcon;clear hcon ho5 hr5 c0 c1 c2;go_wp2_with fail;refine HCO.o.mono ?_;rintro e_ _ ⟨rfl,rfl⟩;dsimp only;go_wp2_with fail;go_ret3;exact⟨rfl,hb15⟩
theorem Yj (A:aj) (c:Nat) (fs:List FlP) (k:ByteArray) (n:Int) (i:Nat) (w:World) (hG:GoodF fs) (hf:Fls w A fs) (hc:fs.length<=c) (hm:c<=maxLen) (hk:hexC k.data.toList=0) (hks:k.size<=140737488351232) (hn1:1<=n) (hn2:n<=1000) (hfn:fnd 0 fs k.data.toList=aG i) (hi:i<fs.length) (hin:(fs[i].lead::fs[i].wait).contains n=false) (h5:fs[i].wait.length=5) :
  Calls zZZ 155 #[aA A fs.length c,aD k,aB aC n] w fun e w'=>e= .returned (.tuple #[aA aF 0 0,.bool false,aB aC 7])/\Below w.heap.size w w':=by
 have h66:fs.length<=6:=hG.len;have hfew:=hG.few i hi;have H5:=sqH h5;clear h5;have HIN:=sqH hin;have FF:=sqH hf;clear hin;obtain⟨HCK,HHX,HWH⟩:=sqJ3 (fun w' hf'=>ka A c fs w' hG hf' hc hm) (fun w'=>kz (s:=k) 0 rfl hk w' hks) (fun w'=>ji n w');have hwd:decide (1<=n/\n<=1000)=true:=by simp [hn1,hn2]
 have HWD:=sqH hwd;have HCP:=sqH (fun w' hf'=>kn A c fs w' wu (fun p hp=>by
  obtain⟨j,hj,rfl⟩:=List.mem_iff_getElem.1 hp;have:=hG.few j hj;omega) hf' hc)
 have HFI:=sqH (fun w' hf'=>kG A c fs k w' wu hf');have HF:=sqH hfn;clear hG hk hwd hfn;go_enter func155,ntmps155;go_wp2_with fail;refine wZ (HCK.o w hf) fun w1 hb1=>?_;dsimp only;have hf1:=hf.below hb1;go_wp2_with fail;refine wZ (HHX.o w1) fun w2 hb2=>?_;dsimp only;have hb12:=wm hb1 hb2;have hf2:=hf1.below hb2;go_wp2_with fail;refine(HWH.o w2).mono ?_;rintro e_ _ ⟨rfl,rfl⟩;dsimp only;rw [HWD.o];go_wp2_with fail;refine(HCP.o w2 hf2).mono ?_;rintro e_ w3 ⟨v3,rfl,ho3,hb3⟩;dsimp only;have hb13:=wm hb12 hb3;have hf3:=hf2.below hb3;have hfi:=HFI.o w3 hf3;rw [HF.o]at hfi;dsimp only at hfi;have HFF:=sqH hfi;clear hfi hf hf1 hf2;go_wp2_with fail;refine wZ HFF.o fun w4 hb4=>?_;dsimp only;have hb14:=wm hb13 hb4;obtain⟨b,off,B,cb,rfl,hbb,c0,c1,c2,hrw,hwc,hcbm⟩:=(FF.o.below hb14).at_ i hi;have i1:=we i
 have i2:(i:Int)<(fs.length:Int):=wu;obtain⟨s,hs⟩:=wY (⟨fs[i].key.toArray⟩:ByteArray)
 rw [<-hs]at c0;have HI2:=HIN.o;generalize fs[i].lead=ld at *
 generalize fs[i].wait=wt at *
 have HI3:=sqH HI2;have H55:=H5.o;have e5:((wt.length:Int)==5)=true:=by rw [beq_iff_eq];omega
 have e5':(wt.length==5)=true:=by rw [beq_iff_eq];omega
 clear HI2 HIN hs H55;go_wp2_with fail;refine(vX s ld B cb wt w4 wu hrw).mono ?_;rintro e_ w5 ⟨v5,rfl,ho5,hb5⟩;dsimp only;have hb15:=wm hb14 hb5;obtain⟨A5,c5,rfl,hc5,hr5⟩:=Rd.of_own' ho5;have hcon:=y8 A5 c5 (ld::wt) n w5 (by simp only [List.length_cons];omega) hr5;rw [HI3.o]at hcon;simp only [List.length_cons]at hcon;have HCO:=sqH hcon;have d2:=(hb5.cell (p:=⟨b,off+i*3+2,aF⟩) hbb).trans c2;clear hcon ho5 hr5 c0 c1 c2;go_wp2_with fail;refine HCO.o.mono ?_;rintro e_ _ ⟨rfl,rfl⟩;dsimp only;go_wp2_with fail;go_ret3;exact⟨rfl,hb15⟩
theorem z0l {n cap k size:Nat} {u:Value} (h:w.ownsRow base e size (aA (aG ⟨g,0,aF⟩) n cap) n xs) (hk:k<n*size):(w.setCell ⟨g,k,aF⟩ u).ownsRow base e size (aA (aG ⟨g,0,aF⟩) n cap) n (xs.set k u):=by
 refine⟨by rw [List.length_set];exact h.1,?_⟩;rcases h.2 with ⟨h1,_⟩ | ⟨g',cap',cur,h1,hb,hg,hn,hm,hs,ht⟩
 ·cases h1
 ·injection h1 with e1 e2 e3;injection e1 with e1;injection e1 with e1;subst e1 e3;have hA:Arr w g e cur.toList:=by simpa [Arr] using hg
  have hA2:=hA.set (k:=k) (by rw [Array.length_toList,hs];exact Nat.lt_of_lt_of_le hk (Nat.mul_le_mul_right _ hn)) u;refine .inr ⟨g,cap,(cur.toList.set k u).toArray,rfl,hb,hA2,hn,hm,by rw [List.size_toArray,List.length_set,Array.length_toList,hs],?_⟩;rw [<-ht,List.take_set]
theorem uO:∀(fs:List FlP) (As:List (aj×Nat)) (i:Nat) (p p':FlP) (a:aj×Nat),As.length=fs.length->fs[i]?=aG p->p'.key=p.key->p'.lead=p.lead ->
  (kb fs As).set (i*3+2) (aA a.1 p'.wait.length a.2)=kb (fs.set i p') (As.set i a)
 | f::fs,b::As,0,p,p',a,_,hp,hk,hl=>by
  simp only [List.getElem?_cons_zero,Option.some.injEq]at hp
  subst hp
  simp only [kb,List.zip_cons_cons,List.flatMap_cons,List.set_cons_zero,qM,hk,hl]
  rfl
 | f::fs,b::As,i+1,p,p',a,h,hp,hk,hl=>by
  have ih:=uO fs As i p p' a (by simpa using h) (by simpa using hp) hk hl
  simp only [kb]at ih ⊢
  rw [List.set_cons_succ,List.set_cons_succ,List.zip_cons_cons,List.zip_cons_cons,List.flatMap_cons,List.flatMap_cons,<-ih,List.set_append_right _ _ (by simp [qM];omega)]
  congr 2
  simp [qM];omega
theorem Yk (A:aj) (c:Nat) (fs:List FlP) (k:ByteArray) (n:Int) (i:Nat) (w:World) (hG:GoodF fs) (hf:Fls w A fs) (hc:fs.length<=c) (hm:c<=maxLen) (hk:hexC k.data.toList=0) (hks:k.size<=140737488351232) (hn1:1<=n) (hn2:n<=1000) (hfn:fnd 0 fs k.data.toList=aG i) (hi:i<fs.length) (hin:(fs[i].lead::fs[i].wait).contains n=false) (h5:fs[i].wait.length<5) :
  Calls zZZ 155 #[aA A fs.length c,aD k,aB aC n] w fun e w'=>∃v,e= .returned (.tuple #[v,.bool false,aB aC 0])/\FlsO w' w.heap.size v (fs.set i ⟨fs[i].key,fs[i].lead,fs[i].wait++ [n]⟩)/\Below w.heap.size w w':=by
 have h66:fs.length<=6:=hG.len;have hfew:=hG.few i hi;have H5:=sqH h5;clear h5;have HIN:=sqH hin;have FF:=sqH hf;clear hin;obtain⟨HCK,HHX,HWH⟩:=sqJ3 (fun w' hf'=>ka A c fs w' hG hf' hc hm) (fun w'=>kz (s:=k) 0 rfl hk w' hks) (fun w'=>ji n w');have hwd:decide (1<=n/\n<=1000)=true:=by simp [hn1,hn2]
 have HWD:=sqH hwd;have HCP:=sqH (fun w' hf'=>kn A c fs w' wu (fun p hp=>by
  obtain⟨j,hj,rfl⟩:=List.mem_iff_getElem.1 hp;have:=hG.few j hj;omega) hf' hc)
 have HFI:=sqH (fun w' hf'=>kG A c fs k w' wu hf');have HF:=sqH hfn;clear hG hk hwd hfn;go_enter func155,ntmps155;go_wp2_with fail;refine wZ (HCK.o w hf) fun w1 hb1=>?_;dsimp only;have hf1:=hf.below hb1;go_wp2_with fail;refine wZ (HHX.o w1) fun w2 hb2=>?_;dsimp only;have hb12:=wm hb1 hb2;have hf2:=hf1.below hb2;go_wp2_with fail;refine(HWH.o w2).mono ?_;rintro e_ _ ⟨rfl,rfl⟩;dsimp only;rw [HWD.o];go_wp2_with fail;refine(HCP.o w2 hf2).mono ?_;rintro e_ w3 ⟨v3,rfl,ho3,hb3⟩;dsimp only;have hb13:=wm hb12 hb3;have hf3:=hf2.below hb3;have hfi:=HFI.o w3 hf3;rw [HF.o]at hfi;dsimp only at hfi;have HFF:=sqH hfi;clear hfi hf hf1 hf2;go_wp2_with fail;refine wZ HFF.o fun w4 hb4=>?_;dsimp only;have hb14:=wm hb13 hb4;obtain⟨b,off,B,cb,rfl,hbb,c0,c1,c2,hrw,hwc,hcbm⟩:=(FF.o.below hb14).at_ i hi;have i1:=we i
 have i2:(i:Int)<(fs.length:Int):=wu;obtain⟨s,hs⟩:=wY (⟨fs[i].key.toArray⟩:ByteArray)
 rw [<-hs]at c0;have ho4:=ho3.below hb4;obtain⟨p,hp⟩:=wY (fs[i])
 rw [<-hp]at c1 c2 hrw hwc hfew HIN H5;have HP:=sqH (show fs[i]?=aG p from by rw [List.getElem?_eq_getElem hi,hp]);have hgoal:fs.set i ⟨fs[i].key,fs[i].lead,fs[i].wait++ [n]⟩=fs.set i ⟨p.key,p.lead,p.wait++ [n]⟩:=by rw [hp]
 have HGO:=sqH hgoal;obtain⟨ld,hld⟩:=wY p.lead
 rw [<-hld]at c1;have HI2:=HIN.o;rw [<-hld]at HI2;have HI3:=sqH HI2;have HLD:=sqH hld;have H55:=H5.o;have e5:((p.wait.length:Int)==5)=false:=by rw [beq_eq_false_iff_ne];omega
 have e5':(p.wait.length==5)=false:=by rw [beq_eq_false_iff_ne];omega
 clear HI2 HIN hs hp hgoal hld H55;go_wp2_with fail;refine(vX s ld B cb p.wait w4 wu hrw).mono ?_;rintro e_ w5 ⟨v5,rfl,ho5,hb5⟩;dsimp only;have hb15:=wm hb14 hb5;obtain⟨A5,c5,rfl,hc5,hr5⟩:=Rd.of_own' ho5;have hcon:=y8 A5 c5 (ld::p.wait) n w5 (by simp only [List.length_cons];omega) hr5;rw [HI3.o]at hcon;simp only [List.length_cons]at hcon;have HCO:=sqH hcon;have d2:=(hb5.cell (p:=⟨b,off+i*3+2,aF⟩) hbb).trans c2;have ho55:=ho4.below hb5;obtain⟨As,j1,j2,j3,j4⟩:=ho55;obtain⟨g3,cap3,cs3,rfl,_,hA3,hcap3,hcm3,hcl3,hct3⟩:=ym j2 wu;have hia:i<As.length:=wu;have ha:As[i]?=aG As[i]:=List.getElem?_eq_getElem hia;obtain⟨k1,k2⟩:=j3 i p As[i] HP.o ha;have hcell:=(Rd.of_own j2).2 wu;obtain⟨_,_,e3,_,hcell⟩:=hcell;cases e3
 have x2:=hcell (i*3+2) _ ((ue fs As i 2 p As[i] HP.o ha wu).trans rfl);rw [Nat.zero_add]at x2;obtain⟨a,haE⟩:=wY (As[i])
 rw [<-haE]at k1 k2 x2 ha;obtain⟨Ai,ci⟩:=a;dsimp only at k1 k2 x2;have hcap63:(cap3:Int)<=9223372036854775807:=by unfold maxLen at hcm3;omega
 clear hcon ho5 hr5 c0 c1 c2 ho4 ho3 haE hcell;go_wp2_with fail;refine HCO.o.mono ?_;rintro e_ _ ⟨rfl,rfl⟩;dsimp only
 refine wL ?_;intros;refine zh rfl (.tmp 75) (.tmp 77) rfl U0 ac k1 (us:= [aB aC n]) (m:=1) ac rfl (by intro u hu;simp at hu;subst hu;rfl) wu (Nat.le_trans hb3.size (Nat.le_trans hb4.size hb5.size)) ?_;intro v7 w7 ho7 hg7 hv7;rw [qC (Ai,ci)]at hg7 hv7;rw [show ins p.wait++ [aB aC n]=ins (p.wait++ [n]) by simp [ins]]at ho7;have hw7:(p.wait++ [n]).length=p.wait.length+1:=ab;rw [<-hw7]at ho7;generalize hwn:p.wait++ [n]=wn at *
 have hwl:wn.length<=1000:=by have:=H5.o;omega
 clear hwn hw7;have hsz27:w2.heap.size<=w7.heap.size:=Nat.le_trans hb3.size (Nat.le_trans hb4.size (Nat.le_trans hb5.size hg7.size));have hb17:Below w.heap.size w w7:=hb15.grown hg7 hb15.size (fun g h=>Nat.le_trans hb12.size (k1.lt g (by rw [qC (Ai,ci)];exact h.symm▸rfl)).1);obtain⟨A7,c7,rfl,hc7,hr7⟩:=Rd.of_own' ho7;have HC7:=sqH (jU A7 c7 (wn) w7 wu hr7);have m2:=j2.kept hg7 (.inr (fun h=>k2 g3 h.symm rfl));have m3:∀(k:Nat) (q:FlP) (b:aj×Nat),k≠i->fs[k]?=aG q->As[k]?=aG b->w7.ownsRow w2.heap.size 3 1 (aA b.1 q.wait.length b.2) q.wait.length (ins q.wait):=fun k q b hki hq hb=>by
  refine(j3 k q b hq hb).1.kept hg7 ?_;rw [qC];cases hbk:blk b with
  | none=>exact .inl rfl
  | some g =>
   refine .inr (fun h=> ?_);rcases Nat.lt_or_gt_of_ne hki with h1 | h1
   ·exact j4 k i b (Ai,ci) h1 hb ha g hbk h.symm
   ·exact j4 i k (Ai,ci) b h1 ha hb g h.symm hbk
 have OLD:=sqH (show ∀(k:Nat) (b:aj×Nat),As[k]?=aG b->∀g,blk b=aG g->g<w7.heap.size from fun k b hb g hg=>by
  have hkl:=(List.getElem?_eq_some_iff.1 hb).1;have hq:fs[k]?=aG (fs[k]'(by omega)):=List.getElem?_eq_getElem _;exact Nat.lt_of_lt_of_le ((j3 k _ b hq hb).1.lt g (by rw [qC];exact hg)).2 hg7.size)
 obtain⟨J3,J4,J1⟩:=sqJ3 j3 j4 j1;clear ho7 hg7 hv7 k1 k2 x2 j2 hr7 j3 j4 d2 hA3 hct3 hcl3;go_wp2_with fail;refine HC7.o.mono ?_;rintro e_ w8 ⟨v8,rfl,ho8,hb8⟩;dsimp only;have hb18:=wm hb17 hb8;have m28:=zc m2 hb8;have hlt3:=(m2.lt g3 rfl)
 obtain⟨_,_,cs9,e9,_,hA9,_,_,hcl9,hct9⟩:=ym m28 wu;injection e9 with e91 _ e93;injection e91 with e91;injection e91 with e91;subst e91 e93;obtain⟨y,hy⟩:∃y,cs9[i*3+2]?=aG y:=⟨_,List.getElem?_eq_getElem wu⟩
 have y2:=hA9.cell hy;have z2:=hA9.frozen (i*3+2);obtain⟨A8,c8,rfl,hc8,_⟩:=Rd.of_own' ho8;have n9:=z0l (u:= aA A8 wn.length c8) m28 (k:=i*3+2) wu;have hcf:=uO fs As i p ⟨p.key,p.lead,wn⟩ (A8,c8) J1.o HP.o rfl rfl;dsimp only at hcf;rw [hcf]at n9;have hbz:Below w.heap.size w (w8.setCell ⟨g3,i*3+2,aF⟩ (aA A8 wn.length c8)):=Below.setCell hb18 (by show w.heap.size<=g3;exact Nat.le_trans hb12.size hlt3.1) _;have hne8:(aA A8 wn.length c8).ownBlock≠aG g3:=fun h=>by have:=(ho8.lt g3 h).1;omega
 have hfin:FlsO (w8.setCell ⟨g3,i*3+2,aF⟩ (aA A8 wn.length c8)) w2.heap.size (aA (aG ⟨g3,0,aF⟩) fs.length cap3) (fs.set i ⟨p.key,p.lead,wn⟩):=by
  refine⟨As.set i (A8,c8),by rw [List.length_set,List.length_set,J1.o],by rw [List.length_set];exact n9,fun k q b hq hb=> ?_,fun k j a' b hkj ha' hb g hag=> ?_⟩
  ·by_cases hki:k=i
   ·subst hki;rw [List.getElem?_set_self hi]at hq;rw [List.getElem?_set_self hia]at hb;cases hq;cases hb
    exact⟨zb (zd ho8 hne8) hsz27,fun g h h'=>hne8 (by rw [qC (A8,c8),h];exact(show aG g3=aG g from h').symm)⟩
   ·rw [List.getElem?_set_ne (Ne.symm hki)]at hq hb;have h1:=zc (m3 k q b hki hq hb) hb8;have h2:=(J3.o k q b hq hb).2;refine⟨zd h1 (fun h=>h2 g3 (by rw [<-qC b q.wait.length];exact h) rfl),h2⟩
  ·by_cases hki:k=i
   ·subst hki;rw [List.getElem?_set_self hia]at ha';cases ha'
    rw [List.getElem?_set_ne wu]at hb;intro hbg;have:=(ho8.lt g (by rw [qC (A8,c8)];exact hag)).1;have:=OLD.o j b hb g hbg;omega
   ·rw [List.getElem?_set_ne (Ne.symm hki)]at ha';by_cases hji:j=i
    ·subst hji;rw [List.getElem?_set_self hia]at hb;cases hb
     intro hbg;have:=(ho8.lt g (by rw [qC (A8,c8)];exact hbg)).1;have:=OLD.o k a' ha' g hag;omega
    ·rw [List.getElem?_set_ne (Ne.symm hji)]at hb;exact J4.o k j a' b hkj ha' hb g hag
 have hfin':=hfin.lower hb12.size;have HFN:=sqH hfin';clear hfin hfin' n9 hcf m2 m3 m28 ho8;go_wp2_with fail;go_ret3;rw [HGO.o];exact⟨_,rfl,HFN.o,hbz⟩
theorem z38 (w:World):(zeroValue 93).run zZZ w= .ok (.agg #[aD ByteArray.empty,aB aC 0,aA aF 0 0]) w:=by kernel_rfl
theorem Jt (g i n cap base:Nat) (xs:ak) (w:World) (h:w.ownsRow base 93 3 (aA (aG ⟨g,0,aF⟩) n cap) n xs) (hi:i<n) (hx:∀u∈xs,u.oneCell'=true) :
  Calls zZZ 175 #[aA (aG ⟨g,0,aF⟩) n cap,aB aC i,aB aC ((i:Int)+1)] w fun e w'=>e= .returned (aA (aG ⟨g,0,aF⟩) (n - 1) cap) /\
   w'.ownsRow base 93 3 (aA (aG ⟨g,0,aF⟩) (n - 1) cap) (n - 1) (xs.take (i*3)++xs.drop ((i+1)*3))/\w.grownBy w' (aG g):=by
 obtain⟨g',cap',cs,e1,hbg,hA,hnc,hcm,hcl,hct⟩:=ym h wu;injection e1 with e11 _ e13;injection e11 with e11;injection e11 with e11;subst e11 e13;obtain⟨i0,hi0,hz0,hz1,hz2⟩:=info_parts (show(zZZ.info? 93).map (fun i=>(i.zero,i.size,i.bytes))=aG (aG (.agg #[aD ByteArray.empty,aB aC 0,aA aF 0 0]),3,48) by kernel_rfl);obtain⟨zs,hzs⟩:=wY ((Builtin.zeroCells (Value.agg #[aD ByteArray.empty,aB aC 0,aA aF 0 0]).cells 1).toList)
 have hzs':zs= [aD ByteArray.empty,aB aC 0,aA aF 0 0]:=by rw [hzs];kernel_rfl
 have hzl:zs.length=3:=by rw [hzs'];rfl
 have hz1':∀u∈zs,u.oneCell'=true:=by rw [hzs'];intro u hu;simp at hu;rcases hu with rfl | rfl | rfl<;>rfl
 obtain⟨a1,a2⟩:=Q1 (i:=i) (n:=n) (zs:=zs) hA.drew hcl hnc hi hzl;rw [hct]at a1 a2;have hlen:(xs.drop ((i+1)*3)).length=(n - (i+1))*3:=by rw [List.length_drop,h.1,Nat.sub_mul]
 obtain⟨news,hnews⟩:=wY (xs.drop ((i+1)*3))
 rw [<-hnews]at a1 a2 hlen;obtain⟨W1,hW1⟩:=wY (w.drew.setCells g (i*3) news)
 rw [<-hW1]at a1 a2;have hr:=Rd.of_own h;have HC:=sqH (show ∀k u,xs[k]?=aG u->w.drew.cell? ⟨g,k,aF⟩=aG u from fun k u hu=>by
  refine Arr.cell hA.drew ?_;rw [<-hct,List.getElem?_take]at hu;split at hu
  ·exact hu
  ·cases hu)
 obtain⟨A,hAd,hsrc⟩:∃A:Addr,(if cap=i+1 then aG (⟨g,0,aF⟩:Addr) else aG ⟨g,(i+1)*3,aF⟩)=aG A/\Hid (∀t u,news[t]?=aG u->w.drew.cell? (A.add t)=aG u):=by
  by_cases hce:cap=i+1
  ·refine⟨⟨g,0,aF⟩,by simp [hce],Lib.hid fun t u hu=> ?_⟩;have h0:news.length=0:=by rw [hlen,show n - (i+1)=0 by omega]
   rw [List.length_eq_zero_iff.1 h0]at hu;cases hu
  ·refine⟨⟨g,(i+1)*3,aF⟩,by simp [hce],Lib.hid fun t u hu=> ?_⟩;rw [hnews,List.getElem?_drop]at hu;have:=HC.o _ _ hu;rw [Addr.add_lit];exact this
 have s1:=sqH hlen;have s2:=sqH (show ∀u∈news,u.oneCell'=true from fun u hu=>hx u (by rw [hnews]at hu;exact List.mem_of_mem_drop hu));have s3:=sqH (show ∀t,t<news.length->(w.drew.cell? ⟨g,0+i*3+t,aF⟩).isSome=true/\w.drew.frozen? ⟨g,0+i*3+t,aF⟩=false from fun t ht=>by
  rw [hlen]at ht;have hlt:i*3+t<xs.length:=by rw [h.1];omega
  rw [Nat.zero_add,HC.o _ _ (List.getElem?_eq_getElem hlt)];exact⟨rfl,hA.drew.frozen _⟩)
 have hclr:∀ty,(Builtin.clear_ #[38] ty #[aA (aG ⟨g,(n - 1)*3,aF⟩) (n - (n - 1)) (cap - (n - 1))]).run zZZ W1= .ok (.tuple #[]) (W1.setCells g ((n - 1)*3) zs):=fun ty=>by
  rw [show n - (n - 1)=1 by omega];exact yj W1 _ _ ty _ zs underlying38 z38 hzs.symm hz1' g _ _ (fun j hj=>by
   have hk:(n - 1)*3+j<(cs.take (i*3)++news++cs.drop ((n - 1)*3)).length:=by
    simp only [List.length_append,List.length_take,List.length_drop,hcl,hlen];omega
   rw [a1.cell (List.getElem?_eq_getElem hk)];rfl) (fun j hj=>a1.frozen _)
 have hcapi:i<=cap:=wu;have hci1:i+1<=cap:=wu;have hwi:((i:Int)+1).toNat=i+1:=wu;have hp0:(0:Int)<=(i:Int)+1:=wu;have hp1:(i:Int)+1<=(n:Int):=wu;have hne:((i:Int)==(i:Int)+1)=false:=by rw [beq_eq_false_iff_ne];omega
 obtain⟨A2,HW1,HG,HL,HCL,HN,HT,HX⟩:=sqJ8 a2 hW1 (show w.grownBy (W1.setCells g ((n - 1)*3) zs) (aG g) from(show w.grownBy w.drew (aG g) from⟨rfl,rfl,rfl,Nat.le_refl _,fun _ _ _=>rfl⟩).trans (by rw [hW1];exact(qj _ _ _).trans (qj _ _ _))) hlen hcl hnews hct h.1;clear hW1 a1 a2 hct hnews hlen hzs hzs' hz1' hr hA HC hx hcl;go_enter func175,ntmps175;go_wp2_with fail;go_region_law (refine step_append_room rfl (.tmp 22) (.tmp 25) 38 rfl 93 i0 3 underlying38 hi0 hz1 g 0 i cap (by simp [Act.eval,Act.put]) A (n - (i+1)) (cap - (i+1)) news (by simp [Act.eval,Act.put]) s1.o hsrc.o s2.o wu s3.o ?_;rw [Nat.zero_add,<-HW1.o]);rw [show i+(n - (i+1))=n - 1 by omega];go_wp2_with fail;go_ret;refine⟨rfl,⟨?_,.inr ⟨g,cap,_,rfl,hbg,A2.o,wu,hcm,?_,?_⟩⟩,HG.o⟩
 ·rw [<-HN.o,List.length_append,List.length_take,HL.o,HX.o];omega
 ·simp only [List.size_toArray,List.length_append,List.length_take,List.length_drop,HL.o,hzl,HCL.o];omega
 ·have e1:xs.take (i*3)=cs.take (i*3):=by rw [<-HT.o,List.take_take,Nat.min_eq_left wu]
  rw [e1,<-HN.o,List.append_assoc,List.take_left' (by rw [List.length_append,List.length_take,HL.o,HCL.o];omega)]
theorem vd:∀(fs:List FlP) (As:List (aj×Nat)) (i:Nat),As.length=fs.length->i<fs.length ->
  (kb fs As).take (i*3)++(kb fs As).drop ((i+1)*3)=kb (fs.eraseIdx i) (As.eraseIdx i)
 | f::fs,a::As,0,h,_=>by simp [kb,qM]
 | f::fs,a::As,i+1,h,hi=>by
  have ih:=vd fs As i (by simpa using h) (by simpa using hi)
  simp only [kb,List.eraseIdx_cons_succ,List.zip_cons_cons,List.flatMap_cons]at ih ⊢
  generalize (fs.zip As).flatMap (fun x=>qM x.1 x.2.1 x.2.2)=X at *
  have e1:(qM f a.1 a.2++X).take ((i+1)*3)=qM f a.1 a.2++X.take (i*3):=by
   rw [show(i+1)*3=(qM f a.1 a.2).length+i*3 by simp [qM];omega,List.take_length_add_append]
  have e2:(qM f a.1 a.2++X).drop ((i+1+1)*3)=X.drop ((i+1)*3):=by
   rw [show(i+1+1)*3=(qM f a.1 a.2).length+(i+1)*3 by simp [qM];omega,List.drop_length_add_append]
  rw [e1,e2,List.append_assoc,ih]
theorem zV {α:Type} {l:List α} {k:Nat} {x:α} (h:(l.eraseIdx i)[k]?=aG x):∃k',l[k']?=aG x/\(k'=if k<i then k else k+1):=by
 rw [List.getElem?_eraseIdx]at h;split at h
 ·rename_i hk;exact⟨k,h,by rw [if_pos hk]⟩
 ·rename_i hk;exact⟨k+1,h,by rw [if_neg hk]⟩
theorem FlsO.del {cap:Nat} (h:FlsO w base (aA (aG ⟨g,0,aF⟩) fs.length cap) fs) (hi:i<fs.length) :
  ∃xs,w.ownsRow base 93 3 (aA (aG ⟨g,0,aF⟩) fs.length cap) fs.length xs/\(∀u∈xs,u.oneCell'=true) /\
   ∀w',w'.ownsRow base 93 3 (aA (aG ⟨g,0,aF⟩) (fs.length - 1) cap) (fs.length - 1) (xs.take (i*3)++xs.drop ((i+1)*3))->w.grownBy w' (aG g) ->
    FlsO w' base (aA (aG ⟨g,0,aF⟩) (fs.length - 1) cap) (fs.eraseIdx i):=by
 obtain⟨As,h1,h2,h3,h4⟩:=h;refine⟨_,h2,uN fs As,fun w' ho hg=> ?_⟩;rw [vd fs As i h1 hi]at ho;have hl:(fs.eraseIdx i).length=fs.length - 1:=List.length_eraseIdx_of_lt hi;refine⟨As.eraseIdx i,by rw [List.length_eraseIdx_of_lt wu,hl,h1],by rw [hl];exact ho,fun k p a hp ha=> ?_,fun k j a b hkj ha hb=> ?_⟩
 ·obtain⟨k1,hp1,e1⟩:=zV hp;obtain⟨k2,ha1,e2⟩:=zV ha;rw [<-e1]at e2;subst e2;obtain⟨j1,j2⟩:=h3 k2 p a hp1 ha1;refine⟨j1.kept hg ?_,j2⟩;rw [qC];cases hb:blk a with
  | none=>exact .inl rfl
  | some x=>exact .inr (fun e=>j2 x hb e.symm)
 ·obtain⟨k1,ha1,e1⟩:=zV ha;obtain⟨k2,hb1,e2⟩:=zV hb;refine h4 k1 k2 a b ?_ ha1 hb1;split at e1<;>split at e2<;>omega
theorem FlsO.blk_ex (h:FlsO w base v fs) (h0:0<fs.length):∃g c,v= aA (aG ⟨g,0,aF⟩) fs.length c/\base<=g:=by
 obtain⟨As,h1,h2,h3,h4⟩:=h;obtain⟨g,cap,cs,rfl,hb,_⟩:=ym h2 h0;exact⟨g,cap,rfl,hb⟩
theorem Vo (A:aj) (c:Nat) (fs:List FlP) (k:ByteArray) (w:World) (hG:GoodF fs) (hf:Fls w A fs) (hc:fs.length<=c) (hm:c<=maxLen) (hfn:fnd 0 fs k.data.toList=aF) :
  Calls Tryz.prog 156 #[aA A fs.length c,aD k] w fun e w'=>e= .returned (.tuple #[aA aF 0 0,aA aF 0 0,.int .i64 5])/\Below w.heap.size w w':=by
 have h66:fs.length<=6:=hG.len;have HCK:=sqH (fun w' hf'=>ka A c fs w' hG hf' hc hm);have HFI:=sqH (fun w' hf'=>kG A c fs k w' wu hf');have HCP:=sqH (fun w' hf'=>kn A c fs w' wu (fun p hp=>by
  obtain⟨j,hj,rfl⟩:=List.mem_iff_getElem.1 hp;have:=hG.few j hj;omega) hf' hc)
 have HF:=sqH hfn;have hfew:=fun (i:Nat) (h:i<fs.length)=>hG.few i h;have HFE:=sqH hfew;clear hG hfn hfew;go_enter Tryz.func156,Tryz.ntmps156;go_wp2_with fail;refine wZ (HCK.o w hf) fun w1 hb1=>?_;dsimp only;have hf1:=hf.below hb1;have hfi:=HFI.o w1 hf1;rw [HF.o]at hfi;dsimp only at hfi;have HFF:=sqH hfi;clear hfi hf;go_wp2_with fail;refine wZ HFF.o fun w4 hb4=>?_;dsimp only;have hb14:=wm hb1 hb4;go_wp2_with fail;go_ret3;exact⟨rfl,hb14⟩
theorem z1q (A:aj) (c:Nat) (fs:List FlP) (k:ByteArray) (i:Nat) (w:World) (hG:GoodF fs) (hf:Fls w A fs) (hc:fs.length<=c) (hm:c<=maxLen) (hfn:fnd 0 fs k.data.toList=aG i) (hi:i<fs.length) :
  Calls Tryz.prog 156 #[aA A fs.length c,aD k] w fun e w'=>∃v u,e= .returned (.tuple #[v,u,.int .i64 0])/\FlsO w' w.heap.size v (fs.eraseIdx i) /\
   w'.ownsRow w.heap.size 3 1 u (fs[i].wait.length+1) (ins (fs[i].lead::fs[i].wait))/\Below w.heap.size w w':=by
 have h66:fs.length<=6:=hG.len;have HCK:=sqH (fun w' hf'=>ka A c fs w' hG hf' hc hm);have HFI:=sqH (fun w' hf'=>kG A c fs k w' wu hf');have HCP:=sqH (fun w' hf'=>kn A c fs w' wu (fun p hp=>by
  obtain⟨j,hj,rfl⟩:=List.mem_iff_getElem.1 hp;have:=hG.few j hj;omega) hf' hc)
 have HF:=sqH hfn;have hfew:=fun (i:Nat) (h:i<fs.length)=>hG.few i h;have HFE:=sqH hfew;clear hG hfn hfew;go_enter Tryz.func156,Tryz.ntmps156;go_wp2_with fail;refine wZ (HCK.o w hf) fun w1 hb1=>?_;dsimp only;have hf1:=hf.below hb1;have hfi:=HFI.o w1 hf1;rw [HF.o]at hfi;dsimp only at hfi;have HFF:=sqH hfi;clear hfi hf;go_wp2_with fail;refine wZ HFF.o fun w4 hb4=>?_;dsimp only;have hb14:=wm hb1 hb4;have hf4:=hf1.below hb4;have hwl:=HFE.o i hi;obtain⟨b,off,B,cb,rfl,hbb,c0,c1,c2,hrw,hwc,hcbm⟩:=hf4.at_ i hi;obtain⟨s,hs⟩:=wY (⟨fs[i].key.toArray⟩:ByteArray)
 rw [<-hs]at c0;obtain⟨ld,hld⟩:=wY (fs[i].lead)
 obtain⟨wt,hwt⟩:=wY (fs[i].wait)
 rw [<-hld]at c1;rw [<-hwt]at c2 hrw hwc hwl;have HRW:=sqH hrw;have HFL:=sqH hf4;have hLD:=hld.symm;have hWT:=hwt.symm;have HLD:=sqH hLD;have HWT:=sqH hWT;have hi0:=we i
 have hi1:(i:Int)<(fs.length:Int):=wu;have hwi:IntKind.i64.wrap ((i:Int)+1)=(i:Int)+1:=IntWalk.i64_in _ wu;have HS:=sqH (show ∀W:World,Below w4.heap.size w4 W->W.cell? ⟨b,off+i*3,aF⟩=aG (aD s)/\W.cell? ⟨b,off+i*3+1,aF⟩=aG (.int .i64 ld)/\W.cell? ⟨b,off+i*3+2,aF⟩=aG (aA B wt.length cb) from
  fun W hW=>⟨(hW.cell (p:=⟨b,off+i*3,aF⟩) hbb).trans c0,(hW.cell (p:=⟨b,off+i*3+1,aF⟩) hbb).trans c1,(hW.cell (p:=⟨b,off+i*3+2,aF⟩) hbb).trans c2⟩)
 clear hs hld hwt hLD hWT c0 c1 c2 hrw hf1 hf4;go_wp2_with fail;refine wp_region_held_drew (S:=(fun w'=>w'.cell? ⟨b,off+i*3,aF⟩=aG (aD s)/\w'.cell? ⟨b,off+i*3+1,aF⟩=aG (.int .i64 ld)/\w'.cell? ⟨b,off+i*3+2,aF⟩=aG (aA B wt.length cb))) ww ?_ (fun hHeld=> ?_)
 ·exact HS.o _ (Below.refl _ w4).drew
 have hB:=(Below.refl w4.heap.size w4).drew;generalize w4.drew=wn0 at *
 refine wQ 0 ?_;refine wQ 2 ?_;refine wQ 3 ?_;refine wQ 4 ?_;refine wQ 6 ?_;refine wQ 7 ?_;refine wQ 8 ?_;refine wQ 9 ?_;refine wU 1 fun K hK=>?_;have hcp:=HCP.o wn0 (HFL.o.below hB);go_simp;refine(hcp).mono ?_;rintro e5 w5 ⟨v5,rfl,ho5,hb5⟩;dsimp only;obtain⟨gf,cf,rfl,hgf⟩:=ho5.blk_ex wu;refine k5 hK (HS.o _ (wm hB hb5)) (Below w4.heap.size w4) (fun W=>FlsO W w4.heap.size (aA (aG ⟨gf,0,aF⟩) fs.length cf) fs/\w4.heap.size<=gf) (wm hB hb5) ⟨ho5.lower hB.size,Nat.le_trans hB.size hgf⟩ fun wn1 hHeld hst hnew=> ?_;clear hB;have hB:=hst;obtain⟨hnew,hgw⟩:=hnew;clear hst;clear hK K
 try simp only [sqP]
 refine wU 5 fun K hK=>?_;obtain⟨xs,x1,x2,x3⟩:=hnew.del (i:=i) hi;go_simp;refine(Jt _ i fs.length _ _ xs wn1 x1 hi x2).mono ?_;rintro e5 w5 ⟨rfl,y1,y2⟩;dsimp only;refine k5 hK (HS.o _ (hB.grown y2 hB.size (fun g h=>by cases h;exact hgw))) (Below w4.heap.size w4) (fun W=>FlsO W w4.heap.size (aA (aG ⟨gf,0,aF⟩) (fs.length - 1) cf) (fs.eraseIdx i)) (hB.grown y2 hB.size (fun g h=>by cases h;exact hgw)) (x3 _ y1 y2) fun wn2 hHeld hst hnew=> ?_;clear hB;have hB:=hst;clear hst;clear hK K
 try simp only [sqP]
 refine wU 10 fun K hK=>?_;have hcr:=vX s ld B cb wt wn2 wu (HRW.o.below hB);go_simp;refine(hcr).mono ?_;rintro e5 w5 ⟨v5,rfl,ho5,hb5⟩;dsimp only;refine k5 hK ?_ (Below w4.heap.size w4) (fun W=>FlsO W w4.heap.size (aA (aG ⟨gf,0,aF⟩) (fs.length - 1) cf) (fs.eraseIdx i)/\W.ownsRow w4.heap.size 3 1 v5 (wt.length+1) (ins (ld::wt))) ?_ ?_ (fun wn3 hHeld hst hnew2=> ?_)
 ·exact HS.o _ (wm hB hb5)
 ·exact wm hB hb5
 ·exact⟨hnew.below hb5,zb ho5 hB.size⟩
 clear hB;have hB:=hst;clear hst hnew;obtain⟨hnew,hown⟩:=hnew2;clear hK K
 refine wQ 11 ?_;refine wQ 12 ?_;refine wQ 13 ?_;refine wpAnyH_done ww ?_ _;clear hHeld;dsimp only [Exit.then];go_wp2_with fail;go_ret3;rw [HLD.o,HWT.o];exact⟨_,_,rfl,hnew.lower hb14.size,zb hown hb14.size,wm hb14 hB⟩
open Go.Maps
open Go.ChangeShapes (lits)
def grp (fs:List FlP) (k:ai):List Int :=
 match fnd 0 fs k with
 | none=> []
 | some i=>match fs[i]? with
  | none=> []
  | some p=>p.lead::p.wait
theorem xn (h:fnd 0 fs k=aF):grp fs k= []:=by rw [grp,h]
theorem xo (h:fnd 0 fs k=aG i) (hi:i<fs.length):grp fs k=fs[i].lead::fs[i].wait:=by
 rw [grp,h];simp only [List.getElem?_eq_getElem hi]
theorem X5:∀(fs:List FlP) (i j:Nat) (k:ai),fnd i fs k=aG j->∃h:j - i<fs.length,i<=j/\fs[j - i].key=k
 | p::r,i,j,k,h=>by
  rw [fnd]at h
  split at h
  ·rename_i e
   cases h
   refine⟨ab,Nat.le_refl _,?_⟩
   simp only [Nat.sub_self,List.getElem_cons_zero]
   exact e
  ·obtain⟨h1,h2,h3⟩:=X5 r (i+1) j k h
   refine⟨by simp only [List.length_cons];omega,wu,?_⟩
   have e:j - i=(j - (i+1))+1:=wu;simp only [e,List.getElem_cons_succ]
   exact h3
theorem qy {j:Nat} (h:fnd 0 fs k=aG j):∃h:j<fs.length,fs[j].key=k:=by
 obtain⟨h1,_,h2⟩:=X5 fs 0 j k h;exact⟨h1,h2⟩
theorem xm:∀(fs:List FlP) (p:FlP) (i:Nat) (k:ai),fnd i (fs++ [p]) k=match fnd i fs k with | some j=>aG j | none=>if p.key=k then aG (i+fs.length) else aF
 | [],p,i,k=>by simp [fnd]
 | f::fs,p,i,k=>by
  rw [List.cons_append,fnd,fnd]
  by_cases h:f.key=k
  ·rw [if_pos h,if_pos h]
  ·rw [if_neg h,if_neg h,xm fs p (i+1) k,show i+1+fs.length=i+(f::fs).length by simp only [List.length_cons];omega]
theorem jE (h:fnd 0 fs k=aF):grp (fs++ [⟨k,n, []⟩]) k= [n]:=by
 have e:fnd 0 (fs++ [(⟨k,n, []⟩:FlP)]) k=aG fs.length:=by rw [xm,h];simp
 rw [xo e ab];simp
theorem uF (h:k≠k'):grp (fs++ [⟨k,n, []⟩]) k'=grp fs k':=by
 unfold grp;rw [xm];cases e:fnd 0 fs k' with
 | none=>simp [h]
 | some j =>
  obtain⟨hj,_⟩:=qy e;simp only [];rw [List.getElem?_append_left hj]
theorem jN (fs:List FlP) (i:Nat) (p:FlP) (hi:i<fs.length) (hk:p.key=fs[i].key):(fs.set i p).map (·.key)=fs.map (·.key):=by
 rw [List.map_set];apply List.ext_getElem
 ·simp
 ·intro j h1 h2;rw [List.getElem_set];split
  ·rename_i e;subst e;simpa using hk
  ·rfl
theorem Zj (h:fnd 0 fs k=aG i) (hi:i<fs.length) (hk:p.key=fs[i].key):grp (fs.set i p) k=p.lead::p.wait:=by
 have e:fnd 0 (fs.set i p) k=aG i:=by rw [yH (fs.set i p) fs 0 k (jN fs i p hi hk),h]
 rw [xo e (by simpa using hi)];simp
theorem jD (h:fnd 0 fs k=aG i) (hi:i<fs.length) (hk:p.key=fs[i].key) (hne:k≠k'):grp (fs.set i p) k'=grp fs k':=by
 unfold grp;rw [yH (fs.set i p) fs 0 k' (jN fs i p hi hk)];cases e:fnd 0 fs k' with
 | none=>rfl
 | some j =>
  have hne':i≠j:=by
   rintro rfl;obtain⟨_,e1⟩:=qy e;obtain⟨_,e2⟩:=qy h;exact hne (e2.symm.trans e1)
  simp only [];rw [List.getElem?_set_ne hne']
def grpD (l:List Int):DataW Unit:=match l with | []=> .nil | _::_=> .slice (lits .i64 l) []
structure WhoD (fs:List FlP) (D:DataW Unit):Prop where
 tidy:Tidy D
 size:size D=fs.length
 has:∀k,Maps.has D (.string k)=(fnd 0 fs k).isSome
 at_:∀k,D.atKey (.string k) .nil=grpD (grp fs k)
theorem WhoD.nil_:WhoD [] (.map []):=⟨tidy_empty,rfl,fun _=>rfl,fun _=>rfl⟩
theorem QL:∀(l m:List Int),lits (H:=Unit) .i64 l=lits .i64 m->l=m
 | [], [],_=>rfl
 | [],_::_,h=>by simp [lits]at h
 | _::_, [],h=>by simp [lits]at h
 | a::l,b::m,h=>by
  simp only [lits,List.map_cons,List.cons.injEq]at h
  obtain⟨h1,h2⟩:=h
  injection h1 with h1
  injection h1 with _ h1
  rw [h1,QL l m h2]
theorem QK {zs:List Int} (ho:w.ownsInts base e .i64 v zs) (hat:grpD l=rowDatum .i64 v zs):zs=l:=by
 rcases ho.datum (H:=Unit) with ⟨h1,rfl⟩ | h1
 ·rw [h1]at hat
  cases l with
  | nil=>rfl
  | cons a l=>cases hat
 ·rw [h1]at hat
  cases l with
  | nil=>cases hat
  | cons a l =>
   injection hat with h;exact(QL _ _ h).symm
theorem jc (k:ai):WideAt.IsKeyLit (.string k):=by simp [WideAt.IsKeyLit]
theorem WhoD.new {D:DataW Unit} (h:WhoD fs D) (hf:fnd 0 fs k=aF):WhoD (fs++ [⟨k,n, []⟩]) (D.put (.string k) (grpD [n])):=by
 have hh:Maps.has D (.string k)=false:=by rw [h.has,hf];rfl
 refine⟨h.tidy.put (jc k) _,?_,fun k'=> ?_,fun k'=> ?_⟩
 ·rw [size_put h.tidy,hh,h.size];simp
 ·by_cases e:k'=k
  ·subst e;rw [has_put_same h.tidy.isMap (jc k') _,xm,hf];simp
  ·rw [has_put_other (by simpa using e),h.has,xm];cases fnd 0 fs k' with
   | none=>simp [Ne.symm e]
   | some j=>rfl
 ·by_cases e:k'=k
  ·subst e;rw [atKey_put_same h.tidy.isMap (jc k') _ _,jE hf]
  ·rw [atKey_put_other (by simpa using e),h.at_,uF (Ne.symm e)]
theorem WhoD.more {D:DataW Unit} (h:WhoD fs D) (hf:fnd 0 fs k=aG i) (hi:i<fs.length) (hk:p.key=fs[i].key):WhoD (fs.set i p) (D.put (.string k) (grpD (p.lead::p.wait))):=by
 have hh:Maps.has D (.string k)=true:=by rw [h.has,hf];rfl
 refine⟨h.tidy.put (jc k) _,?_,fun k'=> ?_,fun k'=> ?_⟩
 ·rw [size_put h.tidy,hh,h.size,List.length_set];simp
 ·rw [yH (fs.set i p) fs 0 k' (jN fs i p hi hk)];by_cases e:k'=k
  ·subst e;rw [has_put_same h.tidy.isMap (jc k') _,hf];rfl
  ·rw [has_put_other (by simpa using e),h.has]
 ·by_cases e:k'=k
  ·subst e;rw [atKey_put_same h.tidy.isMap (jc k') _ _,Zj hf hi hk]
  ·rw [atKey_put_other (by simpa using e),h.at_,jD hf hi hk (Ne.symm e)]
section
variable {P:Program} {k e:TypeId} {q:IntKind} {wr w:World} {base b n:Nat} {D:DataW Unit}
theorem q8 (h:wr.ownsGroups P k base e q b n D) (hb:Below wr.heap.size wr w):w.ownsGroups P k base e q b n D :=
 h.kept (row:=aF) ⟨hb.os,hb.tape,hb.output,hb.size,fun k hk _=>hb.block k hk⟩ ab (fun es aK _ x _=>Classical.em _)
theorem yy {t E:TypeId} {kl:Lit} (h:wr.ownsGroups P k base e q b n D) (hb:Below wr.heap.size wr w) (K:Keyed P k) (ht:P.underlying t=aG (.map k E)) (hz:(zeroValue E).run P w= .ok (.slice aF 0 0) w) (hn:n<maxLen) (hkey:keyOf P k key=aG kl) :
  ∃v zs,(Instr.lookup t (.map (aG b)) key false).run P w= .ok v w/\D.atKey kl .nil=rowDatum q v zs/\w.ownsInts base e q v zs/\zs.length<=n/\w.groupBack P t k base e q b n D key kl v/\(∀g,v.ownBlock=aG g->base<=g/\g<wr.heap.size):=by
 have hg:wr.grownBy w aF:=⟨hb.os,hb.tape,hb.output,hb.size,fun k hk _=>hb.block k hk⟩
 have hS:w.Shuns b (fun g=>wr.heap.size<=g):=by
  have h1:wr.Shuns b (fun _=>False):=fun _ _ _ _ _ _ _ h=>h;refine(h1.reno h (No':=fun g=>wr.heap.size<=g) (fun g hg=> .inr hg)).kept hg ?_ ab;obtain⟨es,aK,hbb,_⟩:=h;exact(Array.getElem?_eq_some_iff.1 hbb).1
 have hown:=q8 h hb;obtain⟨v,zs,hrun,hat,hoi,hzl,hback⟩:=hown.at K ht hz hn hkey;refine⟨v,zs,hrun,hat,hoi,hzl,hback,fun g hg'=>⟨(hoi.1.lt g hg').1,?_⟩⟩;obtain⟨es,aK,hbb,F,_⟩:=hown;rcases Maps.fit_look false K ht hz hbb F hkey with ⟨hrun',_,_⟩ | ⟨e0,y,hm0,_,hrun',_,_,_⟩
 ·rw [hrun]at hrun';obtain rfl:v= .slice aF 0 0:=by simpa using hrun'
  cases hg'
 ·rw [hrun]at hrun';obtain rfl:v=e0.val:=by simpa using hrun'
  exact Nat.lt_of_not_le (hS es aK hbb e0 hm0 g hg')
theorem ye {n':Nat} (h:wr.ownsGroups P k base e q b n D) (hn:n<=n'):wr.ownsGroups P k base e q b n' D:=by
 obtain⟨es,aK,hb,F,hs,hD,hbb,hlen,hap⟩:=h;exact⟨es,aK,hb,F,Nat.le_trans hs hn,hD,hbb,fun x hx zs ho=>Nat.le_trans (hlen x hx zs ho) hn,hap⟩
end
theorem zT:∀(fs:List FlP) (i:Nat) (k:ai),fnd i fs k=aF↔∀p∈fs,p.key≠k
 | [],i,k=>by simp [fnd]
 | f::fs,i,k=>by
  rw [fnd]
  by_cases h:f.key=k
  ·rw [if_pos h]
   constructor
   ·intro e;cases e
   ·intro e;exact absurd h (e f ab)
  ·rw [if_neg h,zT fs (i+1) k]
   constructor
   ·intro e p hp
    rcases List.mem_cons.1 hp with rfl | hp
    ·exact h
    ·exact e p hp
   ·intro e p hp;exact e p (by simp [hp])
theorem GoodF.nodup (h:GoodF fs):(fs.map (·.key)).Nodup:=by
 rw [List.Nodup,List.pairwise_map,List.pairwise_iff_getElem];intro i j hi hj hij;have h1:=(zT _ _ _).1 (h.one j hj) fs[i] (by
  rw [List.mem_take_iff_getElem];exact⟨i,wu,rfl⟩)
 exact h1
theorem GoodF.of (h6:fs.length<=6) (h:∀p∈fs,(hexC p.key=0/\p.key.length<=1000)/\p.wait.length<=5/\CrewOk (p.lead::p.wait)) (hn:(fs.map (·.key)).Nodup):GoodF fs:=by
 refine⟨h6,fun j hj=>(h _ (List.getElem_mem hj)).1,fun j hj=> ?_,fun j hj=>(h _ (List.getElem_mem hj)).2.1,fun j hj=>(h _ (List.getElem_mem hj)).2.2⟩;rw [zT];intro p hp;rw [List.mem_take_iff_getElem]at hp;obtain⟨i,hi,rfl⟩:=hp;rw [List.Nodup,List.pairwise_map,List.pairwise_iff_getElem]at hn;exact hn i j wu hj wu
theorem GoodF.all (h:GoodF fs):∀p∈fs,(hexC p.key=0/\p.key.length<=1000)/\p.wait.length<=5/\CrewOk (p.lead::p.wait):=fun p hp=>by
 obtain⟨j,hj,rfl⟩:=List.mem_iff_getElem.1 hp
 exact⟨h.key j hj,h.few j hj,h.crew j hj⟩
theorem GoodF.erase (h:GoodF fs) (i:Nat):GoodF (fs.eraseIdx i):=by
 refine GoodF.of ?_ (fun p hp=>h.all p (List.mem_of_mem_eraseIdx hp)) ?_
 ·have:=List.length_eraseIdx_le fs i;have:=h.len;omega
 ·exact h.nodup.sublist ((List.eraseIdx_sublist fs i).map _)
theorem Xc (hn:(fs.map (·.key)).Nodup) (hp:p∈fs):grp fs p.key=p.lead::p.wait:=by
 cases e:fnd 0 fs p.key with
 | none=>exact absurd rfl ((zT _ _ _).1 e p hp)
 | some i =>
  obtain⟨hi,hk⟩:=qy e;rw [xo e hi];obtain⟨j,hj,rfl⟩:=List.mem_iff_getElem.1 hp;have hij:i=j:=by
   rw [List.Nodup,List.pairwise_map,List.pairwise_iff_getElem]at hn;rcases Nat.lt_trichotomy i j with h | h | h
   ·exact absurd hk (hn i j hi hj h)
   ·exact h
   ·exact absurd hk.symm (hn j i hj hi h)
  subst hij;rfl
theorem Xr (hi:i<fs.length) (hp:p∈fs) (hk:p.key≠fs[i].key):p∈fs.eraseIdx i:=by
 rw [List.eraseIdx_eq_take_drop_succ];obtain⟨j,hj,rfl⟩:=List.mem_iff_getElem.1 hp;rcases Nat.lt_trichotomy j i with h | h | h
 ·exact List.mem_append_left _ (by rw [List.mem_take_iff_getElem];exact⟨j,wu,rfl⟩)
 ·subst h;exact absurd rfl hk
 ·refine List.mem_append_right _ (List.mem_drop_iff_getElem.2 ⟨j - (i+1),wu,?_⟩)
  congr 1;omega
theorem kJ (hn:(fs.map (·.key)).Nodup) (hi:i<fs.length):fnd 0 (fs.eraseIdx i) fs[i].key=aF:=by
 rw [zT];intro p hp e;rw [List.eraseIdx_eq_take_drop_succ]at hp;rw [List.Nodup,List.pairwise_map,List.pairwise_iff_getElem]at hn;rcases List.mem_append.1 hp with h | h
 ·rw [List.mem_take_iff_getElem]at h;obtain⟨j,hj,rfl⟩:=h;exact hn j i wu hi wu e
 ·rw [List.mem_drop_iff_getElem]at h;obtain⟨j,hj,rfl⟩:=h;exact hn i (i+1+j) hi wu wu e.symm
theorem yx (hi:i<fs.length) (hk:k≠fs[i].key):(fnd 0 (fs.eraseIdx i) k).isSome=(fnd 0 fs k).isSome:=by
 have h:fnd 0 (fs.eraseIdx i) k=aF↔fnd 0 fs k=aF:=by
  rw [zT,zT];constructor
  ·intro h p hp e;exact h p (Xr hi hp (by rw [e];exact hk)) e
  ·intro h p hp;exact h p (List.mem_of_mem_eraseIdx hp)
 cases e1:fnd 0 (fs.eraseIdx i) k with
 | none=>rw [h.1 e1]
 | some a =>
  cases e2:fnd 0 fs k with
  | none=>rw [h.2 e2]at e1;cases e1
  | some b=>rfl
theorem Xb (hn:(fs.map (·.key)).Nodup) (h:(fnd 0 (fs.eraseIdx i) k).isSome=true):grp (fs.eraseIdx i) k=grp fs k:=by
 have hn2:((fs.eraseIdx i).map (·.key)).Nodup:=hn.sublist ((List.eraseIdx_sublist fs i).map _);cases e:fnd 0 (fs.eraseIdx i) k with
 | none=>rw [e]at h;cases h
 | some j =>
  obtain⟨hj,rfl⟩:=qy e;have hm:=List.getElem_mem hj;rw [Xc hn2 hm,Xc hn (List.mem_of_mem_eraseIdx hm)]
theorem wfI (h1: -9223372036854775808<=n) (h2:n<=9223372036854775807):(Lit.int .i64 n).wf=true:=by
 simp only [Lit.wf,IntKind.min,IntKind.max,IntKind.signed,IntKind.bits,Bool.and_eq_true,decide_eq_true_eq,if_true];omega
theorem Vc (w:World):(zeroValue 45).run zZZ w= .ok (.slice aF 0 0) w:=by kernel_rfl
theorem z0b (l:ai) (h:l.length=64):keyOf zZZ 9 (.string ⟨l.toArray⟩)=aG (.string l):=by
 have h1:=WideMaps.keyOf_string_mk (P:=zZZ) (k:=9) Tryz.underlying9 (s:=⟨l.toArray⟩) (by show l.toArray.size<=_;rw [List.size_toArray,h];decide);simpa using h1
theorem KD:Keyed zZZ 9:=Keyed.of_law (WideMaps.string_law Tryz.underlying9)
theorem FlsO.cap (h:FlsO w base v fs):∀A n c,v= .slice A n c->c<=maxLen:=by
 rintro A n c rfl;obtain⟨As,h1,h2,h3,h4⟩:=h;rcases h2.2 with ⟨h1,h2⟩ | ⟨_,cap,_,h1,_,_,h2,h3,_⟩
 ·injection h1 with _ _ h3;subst h3;simp [maxLen]
 ·injection h1 with _ _ h4;subst h4;exact h3
open Go.WideMaps
section
variable {P:Program} {t k E e:TypeId} {q:IntKind} {w:World} {base b n:Nat} {D:DataW Unit}
theorem uh (s:ByteArray):∀(es:List MapEntry) (i:Nat),(∀x∈es,∃s':ByteArray,x.key= .string s')->∃r,Instr.findNow .string (.string s) es i=aG r
 | [],i,_=>⟨aF,rfl⟩
 | x::es,i,h=>by
  obtain⟨s',hs'⟩:=h x ab
  obtain⟨r,hr⟩:=uh s es (i+1) fun y hy=>h y (by simp [hy])
  rw [Instr.findNow,hs',Instr.sameNow]
  cases s==s'
  ·exact⟨r,hr⟩
  ·exact⟨_,rfl⟩
theorem Ug (hk:P.underlying k=aG .string) (K:Keyed P k) (ht:P.underlying t=aG (.map k E)) {z:Value} (hz:∀W,(zeroValue E).run P W= .ok z W) (h:w.ownsGroups P k base e q b n D) {kl:Lit} (hkey:keyOf P k key=aG kl) :
  ∃v,∀W:World,W.heap[b]?=w.heap[b]?->(Instr.lookup t (.map (aG b)) key false).run P W= .ok v W:=by
 obtain⟨es,aK,hb,F,_⟩:=h;obtain⟨s,rfl,_,_⟩:=string_of_keyOf hk hkey;have hstr:∀x∈es.toList,∃s':ByteArray,x.key= .string s':=fun x hx=>by
  obtain⟨y,hy⟩:=F.reads x hx;obtain⟨s',h1,_⟩:=string_of_keyOf hk (Go.WideElems.rd_key hy);exact⟨s',h1⟩
 obtain⟨r,hr⟩:=uh s es.toList 0 hstr;have hf:∀W,(Instr.findKey k (.string s) es.toList).run P W= .ok r W:=fun W=>by
  simp [Instr.findKey,run_underlying hk,hr,Result.andThen]
 refine⟨match r with | none=>z | some p=>p.2,fun W hW=> ?_⟩;rw [hb]at hW;cases r with
 | none=>simp [Instr.lookup,run_underlying ht,MapKept.run_getObj_map hW,K.check W _ hkey,hf W,hz W,Result.andThen]
 | some p=>simp [Instr.lookup,run_underlying ht,MapKept.run_getObj_map hW,K.check W _ hkey,hf W,Result.andThen]
theorem Q4 (hk:P.underlying k=aG .string) (K:Keyed P k) (ht:P.underlying t=aG (.map k E)) (hz:∀W,(zeroValue E).run P W= .ok (.slice aF 0 0) W) (h:w.ownsGroups P k base e q b n D) (hn:n<maxLen) {kl:Lit} (hkey:keyOf P k key=aG kl) :
  ∃v zs,(∀W:World,W.heap[b]?=w.heap[b]?->(Instr.lookup t (.map (aG b)) key false).run P W= .ok v W)/\D.atKey kl .nil=rowDatum q v zs/\w.ownsInts base e q v zs/\zs.length<=n:=by
 obtain⟨v,hv⟩:=Ug hk K ht hz h hkey;obtain⟨v',zs,h1,h2,h3,h4,_⟩:=yy h (Below.refl _ _) K ht (hz w) hn hkey;have:=(hv w rfl).symm.trans h1;injection this with e1;subst e1;exact⟨v,zs,hv,h2,h3,h4⟩
end
end Go.Proofs.YtaboknhfiijipaaGreat
