/- Lemmas, as stated. -/
import Derived.ArgAppend
import Derived.Lib.SlBytesConst
import Derived.BigRegion
import Derived.Test.YtaboknhfiijipaaGreatQO05
import Derived.Test.YtaboknhfiijipaaGreatQO06
set_option linter.unusedVariables false
set_option linter.unusedSimpArgs false
set_option maxRecDepth 100000
set_option maxHeartbeats 4000000
open Go.Proofs.Tryz
open Go.Proofs.Tryz renaming prog->zZZ
open Go.Value renaming slice->aA,int->aB,string->aD
open Go.IntKind renaming i64->aC
open Go.Obj renaming cells->aE
open Option renaming none->aF,some->aG
namespace Go.Proofs.YtaboknhfiijipaaGreat
open Go.RowKit
variable {α:Type} {m:List BlobP} {l:List α} {b base bytes c cap g k n o size:Nat} {p:PartP} {e e' t:TypeId} {a0 a1 a2 a3 v:Value} {W w w':World} {X x y:ai} {A B:aj} {Y xs ys:ak} {N:am} {f:α->List UInt8}
def xM (p:PartP):ai:=txt p.name++(xJ p.dig).1++num p.size
def enc (l:List PartP):ai:= [65,77,49]++num l.length++l.flatMap xM
def z1e (W:World) (base:Nat) (v:Value) (X:ai):Prop :=
 W.ownsRow base 5 1 v X.length (bys X)\/(∃g,v= aA (aG ⟨g,0,aF⟩) X.length X.length/\Rd W 1 (aG ⟨g,0,aF⟩) X.length (bys X))
theorem z1e.below {W':World} (h:z1e W base v X) (hb:Below W.heap.size W W'):z1e W' base v X :=
 h.imp (fun h=>zc h hb) (fun ⟨g,e,h⟩=>⟨g,e,h.below hb⟩)
theorem z1e.lt (h:z1e W base v X) (h0:0<X.length):∀k,v.ownBlock=aG k->k<W.heap.size:=fun k hk=>by
 rcases h with h | ⟨g,rfl,hr⟩
 ·exact(h.lt k hk).2
 ·obtain⟨b,off,e,hb,_⟩:=hr.2 h0
  injection hk with hk;injection e with e;injection e with e1
  simp only at hk
  omega
theorem UG:∀(l r:ai),xd l=aG r->l.length=2*r.length:=fun l r h=>by
 have:=Zm l r h
 rw [<-this,yf]
theorem Zl {d:ai} (h:hexC d=0):(xJ d).2=0/\(xJ d).1.length=32:=by
 unfold hexC at h;by_cases h64:d.length=64
 ·rw [if_neg wu]at h;refine⟨h,?_⟩;unfold xJ at h ⊢
  rw [if_neg wu,if_neg wu]at h ⊢
  cases hu:xd d with
  | none=>rw [hu]at h;cases h
  | some r=>have:=UG d r hu;simp only [];omega
 ·rw [if_pos h64]at h;cases h
theorem xQ {s:ai} (h:qY s=0):1<=s.length/\s.length<=12:=by
 unfold qY at h;by_cases hb:s.length<1\/12<s.length
 ·rw [if_pos hb]at h;cases h
 ·omega
theorem uQ:∀(l:List PartP) (q:Option (ai)),yn q l=0->∀p∈l,qY p.name=0/\hexC p.dig=0/\p.size<=300
 | [],_,_,p,hp=>by cases hp
 | x::l,q,h,p,hp=>by
  rw [qX]at h
  by_cases h1:qY x.name=0
  ·rw [if_neg (fun e=>e h1)]at h
   have key:∀bb:Bool,(if bb=true then 6 else if hexC x.dig≠0 then hexC x.dig else if 300<x.size then 4 else yn (aG x.name) l)=0->qY p.name=0/\hexC p.dig=0/\p.size<=300:=fun bb h=>by
    cases bb with
    | true=>rw [if_pos rfl]at h;exact absurd h aa
    | false =>
     rw [if_neg aa]at h
     by_cases h2:hexC x.dig=0
     ·rw [if_neg (fun e=>e h2)]at h
      by_cases h3:300<x.size
      ·rw [if_pos h3]at h;exact absurd h aa
      ·rw [if_neg h3]at h
       rcases List.mem_cons.1 hp with rfl | hp
       ·exact⟨h1,h2,wu⟩
       ·exact uQ l _ h p hp
     ·rw [if_pos h2]at h;exact absurd h h2
   exact key _ h
  ·rw [if_pos h1]at h;exact absurd h h1
theorem zk {l:List PartP} (h:chk l=0):l.length<=8/\∀p∈l,qY p.name=0/\hexC p.dig=0/\p.size<=300:=by
 unfold chk at h;by_cases hb:8<l.length
 ·rw [if_pos hb]at h;cases h
 ·rw [if_neg hb]at h;exact⟨wu,uQ l aF h⟩
theorem U1 (h:qY p.name=0/\hexC p.dig=0/\p.size<=300):1<=(txt p.name).length/\(txt p.name).length<=14/\1<=(num p.size).length/\(num p.size).length<=2/\(xM p).length<=48:=by
 have h1:=xQ h.1;have h2:=z11 p.name wu;have h3:=Zl h.2.1;have h4:=Xz p.size 1 wu;simp only [xM,List.length_append];omega
theorem jC (l:List PartP) (h:∀p∈l,qY p.name=0/\hexC p.dig=0/\p.size<=300):(l.flatMap xM).length<=48*l.length:=by
 induction l with
 | nil=>simp
 | cons x l ih =>
  have h1:=(U1 (h x ab)).2.2.2.2;have h2:=ih (fun p hp=>h p (by simp [hp]));simp only [List.flatMap_cons,List.length_append,List.length_cons];omega
theorem Ky {q:Option (ai)} {r:List PartP} (h1:qY p.name=0) (h2:∀n,q=aG n->leS p.name n=false) (h3:hexC p.dig=0) (h4:p.size<=300):yn q (p::r)=yn (aG p.name) r:=by
 rw [qX,if_neg (fun e=>e h1)];cases q with
 | none=>simp only [];rw [if_neg aa,if_neg (fun e=>e h3),if_neg wu]
 | some n=>simp only [h2 n rfl];rw [if_neg aa,if_neg (fun e=>e h3),if_neg wu]
theorem YT (l:List PartP) (h:l.length<=8):enc l= [65,77,49,UInt8.ofNat l.length]++l.flatMap xM:=by
 rw [enc,kf wu];simp
theorem uV (l:List PartP) (h:l.length<=8):(enc l).length=4+(l.flatMap xM).length:=by rw [YT l h];simp;omega
def keyS (k:Nat):ai:=shaS [107,UInt8.ofNat k]
theorem UQ (n:Int) (w:World) (h0: -9223372036854775808<=n) (h1:n<=9223372036854775807) :
  Calls zZZ 9 #[aB aC n] w fun e w'=>e= .returned (aD ⟨(keyS (pk n 7)).toArray⟩)/\Below w.heap.size w w':=by
 have HP:=sqH (fun w'=>qi n 7 7 rfl w' h0 h1 wu wu);have hk:=yB n (m:=7) wu;generalize pk n 7=k at *
 obtain⟨b,hb⟩:=wY (UInt8.ofNat k)
 have hw:IntKind.u8.wrap (k:Int)=(b.toNat:Int):=by rw [hb,IntKind.wrap_u8,UInt8.toNat_ofNat'];omega
 have HK:=sqH (show keyS k=shaS [107,b] from by rw [keyS,hb]);have hr:Rd (w.alloc (aE #[aB .u8 107,aB .u8 (b.toNat:Int)] 5)) 1 (aG ⟨w.heap.size,0,aF⟩) 2 (bys [107,b]):=Rd.newN (w:=w) (e:=5) (size:=1) (m:=2) (bys [107,b]) rfl;have hb1:=ws w (aE #[aB .u8 107,aB .u8 (b.toNat:Int)] 5);have HD:=sqH (yr (aG ⟨w.heap.size,0,aF⟩) 2 2 [107,b] _ rfl wu wu hr);clear hb hr;go_enter func9,ntmps9;go_wp2_with fail;refine(HP.o _).mono ?_;rintro e_ _ ⟨rfl,rfl⟩;dsimp only;go_wp2_with fail;refine wZ HD.o fun w2 hb2=>?_;dsimp only;go_wp2_with fail;go_ret;rw [HK.o];exact⟨rfl,wm hb1 hb2⟩
structure FlP where
 key:ai
 lead:Int
 wait:List Int
def qM (p:FlP) (A:aj) (c:Nat):ak:= [aD ⟨p.key.toArray⟩,aB aC p.lead,aA A p.wait.length c]
def ins (l:List Int):ak:=l.map (aB aC ·)
def Fls (w:World) (A:aj) (fs:List FlP):Prop :=
 ∃(As:List (aj×Nat)),As.length=fs.length/\Rd w 3 A fs.length ((fs.zip As).flatMap fun x=>qM x.1 x.2.1 x.2.2) /\
  ∀(k:Nat) (p:FlP) (a:aj×Nat),fs[k]?=aG p->As[k]?=aG a->Rd w 1 a.1 p.wait.length (ins p.wait)/\p.wait.length<=a.2/\a.2<=maxLen
theorem Fls.below {fs:List FlP} (h:Fls w A fs) (hb:Below w.heap.size w w'):Fls w' A fs:=by
 obtain⟨As,h1,h2,h3⟩:=h;exact⟨As,h1,h2.below hb,fun k p a hp ha=>⟨(h3 k p a hp ha).1.below hb,(h3 k p a hp ha).2⟩⟩
theorem ue:∀(fs:List FlP) (As:List (aj×Nat)) (k j:Nat) (p:FlP) (a:aj×Nat),fs[k]?=aG p->As[k]?=aG a->j<3 ->
  ((fs.zip As).flatMap fun x=>qM x.1 x.2.1 x.2.2)[k*3+j]?=(qM p a.1 a.2)[j]?
 | f::fs,a'::As,0,j,p,a,hp,ha,hj=>by
  simp only [List.getElem?_cons_zero,Option.some.injEq]at hp ha
  subst hp ha
  rw [List.zip_cons_cons,List.flatMap_cons,Nat.zero_mul,Nat.zero_add,List.getElem?_append_left (by simpa [qM] using hj)]
 | f::fs,a'::As,k+1,j,p,a,hp,ha,hj=>by
  rw [List.zip_cons_cons,List.flatMap_cons,List.getElem?_append_right (by simp [qM];omega)]
  rw [show(k+1)*3+j - (qM f a'.1 a'.2).length=k*3+j by simp [qM];omega]
  exact ue fs As k j p a (by simpa using hp) (by simpa using ha) hj
theorem Fls.at_ {fs:List FlP} (h:Fls w A fs) (k:Nat) (hk:k<fs.length) :
  ∃b off B c,A=aG ⟨b,off,aF⟩/\b<w.heap.size/\w.cell? ⟨b,off+k*3,aF⟩=aG (aD ⟨fs[k].key.toArray⟩)/\w.cell? ⟨b,off+k*3+1,aF⟩=aG (aB aC fs[k].lead) /\
   w.cell? ⟨b,off+k*3+2,aF⟩=aG (aA B fs[k].wait.length c)/\Rd w 1 B fs[k].wait.length (ins fs[k].wait)/\fs[k].wait.length<=c/\c<=maxLen:=by
 obtain⟨As,h1,h2,h3⟩:=h;obtain⟨b,off,rfl,hb,hc⟩:=h2.2 wu;have hp:fs[k]?=aG fs[k]:=List.getElem?_eq_getElem hk;have hka:k<As.length:=wu;have ha:As[k]?=aG As[k]:=List.getElem?_eq_getElem hka;have hat:=fun j hj=>ue fs As k j fs[k] As[k] hp ha hj;obtain⟨h4,h5,h6⟩:=h3 k _ _ hp ha;have c0:=hc (k*3+0) _ ((hat 0 wu).trans rfl);have c1:=hc (k*3+1) _ ((hat 1 wu).trans rfl);have c2:=hc (k*3+2) _ ((hat 2 wu).trans rfl);refine⟨b,off,As[k].1,As[k].2,rfl,hb,c0,?_,?_,h4,h5,h6⟩
 ·rw [<-c1];congr 2
 ·rw [<-c2];congr 2
def xT (l:List BlobP) (r:RawP) (i:Nat):PartP :=
 let b:=(l[pk (IntKind.i64.wrap (r.b+7*(i:Int))) l.length]?).getD ⟨[], [],0,false⟩
 ⟨[112,UInt8.ofNat (97+i)],b.dig,b.data.length⟩
def zX (l:List BlobP) (r:RawP):List PartP:=if l.length=0 then [] else (List.range (pk r.a 4)).map (xT l r)
structure AccP where
 aI:List BlobP
 aJ:List EntP
 used:Nat
 aK:Nat
def jb (bl:List BlobP) (r:RawP):ai:=if pk r.kind 6=3 then enc (zX bl r) else JT r 40
def z2n (bl:List BlobP) (r:RawP):BlobP:=⟨shaS (jb bl r),jb bl r,pk r.b 5 - 3,false⟩
def z3r (bl:List BlobP) (c:Nat) (r:RawP):EntP:=⟨keyS (pk r.a 7),zX bl r,pk r.b 5 - 3,c⟩
def Jc (s:AccP) (r:RawP):AccP :=
 if pk r.kind 6<4 then
  if s.aI.any (fun b=>b.dig==shaS (jb s.aI r)) then s else { s with aI:=s.aI++ [z2n s.aI r],used:=s.used+(jb s.aI r).length }
 else
  if s.aJ.any (fun x=>x.key==keyS (pk r.a 7)) then { s with aK:=s.aK+pk r.b 3 } else { s with aK:=s.aK+pk r.b 3,aJ:=s.aJ++ [z3r s.aI (s.aK+pk r.b 3) r] }
def usd (l:List BlobP):Nat:=(l.map (·.data.length)).sum
theorem Qj (l m:List BlobP):usd (l++m)=usd l+usd m:=by simp [usd]
theorem UJ {l:List BlobP} (h:l.Perm m):usd l=usd m:=(h.map _).sum_nat
def Have (l:List BlobP) (ps:List PartP):Prop:=∀p∈ps,∃b∈l,b.dig=p.dig/\b.data.length=p.size
def GoodB1 (b:BlobP):Prop:=b.dig=shaS b.data/\b.data.length<=300/\b.aQ<=5
structure GoodB (l:List BlobP):Prop where
 len:l.length<=24
 one:∀b∈l,GoodB1 b
 ris:RisesBy (·.dig) l
def GoodE1 (x:EntP):Prop:=hexC x.key=0/\chk x.aP=0/\x.aQ<=5/\x.aO<=1099511627776
structure GoodE (l:List EntP):Prop where
 len:l.length<=10
 one:∀x∈l,GoodE1 x
 ris:RisesBy (·.key) l
structure GoodS (s:StoP):Prop where
 b:GoodB s.aI
 e:GoodE s.aJ
 aL:s.aL<=4000
 used:usd s.aI<=s.aL
 aK:s.aK<=1099511627776
 ent:∀x∈s.aJ,x.aO<=s.aK/\Have s.aI x.aP
theorem Have.mono {l:List BlobP} {ps:List PartP} (h:Have l ps) (hm:∀b∈l,b∈m):Have m ps:=fun p hp=>by
 obtain⟨b,hb,h2⟩:=h p hp
 exact⟨b,hm b hb,h2⟩
theorem uq (l:List BlobP) (r:RawP):(zX l r).length<=3:=by
 have:=yB r.a (m:=4) wu;rw [zX];split
 ·simp
 ·simp;omega
theorem XJ {l:List BlobP} {r:RawP} {i:Nat} (h:l.length≠0):∃b∈l,(xT l r i).dig=b.dig/\(xT l r i).size=b.data.length:=by
 have h1:=yB (IntKind.i64.wrap (r.b+7*(i:Int))) (m:=l.length) wu;refine⟨l[pk (IntKind.i64.wrap (r.b+7*(i:Int))) l.length],List.getElem_mem h1,?_⟩;simp only [xT,List.getElem?_eq_getElem h1,Option.getD_some,and_self]
theorem Ux (l:List BlobP) (r:RawP):Have l (zX l r):=fun p hp=>by
 rw [zX]at hp
 split at hp
 ·cases hp
 ·rename_i h0
  obtain⟨i,_,rfl⟩:=List.mem_map.1 hp
  obtain⟨b,hb,h1,h2⟩:=XJ (r:=r) (i:=i) h0
  exact⟨b,hb,h1.symm,h2.symm⟩
theorem z3p:∀i,i<3->qY [112,UInt8.ofNat (97+i)]=0:=by decide
theorem ple:∀i j,i<3->j<i->leS [112,UInt8.ofNat (97+i)] [112,UInt8.ofNat (97+j)]=false:=by
 have key:∀i j:Fin 3,j.val<i.val->leS [112,UInt8.ofNat (97+i.val)] [112,UInt8.ofNat (97+j.val)]=false:=by decide +kernel
 exact fun i j h h'=>key ⟨i,h⟩ ⟨j,wu⟩ h'
theorem Qz (f:Nat->PartP) (hn:∀i,(f i).name= [112,UInt8.ofNat (97+i)]) (hf:∀i,hexC (f i).dig=0/\(f i).size<=300):∀(n i:Nat) (q:Option (ai)),i+n<=3->(q=aF\/∃j,j<i/\q=aG [112,UInt8.ofNat (97+j)])->yn q ((List.range' i n).map f)=0
 | 0,_,q,_,_=>by cases q<;>rfl
 | n+1,i,q,hi,hq=>by
  rw [List.range'_succ,List.map_cons,Ky (by rw [hn];exact z3p i wu) (fun m hm=> ?_) (hf i).1 (hf i).2]
  ·exact Qz f hn hf n (i+1) _ wu (.inr ⟨i,wu,by rw [hn]⟩)
  ·rcases hq with h | ⟨j,hj,h⟩
   ·rw [h]at hm;cases hm
   ·rw [h]at hm;cases hm;rw [hn];exact ple i j wu hj
theorem vS {l:List BlobP} (h:∀b∈l,hexC b.dig=0/\b.data.length<=300) (r:RawP):chk (zX l r)=0:=by
 have h3:=uq l r;have h4:=yB r.a (m:=4) wu;rw [chk,if_neg wu,zX];split
 ·rfl
 ·rename_i h0;rw [List.range_eq_range'];refine Qz _ (fun i=>rfl) (fun i=> ?_) _ 0 aF wu (.inl rfl);obtain⟨b,hb,e1,e2⟩:=XJ (l:=l) (r:=r) (i:=i) h0;rw [e1,e2];exact h b hb
structure AccOk (k:Nat) (s:AccP):Prop where
 blen:s.aI.length<=k
 bnd:(s.aI.map (·.dig)).Nodup
 bone:∀b∈s.aI,b.dig=shaS b.data/\b.data.length<=148/\b.aQ<=1/\b.mark=false
 used:s.used=usd s.aI
 usedk:s.used<=148*k
 elen:s.aJ.length<=k
 end_:(s.aJ.map (·.key)).Nodup
 eone:∀x∈s.aJ,(∃j,j<7/\x.key=keyS j)/\chk x.aP=0/\x.aP.length<=3/\x.aQ<=1/\x.aO<=s.aK/\Have s.aI x.aP
 aK:s.aK<=2*k
theorem AccOk.hex {s:AccP} (h:AccOk k s):∀b∈s.aI,hexC b.dig=0/\b.data.length<=300:=fun b hb=>by
 obtain⟨h1,h2,_⟩:=h.bone b hb
 exact⟨by rw [h1];exact zy _,wu⟩
theorem KQ {s:AccP} (h:AccOk k s) (r:RawP):(jb s.aI r).length<=148:=by
 rw [jb];split
 ·have h3:=uq s.aI r;have hz:=zk (vS h.hex r);rw [uV _ hz.1];have:=jC _ hz.2;omega
 ·have:=QC r 40;omega
theorem Xx (h:¬(l.any fun b=>f b==x)=true):∀b∈l,f b≠x:=fun b hb e=>h (List.any_eq_true.2 ⟨b,hb,by simp [e]⟩)
theorem uY {x:α} (h:(l.map f).Nodup) (hx:∀b∈l,f b≠f x):((l++ [x]).map f).Nodup:=by
 rw [List.map_append,List.nodup_append];refine⟨h,ab,fun a ha b hb=> ?_⟩;obtain⟨y,hy,rfl⟩:=List.mem_map.1 ha;simp only [List.map_cons,List.map_nil,List.mem_singleton]at hb;subst hb;exact hx y hy
theorem AccOk.step {s:AccP} (h:AccOk k s) (r:RawP):AccOk (k+1) (Jc s r):=by
 have hb5:=yB r.b (m:=5) wu;have hb3:=yB r.b (m:=3) wu;have hl:=KQ h r;rw [Jc];split
 ·split
  ·exact⟨by have:=h.blen;omega,h.bnd,h.bone,h.used,by have:=h.usedk;omega,by have:=h.elen;omega,h.end_,h.eone,by have:=h.aK;omega⟩
  ·rename_i hn;refine⟨by rw [List.length_append];have:=h.blen;simp;omega,uY h.bnd (Xx hn),fun b hb=> ?_,?_,?_,by have:=h.elen;show s.aJ.length<=k+1;omega,h.end_,fun x hx=> ?_,by have:=h.aK;show s.aK<=_;omega⟩
   ·rcases List.mem_append.1 hb with h1 | h1
    ·exact h.bone b h1
    ·have:=List.mem_singleton.1 h1;subst this;exact⟨rfl,hl,by show pk r.b 5 - 3<=1;omega,rfl⟩
   ·rw [Qj];show s.used+_=_;rw [h.used];rfl
   ·show s.used+_<=_;have:=h.usedk;omega
   ·obtain⟨h1,h2,h3,h4,h5,h6⟩:=h.eone x hx;exact⟨h1,h2,h3,h4,h5,h6.mono fun b hb=>List.mem_append_left _ hb⟩
 ·split
  ·refine⟨by have:=h.blen;show s.aI.length<=_;omega,h.bnd,h.bone,h.used,by have:=h.usedk;show s.used<=_;omega,by have:=h.elen;show s.aJ.length<=_;omega,h.end_,fun x hx=> ?_,by have:=h.aK;show s.aK+pk r.b 3<=_;omega⟩;obtain⟨h1,h2,h3,h4,h5,h6⟩:=h.eone x hx;exact⟨h1,h2,h3,h4,by show x.aO<=s.aK+pk r.b 3;omega,h6⟩
  ·rename_i hn;refine⟨by have:=h.blen;show s.aI.length<=_;omega,h.bnd,h.bone,h.used,by have:=h.usedk;show s.used<=_;omega,by rw [List.length_append];have:=h.elen;simp;omega,uY h.end_ (Xx hn),fun x hx=> ?_,by have:=h.aK;show s.aK+pk r.b 3<=_;omega⟩;rcases List.mem_append.1 hx with h1 | h1
   ·obtain⟨h1,h2,h3,h4,h5,h6⟩:=h.eone x h1;exact⟨h1,h2,h3,h4,by show x.aO<=s.aK+pk r.b 3;omega,h6⟩
   ·have:=List.mem_singleton.1 h1;subst this;exact⟨⟨_,yB _ wu,rfl⟩,vS h.hex r,uq _ _,by show pk r.b 5 - 3<=1;omega,Nat.le_refl _,Ux _ _⟩
theorem AccOk.nil_:AccOk 0 ⟨[], [],0,0⟩:=⟨ab,ab,ab,rfl,ab,ab,ab,ab,ab⟩
theorem AccOk.mono {m:Nat} {s:AccP} (h:AccOk k s) (hk:k<=m):AccOk m s:=⟨by have:=h.blen;omega,h.bnd,h.bone,h.used,by have:=h.usedk;omega,by have:=h.elen;omega,h.end_,h.eone,by have:=h.aK;omega⟩
theorem Zr {α:Type} [DecidableEq α]:∀(l m:List α),l.Nodup->(∀x∈l,x∈m)->l.length<=m.length
 | [],m,_,_=>by simp
 | x::l,m,h,hm=>by
  have h1:=List.nodup_cons.1 h
  have hx:=hm x ab
  have:=Zr l (m.erase x) h1.2 fun y hy=>(List.mem_erase_of_ne (by rintro rfl;exact h1.1 hy)).2 (hm y (by simp [hy]))
  rw [List.length_erase_of_mem hx]at this
  have h0:0<m.length:=List.length_pos_of_mem hx
  rw [List.length_cons];omega
theorem KE {ks:List ai} (h:ks.Nodup) (hk:∀k∈ks,∃j,j<7/\k=keyS j):ks.length<=7:=by
 have:=Zr ks ((List.range 7).map keyS) h fun k hk'=>by
  obtain⟨j,hj,rfl⟩:=hk k hk';exact List.mem_map.2 ⟨j,List.mem_range.2 hj,rfl⟩
 simpa using this
theorem UL (l:List BlobP) (j:Nat) (hj:j<l.length):usd (l.take (j+1))=usd (l.take j)+l[j].data.length:=by
 rw [List.take_succ_eq_append_getElem hj,Qj];simp [usd]
theorem UM (l:List BlobP) (j:Nat):usd (l.take j)<=usd l:=by
 have h:usd l=usd (l.take j)+usd (l.drop j):=by rw [<-Qj,List.take_append_drop]
 omega
theorem JL (A:aj) (c:Nat) (l:List BlobP) (w:World) (hl:l.length<=1000000) (hu:usd l<=1000000000) (hA:Rw BlobS w A l) :
  Calls zZZ 158 #[aA A l.length c] w fun e w'=>e= .returned (aB aC (usd l:Int))/\Below w.heap.size w w':=by
 generalize hR:usd l=R;have HR:=sqH hR;clear hR;go_enter func158,ntmps158;go_wp2_with fail;go_loopg [3,8] l.length (fun gn u i wr=>∃j:Nat,gn=l.length - j/\i= aB aC j/\j<=l.length/\u= aB aC ((usd (l.take j):Nat):Int)/\Below w.heap.size w wr)
 case atStart=>exact⟨0,rfl,rfl,wu,rfl,Below.refl _ _⟩
 case round =>
  obtain⟨j,hgk,rfl,hj,rfl,hbl⟩:=hrel;have HGK:=sqH hgk;clear hgk;by_cases hlt:j<l.length
  ·have hcc:decide (j<l.length)=true:=decide_eq_true hlt;obtain⟨b,off,B,cb,rfl,hbb,c0,c1,c2,c3,hs⟩:=(hA.below hbl).blob_at j hlt;have hj0:=we j
   have hj1:(j:Int)<(l.length:Int):=wu;have hst:=UL l j hlt;have hle:=UM l (j+1);have hle2:usd (l.take j)+l[j].data.length<=1000000000:=wu;have HST:=sqH hst;clear hst hle hs;have hb1:=ws wr (aE #[aD ⟨l[j].dig.toArray⟩,aA B l[j].data.length cb,aB aC (l[j].aQ:Int),.bool l[j].mark] 76);have hb2:=wm hbl hb1;generalize l[j].data.length=d at *
   generalize usd (l.take j)=u at *
   generalize l[j]=x at *
   clear hb1;go_wp2_with fail;go_roundg (l.length - (j+1))
   case measure=>exact wc HGK
   case rel=>exact⟨j+1,rfl,by go_num,wu,by rw [HST.o];go_num,hb2⟩
  ·obtain rfl:j=l.length:=by omega
   have hcc:decide (l.length<l.length)=false:=ab;rw [List.take_length,HR.o];go_wp2_with fail;go_ret;exact⟨rfl,hbl⟩
theorem vv (A:aj) (c:Nat) (l:List BlobP) (rm more:Nat) (w:World) (hl:l.length<=1000000) (hu:usd l<=1000000000) (hrm:rm<=4000) (hmo:more<=4000) (hA:Rw BlobS w A l) :
  Calls zZZ 126 #[aA A l.length c,aB aC rm,aB aC more] w fun e w'=>e= .returned (.tuple #[aB aC ((usd l+more - rm:Nat):Int),aB aC 0])/\Below w.heap.size w w':=by
 have HU:=sqH (JL A c l w hl hu hA);have g1:decide ((rm:Int)<0)=false:=decide_eq_false wu;have g2:decide ((rm:Int)>4000)=false:=decide_eq_false wu;have g3:decide ((4000:Int)<(rm:Int))=false:=decide_eq_false wu;have g4:decide ((more:Int)<0)=false:=decide_eq_false wu;have g5:decide ((more:Int)>4000)=false:=decide_eq_false wu;have g6:decide ((4000:Int)<(more:Int))=false:=decide_eq_false wu;clear hA;generalize hR:usd l=R at *
 have hmx:max (0:Int) ((R:Int)+(more:Int) - (rm:Int))=((R+more - rm:Nat):Int):=wu;have HMX:=sqH hmx;clear hR hmx;go_enter func126,ntmps126;go_wp2_with fail;refine wZ HU.o fun w1 hb1=>?_;dsimp only;go_wp2_with fail;go_ret2;rw [<-HMX.o];exact⟨rfl,hb1⟩
theorem ZO (A:aj) (c:Nat) (l:List BlobP) (rm more:Nat) (w:World) (hl:l.length<=1000000) (hu:usd l<=1000000000) (hrm:rm<=4000) (hmo:more<=4000) (hA:Rw BlobS w A l) :
  Calls zZZ 72 #[aA A l.length c,aB aC rm,aB aC more] w fun e w'=>e= .returned (aB aC (if usd l+more<=rm then 0 else 7))/\Below w.heap.size w w':=by
 have HU:=sqH (vv A c l rm more w hl hu hrm hmo hA);clear hA;generalize hR:usd l=R at *
 by_cases h:R+more<=rm
 ·have HI:=sqH (show(if R+more<=rm then (0:Int) else 7)=0 from if_pos h);have hz:R+more - rm=0:=wu
  rw [hz]at HU;clear hR hz h;go_enter func72,ntmps72;go_wp2_with fail;refine wZ HU.o fun w1 hb1=>?_;dsimp only
  refine wL ?_;intros;go_ret;rw [HI.o];exact⟨rfl,hb1⟩
 ·have HI:=sqH (show(if R+more<=rm then (0:Int) else 7)=7 from if_neg h);obtain⟨z,hz⟩:=wY (R+more - rm)
  have hz0:0<z:=wu;have g1:decide ((z:Int)>0)=true:=decide_eq_true wu;have g2:decide ((0:Int)<(z:Int))=true:=decide_eq_true wu;have g3:decide (0<z)=true:=decide_eq_true hz0;rw [<-hz]at HU;clear hR hz h;go_enter func72,ntmps72;go_wp2_with fail;refine wZ HU.o fun w1 hb1=>?_;dsimp only
  refine wL ?_;intros;go_ret;rw [HI.o];exact⟨rfl,hb1⟩
theorem VE (A:aj) (c:Nat) (l:List BlobP) (r:RawP) (w:World) (hl:l.length<=1000000) (hc:l.length<=c) (hm:c<=maxLen) (hd:∀b∈l,b.data.length<=1000000) (hA:Rw BlobS w A l) (hr:RawOk r) :
  Calls zZZ 30 #[aA A l.length c,.agg #[aB aC r.kind,aB aC r.a,aB aC r.b,aD r.text]] w fun e w'=>∃v,e= .returned v/\w'.ownsRow w.heap.size 85 3 v (zX l r).length (pcs (zX l r))/\Below w.heap.size w w':=by
 obtain⟨HR,HD,HC,HPA⟩:=sqJ4 hr hd (And.intro hc hm) (fun w'=>qi r.a 4 4 rfl w' hr.a0 hr.a1 wu wu);have hp4:=yB r.a (m:=4) wu;generalize hPT:zX l r=PT;have HPT:=sqH (show PT=if l.length=0 then [] else (List.range (pk r.a 4)).map (xT l r) from hPT.symm);obtain⟨m,hmm⟩:=wY (pk r.a 4)
 rw [<-hmm]at hp4 HPA HPT;obtain⟨rk,ra,rb,rt⟩:=r;have hX:=Arr.new w 73 [aB aC rk,aB aC ra,aB aC rb,aD rt];have hb1:=ws w (aE #[aB aC rk,aB aC ra,aB aC rb,aD rt] 73);have hX':Arr (w.alloc (aE #[aB aC rk,aB aC ra,aB aC rb,aD rt] 73)) w.heap.size 73 [aB aC rk,aB aC ra,aB aC rb,aD rt]:=hX;have x1:=hX'.c1;clear hX hd hr hc hm hmm hPT;go_enter func30,ntmps30;go_wp2_with fail;have hs1:(w.alloc (aE #[aB aC rk,aB aC ra,aB aC rb,aD rt] 73)).heap.size=w.heap.size+1:=World.size_alloc _ _;generalize w.alloc (aE #[aB aC rk,aB aC ra,aB aC rb,aD rt] 73)=w1 at *
 have HS1:=sqH hs1;clear x1 hs1;refine wZ (HPA.o _) fun w2 hw2=>?_;dsimp only;subst hw2;go_wp2_with fail;rcases Nat.eq_zero_or_pos l.length with h0 | h0
 ·have HZ:=sqH (show PT= [] by rw [HPT.o,if_pos h0]);have h0b:decide (((l.length:Nat):Int)>0)=false:=decide_eq_false wu;have h0c:decide ((0:Int)<((l.length:Nat):Int))=false:=decide_eq_false wu;have h0d:decide (0<l.length)=false:=decide_eq_false wu;go_loopg [5,11] m (fun gn v i wr=>∃k:Nat,gn=m - k/\i= aB aC k/\k<=m/\v= aA aF 0 0/\wr=w1)
  case atStart=>exact⟨0,rfl,rfl,wu,rfl,rfl⟩
  case round =>
   obtain⟨k,hgk,rfl,hk,rfl,rfl⟩:=hrel;have HGK:=sqH hgk;clear hgk;by_cases hlt:k<m
   ·have hcc:decide (k<m)=true:=decide_eq_true hlt;go_wp2_with fail;go_roundg (m - (k+1))
    case measure=>exact wc HGK
    case rel=>exact⟨k+1,rfl,by go_num,wu,rfl,rfl⟩
   ·obtain rfl:k=m:=by omega
    have hcc:decide (k<k)=false:=ab;go_wp2_with fail;go_ret;rw [HZ.o];exact⟨_,rfl,World.ownsRow_nil _ _ _ _,hb1⟩
 ·obtain⟨HZ,HX,HA⟩:=sqJ3 (show PT=(List.range m).map (xT l ⟨rk,ra,rb,rt⟩) by rw [HPT.o,if_neg wu]) hX' hA;clear hX' hA HPT;go_loopg [5,11] m (fun gn v i wr=>∃k:Nat,gn=m - k/\i= aB aC k/\k<=m/\wr.ownsRow w1.heap.size 85 3 v k (pcs ((List.range k).map (xT l ⟨rk,ra,rb,rt⟩)))/\Below w1.heap.size w1 wr)
  case atStart=>exact⟨0,rfl,rfl,wu,World.ownsRow_nil _ _ _ _,Below.refl _ _⟩
  case round =>
   obtain⟨k,hgk,rfl,hk,hown,hbel⟩:=hrel;have HGK:=sqH hgk;clear hgk;by_cases hlt:k<m
   ·have hcc:decide (k<m)=true:=decide_eq_true hlt;have h0b:decide (((l.length:Nat):Int)>0)=true:=decide_eq_true wu;have h0c:decide ((0:Int)<((l.length:Nat):Int))=true:=decide_eq_true wu;have h0d:decide (0<l.length)=true:=decide_eq_true h0;have x2:=(HX.o.below hbel).c2;have hw7:IntKind.i64.wrap (7*(k:Int))=7*(k:Int):=IntWalk.i64_in _ wu;have hwi:∀z, -9223372036854775808<=IntKind.i64.wrap z/\IntKind.i64.wrap z<=9223372036854775807:=fun z=>by rw [IntKind.wrap_i64];omega
    have hP:=qi (IntKind.i64.wrap (rb+7*(k:Int))) l.length l.length rfl wr (hwi _).1 (hwi _).2 h0 wu;rw [IntWalk.i64_left]at hP;have HP:=sqH hP;have hpl:=yB (IntKind.i64.wrap (rb+7*(k:Int))) (m:=l.length) h0;clear hP;obtain⟨q,hq⟩:=wY (pk (IntKind.i64.wrap (rb+7*(k:Int))) l.length)
    rw [<-hq]at hpl;rw [<-IntWalk.i64_left,<-hq]at HP;rw [IntWalk.i64_left]at HP;have hprt:xT l ⟨rk,ra,rb,rt⟩ k=⟨[112,UInt8.ofNat (97+k)],l[q].dig,l[q].data.length⟩:=by
     simp only [xT,<-hq,List.getElem?_eq_getElem hpl,Option.getD_some]
    have HPR:=sqH hprt;have hrng:(List.range (k+1)).map (xT l ⟨rk,ra,rb,rt⟩)=(List.range k).map (xT l ⟨rk,ra,rb,rt⟩)++ [xT l ⟨rk,ra,rb,rt⟩ k]:=by rw [List.range_succ,List.map_append];rfl
    have HRN:=sqH hrng;have hdl:=HD.o _ (List.getElem_mem hpl);obtain⟨b,off,B,cb,rfl,hbb,c0,c1,c2,c3,_⟩:=(HA.o.below (wm hb1 hbel)).blob_at q hpl;generalize l[q]=bl at *
    obtain⟨dg,dt,pn,mk⟩:=bl;dsimp only at c0 c1 c2 c3 hdl;generalize hs:(⟨dg.toArray⟩:ByteArray)=s at *
    have HS:=sqH hs;have i0:=we q
    have i1:(q:Int)<(l.length:Int):=wu;have hcv:=fun (w':World) (g:Nat) (h:w'.cell? ⟨g,0,aF⟩=aG (aB .u8 (97+(k:Int))))=>VX (97+(k:Int)) w' g h wu wu;have hw1:IntKind.i64.wrap (97+(k:Int))=97+(k:Int):=IntWalk.i64_in _ wu;have hw2:IntKind.u8.wrap (97+(k:Int))=97+(k:Int):=by rw [IntKind.wrap_u8];omega
    clear hprt hrng hq hs;go_wp2_with fail;refine wZ HP.o fun w3 hw3=>?_;dsimp only;subst hw3
    refine wL ?_;intros;have hnm:(({ data:=#[112] }:ByteArray)++({ data:=#[97+UInt8.ofNat k] }:ByteArray))=⟨#[112,UInt8.ofNat (97+k)]⟩:=by rw [UInt8.ofNat_add];rfl
    rw [hnm];have hbb1:=ws wr (aE #[aD s,aA B dt.length cb,aB aC pn,.bool mk] 76);have hbb2:=hbb1.alloc hbb1.size (aE #[aB .u8 (97+(k:Int))] 5);have hown2:=zc hown hbb2;have hs4:((wr.alloc (aE #[aD s,aA B dt.length cb,aB aC pn,.bool mk] 76)).alloc (aE #[aB .u8 (97+(k:Int))] 5)).heap.size=wr.heap.size+1+1:=by rw [World.size_alloc,World.size_alloc]
    generalize (wr.alloc (aE #[aD s,aA B dt.length cb,aB aC pn,.bool mk] 76)).alloc (aE #[aB .u8 (97+(k:Int))] 5)=w4 at *
    have hbel4:=wm hbel hbb2;rw [<-hs4];refine zh rfl (.tmp 28) (.tmp 41) rfl YR ac hown2 (us:= [aD ⟨#[112,UInt8.ofNat (97+k)]⟩,aD s,aB aC dt.length]) (m:=1) ac rfl (by intro u hu;simp only [List.mem_cons,List.not_mem_nil,or_false]at hu;rcases hu with rfl | rfl | rfl<;>rfl) wu hbel4.size ?_;intro v7 w7 ho7 hg7 _;have hb7:=zj hbel4 hown2 ag hg7;have ho8:w7.ownsRow w1.heap.size 85 3 v7 (k+1) (pcs ((List.range (k+1)).map (xT l ⟨rk,ra,rb,rt⟩))):=by
     rw [HRN.o,HPR.o,XH];have e1:pcs [⟨[112,UInt8.ofNat (97+k)],dg,dt.length⟩]= [aD ⟨#[112,UInt8.ofNat (97+k)]⟩,aD s,aB aC dt.length]:=by rw [<-HS.o];rfl
     rw [e1];exact ho7
    clear hown hown2 ho7 hg7 hbb1 hbb2;go_wp2_with fail;go_roundg (m - (k+1))
    case measure=>exact wc HGK
    case rel=>exact⟨k+1,rfl,by go_num,wu,ho8,hb7⟩
   ·obtain rfl:k=m:=by omega
    have hcc:decide (k<k)=false:=ab;go_wp2_with fail;go_ret;rw [HZ.o];refine⟨_,rfl,?_,wm hb1 hbel⟩;rw [List.length_map,List.length_range];exact zb hown hb1.size
def put4 (w:World) (g o:Nat) (u0 u1 u2 u3:Value):World:=(((w.setCell ⟨g,o,aF⟩ u0).setCell ⟨g,o+1,aF⟩ u1).setCell ⟨g,o+2,aF⟩ u2).setCell ⟨g,o+3,aF⟩ u3
theorem set4 {X:ak} {u0 u1 u2 u3:Value} (ho:X.length=o) :
  ((((X++ [a0,a1,a2,a3]++Y).set o u0).set (o+1) u1).set (o+2) u2).set (o+3) u3=X++ [u0,u1,u2,u3]++Y:=by
 subst ho;simp only [List.append_assoc];rw [List.set_append_right _ _ ag,List.set_append_right _ _ wu,List.set_append_right _ _ wu,List.set_append_right _ _ wu];simp
theorem Uw {s:Nat} {X:ak} (h:w.ownsRow base e s (aA (aG ⟨g,0,aF⟩) n cap) n (X++ [a0,a1,a2,a3]++Y)) (ho:X.length=o) (u0 u1 u2 u3:Value) :
  (put4 w g o u0 u1 u2 u3).ownsRow base e s (aA (aG ⟨g,0,aF⟩) n cap) n (X++ [u0,u1,u2,u3]++Y)/\w.grownBy (put4 w g o u0 u1 u2 u3) (aG g):=by
 have hl:(X++ [a0,a1,a2,a3]++Y).length=o+4+Y.length:=by simp [ho];omega
 obtain⟨k1,g1,_,_⟩:=xS h (k:=o) wu u0;obtain⟨k2,g2,_,_⟩:=xS k1 (k:=o+1) (by rw [List.length_set];omega) u1;obtain⟨k3,g3,_,_⟩:=xS k2 (k:=o+2) (by rw [List.length_set,List.length_set];omega) u2;obtain⟨k4,g4,_,_⟩:=xS k3 (k:=o+3) (by rw [List.length_set,List.length_set,List.length_set];omega) u3;rw [set4 ho]at k4;refine⟨k4,?_⟩;have t:∀ {a b c:World},a.grownBy b (aG g)->b.grownBy c (aG g)->a.grownBy c (aG g):=fun {a b c} h k =>
  ⟨k.os.trans h.os,k.tape.trans h.tape,k.output.trans h.output,Nat.le_trans h.size k.size,fun i hi hne=>(k.block i (Nat.lt_of_lt_of_le hi h.size) hne).trans (h.block i hi hne)⟩
 exact t (t (t g1 g2) g3) g4
section
variable {α:Type} {S:Shp α} {w:World} {e:TypeId} {base g cap:Nat}
end
section
variable {α:Type} {f:α->List UInt8}
structure Ins (f:α->List UInt8) (A:List α) (x:α) (B:List α):Prop where
 ris:RisesBy f (A++B)
 less:∀b∈B,Op.bytesLess (f x) (f b)=true
theorem Ins.done {A B:List α} {a x:α} (h:Ins f (A++ [a]) x B) (hl:Op.bytesLess (f a) (f x)=true):RisesBy f (A++ [a]++x::B):=by
 obtain⟨h1,h2,h3⟩:=List.pairwise_append.1 h.ris;refine List.pairwise_append.2 ⟨h1,List.pairwise_cons.2 ⟨h.less,h2⟩,fun y hy z hz=> ?_⟩;rcases List.mem_cons.1 hz with rfl | hz
 ·rcases List.mem_append.1 hy with hy | hy
  ·exact ql ((List.pairwise_append.1 h1).2.2 y hy a ab) hl
  ·have:=List.mem_singleton.1 hy;subst this;exact hl
 ·exact h3 y hy z hz
theorem z2m {l m:List α} (h:RisesBy f m) (hp:m.Perm l):m=srt f l:=by
 refine RisesBy.perm h (uu ?_) (hp.trans (qc f l).symm);exact(hp.map f).nodup_iff.1 h.map.nodup
end
def RwX {α:Type} (S:Shp α) (e:TypeId) (w:World) (base:Nat) (v:Value) (l:List α) (N:am):Prop :=
 ∃ps:Cel α,ps.map (·.1)=l/\qI S w ps/\w.ownsRow base e S.size v l.length (cls ps)/\∀p∈ps,∀b,(v.ownBlock=aG b\/N b)->¬leads b p.2
section
variable {α:Type} {S:Shp α} {w w':World} {e:TypeId} {base base':Nat} {v v':Value} {l:List α} {N N':am}
theorem RwX.rwo (h:RwX S e w base v l N):RwO S e w base v l:=by
 obtain⟨ps,h1,h2,h3,h4⟩:=h;exact⟨ps,h1,h2,h3,fun p hp b hb=>h4 p hp b (.inl hb)⟩
theorem RwX.below (h:RwX S e w base v l N) (hb:Below w.heap.size w w'):RwX S e w' base v l N:=by
 obtain⟨ps,h1,h2,h3,h4⟩:=h;exact⟨ps,h1,h2.below hb,zc h3 hb,h4⟩
theorem RwX.nil_ (h:w.ownsRow base e S.size v 0 []):RwX S e w base v [] N:=⟨[],rfl,(fun p hp=>nomatch hp),h,(fun p hp=>nomatch hp)⟩
theorem RwX.other {g:Option Nat} (h:RwX S e w base v l N) (hg:w.grownBy w' g) (hv:∀b,g=aG b->v.ownBlock≠aG b) (hN:∀b,g=aG b->N b):RwX S e w' base v l N:=by
 obtain⟨ps,h1,h2,h3,h4⟩:=h;refine⟨ps,h1,h2.grown hg (fun p hp b hb=>h4 p hp b (.inr (hN b hb))),h3.kept hg ?_,h4⟩;cases hb:v.ownBlock with
 | none=>exact .inl rfl
 | some b=>exact .inr (fun e1=>hv b e1.symm hb)
theorem RwX.wider (h:RwX S e w base v l N) (hN:∀b,N' b->N b\/w.heap.size<=b):RwX S e w base v l N':=by
 obtain⟨ps,h1,h2,h3,h4⟩:=h;refine⟨ps,h1,h2,h3,fun p hp b hb hl=> ?_⟩;rcases hb with hb | hb
 ·exact h4 p hp b (.inl hb) hl
 ·rcases hN b hb with h5 | h5
  ·exact h4 p hp b (.inr h5) hl
  ·have:=S.live (h2 p hp) b hl;omega
theorem RwX.open_ (h:RwX S e w base v l N):∃xs,w.ownsRow base e S.size v l.length xs /\
  ∀(x:α) (cs:ak) (w1 w2:World) (v2:Value),Below w.heap.size w w1->S.R w1 x cs->(∀b,(v.ownBlock=aG b\/N b)->¬leads b cs)->w2.ownsRow base e S.size v2 (l.length+1) (xs++cs)->w1.grownBy w2 v.ownBlock->(v2.ownBlock=v.ownBlock\/∃g,v2.ownBlock=aG g/\w1.heap.size<=g) ->
   RwX S e w2 base v2 (l++ [x]) N:=by
 obtain⟨ps,h1,h2,h3,h4⟩:=h;refine⟨_,h3,fun x cs w1 w2 v2 hb hx hxl ho hg hv=> ?_⟩;have h2':=h2.below hb;have hall:∀p∈ps++ [(x,cs)],S.R w1 p.1 p.2/\∀b,(v.ownBlock=aG b\/N b)->¬leads b p.2:=fun p hp=>by
  rcases List.mem_append.1 hp with h | h
  ·exact⟨h2' p h,h4 p h⟩
  ·have:=List.mem_singleton.1 h;subst this;exact⟨hx,hxl⟩
 refine⟨ps++ [(x,cs)],by simp [h1],?_,?_,fun p hp b hb hl=> ?_⟩
 ·exact qI.grown (w:=w1) (g:=v.ownBlock) (fun p hp=>(hall p hp).1) hg (fun p hp b hb=>(hall p hp).2 b (.inl hb))
 ·rw [yU,List.length_append];simpa [cls] using ho
 ·rcases hb with hb | hb
  ·rcases hv with e1 | ⟨g,e1,hge⟩
   ·exact(hall p hp).2 b (.inl (by rw [<-e1];exact hb)) hl
   ·rw [e1]at hb;cases hb
    have:=S.live (hall p hp).1 _ hl;omega
  ·exact(hall p hp).2 b (.inr hb) hl
end
def Shp.off {α:Type} (S:Shp α) (N:am):Shp α where
 size:=S.size
 R w x cs:=S.R w x cs/\∀b,N b->¬leads b cs
 len h:=S.len h.1
 one h:=S.one h.1
 live h:=S.live h.1
 keep h hs hk:=⟨S.keep h.1 hs hk,h.2⟩
theorem RwX.off {S:Shp α} (h:RwX S e w base v l N):RwO (S.off N) e w base v l:=by
 obtain⟨ps,h1,h2,h3,h4⟩:=h;exact⟨ps,h1,fun p hp=>⟨h2 p hp,fun b hb=>h4 p hp b (.inr hb)⟩,h3,fun p hp b hb=>h4 p hp b (.inl hb)⟩
theorem RwO.on {S:Shp α} (h:RwO (S.off N) e w base v l):RwX S e w base v l N:=by
 obtain⟨ps,h1,h2,h3,h4⟩:=h;exact⟨ps,h1,fun p hp=>(h2 p hp).1,h3,fun p hp b hb=>hb.elim (h4 p hp b) ((h2 p hp).2 b)⟩
theorem zf (h:w.ownsRow base e size v n xs) (hA:Arr w g e' ys) (hne:e≠e'):v.ownBlock≠aG g:=fun hg=>by
 rcases h.2 with ⟨rfl,_⟩ | ⟨g',cap,cur,rfl,_,h2,_⟩
 ·cases hg
 ·cases hg
  have h3:=Eq.trans (Eq.symm h2) hA
  simp only [Option.some.injEq,Obj.cells.injEq]at h3
  exact hne h3.2.1
theorem US {g':Nat} (h:Arr w g e xs) (h':Arr w g' e' ys) (hne:e≠e'):g≠g':=fun hg=>by
 subst hg
 have h3:=(h:w.heap[g]?=_).symm.trans h'
 simp only [Option.some.injEq,Obj.cells.injEq]at h3
 exact hne h3.2.1
theorem vN (h:w.ownsRow base e size v n xs):∃A c,v= aA A n c/\Sl w size A n c xs/\∀a,A=aG a->base<=a.block:=Sl.of_own h
structure StW (w:World) (H:Nat) (vb ve:Value) (s:AccP):Prop where
 box:Arr w (H+1) 34 [vb,ve,aB aC 0,aB aC s.aK]
 res:Arr w H 34 [aA aF 0 0,aA aF 0 0,aB aC 0,aB aC 0]
 b:RwX BlobS 76 w (H+2) vb s.aI (fun g=>(g=H\/g=H+1)\/ve.ownBlock=aG g)
 e:RwX EntS 100 w (H+2) ve s.aJ (fun g=>(g=H\/g=H+1)\/vb.ownBlock=aG g)
 ne:∀g,vb.ownBlock=aG g->ve.ownBlock≠aG g
theorem StW.below {H:Nat} {vb ve:Value} {s:AccP} (h:StW w H vb ve s) (hb:Below w.heap.size w w'):StW w' H vb ve s :=
 ⟨h.box.below hb,h.res.below hb,h.b.below hb,h.e.below hb,h.ne⟩
theorem vY:El zZZ 31 76 4 56:=El.mk' (z:= .agg #[aD ByteArray.empty,aA aF 0 0,aB aC 0,.bool false]) underlying31 ww rfl wu wu
theorem YQ:El zZZ 32 100 4 56:=El.mk' (z:= .agg #[aD ByteArray.empty,aA aF 0 0,aB aC 0,aB aC 0]) underlying32 ww rfl wu wu
theorem zU (w:World) (g k:Nat) (u:Value):w.grownBy (w.setCell ⟨g,k,aF⟩ u) (aG g):=⟨rfl,rfl,rfl,by simp [World.setCell],fun j _ hj=>Below.heap_setCell w _ u j (fun e=>hj (by rw [e]))⟩
theorem Arr.grown {r:Option Nat} (h:Arr w g e xs) (hg:w.grownBy w' r) (hne:r≠aG g):Arr w' g e xs:=(hg.block g h.lt (fun e=>hne e.symm)).trans h
theorem jx (x:BlobP) (B:aj) (c:Nat):∀u∈qe x B c,u.oneCell'=true:=by
 intro u hu;simp only [qe,List.mem_cons,List.not_mem_nil,or_false]at hu;rcases hu with rfl | rfl | rfl | rfl<;>rfl
theorem UZ (x:EntP) (B:aj) (c:Nat):∀u∈kI x B c,u.oneCell'=true:=by
 intro u hu;simp only [kI,List.mem_cons,List.not_mem_nil,or_false]at hu;rcases hu with rfl | rfl | rfl | rfl<;>rfl
theorem Z5 {x:BlobP} (h:leads b (qe x B c)):∃a,B=aG a/\a.block=b:=by
 obtain⟨a,n,c',hm,rfl⟩:=h;simp only [qe,List.mem_cons,List.not_mem_nil,or_false,Value.slice.injEq,reduceCtorEq,false_or]at hm;exact⟨a,hm.1.symm,rfl⟩
theorem VZ {x:EntP} (h:leads b (kI x B c)):∃a,B=aG a/\a.block=b:=by
 obtain⟨a,n,c',hm,rfl⟩:=h;simp only [kI,List.mem_cons,List.not_mem_nil,or_false,Value.slice.injEq,reduceCtorEq,false_or]at hm;exact⟨a,hm.1.symm,rfl⟩
theorem kW.sl {l:ai} (h:kW w base A c l):Sl w 1 A l.length c (bys l)/\∀a,A=aG a->base<=a.block:=by
 have h1:=h.rd;have h2:=h.cap;obtain⟨g,rest,fz,rfl,hb,hg,hl,hm,hf⟩:=h;exact⟨⟨h1,h2.1,h2.2,fun a ha=>by cases ha;exact(Array.getElem?_eq_some_iff.1 hg).1⟩,fun a ha=>by cases ha;exact hb⟩
section
variable {w:World} {H:Nat} {vb ve:Value} {s:AccP}
theorem StW.lt (h:StW w H vb ve s):H+1<w.heap.size:=h.box.lt
theorem StW.bB (h:StW w H vb ve s):∀g,vb.ownBlock=aG g->H+2<=g/\g<w.heap.size:=fun g e=>h.b.rwo.blk e
theorem StW.bE (h:StW w H vb ve s):∀g,ve.ownBlock=aG g->H+2<=g/\g<w.heap.size:=fun g e=>h.e.rwo.blk e
theorem StW.rows (h:StW w H vb ve s) (k:Nat) (u:Value) :
  RwX BlobS 76 (w.setCell ⟨H+1,k,aF⟩ u) (H+2) vb s.aI (fun g=>(g=H\/g=H+1)\/ve.ownBlock=aG g)/\RwX EntS 100 (w.setCell ⟨H+1,k,aF⟩ u) (H+2) ve s.aJ (fun g=>(g=H\/g=H+1)\/vb.ownBlock=aG g)/\Arr (w.setCell ⟨H+1,k,aF⟩ u) H 34 [aA aF 0 0,aA aF 0 0,aB aC 0,aB aC 0] :=
 ⟨h.b.other (zU w _ k u) (fun b e1 e2=>by cases e1;have:=h.bB _ e2;omega) (fun b e=>by cases e;exact .inl (.inr rfl)),
  h.e.other (zU w _ k u) (fun b e1 e2=>by cases e1;have:=h.bE _ e2;omega) (fun b e=>by cases e;exact .inl (.inr rfl)),
  h.res.other wu u⟩
theorem Arr.all4 {w:World} {x0 x1 x2 x3:Value} (h:Arr w g e [x0,x1,x2,x3]) (y0 y1 y2 y3:Value) :
  Arr ((((w.setCell ⟨g,0,aF⟩ y0).setCell ⟨g,1,aF⟩ y1).setCell ⟨g,2,aF⟩ y2).setCell ⟨g,3,aF⟩ y3) g e [y0,y1,y2,y3] :=
 (((h.set (k:=0) ab y0).set (k:=1) ab y1).set (k:=2) ab y2).set (k:=3) ab y3
theorem RwX.set {S:Shp α} {w:World} (h:RwX S e w base v l N) (hg:g<base) (hN:N g) (u:Value):RwX S e (w.setCell ⟨g,k,aF⟩ u) base v l N :=
 h.other (zU w g k u) (fun b e1 e2=>by cases e1;have:=(h.rwo.blk e2).1;omega) (fun b e=>by cases e;exact hN)
end
theorem Arr.setsMid {g:Nat} {e:TypeId}:∀(ys xs zs ts:ak) (W:World),Arr W g e (zs++(xs++ts))->ys.length=xs.length->Arr (W.setCells g zs.length ys) g e (zs++(ys++ts))
 | [], [],zs,ts,W,h,_=>h
 | y::ys,x::xs,zs,ts,W,h,hl=>by
  have h1:=h.set (k:=zs.length) ab y
  rw [List.set_append_right _ _ ag,Nat.sub_self,List.cons_append,List.set_cons_zero]at h1
  have h2:=Arr.setsMid ys xs (zs++ [y]) ts _ (by simpa using h1) (by simpa using hl)
  rw [List.append_assoc]at h2
  simp only [List.length_append,List.length_cons,List.length_nil,Nat.zero_add]at h2
  exact h2
theorem yS (b off j:Nat):(⟨b,off,aF⟩:Addr).add j=⟨b,off+j,aF⟩:=by unfold Addr.add;split<;>simp_all
theorem xp {g k:Nat} (hne:k≠g):∀(ys:ak) (o:Nat) (W:World),(W.setCells g o ys).heap[k]?=W.heap[k]?
 | [],_,_=>rfl
 | y::ys,o,W=>(xp hne ys (o+1) _).trans (Below.heap_setCell W _ y k hne)
theorem Q5 (W:World) (g o:Nat) (ys:ak):W.grownBy (W.setCells g o ys) (aG g) :=
 have h:=Below.sets (B:=0) (g:=g) (Nat.zero_le _) ys o W (Below.refl 0 W)
 ⟨h.os,h.tape,h.output,h.size,fun k hk hne=>xp (fun e=>hne (by rw [e])) ys o W⟩
section
variable {P:Program} {w:World}
theorem z0t {ty:TypeId} (E:El P t e size bytes) {us:ak} {m:Nat}
  (hown:w.ownsRow base e size (aA (aG ⟨g,0,aF⟩) n cap) n xs) (hl:us.length=m*size) (h1:∀u∈us,u.oneCell'=true) (hroom:n+m<=cap) :
  ∃w',(Builtin.append_ #[t,t] ty #[aA (aG ⟨g,0,aF⟩) n cap,aA (aG ⟨w.heap.size,0,aF⟩) m c]).run P (w.alloc (.cells us.toArray e'))= .ok (aA (aG ⟨g,0,aF⟩) (n+m) cap) w' /\
   w'.ownsRow base e size (aA (aG ⟨g,0,aF⟩) (n+m) cap) (n+m) (xs++us)/\w.grownBy w' (aG g):=by
 obtain⟨hu,⟨i,z,hi,hz,hs,hby,hzs⟩,hp,hq⟩:=E;subst hs;obtain⟨hxl,h2⟩:=hown;rcases h2 with ⟨h,_⟩ | ⟨g',cap',cur,e1,hb,hg,hn,hm,hsz,ht⟩
 ·cases h
 ·injection e1 with e1 _ e3;injection e1 with e1;injection e1 with e1;subst e1 e3;have hA0:Arr w g e cur.toList:=by simpa [Arr] using hg
  have hA:=hA0.alloc (.cells us.toArray e');have hcl:cur.toList.length=cap*i.size:=by simpa using hsz
  have hmul:(n+m)*i.size<=cap*i.size:=Nat.mul_le_mul_right _ hroom;rw [Nat.add_mul]at hmul;have hsplit:cur.toList=xs++((cur.toList.drop (n*i.size)).take (m*i.size)++cur.toList.drop ((n+m)*i.size)):=by
   have ht':cur.toList.take (n*i.size)=xs:=ht;rw [<-ht',Nat.add_mul,<-List.drop_drop,List.take_append_drop,List.take_append_drop]
  have hlt:=hA0.lt;have hrun:=run_append_room_cells (P:=P) (w:=w.alloc (.cells us.toArray e')) t ty e i hu hi g 0 n cap ⟨w.heap.size,0,aF⟩ m c us hl
   (fun j u hj=>by
    show(w.alloc _).cell? ((⟨w.heap.size,0,aF⟩:Addr).add j)=_;rw [yS,Nat.zero_add,World.cell?_alloc_new];simpa using hj) h1 hroom
   (fun j hj=>by
    rw [hA.cell (k:=0+n*i.size+j) (List.getElem?_eq_getElem (by rw [hcl];omega))];rfl)
   (fun j hj=>hA.frozen _)
  refine⟨_,hrun,⟨by rw [List.length_append,hxl,hl,Nat.add_mul],.inr ⟨g,cap,(xs++(us++cur.toList.drop ((n+m)*i.size))).toArray,rfl,hb,?_,hroom,hm,?_,?_⟩⟩,?_⟩
  ·rw [hsplit]at hA;have hA2:=Arr.setsMid us _ xs _ _ hA (by rw [List.length_take,List.length_drop,hcl,hl];omega);rw [Nat.zero_add,<-hxl];exact hA2
  ·simp only [List.size_toArray,List.length_append,List.length_drop,hcl,hxl,hl,Nat.add_mul];omega
  ·simp only [List.toList_toArray];rw [<-List.append_assoc,List.take_append_of_le_length (by rw [List.length_append,hxl,hl,Nat.add_mul];exact Nat.le_refl _),List.take_of_length_le (by rw [List.length_append,hxl,hl,Nat.add_mul];exact Nat.le_refl _)]
  ·have h5:=Q5 (w.alloc (.cells us.toArray e')) g (0+n*i.size) us;exact⟨h5.os,h5.tape,h5.output,Nat.le_trans (by rw [World.size_alloc];omega) h5.size,fun k hk hne=>(h5.block k af hne).trans (Below.heap_alloc _ _ _ hk)⟩
theorem jl {ops:Array Oper} {rest:List Oper} {o:Oper} {a:Act} {Q:al} (hgd:o.guard=aF) (s x:Operand) 
  (ho:o.op= .call { callee:= .builtin .append,args:=#[s,x],argTypes:=#[t,t] }) (E:El P t e size bytes)
  {base g n cap:Nat} {xs:ak} (hs:a.eval s= aA (aG ⟨g,0,aF⟩) n cap) (hown:w.ownsRow base e size (aA (aG ⟨g,0,aF⟩) n cap) n xs)
  {us:ak} {m c:Nat} (hx:a.eval x= aA (aG ⟨w.heap.size,0,aF⟩) m c) (hl:us.length=m*size) (h1:∀u∈us,u.oneCell'=true) (hroom:n+m<=cap)
  (h:∀w',w'.ownsRow base e size (aA (aG ⟨g,0,aF⟩) (n+m) cap) (n+m) (xs++us)->w.grownBy w' (aG g)->wpList P ops Q rest (a.put o.dst (aA (aG ⟨g,0,aF⟩) (n+m) cap)) w') :
  wpList P ops Q (o::rest) a (w.alloc (.cells us.toArray e')) :=
 wpList_plain hgd fun K hK=>by
  obtain⟨w',hrun,h2,h3⟩:=z0t (P:=P) (ty:=o.type) (e':=e') E hown hl h1 hroom (c:=c)
  unfold Oper.wp execOp
  simp only [ho,resolve,invoke,builtin,Sem.run_bind,Sem.run_pure,Result.andThen_ok,List.map_toArray,List.map_cons,List.map_nil,hs,hx,hrun]
  exact hK _ _ (h w' h2 h3)
end
theorem Sl.other (h:Sl w size A n c xs) (hne:∀a,A=aG a->a.block≠g) (u:Value):Sl (w.setCell ⟨g,k,aF⟩ u) size A n c xs :=
 h.keep (by simp [World.setCell]) fun b hb hl=>by
  obtain⟨a,ha,rfl⟩:=hl
  exact Below.heap_setCell w _ u _ (hne a ha)
theorem yq (A:aj) (n c:Nat) (xs:ak) (w:World) (hb:n*40<=140737488355328) (hr:Rd w 3 A n xs) (h1:∀u∈xs,u.oneCell'=true) :
  Calls zZZ 128 #[aA A n c] w fun e w'=>∃v,e= .returned v/\w'.ownsRow w.heap.size 85 3 v n xs/\Below w.heap.size w w':=by
 have heq:=fun W=>Lib.run_eql_slice_nil (P:=zZZ) W 27 85 A n c 0 0 underlying27;cases A with
 | none =>
  obtain rfl:n=0:=by
   rcases Nat.eq_zero_or_pos n with h | h
   ·exact h
   ·obtain⟨_,_,h1,_⟩:=hr.2 h;cases h1
  obtain rfl:xs= []:=List.eq_nil_of_length_eq_zero (by simpa using hr.1);go_enter func128,ntmps128;go_wp2_with fail;go_ret;exact⟨_,rfl,World.ownsRow_nil _ _ _ _,Below.refl _ _⟩
 | some ad =>
  go_enter func128,ntmps128
  refine wL ?_;intros;refine zM rfl (.tmp 5) (.tmp 6) rfl YR ac (World.ownsRow_made (size:=3) w #[] 0 ag (by simp [maxLen]) rfl) ac (hr.alloc _) h1 wu ab ?_;intro v1 w1 hown1 hg1 _;have hb1:=zj ((Below.refl _ _).alloc ag _) (World.ownsRow_made (size:=3) w #[] 0 ag (by simp [maxLen]) rfl) ag hg1;go_wp2_with fail;go_ret;exact⟨_,rfl,by simpa using hown1,hb1⟩
theorem YN:∀x y:ai,decide (Lib.compareBytes x y<0)=Op.bytesLess x y
 | [], []=>rfl
 | [],_::_=>rfl
 | _::_, []=>rfl
 | a::x,b::y=>by
  rw [Lib.compareBytes,Op.bytesLess]
  by_cases h1:a<b
  ·simp [h1]
  ·by_cases h2:b<a
   ·have hne:a≠b:=by rintro rfl;exact h1 h2
    simp [h1,h2,hne]
   ·have he:a=b:=by
     rcases Je a b with h | h | h
     ·exact absurd h h1
     ·exact h
     ·exact absurd h h2
    subst he;have:=YN x y;simp [h1,this]
theorem uT (h:Op.bytesLess x y=true):Lib.compareBytes x y<0:=by
 have:=YN x y;rw [h,decide_eq_true_eq]at this;exact this
theorem uS (h:Op.bytesLess x y=false):¬Lib.compareBytes x y<0:=by
 have:=YN x y;rw [h,decide_eq_false_iff_not]at this;exact this
end Go.Proofs.YtaboknhfiijipaaGreat
