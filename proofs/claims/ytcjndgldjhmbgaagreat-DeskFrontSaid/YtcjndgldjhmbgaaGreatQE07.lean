/- Lemmas, as stated. -/
import Derived.ArgAppend
import Derived.Lib.SlBytesConst
import Derived.BigRegion
import Derived.Test.YtcjndgldjhmbgaaGreatQE05
import Derived.Test.YtcjndgldjhmbgaaGreatQE06
set_option linter.unusedVariables false
set_option linter.unusedSimpArgs false
set_option maxRecDepth 100000
set_option maxHeartbeats 4000000
open Go.Proofs.Tryz
open Go.Proofs.Tryz renaming prog->zZZ
open Go.Value renaming slice->aw,int->ax,string->az
open Go.IntKind renaming i64->ay
open Go.Obj renaming cells->aA
open Option renaming none->aB,some->aC
namespace Go.Proofs.YtcjndgldjhmbgaaGreat
open Go.RowKit
variable {α:Type} {m:List BlobP} {l:List α} {b base bytes c cap g k n o size:Nat} {p:PartP} {e e' t:TypeId} {a0 a1 a2 a3 v:Value} {W w w':World} {X x y:ac} {A B:ae} {Y xs ys:af} {N:ai} {f:α->List UInt8}
def xN (p:PartP):ac:=txt p.name++(xK p.dig).1++num p.size
def enc (l:List PartP):ac:= [65,77,49]++num l.length++l.flatMap xN
def z22 (W:World) (base:Nat) (v:Value) (X:ac):Prop :=
 W.ownsRow base 5 1 v X.length (bys X)\/(∃g,v= aw (aC ⟨g,0,aB⟩) X.length X.length/\Rd W 1 (aC ⟨g,0,aB⟩) X.length (bys X))
theorem z22.below {W':World} (h:z22 W base v X) (hb:Below W.heap.size W W'):z22 W' base v X :=
 h.imp (fun h=>zc h hb) (fun ⟨g,e,h⟩=>⟨g,e,h.below hb⟩)
theorem z22.lt (h:z22 W base v X) (h0:0<X.length):∀k,v.ownBlock=aC k->k<W.heap.size:=fun k hk=>by
 rcases h with h | ⟨g,rfl,hr⟩
 ·exact(h.lt k hk).2
 ·obtain⟨b,off,e,hb,_⟩:=hr.2 h0
  injection hk with hk;injection e with e;injection e with e1
  simp only at hk
  omega
theorem Jb:∀(l r:ac),x9 l=aC r->l.length=2*r.length:=fun l r h=>by
 have:=ZI l r h
 rw [<-this,ye]
theorem ZH {d:ac} (h:hexC d=0):(xK d).2=0/\(xK d).1.length=32:=by
 unfold hexC at h;by_cases h64:d.length=64
 ·rw [if_neg wj]at h;refine⟨h,?_⟩;unfold xK at h ⊢
  rw [if_neg wj,if_neg wj]at h ⊢
  cases hu:x9 d with
  | none=>rw [hu]at h;cases h
  | some r=>have:=Jb d r hu;simp only [];omega
 ·rw [if_pos h64]at h;cases h
theorem xR {s:ac} (h:k5 s=0):1<=s.length/\s.length<=12:=by
 unfold k5 at h;by_cases hb:s.length<1\/12<s.length
 ·rw [if_pos hb]at h;cases h
 ·omega
theorem uZ:∀(l:List PartP) (q:Option (ac)),yx q l=0->∀p∈l,k5 p.name=0/\hexC p.dig=0/\p.size<=300
 | [],_,_,p,hp=>by cases hp
 | x::l,q,h,p,hp=>by
  rw [kv]at h
  by_cases h1:k5 x.name=0
  ·rw [if_neg (fun e=>e h1)]at h
   have key:∀bb:Bool,(if bb=true then 6 else if hexC x.dig≠0 then hexC x.dig else if 300<x.size then 4 else yx (aC x.name) l)=0->k5 p.name=0/\hexC p.dig=0/\p.size<=300:=fun bb h=>by
    cases bb with
    | true=>rw [if_pos rfl]at h;exact absurd h wo
    | false =>
     rw [if_neg wo]at h
     by_cases h2:hexC x.dig=0
     ·rw [if_neg (fun e=>e h2)]at h
      by_cases h3:300<x.size
      ·rw [if_pos h3]at h;exact absurd h wo
      ·rw [if_neg h3]at h
       rcases List.mem_cons.1 hp with rfl | hp
       ·exact⟨h1,h2,wj⟩
       ·exact uZ l _ h p hp
     ·rw [if_pos h2]at h;exact absurd h h2
   exact key _ h
  ·rw [if_pos h1]at h;exact absurd h h1
theorem zk {l:List PartP} (h:chk l=0):l.length<=8/\∀p∈l,k5 p.name=0/\hexC p.dig=0/\p.size<=300:=by
 unfold chk at h;by_cases hb:8<l.length
 ·rw [if_pos hb]at h;cases h
 ·rw [if_neg hb]at h;exact⟨wj,uZ l aB h⟩
theorem Uz (h:k5 p.name=0/\hexC p.dig=0/\p.size<=300):1<=(txt p.name).length/\(txt p.name).length<=14/\1<=(num p.size).length/\(num p.size).length<=2/\(xN p).length<=48:=by
 have h1:=xR h.1;have h2:=z1t p.name wj;have h3:=ZH h.2.1;have h4:=V2 p.size 1 wj;simp only [xN,List.length_append];omega
theorem jR (l:List PartP) (h:∀p∈l,k5 p.name=0/\hexC p.dig=0/\p.size<=300):(l.flatMap xN).length<=48*l.length:=by
 induction l with
 | nil=>simp
 | cons x l ih =>
  have h1:=(Uz (h x ws)).2.2.2.2;have h2:=ih (fun p hp=>h p (by simp [hp]));simp only [List.flatMap_cons,List.length_append,List.length_cons];omega
theorem Y4 {q:Option (ac)} {r:List PartP} (h1:k5 p.name=0) (h2:∀n,q=aC n->leS p.name n=false) (h3:hexC p.dig=0) (h4:p.size<=300):yx q (p::r)=yx (aC p.name) r:=by
 rw [kv,if_neg (fun e=>e h1)];cases q with
 | none=>simp only [];rw [if_neg wo,if_neg (fun e=>e h3),if_neg wj]
 | some n=>simp only [h2 n rfl];rw [if_neg wo,if_neg (fun e=>e h3),if_neg wj]
theorem Xs (l:List PartP) (h:l.length<=8):enc l= [65,77,49,UInt8.ofNat l.length]++l.flatMap xN:=by
 rw [enc,kg wj];simp
theorem j8 (l:List PartP) (h:l.length<=8):(enc l).length=4+(l.flatMap xN).length:=by rw [Xs l h];simp;omega
def keyS (k:Nat):ac:=shaS [107,UInt8.ofNat k]
theorem Jm (n:Int) (w:World) (h0: -9223372036854775808<=n) (h1:n<=9223372036854775807) :
  Calls zZZ 28 #[ax ay n] w fun e w'=>e= .returned (az ⟨(keyS (pk n 7)).toArray⟩)/\Below w.heap.size w w':=by
 have HP:=sqH (fun w'=>zY n 7 7 rfl w' h0 h1 wj wj);have hk:=yh n (m:=7) wj;generalize pk n 7=k at *
 obtain⟨b,hb⟩:=wU (UInt8.ofNat k)
 have hw:IntKind.u8.wrap (k:Int)=(b.toNat:Int):=by rw [hb,IntKind.wrap_u8,UInt8.toNat_ofNat'];omega
 have HK:=sqH (show keyS k=shaS [107,b] from by rw [keyS,hb]);have hr:Rd (w.alloc (aA #[ax .u8 107,ax .u8 (b.toNat:Int)] 5)) 1 (aC ⟨w.heap.size,0,aB⟩) 2 (bys [107,b]):=Rd.newN (w:=w) (e:=5) (size:=1) (m:=2) (bys [107,b]) rfl;have hb1:=wi w (aA #[ax .u8 107,ax .u8 (b.toNat:Int)] 5);have HD:=sqH (yt (aC ⟨w.heap.size,0,aB⟩) 2 2 [107,b] _ rfl wj wj hr);clear hb hr;go_enter func28,ntmps28;go_wp2_with fail;refine(HP.o _).mono ?_;rintro e_ _ ⟨rfl,rfl⟩;dsimp only;go_wp2_with fail;refine wV HD.o fun w2 hb2=>?_;dsimp only;go_wp2_with fail;go_ret;rw [HK.o];exact⟨rfl,wg hb1 hb2⟩
structure FlP where
 key:ac
 lead:Int
 wait:List Int
def qJ (p:FlP) (A:ae) (c:Nat):af:= [az ⟨p.key.toArray⟩,ax ay p.lead,aw A p.wait.length c]
def ins (l:List Int):af:=l.map (ax ay ·)
def Fls (w:World) (A:ae) (fs:List FlP):Prop :=
 ∃(As:List (ae×Nat)),As.length=fs.length/\Rd w 3 A fs.length ((fs.zip As).flatMap fun x=>qJ x.1 x.2.1 x.2.2) /\
  ∀(k:Nat) (p:FlP) (a:ae×Nat),fs[k]?=aC p->As[k]?=aC a->Rd w 1 a.1 p.wait.length (ins p.wait)/\p.wait.length<=a.2/\a.2<=maxLen
theorem Fls.below {fs:List FlP} (h:Fls w A fs) (hb:Below w.heap.size w w'):Fls w' A fs:=by
 obtain⟨As,h1,h2,h3⟩:=h;exact⟨As,h1,h2.below hb,fun k p a hp ha=>⟨(h3 k p a hp ha).1.below hb,(h3 k p a hp ha).2⟩⟩
theorem um:∀(fs:List FlP) (As:List (ae×Nat)) (k j:Nat) (p:FlP) (a:ae×Nat),fs[k]?=aC p->As[k]?=aC a->j<3 ->
  ((fs.zip As).flatMap fun x=>qJ x.1 x.2.1 x.2.2)[k*3+j]?=(qJ p a.1 a.2)[j]?
 | f::fs,a'::As,0,j,p,a,hp,ha,hj=>by
  simp only [List.getElem?_cons_zero,Option.some.injEq]at hp ha
  subst hp ha
  rw [List.zip_cons_cons,List.flatMap_cons,Nat.zero_mul,Nat.zero_add,List.getElem?_append_left (by simpa [qJ] using hj)]
 | f::fs,a'::As,k+1,j,p,a,hp,ha,hj=>by
  rw [List.zip_cons_cons,List.flatMap_cons,List.getElem?_append_right (by simp [qJ];omega)]
  rw [show(k+1)*3+j - (qJ f a'.1 a'.2).length=k*3+j by simp [qJ];omega]
  exact um fs As k j p a (by simpa using hp) (by simpa using ha) hj
theorem Fls.at_ {fs:List FlP} (h:Fls w A fs) (k:Nat) (hk:k<fs.length) :
  ∃b off B c,A=aC ⟨b,off,aB⟩/\b<w.heap.size/\w.cell? ⟨b,off+k*3,aB⟩=aC (az ⟨fs[k].key.toArray⟩)/\w.cell? ⟨b,off+k*3+1,aB⟩=aC (ax ay fs[k].lead) /\
   w.cell? ⟨b,off+k*3+2,aB⟩=aC (aw B fs[k].wait.length c)/\Rd w 1 B fs[k].wait.length (ins fs[k].wait)/\fs[k].wait.length<=c/\c<=maxLen:=by
 obtain⟨As,h1,h2,h3⟩:=h;obtain⟨b,off,rfl,hb,hc⟩:=h2.2 wj;have hp:fs[k]?=aC fs[k]:=List.getElem?_eq_getElem hk;have hka:k<As.length:=wj
 have ha:As[k]?=aC As[k]:=List.getElem?_eq_getElem hka;have hat:=fun j hj=>um fs As k j fs[k] As[k] hp ha hj;obtain⟨h4,h5,h6⟩:=h3 k _ _ hp ha;have c0:=hc (k*3+0) _ ((hat 0 wj).trans rfl);have c1:=hc (k*3+1) _ ((hat 1 wj).trans rfl);have c2:=hc (k*3+2) _ ((hat 2 wj).trans rfl);refine⟨b,off,As[k].1,As[k].2,rfl,hb,c0,?_,?_,h4,h5,h6⟩
 ·rw [<-c1];congr 2
 ·rw [<-c2];congr 2
def xU (l:List BlobP) (r:RawP) (i:Nat):PartP :=
 let b:=(l[pk (IntKind.i64.wrap (r.b+7*(i:Int))) l.length]?).getD ⟨[], [],0,false⟩
 ⟨[112,UInt8.ofNat (97+i)],b.dig,b.data.length⟩
def zX (l:List BlobP) (r:RawP):List PartP:=if l.length=0 then [] else (List.range (pk r.a 4)).map (xU l r)
structure AccP where
 aE:List BlobP
 aF:List EntP
 used:Nat
 aG:Nat
def jp (bl:List BlobP) (r:RawP):ac:=if pk r.kind 6=3 then enc (zX bl r) else z0m r 40
def z3i (bl:List BlobP) (r:RawP):BlobP:=⟨shaS (jp bl r),jp bl r,pk r.b 5 - 3,false⟩
def z4e (bl:List BlobP) (c:Nat) (r:RawP):EntP:=⟨keyS (pk r.a 7),zX bl r,pk r.b 5 - 3,c⟩
def JE (s:AccP) (r:RawP):AccP :=
 if pk r.kind 6<4 then
  if s.aE.any (fun b=>b.dig==shaS (jp s.aE r)) then s else { s with aE:=s.aE++ [z3i s.aE r],used:=s.used+(jp s.aE r).length }
 else
  if s.aF.any (fun x=>x.key==keyS (pk r.a 7)) then { s with aG:=s.aG+pk r.b 3 } else { s with aG:=s.aG+pk r.b 3,aF:=s.aF++ [z4e s.aE (s.aG+pk r.b 3) r] }
def usd (l:List BlobP):Nat:=(l.map (·.data.length)).sum
theorem QJ (l m:List BlobP):usd (l++m)=usd l+usd m:=by simp [usd]
theorem Je {l:List BlobP} (h:l.Perm m):usd l=usd m:=(h.map _).sum_nat
def Have (l:List BlobP) (ps:List PartP):Prop:=∀p∈ps,∃b∈l,b.dig=p.dig/\b.data.length=p.size
def GoodB1 (b:BlobP):Prop:=b.dig=shaS b.data/\b.data.length<=300/\b.pins<=5
structure GoodB (l:List BlobP):Prop where
 len:l.length<=24
 one:∀b∈l,GoodB1 b
 ris:RisesBy (·.dig) l
def GoodE1 (x:EntP):Prop:=hexC x.key=0/\chk x.parts=0/\x.pins<=5/\x.aK<=1099511627776
structure GoodE (l:List EntP):Prop where
 len:l.length<=10
 one:∀x∈l,GoodE1 x
 ris:RisesBy (·.key) l
structure GoodS (s:StoP):Prop where
 b:GoodB s.aE
 e:GoodE s.aF
 aH:s.aH<=4000
 used:usd s.aE<=s.aH
 aG:s.aG<=1099511627776
 ent:∀x∈s.aF,x.aK<=s.aG/\Have s.aE x.parts
theorem Have.mono {l:List BlobP} {ps:List PartP} (h:Have l ps) (hm:∀b∈l,b∈m):Have m ps:=fun p hp=>by
 obtain⟨b,hb,h2⟩:=h p hp
 exact⟨b,hm b hb,h2⟩
theorem uy (l:List BlobP) (r:RawP):(zX l r).length<=3:=by
 have:=yh r.a (m:=4) wj;rw [zX];split
 ·simp
 ·simp;omega
theorem V9 {l:List BlobP} {r:RawP} {i:Nat} (h:l.length≠0):∃b∈l,(xU l r i).dig=b.dig/\(xU l r i).size=b.data.length:=by
 have h1:=yh (IntKind.i64.wrap (r.b+7*(i:Int))) (m:=l.length) wj;refine⟨l[pk (IntKind.i64.wrap (r.b+7*(i:Int))) l.length],List.getElem_mem h1,?_⟩;simp only [xU,List.getElem?_eq_getElem h1,Option.getD_some,and_self]
theorem UZ (l:List BlobP) (r:RawP):Have l (zX l r):=fun p hp=>by
 rw [zX]at hp
 split at hp
 ·cases hp
 ·rename_i h0
  obtain⟨i,_,rfl⟩:=List.mem_map.1 hp
  obtain⟨b,hb,h1,h2⟩:=V9 (r:=r) (i:=i) h0
  exact⟨b,hb,h1.symm,h2.symm⟩
theorem z4c:∀i,i<3->k5 [112,UInt8.ofNat (97+i)]=0:=by decide
theorem ple:∀i j,i<3->j<i->leS [112,UInt8.ofNat (97+i)] [112,UInt8.ofNat (97+j)]=false:=by
 have key:∀i j:Fin 3,j.val<i.val->leS [112,UInt8.ofNat (97+i.val)] [112,UInt8.ofNat (97+j.val)]=false:=by decide +kernel
 exact fun i j h h'=>key ⟨i,h⟩ ⟨j,wj⟩ h'
theorem K2 (f:Nat->PartP) (hn:∀i,(f i).name= [112,UInt8.ofNat (97+i)]) (hf:∀i,hexC (f i).dig=0/\(f i).size<=300):∀(n i:Nat) (q:Option (ac)),i+n<=3->(q=aB\/∃j,j<i/\q=aC [112,UInt8.ofNat (97+j)])->yx q ((List.range' i n).map f)=0
 | 0,_,q,_,_=>by cases q<;>rfl
 | n+1,i,q,hi,hq=>by
  rw [List.range'_succ,List.map_cons,Y4 (by rw [hn];exact z4c i wj) (fun m hm=> ?_) (hf i).1 (hf i).2]
  ·exact K2 f hn hf n (i+1) _ wj (.inr ⟨i,wj,by rw [hn]⟩)
  ·rcases hq with h | ⟨j,hj,h⟩
   ·rw [h]at hm;cases hm
   ·rw [h]at hm;cases hm;rw [hn];exact ple i j wj hj
theorem vZ {l:List BlobP} (h:∀b∈l,hexC b.dig=0/\b.data.length<=300) (r:RawP):chk (zX l r)=0:=by
 have h3:=uy l r;have h4:=yh r.a (m:=4) wj;rw [chk,if_neg wj,zX];split
 ·rfl
 ·rename_i h0;rw [List.range_eq_range'];refine K2 _ (fun i=>rfl) (fun i=> ?_) _ 0 aB wj (.inl rfl);obtain⟨b,hb,e1,e2⟩:=V9 (l:=l) (r:=r) (i:=i) h0;rw [e1,e2];exact h b hb
structure AccOk (k:Nat) (s:AccP):Prop where
 blen:s.aE.length<=k
 bnd:(s.aE.map (·.dig)).Nodup
 bone:∀b∈s.aE,b.dig=shaS b.data/\b.data.length<=148/\b.pins<=1/\b.mark=false
 used:s.used=usd s.aE
 usedk:s.used<=148*k
 elen:s.aF.length<=k
 end_:(s.aF.map (·.key)).Nodup
 eone:∀x∈s.aF,(∃j,j<7/\x.key=keyS j)/\chk x.parts=0/\x.parts.length<=3/\x.pins<=1/\x.aK<=s.aG/\Have s.aE x.parts
 aG:s.aG<=2*k
theorem AccOk.hex {s:AccP} (h:AccOk k s):∀b∈s.aE,hexC b.dig=0/\b.data.length<=300:=fun b hb=>by
 obtain⟨h1,h2,_⟩:=h.bone b hb
 exact⟨by rw [h1];exact zA _,wj⟩
theorem Ym {s:AccP} (h:AccOk k s) (r:RawP):(jp s.aE r).length<=148:=by
 rw [jp];split
 ·have h3:=uy s.aE r;have hz:=zk (vZ h.hex r);rw [j8 _ hz.1];have:=jR _ hz.2;omega
 ·have:=K5 r 40;omega
theorem V0 (h:¬(l.any fun b=>f b==x)=true):∀b∈l,f b≠x:=fun b hb e=>h (List.any_eq_true.2 ⟨b,hb,by simp [e]⟩)
theorem jb {x:α} (h:(l.map f).Nodup) (hx:∀b∈l,f b≠f x):((l++ [x]).map f).Nodup:=by
 rw [List.map_append,List.nodup_append];refine⟨h,ws,fun a ha b hb=> ?_⟩;obtain⟨y,hy,rfl⟩:=List.mem_map.1 ha;simp only [List.map_cons,List.map_nil,List.mem_singleton]at hb;subst hb;exact hx y hy
theorem AccOk.step {s:AccP} (h:AccOk k s) (r:RawP):AccOk (k+1) (JE s r):=by
 have hb5:=yh r.b (m:=5) wj;have hb3:=yh r.b (m:=3) wj;have hl:=Ym h r;rw [JE];split
 ·split
  ·exact⟨by have:=h.blen;omega,h.bnd,h.bone,h.used,by have:=h.usedk;omega,by have:=h.elen;omega,h.end_,h.eone,by have:=h.aG;omega⟩
  ·rename_i hn;refine⟨by rw [List.length_append];have:=h.blen;simp;omega,jb h.bnd (V0 hn),fun b hb=> ?_,?_,?_,by have:=h.elen;show s.aF.length<=k+1;omega,h.end_,fun x hx=> ?_,by have:=h.aG;show s.aG<=_;omega⟩
   ·rcases List.mem_append.1 hb with h1 | h1
    ·exact h.bone b h1
    ·have:=List.mem_singleton.1 h1;subst this;exact⟨rfl,hl,by show pk r.b 5 - 3<=1;omega,rfl⟩
   ·rw [QJ];show s.used+_=_;rw [h.used];rfl
   ·show s.used+_<=_;have:=h.usedk;omega
   ·obtain⟨h1,h2,h3,h4,h5,h6⟩:=h.eone x hx;exact⟨h1,h2,h3,h4,h5,h6.mono fun b hb=>List.mem_append_left _ hb⟩
 ·split
  ·refine⟨by have:=h.blen;show s.aE.length<=_;omega,h.bnd,h.bone,h.used,by have:=h.usedk;show s.used<=_;omega,by have:=h.elen;show s.aF.length<=_;omega,h.end_,fun x hx=> ?_,by have:=h.aG;show s.aG+pk r.b 3<=_;omega⟩;obtain⟨h1,h2,h3,h4,h5,h6⟩:=h.eone x hx;exact⟨h1,h2,h3,h4,by show x.aK<=s.aG+pk r.b 3;omega,h6⟩
  ·rename_i hn;refine⟨by have:=h.blen;show s.aE.length<=_;omega,h.bnd,h.bone,h.used,by have:=h.usedk;show s.used<=_;omega,by rw [List.length_append];have:=h.elen;simp;omega,jb h.end_ (V0 hn),fun x hx=> ?_,by have:=h.aG;show s.aG+pk r.b 3<=_;omega⟩;rcases List.mem_append.1 hx with h1 | h1
   ·obtain⟨h1,h2,h3,h4,h5,h6⟩:=h.eone x h1;exact⟨h1,h2,h3,h4,by show x.aK<=s.aG+pk r.b 3;omega,h6⟩
   ·have:=List.mem_singleton.1 h1;subst this;exact⟨⟨_,yh _ wj,rfl⟩,vZ h.hex r,uy _ _,by show pk r.b 5 - 3<=1;omega,Nat.le_refl _,UZ _ _⟩
theorem AccOk.nil_:AccOk 0 ⟨[], [],0,0⟩:=⟨ws,ws,ws,rfl,ws,ws,ws,ws,ws⟩
theorem AccOk.mono {m:Nat} {s:AccP} (h:AccOk k s) (hk:k<=m):AccOk m s:=⟨by have:=h.blen;omega,h.bnd,h.bone,h.used,by have:=h.usedk;omega,by have:=h.elen;omega,h.end_,h.eone,by have:=h.aG;omega⟩
theorem ZN [DecidableEq α]:∀(l m:List α),l.Nodup->(∀x∈l,x∈m)->l.length<=m.length
 | [],m,_,_=>by simp
 | x::l,m,h,hm=>by
  have h1:=List.nodup_cons.1 h
  have hx:=hm x ws
  have:=ZN l (m.erase x) h1.2 fun y hy=>(List.mem_erase_of_ne (by rintro rfl;exact h1.1 hy)).2 (hm y (by simp [hy]))
  rw [List.length_erase_of_mem hx]at this
  have h0:0<m.length:=List.length_pos_of_mem hx
  rw [List.length_cons];omega
theorem Yb {ks:List ac} (h:ks.Nodup) (hk:∀k∈ks,∃j,j<7/\k=keyS j):ks.length<=7:=by
 have:=ZN ks ((List.range 7).map keyS) h fun k hk'=>by
  obtain⟨j,hj,rfl⟩:=hk k hk';exact List.mem_map.2 ⟨j,List.mem_range.2 hj,rfl⟩
 simpa using this
theorem Jg (l:List BlobP) (j:Nat) (hj:j<l.length):usd (l.take (j+1))=usd (l.take j)+l[j].data.length:=by
 rw [List.take_succ_eq_append_getElem hj,QJ];simp [usd]
theorem Jh (l:List BlobP) (j:Nat):usd (l.take j)<=usd l:=by
 have h:usd l=usd (l.take j)+usd (l.drop j):=by rw [<-QJ,List.take_append_drop]
 omega
theorem z0d (A:ae) (c:Nat) (l:List BlobP) (w:World) (hl:l.length<=1000000) (hu:usd l<=1000000000) (hA:Rw BlobS w A l) :
  Calls zZZ 26 #[aw A l.length c] w fun e w'=>e= .returned (ax ay (usd l:Int))/\Below w.heap.size w w':=by
 generalize hR:usd l=R;have HR:=sqH hR;clear hR;go_enter func26,ntmps26;go_wp2_with fail;go_loopg [3,8] l.length (fun gn u i wr=>∃j:Nat,gn=l.length - j/\i= ax ay j/\j<=l.length/\u= ax ay ((usd (l.take j):Nat):Int)/\Below w.heap.size w wr)
 case atStart=>exact⟨0,rfl,rfl,wj,rfl,Below.refl _ _⟩
 case round =>
  obtain⟨j,hgk,rfl,hj,rfl,hbl⟩:=hrel;have HGK:=sqH hgk;clear hgk;by_cases hlt:j<l.length
  ·have hcc:decide (j<l.length)=true:=decide_eq_true hlt;obtain⟨b,off,B,cb,rfl,hbb,c0,c1,c2,c3,hs⟩:=(hA.below hbl).blob_at j hlt;have hj0:=wX j
   have hj1:(j:Int)<(l.length:Int):=wj
   have hst:=Jg l j hlt;have hle:=Jh l (j+1);have hle2:usd (l.take j)+l[j].data.length<=1000000000:=wj
   have HST:=sqH hst;clear hst hle hs;have hb1:=wi wr (aA #[az ⟨l[j].dig.toArray⟩,aw B l[j].data.length cb,ax ay (l[j].pins:Int),.bool l[j].mark] 88);have hb2:=wg hbl hb1;generalize l[j].data.length=d at *
   generalize usd (l.take j)=u at *
   generalize l[j]=x at *
   clear hb1;go_wp2_with fail;go_roundg (l.length - (j+1))
   case measure=>exact wW HGK
   case rel=>exact⟨j+1,rfl,by go_num,wj,by rw [HST.o];go_num,hb2⟩
  ·obtain rfl:j=l.length:=by omega
   have hcc:decide (l.length<l.length)=false:=ws
   rw [List.take_length,HR.o];go_wp2_with fail;go_ret;exact⟨rfl,hbl⟩
theorem vA (A:ae) (c:Nat) (l:List BlobP) (rm more:Nat) (w:World) (hl:l.length<=1000000) (hu:usd l<=1000000000) (hrm:rm<=4000) (hmo:more<=4000) (hA:Rw BlobS w A l) :
  Calls zZZ 144 #[aw A l.length c,ax ay rm,ax ay more] w fun e w'=>e= .returned (.tuple #[ax ay ((usd l+more - rm:Nat):Int),ax ay 0])/\Below w.heap.size w w':=by
 have HU:=sqH (z0d A c l w hl hu hA);have g1:decide ((rm:Int)<0)=false:=decide_eq_false wj;have g2:decide ((rm:Int)>4000)=false:=decide_eq_false wj;have g3:decide ((4000:Int)<(rm:Int))=false:=decide_eq_false wj;have g4:decide ((more:Int)<0)=false:=decide_eq_false wj;have g5:decide ((more:Int)>4000)=false:=decide_eq_false wj;have g6:decide ((4000:Int)<(more:Int))=false:=decide_eq_false wj;clear hA;generalize hR:usd l=R at *
 have hmx:max (0:Int) ((R:Int)+(more:Int) - (rm:Int))=((R+more - rm:Nat):Int):=wj
 have HMX:=sqH hmx;clear hR hmx;go_enter func144,ntmps144;go_wp2_with fail;refine wV HU.o fun w1 hb1=>?_;dsimp only;go_wp2_with fail;go_ret2;rw [<-HMX.o];exact⟨rfl,hb1⟩
theorem Qb (A:ae) (c:Nat) (l:List BlobP) (rm more:Nat) (w:World) (hl:l.length<=1000000) (hu:usd l<=1000000000) (hrm:rm<=4000) (hmo:more<=4000) (hA:Rw BlobS w A l) :
  Calls zZZ 98 #[aw A l.length c,ax ay rm,ax ay more] w fun e w'=>e= .returned (ax ay (if usd l+more<=rm then 0 else 7))/\Below w.heap.size w w':=by
 have HU:=sqH (vA A c l rm more w hl hu hrm hmo hA);clear hA;generalize hR:usd l=R at *
 by_cases h:R+more<=rm
 ·have HI:=sqH (show(if R+more<=rm then (0:Int) else 7)=0 from if_pos h);have hz:R+more - rm=0:=wj
  rw [hz]at HU;clear hR hz h;go_enter func98,ntmps98;go_wp2_with fail;refine wV HU.o fun w1 hb1=>?_;dsimp only
  refine wH ?_;intros
  go_ret;rw [HI.o];exact⟨rfl,hb1⟩
 ·have HI:=sqH (show(if R+more<=rm then (0:Int) else 7)=7 from if_neg h);obtain⟨z,hz⟩:=wU (R+more - rm)
  have hz0:0<z:=wj
  have g1:decide ((z:Int)>0)=true:=decide_eq_true wj;have g2:decide ((0:Int)<(z:Int))=true:=decide_eq_true wj;have g3:decide (0<z)=true:=decide_eq_true hz0;rw [<-hz]at HU;clear hR hz h;go_enter func98,ntmps98;go_wp2_with fail;refine wV HU.o fun w1 hb1=>?_;dsimp only
  refine wH ?_;intros
  go_ret;rw [HI.o];exact⟨rfl,hb1⟩
theorem Uc (A:ae) (c:Nat) (l:List BlobP) (r:RawP) (w:World) (hl:l.length<=1000000) (hc:l.length<=c) (hm:c<=maxLen) (hd:∀b∈l,b.data.length<=1000000) (hA:Rw BlobS w A l) (hr:RawOk r) :
  Calls zZZ 43 #[aw A l.length c,.agg #[ax ay r.kind,ax ay r.a,ax ay r.b,az r.text]] w fun e w'=>∃v,e= .returned v/\w'.ownsRow w.heap.size 51 3 v (zX l r).length (pcs (zX l r))/\Below w.heap.size w w':=by
 obtain⟨HR,HD,HC,HPA⟩:=sqJ4 hr hd (And.intro hc hm) (fun w'=>zY r.a 4 4 rfl w' hr.a0 hr.a1 wj wj);have hp4:=yh r.a (m:=4) wj;generalize hPT:zX l r=PT;have HPT:=sqH (show PT=if l.length=0 then [] else (List.range (pk r.a 4)).map (xU l r) from hPT.symm);obtain⟨m,hmm⟩:=wU (pk r.a 4)
 rw [<-hmm]at hp4 HPA HPT;obtain⟨rk,ra,rb,rt⟩:=r;have hX:=Arr.new w 85 [ax ay rk,ax ay ra,ax ay rb,az rt];have hb1:=wi w (aA #[ax ay rk,ax ay ra,ax ay rb,az rt] 85);have hX':Arr (w.alloc (aA #[ax ay rk,ax ay ra,ax ay rb,az rt] 85)) w.heap.size 85 [ax ay rk,ax ay ra,ax ay rb,az rt]:=hX;have x1:=hX'.c1;clear hX hd hr hc hm hmm hPT;go_enter func43,ntmps43;go_wp2_with fail;have hs1:(w.alloc (aA #[ax ay rk,ax ay ra,ax ay rb,az rt] 85)).heap.size=w.heap.size+1:=World.size_alloc _ _;generalize w.alloc (aA #[ax ay rk,ax ay ra,ax ay rb,az rt] 85)=w1 at *
 have HS1:=sqH hs1;clear x1 hs1;refine wV (HPA.o _) fun w2 hw2=>?_;dsimp only;subst hw2;go_wp2_with fail;rcases Nat.eq_zero_or_pos l.length with h0 | h0
 ·have HZ:=sqH (show PT= [] by rw [HPT.o,if_pos h0]);have h0b:decide (((l.length:Nat):Int)>0)=false:=decide_eq_false wj;have h0c:decide ((0:Int)<((l.length:Nat):Int))=false:=decide_eq_false wj;have h0d:decide (0<l.length)=false:=decide_eq_false wj;go_loopg [5,11] m (fun gn v i wr=>∃k:Nat,gn=m - k/\i= ax ay k/\k<=m/\v= aw aB 0 0/\wr=w1)
  case atStart=>exact⟨0,rfl,rfl,wj,rfl,rfl⟩
  case round =>
   obtain⟨k,hgk,rfl,hk,rfl,rfl⟩:=hrel;have HGK:=sqH hgk;clear hgk;by_cases hlt:k<m
   ·have hcc:decide (k<m)=true:=decide_eq_true hlt;go_wp2_with fail;go_roundg (m - (k+1))
    case measure=>exact wW HGK
    case rel=>exact⟨k+1,rfl,by go_num,wj,rfl,rfl⟩
   ·obtain rfl:k=m:=by omega
    have hcc:decide (k<k)=false:=ws
    go_wp2_with fail;go_ret;rw [HZ.o];exact⟨_,rfl,World.ownsRow_nil _ _ _ _,hb1⟩
 ·obtain⟨HZ,HX,HA⟩:=sqJ3 (show PT=(List.range m).map (xU l ⟨rk,ra,rb,rt⟩) by rw [HPT.o,if_neg wj]) hX' hA;clear hX' hA HPT;go_loopg [5,11] m (fun gn v i wr=>∃k:Nat,gn=m - k/\i= ax ay k/\k<=m/\wr.ownsRow w1.heap.size 51 3 v k (pcs ((List.range k).map (xU l ⟨rk,ra,rb,rt⟩)))/\Below w1.heap.size w1 wr)
  case atStart=>exact⟨0,rfl,rfl,wj,World.ownsRow_nil _ _ _ _,Below.refl _ _⟩
  case round =>
   obtain⟨k,hgk,rfl,hk,hown,hbel⟩:=hrel;have HGK:=sqH hgk;clear hgk;by_cases hlt:k<m
   ·have hcc:decide (k<m)=true:=decide_eq_true hlt;have h0b:decide (((l.length:Nat):Int)>0)=true:=decide_eq_true wj;have h0c:decide ((0:Int)<((l.length:Nat):Int))=true:=decide_eq_true wj;have h0d:decide (0<l.length)=true:=decide_eq_true h0;have x2:=(HX.o.below hbel).c2;have hw7:IntKind.i64.wrap (7*(k:Int))=7*(k:Int):=IntWalk.i64_in _ wj;have hwi:∀z, -9223372036854775808<=IntKind.i64.wrap z/\IntKind.i64.wrap z<=9223372036854775807:=fun z=>by rw [IntKind.wrap_i64];omega
    have hP:=zY (IntKind.i64.wrap (rb+7*(k:Int))) l.length l.length rfl wr (hwi _).1 (hwi _).2 h0 wj;rw [IntWalk.i64_left]at hP;have HP:=sqH hP;have hpl:=yh (IntKind.i64.wrap (rb+7*(k:Int))) (m:=l.length) h0;clear hP;obtain⟨q,hq⟩:=wU (pk (IntKind.i64.wrap (rb+7*(k:Int))) l.length)
    rw [<-hq]at hpl;rw [<-IntWalk.i64_left,<-hq]at HP;rw [IntWalk.i64_left]at HP;have hprt:xU l ⟨rk,ra,rb,rt⟩ k=⟨[112,UInt8.ofNat (97+k)],l[q].dig,l[q].data.length⟩:=by
     simp only [xU,<-hq,List.getElem?_eq_getElem hpl,Option.getD_some]
    have HPR:=sqH hprt;have hrng:(List.range (k+1)).map (xU l ⟨rk,ra,rb,rt⟩)=(List.range k).map (xU l ⟨rk,ra,rb,rt⟩)++ [xU l ⟨rk,ra,rb,rt⟩ k]:=by rw [List.range_succ,List.map_append];rfl
    have HRN:=sqH hrng;have hdl:=HD.o _ (List.getElem_mem hpl);obtain⟨b,off,B,cb,rfl,hbb,c0,c1,c2,c3,_⟩:=(HA.o.below (wg hb1 hbel)).blob_at q hpl;generalize l[q]=bl at *
    obtain⟨dg,dt,pn,mk⟩:=bl;dsimp only at c0 c1 c2 c3 hdl;generalize hs:(⟨dg.toArray⟩:ByteArray)=s at *
    have HS:=sqH hs;have i0:=wX q
    have i1:(q:Int)<(l.length:Int):=wj
    have hcv:=fun (w':World) (g:Nat) (h:w'.cell? ⟨g,0,aB⟩=aC (ax .u8 (97+(k:Int))))=>Uw (97+(k:Int)) w' g h wj wj;have hw1:IntKind.i64.wrap (97+(k:Int))=97+(k:Int):=IntWalk.i64_in _ wj;have hw2:IntKind.u8.wrap (97+(k:Int))=97+(k:Int):=by rw [IntKind.wrap_u8];omega
    clear hprt hrng hq hs;go_wp2_with fail;refine wV HP.o fun w3 hw3=>?_;dsimp only;subst hw3
    refine wH ?_;intros
    have hnm:(({ data:=#[112] }:ByteArray)++({ data:=#[97+UInt8.ofNat k] }:ByteArray))=⟨#[112,UInt8.ofNat (97+k)]⟩:=by rw [UInt8.ofNat_add];rfl
    rw [hnm];have hbb1:=wi wr (aA #[az s,aw B dt.length cb,ax ay pn,.bool mk] 88);have hbb2:=hbb1.alloc hbb1.size (aA #[ax .u8 (97+(k:Int))] 5);have hown2:=zc hown hbb2;have hs4:((wr.alloc (aA #[az s,aw B dt.length cb,ax ay pn,.bool mk] 88)).alloc (aA #[ax .u8 (97+(k:Int))] 5)).heap.size=wr.heap.size+1+1:=by rw [World.size_alloc,World.size_alloc]
    generalize (wr.alloc (aA #[az s,aw B dt.length cb,ax ay pn,.bool mk] 88)).alloc (aA #[ax .u8 (97+(k:Int))] 5)=w4 at *
    have hbel4:=wg hbel hbb2;rw [<-hs4];refine zg rfl (.tmp 28) (.tmp 41) rfl Xq wu hown2 (us:= [az ⟨#[112,UInt8.ofNat (97+k)]⟩,az s,ax ay dt.length]) (m:=1) wu rfl (by intro u hu;simp only [List.mem_cons,List.not_mem_nil,or_false]at hu;rcases hu with rfl | rfl | rfl<;>rfl) wj hbel4.size ?_;intro v7 w7 ho7 hg7 _;have hb7:=zj hbel4 hown2 ab hg7;have ho8:w7.ownsRow w1.heap.size 51 3 v7 (k+1) (pcs ((List.range (k+1)).map (xU l ⟨rk,ra,rb,rt⟩))):=by
     rw [HRN.o,HPR.o,V7];have e1:pcs [⟨[112,UInt8.ofNat (97+k)],dg,dt.length⟩]= [az ⟨#[112,UInt8.ofNat (97+k)]⟩,az s,ax ay dt.length]:=by rw [<-HS.o];rfl
     rw [e1];exact ho7
    clear hown hown2 ho7 hg7 hbb1 hbb2;go_wp2_with fail;go_roundg (m - (k+1))
    case measure=>exact wW HGK
    case rel=>exact⟨k+1,rfl,by go_num,wj,ho8,hb7⟩
   ·obtain rfl:k=m:=by omega
    have hcc:decide (k<k)=false:=ws
    go_wp2_with fail;go_ret;rw [HZ.o];refine⟨_,rfl,?_,wg hb1 hbel⟩;rw [List.length_map,List.length_range];exact zb hown hb1.size
def put4 (w:World) (g o:Nat) (u0 u1 u2 u3:Value):World:=(((w.setCell ⟨g,o,aB⟩ u0).setCell ⟨g,o+1,aB⟩ u1).setCell ⟨g,o+2,aB⟩ u2).setCell ⟨g,o+3,aB⟩ u3
theorem set4 {X:af} {u0 u1 u2 u3:Value} (ho:X.length=o) :
  ((((X++ [a0,a1,a2,a3]++Y).set o u0).set (o+1) u1).set (o+2) u2).set (o+3) u3=X++ [u0,u1,u2,u3]++Y:=by
 subst ho;simp only [List.append_assoc];rw [List.set_append_right _ _ ab,List.set_append_right _ _ wj,List.set_append_right _ _ wj,List.set_append_right _ _ wj];simp
theorem UY {s:Nat} {X:af} (h:w.ownsRow base e s (aw (aC ⟨g,0,aB⟩) n cap) n (X++ [a0,a1,a2,a3]++Y)) (ho:X.length=o) (u0 u1 u2 u3:Value) :
  (put4 w g o u0 u1 u2 u3).ownsRow base e s (aw (aC ⟨g,0,aB⟩) n cap) n (X++ [u0,u1,u2,u3]++Y)/\w.grownBy (put4 w g o u0 u1 u2 u3) (aC g):=by
 have hl:(X++ [a0,a1,a2,a3]++Y).length=o+4+Y.length:=by simp [ho];omega
 obtain⟨k1,g1,_,_⟩:=xT h (k:=o) wj u0;obtain⟨k2,g2,_,_⟩:=xT k1 (k:=o+1) (by rw [List.length_set];omega) u1;obtain⟨k3,g3,_,_⟩:=xT k2 (k:=o+2) (by rw [List.length_set,List.length_set];omega) u2;obtain⟨k4,g4,_,_⟩:=xT k3 (k:=o+3) (by rw [List.length_set,List.length_set,List.length_set];omega) u3;rw [set4 ho]at k4;refine⟨k4,?_⟩;have t:∀ {a b c:World},a.grownBy b (aC g)->b.grownBy c (aC g)->a.grownBy c (aC g):=fun {a b c} h k =>
  ⟨k.os.trans h.os,k.tape.trans h.tape,k.output.trans h.output,Nat.le_trans h.size k.size,fun i hi hne=>(k.block i (Nat.lt_of_lt_of_le hi h.size) hne).trans (h.block i hi hne)⟩
 exact t (t (t g1 g2) g3) g4
section
variable {α:Type} {S:Shp α} {w:World} {e:TypeId} {base g cap:Nat}
end
section
variable {α:Type} {f:α->List UInt8}
structure Ins (f:α->List UInt8) (A:List α) (x:α) (B:List α):Prop where
 ris:RisesBy f (A++B)
 less:∀b∈B,Op.bytesLess (f x) (f b)=true
theorem Ins.done {A B:List α} {a x:α} (h:Ins f (A++ [a]) x B) (hl:Op.bytesLess (f a) (f x)=true):RisesBy f (A++ [a]++x::B):=by
 obtain⟨h1,h2,h3⟩:=List.pairwise_append.1 h.ris;refine List.pairwise_append.2 ⟨h1,List.pairwise_cons.2 ⟨h.less,h2⟩,fun y hy z hz=> ?_⟩;rcases List.mem_cons.1 hz with rfl | hz
 ·rcases List.mem_append.1 hy with hy | hy
  ·exact qi ((List.pairwise_append.1 h1).2.2 y hy a ws) hl
  ·have:=List.mem_singleton.1 hy;subst this;exact hl
 ·exact h3 y hy z hz
theorem z3h {l m:List α} (h:RisesBy f m) (hp:m.Perm l):m=srt f l:=by
 refine RisesBy.perm h (uD ?_) (hp.trans (q9 f l).symm);exact(hp.map f).nodup_iff.1 h.map.nodup
end
def RwX {α:Type} (S:Shp α) (e:TypeId) (w:World) (base:Nat) (v:Value) (l:List α) (N:ai):Prop :=
 ∃ps:Cel α,ps.map (·.1)=l/\qH S w ps/\w.ownsRow base e S.size v l.length (cls ps)/\∀p∈ps,∀b,(v.ownBlock=aC b\/N b)->¬leads b p.2
section
variable {α:Type} {S:Shp α} {w w':World} {e:TypeId} {base base':Nat} {v v':Value} {l:List α} {N N':ai}
theorem RwX.rwo (h:RwX S e w base v l N):RwO S e w base v l:=by
 obtain⟨ps,h1,h2,h3,h4⟩:=h;exact⟨ps,h1,h2,h3,fun p hp b hb=>h4 p hp b (.inl hb)⟩
theorem RwX.below (h:RwX S e w base v l N) (hb:Below w.heap.size w w'):RwX S e w' base v l N:=by
 obtain⟨ps,h1,h2,h3,h4⟩:=h;exact⟨ps,h1,h2.below hb,zc h3 hb,h4⟩
theorem RwX.nil_ (h:w.ownsRow base e S.size v 0 []):RwX S e w base v [] N:=⟨[],rfl,(fun p hp=>nomatch hp),h,(fun p hp=>nomatch hp)⟩
theorem RwX.other {g:Option Nat} (h:RwX S e w base v l N) (hg:w.grownBy w' g) (hv:∀b,g=aC b->v.ownBlock≠aC b) (hN:∀b,g=aC b->N b):RwX S e w' base v l N:=by
 obtain⟨ps,h1,h2,h3,h4⟩:=h;refine⟨ps,h1,h2.grown hg (fun p hp b hb=>h4 p hp b (.inr (hN b hb))),h3.kept hg ?_,h4⟩;cases hb:v.ownBlock with
 | none=>exact .inl rfl
 | some b=>exact .inr (fun e1=>hv b e1.symm hb)
theorem RwX.wider (h:RwX S e w base v l N) (hN:∀b,N' b->N b\/w.heap.size<=b):RwX S e w base v l N':=by
 obtain⟨ps,h1,h2,h3,h4⟩:=h;refine⟨ps,h1,h2,h3,fun p hp b hb hl=> ?_⟩;rcases hb with hb | hb
 ·exact h4 p hp b (.inl hb) hl
 ·rcases hN b hb with h5 | h5
  ·exact h4 p hp b (.inr h5) hl
  ·have:=S.live (h2 p hp) b hl;omega
theorem RwX.open_ (h:RwX S e w base v l N):∃xs,w.ownsRow base e S.size v l.length xs /\
  ∀(x:α) (cs:af) (w1 w2:World) (v2:Value),Below w.heap.size w w1->S.R w1 x cs->(∀b,(v.ownBlock=aC b\/N b)->¬leads b cs)->w2.ownsRow base e S.size v2 (l.length+1) (xs++cs)->w1.grownBy w2 v.ownBlock->(v2.ownBlock=v.ownBlock\/∃g,v2.ownBlock=aC g/\w1.heap.size<=g) ->
   RwX S e w2 base v2 (l++ [x]) N:=by
 obtain⟨ps,h1,h2,h3,h4⟩:=h;refine⟨_,h3,fun x cs w1 w2 v2 hb hx hxl ho hg hv=> ?_⟩;have h2':=h2.below hb;have hall:∀p∈ps++ [(x,cs)],S.R w1 p.1 p.2/\∀b,(v.ownBlock=aC b\/N b)->¬leads b p.2:=fun p hp=>by
  rcases List.mem_append.1 hp with h | h
  ·exact⟨h2' p h,h4 p h⟩
  ·have:=List.mem_singleton.1 h;subst this;exact⟨hx,hxl⟩
 refine⟨ps++ [(x,cs)],by simp [h1],?_,?_,fun p hp b hb hl=> ?_⟩
 ·exact qH.grown (w:=w1) (g:=v.ownBlock) (fun p hp=>(hall p hp).1) hg (fun p hp b hb=>(hall p hp).2 b (.inl hb))
 ·rw [yU,List.length_append];simpa [cls] using ho
 ·rcases hb with hb | hb
  ·rcases hv with e1 | ⟨g,e1,hge⟩
   ·exact(hall p hp).2 b (.inl (by rw [<-e1];exact hb)) hl
   ·rw [e1]at hb;cases hb
    have:=S.live (hall p hp).1 _ hl;omega
  ·exact(hall p hp).2 b (.inr hb) hl
end
def Shp.off {α:Type} (S:Shp α) (N:ai):Shp α where
 size:=S.size
 R w x cs:=S.R w x cs/\∀b,N b->¬leads b cs
 len h:=S.len h.1
 one h:=S.one h.1
 live h:=S.live h.1
 keep h hs hk:=⟨S.keep h.1 hs hk,h.2⟩
theorem RwX.off {S:Shp α} (h:RwX S e w base v l N):RwO (S.off N) e w base v l:=by
 obtain⟨ps,h1,h2,h3,h4⟩:=h;exact⟨ps,h1,fun p hp=>⟨h2 p hp,fun b hb=>h4 p hp b (.inr hb)⟩,h3,fun p hp b hb=>h4 p hp b (.inl hb)⟩
theorem RwO.on {S:Shp α} (h:RwO (S.off N) e w base v l):RwX S e w base v l N:=by
 obtain⟨ps,h1,h2,h3,h4⟩:=h;exact⟨ps,h1,fun p hp=>(h2 p hp).1,h3,fun p hp b hb=>hb.elim (h4 p hp b) ((h2 p hp).2 b)⟩
theorem zf (h:w.ownsRow base e size v n xs) (hA:Arr w g e' ys) (hne:e≠e'):v.ownBlock≠aC g:=fun hg=>by
 rcases h.2 with ⟨rfl,_⟩ | ⟨g',cap,cur,rfl,_,h2,_⟩
 ·cases hg
 ·cases hg
  have h3:=Eq.trans (Eq.symm h2) hA
  simp only [Option.some.injEq,Obj.cells.injEq]at h3
  exact hne h3.2.1
theorem Jo {g':Nat} (h:Arr w g e xs) (h':Arr w g' e' ys) (hne:e≠e'):g≠g':=fun hg=>by
 subst hg
 have h3:=(h:w.heap[g]?=_).symm.trans h'
 simp only [Option.some.injEq,Obj.cells.injEq]at h3
 exact hne h3.2.1
theorem vT (h:w.ownsRow base e size v n xs):∃A c,v= aw A n c/\Sl w size A n c xs/\∀a,A=aC a->base<=a.block:=Sl.of_own h
structure StW (w:World) (H:Nat) (vb ve:Value) (s:AccP):Prop where
 box:Arr w (H+1) 27 [vb,ve,ax ay 0,ax ay s.aG]
 res:Arr w H 27 [aw aB 0 0,aw aB 0 0,ax ay 0,ax ay 0]
 b:RwX BlobS 88 w (H+2) vb s.aE (fun g=>(g=H\/g=H+1)\/ve.ownBlock=aC g)
 e:RwX EntS 109 w (H+2) ve s.aF (fun g=>(g=H\/g=H+1)\/vb.ownBlock=aC g)
 ne:∀g,vb.ownBlock=aC g->ve.ownBlock≠aC g
theorem StW.below {H:Nat} {vb ve:Value} {s:AccP} (h:StW w H vb ve s) (hb:Below w.heap.size w w'):StW w' H vb ve s :=
 ⟨h.box.below hb,h.res.below hb,h.b.below hb,h.e.below hb,h.ne⟩
theorem uh:El zZZ 24 88 4 56:=El.mk' (z:= .agg #[az ByteArray.empty,aw aB 0 0,ax ay 0,.bool false]) underlying24 wm rfl wj wj
theorem Xp:El zZZ 25 109 4 56:=El.mk' (z:= .agg #[az ByteArray.empty,aw aB 0 0,ax ay 0,ax ay 0]) underlying25 wm rfl wj wj
theorem zU (w:World) (g k:Nat) (u:Value):w.grownBy (w.setCell ⟨g,k,aB⟩ u) (aC g):=⟨rfl,rfl,rfl,by simp [World.setCell],fun j _ hj=>Below.heap_setCell w _ u j (fun e=>hj (by rw [e]))⟩
theorem Arr.grown {r:Option Nat} (h:Arr w g e xs) (hg:w.grownBy w' r) (hne:r≠aC g):Arr w' g e xs:=(hg.block g h.lt (fun e=>hne e.symm)).trans h
theorem jM (x:BlobP) (B:ae) (c:Nat):∀u∈zZ x B c,u.oneCell'=true:=by
 intro u hu;simp only [zZ,List.mem_cons,List.not_mem_nil,or_false]at hu;rcases hu with rfl | rfl | rfl | rfl<;>rfl
theorem Jv (x:EntP) (B:ae) (c:Nat):∀u∈kj x B c,u.oneCell'=true:=by
 intro u hu;simp only [kj,List.mem_cons,List.not_mem_nil,or_false]at hu;rcases hu with rfl | rfl | rfl | rfl<;>rfl
theorem Zr {x:BlobP} (h:leads b (zZ x B c)):∃a,B=aC a/\a.block=b:=by
 obtain⟨a,n,c',hm,rfl⟩:=h;simp only [zZ,List.mem_cons,List.not_mem_nil,or_false,Value.slice.injEq,reduceCtorEq,false_or]at hm;exact⟨a,hm.1.symm,rfl⟩
theorem Uy {x:EntP} (h:leads b (kj x B c)):∃a,B=aC a/\a.block=b:=by
 obtain⟨a,n,c',hm,rfl⟩:=h;simp only [kj,List.mem_cons,List.not_mem_nil,or_false,Value.slice.injEq,reduceCtorEq,false_or]at hm;exact⟨a,hm.1.symm,rfl⟩
theorem kW.sl {l:ac} (h:kW w base A c l):Sl w 1 A l.length c (bys l)/\∀a,A=aC a->base<=a.block:=by
 have h1:=h.rd;have h2:=h.cap;obtain⟨g,rest,fz,rfl,hb,hg,hl,hm,hf⟩:=h;exact⟨⟨h1,h2.1,h2.2,fun a ha=>by cases ha;exact(Array.getElem?_eq_some_iff.1 hg).1⟩,fun a ha=>by cases ha;exact hb⟩
section
variable {w:World} {H:Nat} {vb ve:Value} {s:AccP}
theorem StW.lt (h:StW w H vb ve s):H+1<w.heap.size:=h.box.lt
theorem StW.bB (h:StW w H vb ve s):∀g,vb.ownBlock=aC g->H+2<=g/\g<w.heap.size:=fun g e=>h.b.rwo.blk e
theorem StW.bE (h:StW w H vb ve s):∀g,ve.ownBlock=aC g->H+2<=g/\g<w.heap.size:=fun g e=>h.e.rwo.blk e
theorem StW.rows (h:StW w H vb ve s) (k:Nat) (u:Value) :
  RwX BlobS 88 (w.setCell ⟨H+1,k,aB⟩ u) (H+2) vb s.aE (fun g=>(g=H\/g=H+1)\/ve.ownBlock=aC g)/\RwX EntS 109 (w.setCell ⟨H+1,k,aB⟩ u) (H+2) ve s.aF (fun g=>(g=H\/g=H+1)\/vb.ownBlock=aC g)/\Arr (w.setCell ⟨H+1,k,aB⟩ u) H 27 [aw aB 0 0,aw aB 0 0,ax ay 0,ax ay 0] :=
 ⟨h.b.other (zU w _ k u) (fun b e1 e2=>by cases e1;have:=h.bB _ e2;omega) (fun b e=>by cases e;exact .inl (.inr rfl)),
  h.e.other (zU w _ k u) (fun b e1 e2=>by cases e1;have:=h.bE _ e2;omega) (fun b e=>by cases e;exact .inl (.inr rfl)),
  h.res.other wj u⟩
theorem Arr.all4 {w:World} {x0 x1 x2 x3:Value} (h:Arr w g e [x0,x1,x2,x3]) (y0 y1 y2 y3:Value) :
  Arr ((((w.setCell ⟨g,0,aB⟩ y0).setCell ⟨g,1,aB⟩ y1).setCell ⟨g,2,aB⟩ y2).setCell ⟨g,3,aB⟩ y3) g e [y0,y1,y2,y3] :=
 (((h.set (k:=0) ws y0).set (k:=1) ws y1).set (k:=2) ws y2).set (k:=3) ws y3
theorem RwX.set {S:Shp α} {w:World} (h:RwX S e w base v l N) (hg:g<base) (hN:N g) (u:Value):RwX S e (w.setCell ⟨g,k,aB⟩ u) base v l N :=
 h.other (zU w g k u) (fun b e1 e2=>by cases e1;have:=(h.rwo.blk e2).1;omega) (fun b e=>by cases e;exact hN)
end
theorem Arr.setsMid:∀(ys xs zs ts:af) (W:World),Arr W g e (zs++(xs++ts))->ys.length=xs.length->Arr (W.setCells g zs.length ys) g e (zs++(ys++ts))
 | [], [],zs,ts,W,h,_=>h
 | y::ys,x::xs,zs,ts,W,h,hl=>by
  have h1:=h.set (k:=zs.length) ws y
  rw [List.set_append_right _ _ ab,Nat.sub_self,List.cons_append,List.set_cons_zero]at h1
  have h2:=Arr.setsMid ys xs (zs++ [y]) ts _ (by simpa using h1) (by simpa using hl)
  rw [List.append_assoc]at h2
  simp only [List.length_append,List.length_cons,List.length_nil,Nat.zero_add]at h2
  exact h2
theorem yS (b off j:Nat):(⟨b,off,aB⟩:Addr).add j=⟨b,off+j,aB⟩:=by unfold Addr.add;split<;>simp_all
theorem xp (hne:k≠g):∀(ys:af) (o:Nat) (W:World),(W.setCells g o ys).heap[k]?=W.heap[k]?
 | [],_,_=>rfl
 | y::ys,o,W=>(xp hne ys (o+1) _).trans (Below.heap_setCell W _ y k hne)
theorem Qr (W:World) (g o:Nat) (ys:af):W.grownBy (W.setCells g o ys) (aC g) :=
 have h:=Below.sets (B:=0) (g:=g) (Nat.zero_le _) ys o W (Below.refl 0 W)
 ⟨h.os,h.tape,h.output,h.size,fun k hk hne=>xp (fun e=>hne (by rw [e])) ys o W⟩
section
variable {P:Program} {w:World}
theorem z1k {ty:TypeId} (E:El P t e size bytes) {us:af} {m:Nat}
  (hown:w.ownsRow base e size (aw (aC ⟨g,0,aB⟩) n cap) n xs) (hl:us.length=m*size) (h1:∀u∈us,u.oneCell'=true) (hroom:n+m<=cap) :
  ∃w',(Builtin.append_ #[t,t] ty #[aw (aC ⟨g,0,aB⟩) n cap,aw (aC ⟨w.heap.size,0,aB⟩) m c]).run P (w.alloc (.cells us.toArray e'))= .ok (aw (aC ⟨g,0,aB⟩) (n+m) cap) w' /\
   w'.ownsRow base e size (aw (aC ⟨g,0,aB⟩) (n+m) cap) (n+m) (xs++us)/\w.grownBy w' (aC g):=by
 obtain⟨hu,⟨i,z,hi,hz,hs,hby,hzs⟩,hp,hq⟩:=E;subst hs;obtain⟨hxl,h2⟩:=hown;rcases h2 with ⟨h,_⟩ | ⟨g',cap',cur,e1,hb,hg,hn,hm,hsz,ht⟩
 ·cases h
 ·injection e1 with e1 _ e3;injection e1 with e1;injection e1 with e1;subst e1 e3;have hA0:Arr w g e cur.toList:=by simpa [Arr] using hg
  have hA:=hA0.alloc (.cells us.toArray e');have hcl:cur.toList.length=cap*i.size:=by simpa using hsz
  have hmul:(n+m)*i.size<=cap*i.size:=Nat.mul_le_mul_right _ hroom;rw [Nat.add_mul]at hmul;have hsplit:cur.toList=xs++((cur.toList.drop (n*i.size)).take (m*i.size)++cur.toList.drop ((n+m)*i.size)):=by
   have ht':cur.toList.take (n*i.size)=xs:=ht;rw [<-ht',Nat.add_mul,<-List.drop_drop,List.take_append_drop,List.take_append_drop]
  have hlt:=hA0.lt;have hrun:=run_append_room_cells (P:=P) (w:=w.alloc (.cells us.toArray e')) t ty e i hu hi g 0 n cap ⟨w.heap.size,0,aB⟩ m c us hl
   (fun j u hj=>by
    show(w.alloc _).cell? ((⟨w.heap.size,0,aB⟩:Addr).add j)=_;rw [yS,Nat.zero_add,World.cell?_alloc_new];simpa using hj) h1 hroom
   (fun j hj=>by
    rw [hA.cell (k:=0+n*i.size+j) (List.getElem?_eq_getElem (by rw [hcl];omega))];rfl)
   (fun j hj=>hA.frozen _)
  refine⟨_,hrun,⟨by rw [List.length_append,hxl,hl,Nat.add_mul],.inr ⟨g,cap,(xs++(us++cur.toList.drop ((n+m)*i.size))).toArray,rfl,hb,?_,hroom,hm,?_,?_⟩⟩,?_⟩
  ·rw [hsplit]at hA;have hA2:=Arr.setsMid us _ xs _ _ hA (by rw [List.length_take,List.length_drop,hcl,hl];omega);rw [Nat.zero_add,<-hxl];exact hA2
  ·simp only [List.size_toArray,List.length_append,List.length_drop,hcl,hxl,hl,Nat.add_mul];omega
  ·simp only [List.toList_toArray];rw [<-List.append_assoc,List.take_append_of_le_length (by rw [List.length_append,hxl,hl,Nat.add_mul];exact Nat.le_refl _),List.take_of_length_le (by rw [List.length_append,hxl,hl,Nat.add_mul];exact Nat.le_refl _)]
  ·have h5:=Qr (w.alloc (.cells us.toArray e')) g (0+n*i.size) us;exact⟨h5.os,h5.tape,h5.output,Nat.le_trans (by rw [World.size_alloc];omega) h5.size,fun k hk hne=>(h5.block k aa hne).trans (Below.heap_alloc _ _ _ hk)⟩
theorem jA {ops:Array Oper} {rest:List Oper} {o:Oper} {a:Act} {Q:ag} (hgd:o.guard=aB) (s x:Operand) 
  (ho:o.op= .call { callee:= .builtin .append,args:=#[s,x],argTypes:=#[t,t] }) (E:El P t e size bytes)
  {base g n cap:Nat} {xs:af} (hs:a.eval s= aw (aC ⟨g,0,aB⟩) n cap) (hown:w.ownsRow base e size (aw (aC ⟨g,0,aB⟩) n cap) n xs)
  {us:af} {m c:Nat} (hx:a.eval x= aw (aC ⟨w.heap.size,0,aB⟩) m c) (hl:us.length=m*size) (h1:∀u∈us,u.oneCell'=true) (hroom:n+m<=cap)
  (h:∀w',w'.ownsRow base e size (aw (aC ⟨g,0,aB⟩) (n+m) cap) (n+m) (xs++us)->w.grownBy w' (aC g)->wpList P ops Q rest (a.put o.dst (aw (aC ⟨g,0,aB⟩) (n+m) cap)) w') :
  wpList P ops Q (o::rest) a (w.alloc (.cells us.toArray e')) :=
 wpList_plain hgd fun K hK=>by
  obtain⟨w',hrun,h2,h3⟩:=z1k (P:=P) (ty:=o.type) (e':=e') E hown hl h1 hroom (c:=c)
  unfold Oper.wp execOp
  simp only [ho,resolve,invoke,builtin,Sem.run_bind,Sem.run_pure,Result.andThen_ok,List.map_toArray,List.map_cons,List.map_nil,hs,hx,hrun]
  exact hK _ _ (h w' h2 h3)
end
theorem Sl.other (h:Sl w size A n c xs) (hne:∀a,A=aC a->a.block≠g) (u:Value):Sl (w.setCell ⟨g,k,aB⟩ u) size A n c xs :=
 h.keep (by simp [World.setCell]) fun b hb hl=>by
  obtain⟨a,ha,rfl⟩:=hl
  exact Below.heap_setCell w _ u _ (hne a ha)
theorem yr (A:ae) (n c:Nat) (xs:af) (w:World) (hb:n*40<=140737488355328) (hr:Rd w 3 A n xs) (h1:∀u∈xs,u.oneCell'=true) :
  Calls zZZ 146 #[aw A n c] w fun e w'=>∃v,e= .returned v/\w'.ownsRow w.heap.size 51 3 v n xs/\Below w.heap.size w w':=by
 have heq:=fun W=>Lib.run_eql_slice_nil (P:=zZZ) W 45 51 A n c 0 0 underlying45;cases A with
 | none =>
  obtain rfl:n=0:=by
   rcases Nat.eq_zero_or_pos n with h | h
   ·exact h
   ·obtain⟨_,_,h1,_⟩:=hr.2 h;cases h1
  obtain rfl:xs= []:=List.eq_nil_of_length_eq_zero (by simpa using hr.1);go_enter func146,ntmps146;go_wp2_with fail;go_ret;exact⟨_,rfl,World.ownsRow_nil _ _ _ _,Below.refl _ _⟩
 | some ad =>
  go_enter func146,ntmps146
  refine wH ?_;intros
  refine zJ rfl (.tmp 5) (.tmp 6) rfl Xq wu (World.ownsRow_made (size:=3) w #[] 0 ab (by simp [maxLen]) rfl) wu (hr.alloc _) h1 wj ws ?_;intro v1 w1 hown1 hg1 _;have hb1:=zj ((Below.refl _ _).alloc ab _) (World.ownsRow_made (size:=3) w #[] 0 ab (by simp [maxLen]) rfl) ab hg1;go_wp2_with fail;go_ret;exact⟨_,rfl,by simpa using hown1,hb1⟩
theorem Xm:∀x y:ac,decide (Lib.compareBytes x y<0)=Op.bytesLess x y
 | [], []=>rfl
 | [],_::_=>rfl
 | _::_, []=>rfl
 | a::x,b::y=>by
  rw [Lib.compareBytes,Op.bytesLess]
  by_cases h1:a<b
  ·simp [h1]
  ·by_cases h2:b<a
   ·have hne:a≠b:=by rintro rfl;exact h1 h2
    simp [h1,h2,hne]
   ·have he:a=b:=by
     rcases JG a b with h | h | h
     ·exact absurd h h1
     ·exact h
     ·exact absurd h h2
    subst he;have:=Xm x y;simp [h1,this]
theorem j6 (h:Op.bytesLess x y=true):Lib.compareBytes x y<0:=by
 have:=Xm x y;rw [h,decide_eq_true_eq]at this;exact this
theorem j5 (h:Op.bytesLess x y=false):¬Lib.compareBytes x y<0:=by
 have:=Xm x y;rw [h,decide_eq_false_iff_not]at this;exact this
end Go.Proofs.YtcjndgldjhmbgaaGreat
