/- Lemmas, as stated. -/
import Derived.ArgAppend
import Derived.Lib.SlBytesConst
import Derived.BigRegion
import Derived.Test.YtaboknhfiijipaaGreatQC05
import Derived.Test.YtaboknhfiijipaaGreatQC06
set_option linter.unusedVariables false
set_option linter.unusedSimpArgs false
set_option maxRecDepth 100000
set_option maxHeartbeats 4000000
open Go.Proofs.Tryz
open Go.Proofs.Tryz renaming prog->zZZ
open Go.Value renaming slice->aB,int->aC,string->aE
open Go.IntKind renaming i64->aD
open Go.Obj renaming cells->aF
open Option renaming none->aG,some->aH
namespace Go.Proofs.YtaboknhfiijipaaGreat
open Go.RowKit
variable {α:Type} {m:List BlobP} {l:List α} {b base bytes c cap g k n o size:Nat} {p:PartP} {e e' t:TypeId} {a0 a1 a2 a3 v:Value} {W w w':World} {X x y:aj} {A B:ak} {Y xs ys:al} {N:an} {f:α->List UInt8}
def vl (p:PartP):aj:=txt p.name++(vf p.dig).1++num p.size
def enc (l:List PartP):aj:= [65,77,49]++num l.length++l.flatMap vl
def z2w (W:World) (base:Nat) (v:Value) (X:aj):Prop :=
 W.ownsRow base 5 1 v X.length (bys X)\/(∃g,v= aB (aH ⟨g,0,aG⟩) X.length X.length/\Rd W 1 (aH ⟨g,0,aG⟩) X.length (bys X))
theorem z2w.below {W':World} (h:z2w W base v X) (hb:Below W.heap.size W W'):z2w W' base v X :=
 h.imp (fun h=>zc h hb) (fun ⟨g,e,h⟩=>⟨g,e,h.below hb⟩)
theorem z2w.lt (h:z2w W base v X) (h0:0<X.length):∀k,v.ownBlock=aH k->k<W.heap.size:=fun k hk=>by
 rcases h with h | ⟨g,rfl,hr⟩
 ·exact(h.lt k hk).2
 ·obtain⟨b,off,e,hb,_⟩:=hr.2 h0
  injection hk with hk;injection e with e;injection e with e1
  simp only at hk
  omega
theorem Jx:∀(l r:aj),xj l=aH r->l.length=2*r.length:=fun l r h=>by
 have:=ZU l r h
 rw [<-this,yl]
theorem ZT {d:aj} (h:hexC d=0):(vf d).2=0/\(vf d).1.length=32:=by
 unfold hexC at h;by_cases h64:d.length=64
 ·rw [if_neg ww]at h;refine⟨h,?_⟩;unfold vf at h ⊢
  rw [if_neg ww,if_neg ww]at h ⊢
  cases hu:xj d with
  | none=>rw [hu]at h;cases h
  | some r=>have:=Jx d r hu;simp only [];omega
 ·rw [if_pos h64]at h;cases h
theorem vw {s:aj} (h:ka s=0):1<=s.length/\s.length<=12:=by
 unfold ka at h;by_cases hb:s.length<1\/12<s.length
 ·rw [if_pos hb]at h;cases h
 ·omega
theorem jg:∀(l:List PartP) (q:Option (aj)),yt q l=0->∀p∈l,ka p.name=0/\hexC p.dig=0/\p.size<=300
 | [],_,_,p,hp=>by cases hp
 | x::l,q,h,p,hp=>by
  rw [k6]at h
  by_cases h1:ka x.name=0
  ·rw [if_neg (fun e=>e h1)]at h
   have key:∀bb:Bool,(if bb=true then 6 else if hexC x.dig≠0 then hexC x.dig else if 300<x.size then 4 else yt (aH x.name) l)=0->ka p.name=0/\hexC p.dig=0/\p.size<=300:=fun bb h=>by
    cases bb with
    | true=>rw [if_pos rfl]at h;exact absurd h ab
    | false =>
     rw [if_neg ab]at h
     by_cases h2:hexC x.dig=0
     ·rw [if_neg (fun e=>e h2)]at h
      by_cases h3:300<x.size
      ·rw [if_pos h3]at h;exact absurd h ab
      ·rw [if_neg h3]at h
       rcases List.mem_cons.1 hp with rfl | hp
       ·exact⟨h1,h2,ww⟩
       ·exact jg l _ h p hp
     ·rw [if_pos h2]at h;exact absurd h h2
   exact key _ h
  ·rw [if_pos h1]at h;exact absurd h h1
theorem zj {l:List PartP} (h:chk l=0):l.length<=8/\∀p∈l,ka p.name=0/\hexC p.dig=0/\p.size<=300:=by
 unfold chk at h;by_cases hb:8<l.length
 ·rw [if_pos hb]at h;cases h
 ·rw [if_neg hb]at h;exact⟨ww,jg l aG h⟩
theorem UW (h:ka p.name=0/\hexC p.dig=0/\p.size<=300):1<=(txt p.name).length/\(txt p.name).length<=14/\1<=(num p.size).length/\(num p.size).length<=2/\(vl p).length<=48:=by
 have h1:=vw h.1;have h2:=z2l p.name ww;have h3:=ZT h.2.1;have h4:=Vk p.size 1 ww;simp only [vl,List.length_append];omega
theorem Z5 (l:List PartP) (h:∀p∈l,ka p.name=0/\hexC p.dig=0/\p.size<=300):(l.flatMap vl).length<=48*l.length:=by
 induction l with
 | nil=>simp
 | cons x l ih =>
  have h1:=(UW (h x ac)).2.2.2.2;have h2:=ih (fun p hp=>h p (by simp [hp]));simp only [List.flatMap_cons,List.length_append,List.length_cons];omega
theorem Yt {q:Option (aj)} {r:List PartP} (h1:ka p.name=0) (h2:∀n,q=aH n->leS p.name n=false) (h3:hexC p.dig=0) (h4:p.size<=300):yt q (p::r)=yt (aH p.name) r:=by
 rw [k6,if_neg (fun e=>e h1)];cases q with
 | none=>simp only [];rw [if_neg ab,if_neg (fun e=>e h3),if_neg ww]
 | some n=>simp only [h2 n rfl];rw [if_neg ab,if_neg (fun e=>e h3),if_neg ww]
theorem XL (l:List PartP) (h:l.length<=8):enc l= [65,77,49,UInt8.ofNat l.length]++l.flatMap vl:=by
 rw [enc,kh ww];simp
theorem jk (l:List PartP) (h:l.length<=8):(enc l).length=4+(l.flatMap vl).length:=by rw [XL l h];simp;omega
def keyS (k:Nat):aj:=shaS [107,UInt8.ofNat k]
theorem JI (n:Int) (w:World) (h0: -9223372036854775808<=n) (h1:n<=9223372036854775807) :
  Calls zZZ 9 #[aC aD n] w fun e w'=>e= .returned (aE ⟨(keyS (pk n 7)).toArray⟩)/\Below w.heap.size w w':=by
 have HP:=sqH (fun w'=>qf n 7 7 rfl w' h0 h1 ww ww);have hk:=yx n (m:=7) ww;generalize pk n 7=k at *
 obtain⟨b,hb⟩:=wY (UInt8.ofNat k)
 have hw:IntKind.u8.wrap (k:Int)=(b.toNat:Int):=by rw [hb,IntKind.wrap_u8,UInt8.toNat_ofNat'];omega
 have HK:=sqH (show keyS k=shaS [107,b] from by rw [keyS,hb]);have hr:Rd (w.alloc (aF #[aC .u8 107,aC .u8 (b.toNat:Int)] 5)) 1 (aH ⟨w.heap.size,0,aG⟩) 2 (bys [107,b]):=Rd.newN (w:=w) (e:=5) (size:=1) (m:=2) (bys [107,b]) rfl;have hb1:=wu w (aF #[aC .u8 107,aC .u8 (b.toNat:Int)] 5);have HD:=sqH (yA (aH ⟨w.heap.size,0,aG⟩) 2 2 [107,b] _ rfl ww ww hr);clear hb hr;go_enter func9,ntmps9;go_wp2_with fail;refine(HP.o _).mono ?_;rintro e_ _ ⟨rfl,rfl⟩;dsimp only;go_wp2_with fail;refine wZ HD.o fun w2 hb2=>?_;dsimp only;go_wp2_with fail;go_ret;rw [HK.o];exact⟨rfl,wo hb1 hb2⟩
structure FlP where
 key:aj
 lead:Int
 wait:List Int
def qR (p:FlP) (A:ak) (c:Nat):al:= [aE ⟨p.key.toArray⟩,aC aD p.lead,aB A p.wait.length c]
def ins (l:List Int):al:=l.map (aC aD ·)
def Fls (w:World) (A:ak) (fs:List FlP):Prop :=
 ∃(As:List (ak×Nat)),As.length=fs.length/\Rd w 3 A fs.length ((fs.zip As).flatMap fun x=>qR x.1 x.2.1 x.2.2) /\
  ∀(k:Nat) (p:FlP) (a:ak×Nat),fs[k]?=aH p->As[k]?=aH a->Rd w 1 a.1 p.wait.length (ins p.wait)/\p.wait.length<=a.2/\a.2<=maxLen
theorem Fls.below {fs:List FlP} (h:Fls w A fs) (hb:Below w.heap.size w w'):Fls w' A fs:=by
 obtain⟨As,h1,h2,h3⟩:=h;exact⟨As,h1,h2.below hb,fun k p a hp ha=>⟨(h3 k p a hp ha).1.below hb,(h3 k p a hp ha).2⟩⟩
theorem uC:∀(fs:List FlP) (As:List (ak×Nat)) (k j:Nat) (p:FlP) (a:ak×Nat),fs[k]?=aH p->As[k]?=aH a->j<3 ->
  ((fs.zip As).flatMap fun x=>qR x.1 x.2.1 x.2.2)[k*3+j]?=(qR p a.1 a.2)[j]?
 | f::fs,a'::As,0,j,p,a,hp,ha,hj=>by
  simp only [List.getElem?_cons_zero,Option.some.injEq]at hp ha
  subst hp ha
  rw [List.zip_cons_cons,List.flatMap_cons,Nat.zero_mul,Nat.zero_add,List.getElem?_append_left (by simpa [qR] using hj)]
 | f::fs,a'::As,k+1,j,p,a,hp,ha,hj=>by
  rw [List.zip_cons_cons,List.flatMap_cons,List.getElem?_append_right (by simp [qR];omega)]
  rw [show(k+1)*3+j - (qR f a'.1 a'.2).length=k*3+j by simp [qR];omega]
  exact uC fs As k j p a (by simpa using hp) (by simpa using ha) hj
theorem Fls.at_ {fs:List FlP} (h:Fls w A fs) (k:Nat) (hk:k<fs.length) :
  ∃b off B c,A=aH ⟨b,off,aG⟩/\b<w.heap.size/\w.cell? ⟨b,off+k*3,aG⟩=aH (aE ⟨fs[k].key.toArray⟩)/\w.cell? ⟨b,off+k*3+1,aG⟩=aH (aC aD fs[k].lead) /\
   w.cell? ⟨b,off+k*3+2,aG⟩=aH (aB B fs[k].wait.length c)/\Rd w 1 B fs[k].wait.length (ins fs[k].wait)/\fs[k].wait.length<=c/\c<=maxLen:=by
 obtain⟨As,h1,h2,h3⟩:=h;obtain⟨b,off,rfl,hb,hc⟩:=h2.2 ww;have hp:fs[k]?=aH fs[k]:=List.getElem?_eq_getElem hk;have hka:k<As.length:=ww;have ha:As[k]?=aH As[k]:=List.getElem?_eq_getElem hka;have hat:=fun j hj=>uC fs As k j fs[k] As[k] hp ha hj;obtain⟨h4,h5,h6⟩:=h3 k _ _ hp ha;have c0:=hc (k*3+0) _ ((hat 0 ww).trans rfl);have c1:=hc (k*3+1) _ ((hat 1 ww).trans rfl);have c2:=hc (k*3+2) _ ((hat 2 ww).trans rfl);refine⟨b,off,As[k].1,As[k].2,rfl,hb,c0,?_,?_,h4,h5,h6⟩
 ·rw [<-c1];congr 2
 ·rw [<-c2];congr 2
def vA (l:List BlobP) (r:RawP) (i:Nat):PartP :=
 let b:=(l[pk (IntKind.i64.wrap (r.b+7*(i:Int))) l.length]?).getD ⟨[], [],0,false⟩
 ⟨[112,UInt8.ofNat (97+i)],b.dig,b.data.length⟩
def zY (l:List BlobP) (r:RawP):List PartP:=if l.length=0 then [] else (List.range (pk r.a 4)).map (vA l r)
structure AccP where
 aJ:List BlobP
 aK:List EntP
 used:Nat
 aL:Nat
def jC (bl:List BlobP) (r:RawP):aj:=if pk r.kind 6=3 then enc (zY bl r) else z1b r 40
def z49 (bl:List BlobP) (r:RawP):BlobP:=⟨shaS (jC bl r),jC bl r,pk r.b 5 - 3,false⟩
def z5b (bl:List BlobP) (c:Nat) (r:RawP):EntP:=⟨keyS (pk r.a 7),zY bl r,pk r.b 5 - 3,c⟩
def z01 (s:AccP) (r:RawP):AccP :=
 if pk r.kind 6<4 then
  if s.aJ.any (fun b=>b.dig==shaS (jC s.aJ r)) then s else { s with aJ:=s.aJ++ [z49 s.aJ r],used:=s.used+(jC s.aJ r).length }
 else
  if s.aK.any (fun x=>x.key==keyS (pk r.a 7)) then { s with aL:=s.aL+pk r.b 3 } else { s with aL:=s.aL+pk r.b 3,aK:=s.aK++ [z5b s.aJ (s.aL+pk r.b 3) r] }
def usd (l:List BlobP):Nat:=(l.map (·.data.length)).sum
theorem QZ (l m:List BlobP):usd (l++m)=usd l+usd m:=by simp [usd]
theorem JA {l:List BlobP} (h:l.Perm m):usd l=usd m:=(h.map _).sum_nat
def Have (l:List BlobP) (ps:List PartP):Prop:=∀p∈ps,∃b∈l,b.dig=p.dig/\b.data.length=p.size
def GoodB1 (b:BlobP):Prop:=b.dig=shaS b.data/\b.data.length<=300/\b.aR<=5
structure GoodB (l:List BlobP):Prop where
 len:l.length<=24
 one:∀b∈l,GoodB1 b
 ris:RisesBy (·.dig) l
def GoodE1 (x:EntP):Prop:=hexC x.key=0/\chk x.aQ=0/\x.aR<=5/\x.aP<=1099511627776
structure GoodE (l:List EntP):Prop where
 len:l.length<=10
 one:∀x∈l,GoodE1 x
 ris:RisesBy (·.key) l
structure GoodS (s:StoP):Prop where
 b:GoodB s.aJ
 e:GoodE s.aK
 aM:s.aM<=4000
 used:usd s.aJ<=s.aM
 aL:s.aL<=1099511627776
 ent:∀x∈s.aK,x.aP<=s.aL/\Have s.aJ x.aQ
theorem Have.mono {l:List BlobP} {ps:List PartP} (h:Have l ps) (hm:∀b∈l,b∈m):Have m ps:=fun p hp=>by
 obtain⟨b,hb,h2⟩:=h p hp
 exact⟨b,hm b hb,h2⟩
theorem uL (l:List BlobP) (r:RawP):(zY l r).length<=3:=by
 have:=yx r.a (m:=4) ww;rw [zY];split
 ·simp
 ·simp;omega
theorem Vs {l:List BlobP} {r:RawP} {i:Nat} (h:l.length≠0):∃b∈l,(vA l r i).dig=b.dig/\(vA l r i).size=b.data.length:=by
 have h1:=yx (IntKind.i64.wrap (r.b+7*(i:Int))) (m:=l.length) ww;refine⟨l[pk (IntKind.i64.wrap (r.b+7*(i:Int))) l.length],List.getElem_mem h1,?_⟩;simp only [vA,List.getElem?_eq_getElem h1,Option.getD_some,and_self]
theorem Jm (l:List BlobP) (r:RawP):Have l (zY l r):=fun p hp=>by
 rw [zY]at hp
 split at hp
 ·cases hp
 ·rename_i h0
  obtain⟨i,_,rfl⟩:=List.mem_map.1 hp
  obtain⟨b,hb,h1,h2⟩:=Vs (r:=r) (i:=i) h0
  exact⟨b,hb,h1.symm,h2.symm⟩
theorem z59:∀i,i<3->ka [112,UInt8.ofNat (97+i)]=0:=by decide
theorem ple:∀i j,i<3->j<i->leS [112,UInt8.ofNat (97+i)] [112,UInt8.ofNat (97+j)]=false:=by
 have key:∀i j:Fin 3,j.val<i.val->leS [112,UInt8.ofNat (97+i.val)] [112,UInt8.ofNat (97+j.val)]=false:=by decide +kernel
 exact fun i j h h'=>key ⟨i,h⟩ ⟨j,ww⟩ h'
theorem Ki (f:Nat->PartP) (hn:∀i,(f i).name= [112,UInt8.ofNat (97+i)]) (hf:∀i,hexC (f i).dig=0/\(f i).size<=300):∀(n i:Nat) (q:Option (aj)),i+n<=3->(q=aG\/∃j,j<i/\q=aH [112,UInt8.ofNat (97+j)])->yt q ((List.range' i n).map f)=0
 | 0,_,q,_,_=>by cases q<;>rfl
 | n+1,i,q,hi,hq=>by
  rw [List.range'_succ,List.map_cons,Yt (by rw [hn];exact z59 i ww) (fun m hm=> ?_) (hf i).1 (hf i).2]
  ·exact Ki f hn hf n (i+1) _ ww (.inr ⟨i,ww,by rw [hn]⟩)
  ·rcases hq with h | ⟨j,hj,h⟩
   ·rw [h]at hm;cases hm
   ·rw [h]at hm;cases hm;rw [hn];exact ple i j ww hj
theorem uu {l:List BlobP} (h:∀b∈l,hexC b.dig=0/\b.data.length<=300) (r:RawP):chk (zY l r)=0:=by
 have h3:=uL l r;have h4:=yx r.a (m:=4) ww;rw [chk,if_neg ww,zY];split
 ·rfl
 ·rename_i h0;rw [List.range_eq_range'];refine Ki _ (fun i=>rfl) (fun i=> ?_) _ 0 aG ww (.inl rfl);obtain⟨b,hb,e1,e2⟩:=Vs (l:=l) (r:=r) (i:=i) h0;rw [e1,e2];exact h b hb
structure AccOk (k:Nat) (s:AccP):Prop where
 blen:s.aJ.length<=k
 bnd:(s.aJ.map (·.dig)).Nodup
 bone:∀b∈s.aJ,b.dig=shaS b.data/\b.data.length<=148/\b.aR<=1/\b.mark=false
 used:s.used=usd s.aJ
 usedk:s.used<=148*k
 elen:s.aK.length<=k
 end_:(s.aK.map (·.key)).Nodup
 eone:∀x∈s.aK,(∃j,j<7/\x.key=keyS j)/\chk x.aQ=0/\x.aQ.length<=3/\x.aR<=1/\x.aP<=s.aL/\Have s.aJ x.aQ
 aL:s.aL<=2*k
theorem AccOk.hex {s:AccP} (h:AccOk k s):∀b∈s.aJ,hexC b.dig=0/\b.data.length<=300:=fun b hb=>by
 obtain⟨h1,h2,_⟩:=h.bone b hb
 exact⟨by rw [h1];exact zr _,ww⟩
theorem YK {s:AccP} (h:AccOk k s) (r:RawP):(jC s.aJ r).length<=148:=by
 rw [jC];split
 ·have h3:=uL s.aJ r;have hz:=zj (uu h.hex r);rw [jk _ hz.1];have:=Z5 _ hz.2;omega
 ·have:=Kk r 40;omega
theorem Vi (h:¬(l.any fun b=>f b==x)=true):∀b∈l,f b≠x:=fun b hb e=>h (List.any_eq_true.2 ⟨b,hb,by simp [e]⟩)
theorem jp {x:α} (h:(l.map f).Nodup) (hx:∀b∈l,f b≠f x):((l++ [x]).map f).Nodup:=by
 rw [List.map_append,List.nodup_append];refine⟨h,ac,fun a ha b hb=> ?_⟩;obtain⟨y,hy,rfl⟩:=List.mem_map.1 ha;simp only [List.map_cons,List.map_nil,List.mem_singleton]at hb;subst hb;exact hx y hy
theorem AccOk.step {s:AccP} (h:AccOk k s) (r:RawP):AccOk (k+1) (z01 s r):=by
 have hb5:=yx r.b (m:=5) ww;have hb3:=yx r.b (m:=3) ww;have hl:=YK h r;rw [z01];split
 ·split
  ·exact⟨by have:=h.blen;omega,h.bnd,h.bone,h.used,by have:=h.usedk;omega,by have:=h.elen;omega,h.end_,h.eone,by have:=h.aL;omega⟩
  ·rename_i hn;refine⟨by rw [List.length_append];have:=h.blen;simp;omega,jp h.bnd (Vi hn),fun b hb=> ?_,?_,?_,by have:=h.elen;show s.aK.length<=k+1;omega,h.end_,fun x hx=> ?_,by have:=h.aL;show s.aL<=_;omega⟩
   ·rcases List.mem_append.1 hb with h1 | h1
    ·exact h.bone b h1
    ·have:=List.mem_singleton.1 h1;subst this;exact⟨rfl,hl,by show pk r.b 5 - 3<=1;omega,rfl⟩
   ·rw [QZ];show s.used+_=_;rw [h.used];rfl
   ·show s.used+_<=_;have:=h.usedk;omega
   ·obtain⟨h1,h2,h3,h4,h5,h6⟩:=h.eone x hx;exact⟨h1,h2,h3,h4,h5,h6.mono fun b hb=>List.mem_append_left _ hb⟩
 ·split
  ·refine⟨by have:=h.blen;show s.aJ.length<=_;omega,h.bnd,h.bone,h.used,by have:=h.usedk;show s.used<=_;omega,by have:=h.elen;show s.aK.length<=_;omega,h.end_,fun x hx=> ?_,by have:=h.aL;show s.aL+pk r.b 3<=_;omega⟩;obtain⟨h1,h2,h3,h4,h5,h6⟩:=h.eone x hx;exact⟨h1,h2,h3,h4,by show x.aP<=s.aL+pk r.b 3;omega,h6⟩
  ·rename_i hn;refine⟨by have:=h.blen;show s.aJ.length<=_;omega,h.bnd,h.bone,h.used,by have:=h.usedk;show s.used<=_;omega,by rw [List.length_append];have:=h.elen;simp;omega,jp h.end_ (Vi hn),fun x hx=> ?_,by have:=h.aL;show s.aL+pk r.b 3<=_;omega⟩;rcases List.mem_append.1 hx with h1 | h1
   ·obtain⟨h1,h2,h3,h4,h5,h6⟩:=h.eone x h1;exact⟨h1,h2,h3,h4,by show x.aP<=s.aL+pk r.b 3;omega,h6⟩
   ·have:=List.mem_singleton.1 h1;subst this;exact⟨⟨_,yx _ ww,rfl⟩,uu h.hex r,uL _ _,by show pk r.b 5 - 3<=1;omega,Nat.le_refl _,Jm _ _⟩
theorem AccOk.nil_:AccOk 0 ⟨[], [],0,0⟩:=⟨ac,ac,ac,rfl,ac,ac,ac,ac,ac⟩
theorem AccOk.mono {m:Nat} {s:AccP} (h:AccOk k s) (hk:k<=m):AccOk m s:=⟨by have:=h.blen;omega,h.bnd,h.bone,h.used,by have:=h.usedk;omega,by have:=h.elen;omega,h.end_,h.eone,by have:=h.aL;omega⟩
theorem Q0 {α:Type} [DecidableEq α]:∀(l m:List α),l.Nodup->(∀x∈l,x∈m)->l.length<=m.length
 | [],m,_,_=>by simp
 | x::l,m,h,hm=>by
  have h1:=List.nodup_cons.1 h
  have hx:=hm x ac
  have:=Q0 l (m.erase x) h1.2 fun y hy=>(List.mem_erase_of_ne (by rintro rfl;exact h1.1 hy)).2 (hm y (by simp [hy]))
  rw [List.length_erase_of_mem hx]at this
  have h0:0<m.length:=List.length_pos_of_mem hx
  rw [List.length_cons];omega
theorem Yy {ks:List aj} (h:ks.Nodup) (hk:∀k∈ks,∃j,j<7/\k=keyS j):ks.length<=7:=by
 have:=Q0 ks ((List.range 7).map keyS) h fun k hk'=>by
  obtain⟨j,hj,rfl⟩:=hk k hk';exact List.mem_map.2 ⟨j,List.mem_range.2 hj,rfl⟩
 simpa using this
theorem JC (l:List BlobP) (j:Nat) (hj:j<l.length):usd (l.take (j+1))=usd (l.take j)+l[j].data.length:=by
 rw [List.take_succ_eq_append_getElem hj,QZ];simp [usd]
theorem JD (l:List BlobP) (j:Nat):usd (l.take j)<=usd l:=by
 have h:usd l=usd (l.take j)+usd (l.drop j):=by rw [<-QZ,List.take_append_drop]
 omega
theorem z12 (A:ak) (c:Nat) (l:List BlobP) (w:World) (hl:l.length<=1000000) (hu:usd l<=1000000000) (hA:Rw BlobS w A l) :
  Calls zZZ 158 #[aB A l.length c] w fun e w'=>e= .returned (aC aD (usd l:Int))/\Below w.heap.size w w':=by
 generalize hR:usd l=R;have HR:=sqH hR;clear hR;go_enter func158,ntmps158;go_wp2_with fail;go_loopg [3,8] l.length (fun gn u i wr=>∃j:Nat,gn=l.length - j/\i= aC aD j/\j<=l.length/\u= aC aD ((usd (l.take j):Nat):Int)/\Below w.heap.size w wr)
 case atStart=>exact⟨0,rfl,rfl,ww,rfl,Below.refl _ _⟩
 case round =>
  obtain⟨j,hgk,rfl,hj,rfl,hbl⟩:=hrel;have HGK:=sqH hgk;clear hgk;by_cases hlt:j<l.length
  ·have hcc:decide (j<l.length)=true:=decide_eq_true hlt;obtain⟨b,off,B,cb,rfl,hbb,c0,c1,c2,c3,hs⟩:=(hA.below hbl).blob_at j hlt;have hj0:=wg j
   have hj1:(j:Int)<(l.length:Int):=ww;have hst:=JC l j hlt;have hle:=JD l (j+1);have hle2:usd (l.take j)+l[j].data.length<=1000000000:=ww;have HST:=sqH hst;clear hst hle hs;have hb1:=wu wr (aF #[aE ⟨l[j].dig.toArray⟩,aB B l[j].data.length cb,aC aD (l[j].aR:Int),.bool l[j].mark] 76);have hb2:=wo hbl hb1;generalize l[j].data.length=d at *
   generalize usd (l.take j)=u at *
   generalize l[j]=x at *
   clear hb1;go_wp2_with fail;go_roundg (l.length - (j+1))
   case measure=>exact we HGK
   case rel=>exact⟨j+1,rfl,by go_num,ww,by rw [HST.o];go_num,hb2⟩
  ·obtain rfl:j=l.length:=by omega
   have hcc:decide (l.length<l.length)=false:=ac;rw [List.take_length,HR.o];go_wp2_with fail;go_ret;exact⟨rfl,hbl⟩
theorem vU (A:ak) (c:Nat) (l:List BlobP) (rm more:Nat) (w:World) (hl:l.length<=1000000) (hu:usd l<=1000000000) (hrm:rm<=4000) (hmo:more<=4000) (hA:Rw BlobS w A l) :
  Calls zZZ 126 #[aB A l.length c,aC aD rm,aC aD more] w fun e w'=>e= .returned (.tuple #[aC aD ((usd l+more - rm:Nat):Int),aC aD 0])/\Below w.heap.size w w':=by
 have HU:=sqH (z12 A c l w hl hu hA);have g1:decide ((rm:Int)<0)=false:=decide_eq_false ww;have g2:decide ((rm:Int)>4000)=false:=decide_eq_false ww;have g3:decide ((4000:Int)<(rm:Int))=false:=decide_eq_false ww;have g4:decide ((more:Int)<0)=false:=decide_eq_false ww;have g5:decide ((more:Int)>4000)=false:=decide_eq_false ww;have g6:decide ((4000:Int)<(more:Int))=false:=decide_eq_false ww;clear hA;generalize hR:usd l=R at *
 have hmx:max (0:Int) ((R:Int)+(more:Int) - (rm:Int))=((R+more - rm:Nat):Int):=ww;have HMX:=sqH hmx;clear hR hmx;go_enter func126,ntmps126;go_wp2_with fail;refine wZ HU.o fun w1 hb1=>?_;dsimp only;go_wp2_with fail;go_ret2;rw [<-HMX.o];exact⟨rfl,hb1⟩
theorem Qp (A:ak) (c:Nat) (l:List BlobP) (rm more:Nat) (w:World) (hl:l.length<=1000000) (hu:usd l<=1000000000) (hrm:rm<=4000) (hmo:more<=4000) (hA:Rw BlobS w A l) :
  Calls zZZ 72 #[aB A l.length c,aC aD rm,aC aD more] w fun e w'=>e= .returned (aC aD (if usd l+more<=rm then 0 else 7))/\Below w.heap.size w w':=by
 have HU:=sqH (vU A c l rm more w hl hu hrm hmo hA);clear hA;generalize hR:usd l=R at *
 by_cases h:R+more<=rm
 ·have HI:=sqH (show(if R+more<=rm then (0:Int) else 7)=0 from if_pos h);have hz:R+more - rm=0:=ww
  rw [hz]at HU;clear hR hz h;go_enter func72,ntmps72;go_wp2_with fail;refine wZ HU.o fun w1 hb1=>?_;dsimp only
  refine wL ?_;intros;go_ret;rw [HI.o];exact⟨rfl,hb1⟩
 ·have HI:=sqH (show(if R+more<=rm then (0:Int) else 7)=7 from if_neg h);obtain⟨z,hz⟩:=wY (R+more - rm)
  have hz0:0<z:=ww;have g1:decide ((z:Int)>0)=true:=decide_eq_true ww;have g2:decide ((0:Int)<(z:Int))=true:=decide_eq_true ww;have g3:decide (0<z)=true:=decide_eq_true hz0;rw [<-hz]at HU;clear hR hz h;go_enter func72,ntmps72;go_wp2_with fail;refine wZ HU.o fun w1 hb1=>?_;dsimp only
  refine wL ?_;intros;go_ret;rw [HI.o];exact⟨rfl,hb1⟩
theorem Ux (A:ak) (c:Nat) (l:List BlobP) (r:RawP) (w:World) (hl:l.length<=1000000) (hc:l.length<=c) (hm:c<=maxLen) (hd:∀b∈l,b.data.length<=1000000) (hA:Rw BlobS w A l) (hr:RawOk r) :
  Calls zZZ 30 #[aB A l.length c,.agg #[aC aD r.kind,aC aD r.a,aC aD r.b,aE r.text]] w fun e w'=>∃v,e= .returned v/\w'.ownsRow w.heap.size 85 3 v (zY l r).length (pcs (zY l r))/\Below w.heap.size w w':=by
 obtain⟨HR,HD,HC,HPA⟩:=sqJ4 hr hd (And.intro hc hm) (fun w'=>qf r.a 4 4 rfl w' hr.a0 hr.a1 ww ww);have hp4:=yx r.a (m:=4) ww;generalize hPT:zY l r=PT;have HPT:=sqH (show PT=if l.length=0 then [] else (List.range (pk r.a 4)).map (vA l r) from hPT.symm);obtain⟨m,hmm⟩:=wY (pk r.a 4)
 rw [<-hmm]at hp4 HPA HPT;obtain⟨rk,ra,rb,rt⟩:=r;have hX:=Arr.new w 73 [aC aD rk,aC aD ra,aC aD rb,aE rt];have hb1:=wu w (aF #[aC aD rk,aC aD ra,aC aD rb,aE rt] 73);have hX':Arr (w.alloc (aF #[aC aD rk,aC aD ra,aC aD rb,aE rt] 73)) w.heap.size 73 [aC aD rk,aC aD ra,aC aD rb,aE rt]:=hX;have x1:=hX'.c1;clear hX hd hr hc hm hmm hPT;go_enter func30,ntmps30;go_wp2_with fail;have hs1:(w.alloc (aF #[aC aD rk,aC aD ra,aC aD rb,aE rt] 73)).heap.size=w.heap.size+1:=World.size_alloc _ _;generalize w.alloc (aF #[aC aD rk,aC aD ra,aC aD rb,aE rt] 73)=w1 at *
 have HS1:=sqH hs1;clear x1 hs1;refine wZ (HPA.o _) fun w2 hw2=>?_;dsimp only;subst hw2;go_wp2_with fail;rcases Nat.eq_zero_or_pos l.length with h0 | h0
 ·have HZ:=sqH (show PT= [] by rw [HPT.o,if_pos h0]);have h0b:decide (((l.length:Nat):Int)>0)=false:=decide_eq_false ww;have h0c:decide ((0:Int)<((l.length:Nat):Int))=false:=decide_eq_false ww;have h0d:decide (0<l.length)=false:=decide_eq_false ww;go_loopg [5,11] m (fun gn v i wr=>∃k:Nat,gn=m - k/\i= aC aD k/\k<=m/\v= aB aG 0 0/\wr=w1)
  case atStart=>exact⟨0,rfl,rfl,ww,rfl,rfl⟩
  case round =>
   obtain⟨k,hgk,rfl,hk,rfl,rfl⟩:=hrel;have HGK:=sqH hgk;clear hgk;by_cases hlt:k<m
   ·have hcc:decide (k<m)=true:=decide_eq_true hlt;go_wp2_with fail;go_roundg (m - (k+1))
    case measure=>exact we HGK
    case rel=>exact⟨k+1,rfl,by go_num,ww,rfl,rfl⟩
   ·obtain rfl:k=m:=by omega
    have hcc:decide (k<k)=false:=ac;go_wp2_with fail;go_ret;rw [HZ.o];exact⟨_,rfl,World.ownsRow_nil _ _ _ _,hb1⟩
 ·obtain⟨HZ,HX,HA⟩:=sqJ3 (show PT=(List.range m).map (vA l ⟨rk,ra,rb,rt⟩) by rw [HPT.o,if_neg ww]) hX' hA;clear hX' hA HPT;go_loopg [5,11] m (fun gn v i wr=>∃k:Nat,gn=m - k/\i= aC aD k/\k<=m/\wr.ownsRow w1.heap.size 85 3 v k (pcs ((List.range k).map (vA l ⟨rk,ra,rb,rt⟩)))/\Below w1.heap.size w1 wr)
  case atStart=>exact⟨0,rfl,rfl,ww,World.ownsRow_nil _ _ _ _,Below.refl _ _⟩
  case round =>
   obtain⟨k,hgk,rfl,hk,hown,hbel⟩:=hrel;have HGK:=sqH hgk;clear hgk;by_cases hlt:k<m
   ·have hcc:decide (k<m)=true:=decide_eq_true hlt;have h0b:decide (((l.length:Nat):Int)>0)=true:=decide_eq_true ww;have h0c:decide ((0:Int)<((l.length:Nat):Int))=true:=decide_eq_true ww;have h0d:decide (0<l.length)=true:=decide_eq_true h0;have x2:=(HX.o.below hbel).c2;have hw7:IntKind.i64.wrap (7*(k:Int))=7*(k:Int):=IntWalk.i64_in _ ww;have hwi:∀z, -9223372036854775808<=IntKind.i64.wrap z/\IntKind.i64.wrap z<=9223372036854775807:=fun z=>by rw [IntKind.wrap_i64];omega
    have hP:=qf (IntKind.i64.wrap (rb+7*(k:Int))) l.length l.length rfl wr (hwi _).1 (hwi _).2 h0 ww;rw [IntWalk.i64_left]at hP;have HP:=sqH hP;have hpl:=yx (IntKind.i64.wrap (rb+7*(k:Int))) (m:=l.length) h0;clear hP;obtain⟨q,hq⟩:=wY (pk (IntKind.i64.wrap (rb+7*(k:Int))) l.length)
    rw [<-hq]at hpl;rw [<-IntWalk.i64_left,<-hq]at HP;rw [IntWalk.i64_left]at HP;have hprt:vA l ⟨rk,ra,rb,rt⟩ k=⟨[112,UInt8.ofNat (97+k)],l[q].dig,l[q].data.length⟩:=by
     simp only [vA,<-hq,List.getElem?_eq_getElem hpl,Option.getD_some]
    have HPR:=sqH hprt;have hrng:(List.range (k+1)).map (vA l ⟨rk,ra,rb,rt⟩)=(List.range k).map (vA l ⟨rk,ra,rb,rt⟩)++ [vA l ⟨rk,ra,rb,rt⟩ k]:=by rw [List.range_succ,List.map_append];rfl
    have HRN:=sqH hrng;have hdl:=HD.o _ (List.getElem_mem hpl);obtain⟨b,off,B,cb,rfl,hbb,c0,c1,c2,c3,_⟩:=(HA.o.below (wo hb1 hbel)).blob_at q hpl;generalize l[q]=bl at *
    obtain⟨dg,dt,pn,mk⟩:=bl;dsimp only at c0 c1 c2 c3 hdl;generalize hs:(⟨dg.toArray⟩:ByteArray)=s at *
    have HS:=sqH hs;have i0:=wg q
    have i1:(q:Int)<(l.length:Int):=ww;have hcv:=fun (w':World) (g:Nat) (h:w'.cell? ⟨g,0,aG⟩=aH (aC .u8 (97+(k:Int))))=>UT (97+(k:Int)) w' g h ww ww;have hw1:IntKind.i64.wrap (97+(k:Int))=97+(k:Int):=IntWalk.i64_in _ ww;have hw2:IntKind.u8.wrap (97+(k:Int))=97+(k:Int):=by rw [IntKind.wrap_u8];omega
    clear hprt hrng hq hs;go_wp2_with fail;refine wZ HP.o fun w3 hw3=>?_;dsimp only;subst hw3
    refine wL ?_;intros;have hnm:(({ data:=#[112] }:ByteArray)++({ data:=#[97+UInt8.ofNat k] }:ByteArray))=⟨#[112,UInt8.ofNat (97+k)]⟩:=by rw [UInt8.ofNat_add];rfl
    rw [hnm];have hbb1:=wu wr (aF #[aE s,aB B dt.length cb,aC aD pn,.bool mk] 76);have hbb2:=hbb1.alloc hbb1.size (aF #[aC .u8 (97+(k:Int))] 5);have hown2:=zc hown hbb2;have hs4:((wr.alloc (aF #[aE s,aB B dt.length cb,aC aD pn,.bool mk] 76)).alloc (aF #[aC .u8 (97+(k:Int))] 5)).heap.size=wr.heap.size+1+1:=by rw [World.size_alloc,World.size_alloc]
    generalize (wr.alloc (aF #[aE s,aB B dt.length cb,aC aD pn,.bool mk] 76)).alloc (aF #[aC .u8 (97+(k:Int))] 5)=w4 at *
    have hbel4:=wo hbel hbb2;rw [<-hs4];refine zh rfl (.tmp 28) (.tmp 41) rfl XJ ae hown2 (us:= [aE ⟨#[112,UInt8.ofNat (97+k)]⟩,aE s,aC aD dt.length]) (m:=1) ae rfl (by intro u hu;simp only [List.mem_cons,List.not_mem_nil,or_false]at hu;rcases hu with rfl | rfl | rfl<;>rfl) ww hbel4.size ?_;intro v7 w7 ho7 hg7 _;have hb7:=zk hbel4 hown2 ai hg7;have ho8:w7.ownsRow w1.heap.size 85 3 v7 (k+1) (pcs ((List.range (k+1)).map (vA l ⟨rk,ra,rb,rt⟩))):=by
     rw [HRN.o,HPR.o,Vq];have e1:pcs [⟨[112,UInt8.ofNat (97+k)],dg,dt.length⟩]= [aE ⟨#[112,UInt8.ofNat (97+k)]⟩,aE s,aC aD dt.length]:=by rw [<-HS.o];rfl
     rw [e1];exact ho7
    clear hown hown2 ho7 hg7 hbb1 hbb2;go_wp2_with fail;go_roundg (m - (k+1))
    case measure=>exact we HGK
    case rel=>exact⟨k+1,rfl,by go_num,ww,ho8,hb7⟩
   ·obtain rfl:k=m:=by omega
    have hcc:decide (k<k)=false:=ac;go_wp2_with fail;go_ret;rw [HZ.o];refine⟨_,rfl,?_,wo hb1 hbel⟩;rw [List.length_map,List.length_range];exact zb hown hb1.size
def put4 (w:World) (g o:Nat) (u0 u1 u2 u3:Value):World:=(((w.setCell ⟨g,o,aG⟩ u0).setCell ⟨g,o+1,aG⟩ u1).setCell ⟨g,o+2,aG⟩ u2).setCell ⟨g,o+3,aG⟩ u3
theorem set4 {X:al} {u0 u1 u2 u3:Value} (ho:X.length=o) :
  ((((X++ [a0,a1,a2,a3]++Y).set o u0).set (o+1) u1).set (o+2) u2).set (o+3) u3=X++ [u0,u1,u2,u3]++Y:=by
 subst ho;simp only [List.append_assoc];rw [List.set_append_right _ _ ai,List.set_append_right _ _ ww,List.set_append_right _ _ ww,List.set_append_right _ _ ww];simp
theorem Jl {s:Nat} {X:al} (h:w.ownsRow base e s (aB (aH ⟨g,0,aG⟩) n cap) n (X++ [a0,a1,a2,a3]++Y)) (ho:X.length=o) (u0 u1 u2 u3:Value) :
  (put4 w g o u0 u1 u2 u3).ownsRow base e s (aB (aH ⟨g,0,aG⟩) n cap) n (X++ [u0,u1,u2,u3]++Y)/\w.grownBy (put4 w g o u0 u1 u2 u3) (aH g):=by
 have hl:(X++ [a0,a1,a2,a3]++Y).length=o+4+Y.length:=by simp [ho];omega
 obtain⟨k1,g1,_,_⟩:=vy h (k:=o) ww u0;obtain⟨k2,g2,_,_⟩:=vy k1 (k:=o+1) (by rw [List.length_set];omega) u1;obtain⟨k3,g3,_,_⟩:=vy k2 (k:=o+2) (by rw [List.length_set,List.length_set];omega) u2;obtain⟨k4,g4,_,_⟩:=vy k3 (k:=o+3) (by rw [List.length_set,List.length_set,List.length_set];omega) u3;rw [set4 ho]at k4;refine⟨k4,?_⟩;have t:∀ {a b c:World},a.grownBy b (aH g)->b.grownBy c (aH g)->a.grownBy c (aH g):=fun {a b c} h k =>
  ⟨k.os.trans h.os,k.tape.trans h.tape,k.output.trans h.output,Nat.le_trans h.size k.size,fun i hi hne=>(k.block i (Nat.lt_of_lt_of_le hi h.size) hne).trans (h.block i hi hne)⟩
 exact t (t (t g1 g2) g3) g4
section
variable {α:Type} {S:Shp α} {w:World} {e:TypeId} {base g cap:Nat}
end
section
variable {α:Type} {f:α->List UInt8}
structure Ins (f:α->List UInt8) (A:List α) (x:α) (B:List α):Prop where
 ris:RisesBy f (A++B)
 less:∀b∈B,Op.bytesLess (f x) (f b)=true
theorem Ins.done {A B:List α} {a x:α} (h:Ins f (A++ [a]) x B) (hl:Op.bytesLess (f a) (f x)=true):RisesBy f (A++ [a]++x::B):=by
 obtain⟨h1,h2,h3⟩:=List.pairwise_append.1 h.ris;refine List.pairwise_append.2 ⟨h1,List.pairwise_cons.2 ⟨h.less,h2⟩,fun y hy z hz=> ?_⟩;rcases List.mem_cons.1 hz with rfl | hz
 ·rcases List.mem_append.1 hy with hy | hy
  ·exact q6 ((List.pairwise_append.1 h1).2.2 y hy a ac) hl
  ·have:=List.mem_singleton.1 hy;subst this;exact hl
 ·exact h3 y hy z hz
theorem z48 {l m:List α} (h:RisesBy f m) (hp:m.Perm l):m=srt f l:=by
 refine RisesBy.perm h (uP ?_) (hp.trans (q9 f l).symm);exact(hp.map f).nodup_iff.1 h.map.nodup
end
def RwX {α:Type} (S:Shp α) (e:TypeId) (w:World) (base:Nat) (v:Value) (l:List α) (N:an):Prop :=
 ∃ps:Cel α,ps.map (·.1)=l/\qO S w ps/\w.ownsRow base e S.size v l.length (cls ps)/\∀p∈ps,∀b,(v.ownBlock=aH b\/N b)->¬leads b p.2
section
variable {α:Type} {S:Shp α} {w w':World} {e:TypeId} {base base':Nat} {v v':Value} {l:List α} {N N':an}
theorem RwX.rwo (h:RwX S e w base v l N):RwO S e w base v l:=by
 obtain⟨ps,h1,h2,h3,h4⟩:=h;exact⟨ps,h1,h2,h3,fun p hp b hb=>h4 p hp b (.inl hb)⟩
theorem RwX.below (h:RwX S e w base v l N) (hb:Below w.heap.size w w'):RwX S e w' base v l N:=by
 obtain⟨ps,h1,h2,h3,h4⟩:=h;exact⟨ps,h1,h2.below hb,zc h3 hb,h4⟩
theorem RwX.nil_ (h:w.ownsRow base e S.size v 0 []):RwX S e w base v [] N:=⟨[],rfl,(fun p hp=>nomatch hp),h,(fun p hp=>nomatch hp)⟩
theorem RwX.other {g:Option Nat} (h:RwX S e w base v l N) (hg:w.grownBy w' g) (hv:∀b,g=aH b->v.ownBlock≠aH b) (hN:∀b,g=aH b->N b):RwX S e w' base v l N:=by
 obtain⟨ps,h1,h2,h3,h4⟩:=h;refine⟨ps,h1,h2.grown hg (fun p hp b hb=>h4 p hp b (.inr (hN b hb))),h3.kept hg ?_,h4⟩;cases hb:v.ownBlock with
 | none=>exact .inl rfl
 | some b=>exact .inr (fun e1=>hv b e1.symm hb)
theorem RwX.wider (h:RwX S e w base v l N) (hN:∀b,N' b->N b\/w.heap.size<=b):RwX S e w base v l N':=by
 obtain⟨ps,h1,h2,h3,h4⟩:=h;refine⟨ps,h1,h2,h3,fun p hp b hb hl=> ?_⟩;rcases hb with hb | hb
 ·exact h4 p hp b (.inl hb) hl
 ·rcases hN b hb with h5 | h5
  ·exact h4 p hp b (.inr h5) hl
  ·have:=S.live (h2 p hp) b hl;omega
theorem RwX.open_ (h:RwX S e w base v l N):∃xs,w.ownsRow base e S.size v l.length xs /\
  ∀(x:α) (cs:al) (w1 w2:World) (v2:Value),Below w.heap.size w w1->S.R w1 x cs->(∀b,(v.ownBlock=aH b\/N b)->¬leads b cs)->w2.ownsRow base e S.size v2 (l.length+1) (xs++cs)->w1.grownBy w2 v.ownBlock->(v2.ownBlock=v.ownBlock\/∃g,v2.ownBlock=aH g/\w1.heap.size<=g) ->
   RwX S e w2 base v2 (l++ [x]) N:=by
 obtain⟨ps,h1,h2,h3,h4⟩:=h;refine⟨_,h3,fun x cs w1 w2 v2 hb hx hxl ho hg hv=> ?_⟩;have h2':=h2.below hb;have hall:∀p∈ps++ [(x,cs)],S.R w1 p.1 p.2/\∀b,(v.ownBlock=aH b\/N b)->¬leads b p.2:=fun p hp=>by
  rcases List.mem_append.1 hp with h | h
  ·exact⟨h2' p h,h4 p h⟩
  ·have:=List.mem_singleton.1 h;subst this;exact⟨hx,hxl⟩
 refine⟨ps++ [(x,cs)],by simp [h1],?_,?_,fun p hp b hb hl=> ?_⟩
 ·exact qO.grown (w:=w1) (g:=v.ownBlock) (fun p hp=>(hall p hp).1) hg (fun p hp b hb=>(hall p hp).2 b (.inl hb))
 ·rw [x8,List.length_append];simpa [cls] using ho
 ·rcases hb with hb | hb
  ·rcases hv with e1 | ⟨g,e1,hge⟩
   ·exact(hall p hp).2 b (.inl (by rw [<-e1];exact hb)) hl
   ·rw [e1]at hb;cases hb
    have:=S.live (hall p hp).1 _ hl;omega
  ·exact(hall p hp).2 b (.inr hb) hl
end
def Shp.off {α:Type} (S:Shp α) (N:an):Shp α where
 size:=S.size
 R w x cs:=S.R w x cs/\∀b,N b->¬leads b cs
 len h:=S.len h.1
 one h:=S.one h.1
 live h:=S.live h.1
 keep h hs hk:=⟨S.keep h.1 hs hk,h.2⟩
theorem RwX.off {S:Shp α} (h:RwX S e w base v l N):RwO (S.off N) e w base v l:=by
 obtain⟨ps,h1,h2,h3,h4⟩:=h;exact⟨ps,h1,fun p hp=>⟨h2 p hp,fun b hb=>h4 p hp b (.inr hb)⟩,h3,fun p hp b hb=>h4 p hp b (.inl hb)⟩
theorem RwO.on {S:Shp α} (h:RwO (S.off N) e w base v l):RwX S e w base v l N:=by
 obtain⟨ps,h1,h2,h3,h4⟩:=h;exact⟨ps,h1,fun p hp=>(h2 p hp).1,h3,fun p hp b hb=>hb.elim (h4 p hp b) ((h2 p hp).2 b)⟩
theorem zf (h:w.ownsRow base e size v n xs) (hA:Arr w g e' ys) (hne:e≠e'):v.ownBlock≠aH g:=fun hg=>by
 rcases h.2 with ⟨rfl,_⟩ | ⟨g',cap,cur,rfl,_,h2,_⟩
 ·cases hg
 ·cases hg
  have h3:=Eq.trans (Eq.symm h2) hA
  simp only [Option.some.injEq,Obj.cells.injEq]at h3
  exact hne h3.2.1
theorem JK {g':Nat} (h:Arr w g e xs) (h':Arr w g' e' ys) (hne:e≠e'):g≠g':=fun hg=>by
 subst hg
 have h3:=(h:w.heap[g]?=_).symm.trans h'
 simp only [Option.some.injEq,Obj.cells.injEq]at h3
 exact hne h3.2.1
theorem un (h:w.ownsRow base e size v n xs):∃A c,v= aB A n c/\Sl w size A n c xs/\∀a,A=aH a->base<=a.block:=Sl.of_own h
structure StW (w:World) (H:Nat) (vb ve:Value) (s:AccP):Prop where
 box:Arr w (H+1) 34 [vb,ve,aC aD 0,aC aD s.aL]
 res:Arr w H 34 [aB aG 0 0,aB aG 0 0,aC aD 0,aC aD 0]
 b:RwX BlobS 76 w (H+2) vb s.aJ (fun g=>(g=H\/g=H+1)\/ve.ownBlock=aH g)
 e:RwX EntS 100 w (H+2) ve s.aK (fun g=>(g=H\/g=H+1)\/vb.ownBlock=aH g)
 ne:∀g,vb.ownBlock=aH g->ve.ownBlock≠aH g
theorem StW.below {H:Nat} {vb ve:Value} {s:AccP} (h:StW w H vb ve s) (hb:Below w.heap.size w w'):StW w' H vb ve s :=
 ⟨h.box.below hb,h.res.below hb,h.b.below hb,h.e.below hb,h.ne⟩
theorem uz:El zZZ 31 76 4 56:=El.mk' (z:= .agg #[aE ByteArray.empty,aB aG 0 0,aC aD 0,.bool false]) underlying31 aa rfl ww ww
theorem XI:El zZZ 32 100 4 56:=El.mk' (z:= .agg #[aE ByteArray.empty,aB aG 0 0,aC aD 0,aC aD 0]) underlying32 aa rfl ww ww
theorem zV (w:World) (g k:Nat) (u:Value):w.grownBy (w.setCell ⟨g,k,aG⟩ u) (aH g):=⟨rfl,rfl,rfl,by simp [World.setCell],fun j _ hj=>Below.heap_setCell w _ u j (fun e=>hj (by rw [e]))⟩
theorem Arr.grown {r:Option Nat} (h:Arr w g e xs) (hg:w.grownBy w' r) (hne:r≠aH g):Arr w' g e xs:=(hg.block g h.lt (fun e=>hne e.symm)).trans h
theorem Z0 (x:BlobP) (B:ak) (c:Nat):∀u∈zZ x B c,u.oneCell'=true:=by
 intro u hu;simp only [zZ,List.mem_cons,List.not_mem_nil,or_false]at hu;rcases hu with rfl | rfl | rfl | rfl<;>rfl
theorem JS (x:EntP) (B:ak) (c:Nat):∀u∈kn x B c,u.oneCell'=true:=by
 intro u hu;simp only [kn,List.mem_cons,List.not_mem_nil,or_false]at hu;rcases hu with rfl | rfl | rfl | rfl<;>rfl
theorem ZE {x:BlobP} (h:leads b (zZ x B c)):∃a,B=aH a/\a.block=b:=by
 obtain⟨a,n,c',hm,rfl⟩:=h;simp only [zZ,List.mem_cons,List.not_mem_nil,or_false,Value.slice.injEq,reduceCtorEq,false_or]at hm;exact⟨a,hm.1.symm,rfl⟩
theorem UV {x:EntP} (h:leads b (kn x B c)):∃a,B=aH a/\a.block=b:=by
 obtain⟨a,n,c',hm,rfl⟩:=h;simp only [kn,List.mem_cons,List.not_mem_nil,or_false,Value.slice.injEq,reduceCtorEq,false_or]at hm;exact⟨a,hm.1.symm,rfl⟩
theorem yb.sl {l:aj} (h:yb w base A c l):Sl w 1 A l.length c (bys l)/\∀a,A=aH a->base<=a.block:=by
 have h1:=h.rd;have h2:=h.cap;obtain⟨g,rest,fz,rfl,hb,hg,hl,hm,hf⟩:=h;exact⟨⟨h1,h2.1,h2.2,fun a ha=>by cases ha;exact(Array.getElem?_eq_some_iff.1 hg).1⟩,fun a ha=>by cases ha;exact hb⟩
section
variable {w:World} {H:Nat} {vb ve:Value} {s:AccP}
theorem StW.lt (h:StW w H vb ve s):H+1<w.heap.size:=h.box.lt
theorem StW.bB (h:StW w H vb ve s):∀g,vb.ownBlock=aH g->H+2<=g/\g<w.heap.size:=fun g e=>h.b.rwo.blk e
theorem StW.bE (h:StW w H vb ve s):∀g,ve.ownBlock=aH g->H+2<=g/\g<w.heap.size:=fun g e=>h.e.rwo.blk e
theorem StW.rows (h:StW w H vb ve s) (k:Nat) (u:Value) :
  RwX BlobS 76 (w.setCell ⟨H+1,k,aG⟩ u) (H+2) vb s.aJ (fun g=>(g=H\/g=H+1)\/ve.ownBlock=aH g)/\RwX EntS 100 (w.setCell ⟨H+1,k,aG⟩ u) (H+2) ve s.aK (fun g=>(g=H\/g=H+1)\/vb.ownBlock=aH g)/\Arr (w.setCell ⟨H+1,k,aG⟩ u) H 34 [aB aG 0 0,aB aG 0 0,aC aD 0,aC aD 0] :=
 ⟨h.b.other (zV w _ k u) (fun b e1 e2=>by cases e1;have:=h.bB _ e2;omega) (fun b e=>by cases e;exact .inl (.inr rfl)),
  h.e.other (zV w _ k u) (fun b e1 e2=>by cases e1;have:=h.bE _ e2;omega) (fun b e=>by cases e;exact .inl (.inr rfl)),
  h.res.other ww u⟩
theorem Arr.all4 {w:World} {x0 x1 x2 x3:Value} (h:Arr w g e [x0,x1,x2,x3]) (y0 y1 y2 y3:Value) :
  Arr ((((w.setCell ⟨g,0,aG⟩ y0).setCell ⟨g,1,aG⟩ y1).setCell ⟨g,2,aG⟩ y2).setCell ⟨g,3,aG⟩ y3) g e [y0,y1,y2,y3] :=
 (((h.set (k:=0) ac y0).set (k:=1) ac y1).set (k:=2) ac y2).set (k:=3) ac y3
theorem RwX.set {S:Shp α} {w:World} (h:RwX S e w base v l N) (hg:g<base) (hN:N g) (u:Value):RwX S e (w.setCell ⟨g,k,aG⟩ u) base v l N :=
 h.other (zV w g k u) (fun b e1 e2=>by cases e1;have:=(h.rwo.blk e2).1;omega) (fun b e=>by cases e;exact hN)
end
theorem Arr.setsMid {g:Nat} {e:TypeId}:∀(ys xs zs ts:al) (W:World),Arr W g e (zs++(xs++ts))->ys.length=xs.length->Arr (W.setCells g zs.length ys) g e (zs++(ys++ts))
 | [], [],zs,ts,W,h,_=>h
 | y::ys,x::xs,zs,ts,W,h,hl=>by
  have h1:=h.set (k:=zs.length) ac y
  rw [List.set_append_right _ _ ai,Nat.sub_self,List.cons_append,List.set_cons_zero]at h1
  have h2:=Arr.setsMid ys xs (zs++ [y]) ts _ (by simpa using h1) (by simpa using hl)
  rw [List.append_assoc]at h2
  simp only [List.length_append,List.length_cons,List.length_nil,Nat.zero_add]at h2
  exact h2
theorem yY (b off j:Nat):(⟨b,off,aG⟩:Addr).add j=⟨b,off+j,aG⟩:=by unfold Addr.add;split<;>simp_all
theorem xF {g k:Nat} (hne:k≠g):∀(ys:al) (o:Nat) (W:World),(W.setCells g o ys).heap[k]?=W.heap[k]?
 | [],_,_=>rfl
 | y::ys,o,W=>(xF hne ys (o+1) _).trans (Below.heap_setCell W _ y k hne)
theorem QK (W:World) (g o:Nat) (ys:al):W.grownBy (W.setCells g o ys) (aH g) :=
 have h:=Below.sets (B:=0) (g:=g) (Nat.zero_le _) ys o W (Below.refl 0 W)
 ⟨h.os,h.tape,h.output,h.size,fun k hk hne=>xF (fun e=>hne (by rw [e])) ys o W⟩
section
variable {P:Program} {w:World}
theorem z2d {ty:TypeId} (E:El P t e size bytes) {us:al} {m:Nat}
  (hown:w.ownsRow base e size (aB (aH ⟨g,0,aG⟩) n cap) n xs) (hl:us.length=m*size) (h1:∀u∈us,u.oneCell'=true) (hroom:n+m<=cap) :
  ∃w',(Builtin.append_ #[t,t] ty #[aB (aH ⟨g,0,aG⟩) n cap,aB (aH ⟨w.heap.size,0,aG⟩) m c]).run P (w.alloc (.cells us.toArray e'))= .ok (aB (aH ⟨g,0,aG⟩) (n+m) cap) w' /\
   w'.ownsRow base e size (aB (aH ⟨g,0,aG⟩) (n+m) cap) (n+m) (xs++us)/\w.grownBy w' (aH g):=by
 obtain⟨hu,⟨i,z,hi,hz,hs,hby,hzs⟩,hp,hq⟩:=E;subst hs;obtain⟨hxl,h2⟩:=hown;rcases h2 with ⟨h,_⟩ | ⟨g',cap',cur,e1,hb,hg,hn,hm,hsz,ht⟩
 ·cases h
 ·injection e1 with e1 _ e3;injection e1 with e1;injection e1 with e1;subst e1 e3;have hA0:Arr w g e cur.toList:=by simpa [Arr] using hg
  have hA:=hA0.alloc (.cells us.toArray e');have hcl:cur.toList.length=cap*i.size:=by simpa using hsz
  have hmul:(n+m)*i.size<=cap*i.size:=Nat.mul_le_mul_right _ hroom;rw [Nat.add_mul]at hmul;have hsplit:cur.toList=xs++((cur.toList.drop (n*i.size)).take (m*i.size)++cur.toList.drop ((n+m)*i.size)):=by
   have ht':cur.toList.take (n*i.size)=xs:=ht;rw [<-ht',Nat.add_mul,<-List.drop_drop,List.take_append_drop,List.take_append_drop]
  have hlt:=hA0.lt;have hrun:=run_append_room_cells (P:=P) (w:=w.alloc (.cells us.toArray e')) t ty e i hu hi g 0 n cap ⟨w.heap.size,0,aG⟩ m c us hl
   (fun j u hj=>by
    show(w.alloc _).cell? ((⟨w.heap.size,0,aG⟩:Addr).add j)=_;rw [yY,Nat.zero_add,World.cell?_alloc_new];simpa using hj) h1 hroom
   (fun j hj=>by
    rw [hA.cell (k:=0+n*i.size+j) (List.getElem?_eq_getElem (by rw [hcl];omega))];rfl)
   (fun j hj=>hA.frozen _)
  refine⟨_,hrun,⟨by rw [List.length_append,hxl,hl,Nat.add_mul],.inr ⟨g,cap,(xs++(us++cur.toList.drop ((n+m)*i.size))).toArray,rfl,hb,?_,hroom,hm,?_,?_⟩⟩,?_⟩
  ·rw [hsplit]at hA;have hA2:=Arr.setsMid us _ xs _ _ hA (by rw [List.length_take,List.length_drop,hcl,hl];omega);rw [Nat.zero_add,<-hxl];exact hA2
  ·simp only [List.size_toArray,List.length_append,List.length_drop,hcl,hxl,hl,Nat.add_mul];omega
  ·simp only [List.toList_toArray];rw [<-List.append_assoc,List.take_append_of_le_length (by rw [List.length_append,hxl,hl,Nat.add_mul];exact Nat.le_refl _),List.take_of_length_le (by rw [List.length_append,hxl,hl,Nat.add_mul];exact Nat.le_refl _)]
  ·have h5:=QK (w.alloc (.cells us.toArray e')) g (0+n*i.size) us;exact⟨h5.os,h5.tape,h5.output,Nat.le_trans (by rw [World.size_alloc];omega) h5.size,fun k hk hne=>(h5.block k ag hne).trans (Below.heap_alloc _ _ _ hk)⟩
theorem jN {ops:Array Oper} {rest:List Oper} {o:Oper} {a:Act} {Q:am} (hgd:o.guard=aG) (s x:Operand) 
  (ho:o.op= .call { callee:= .builtin .append,args:=#[s,x],argTypes:=#[t,t] }) (E:El P t e size bytes)
  {base g n cap:Nat} {xs:al} (hs:a.eval s= aB (aH ⟨g,0,aG⟩) n cap) (hown:w.ownsRow base e size (aB (aH ⟨g,0,aG⟩) n cap) n xs)
  {us:al} {m c:Nat} (hx:a.eval x= aB (aH ⟨w.heap.size,0,aG⟩) m c) (hl:us.length=m*size) (h1:∀u∈us,u.oneCell'=true) (hroom:n+m<=cap)
  (h:∀w',w'.ownsRow base e size (aB (aH ⟨g,0,aG⟩) (n+m) cap) (n+m) (xs++us)->w.grownBy w' (aH g)->wpList P ops Q rest (a.put o.dst (aB (aH ⟨g,0,aG⟩) (n+m) cap)) w') :
  wpList P ops Q (o::rest) a (w.alloc (.cells us.toArray e')) :=
 wpList_plain hgd fun K hK=>by
  obtain⟨w',hrun,h2,h3⟩:=z2d (P:=P) (ty:=o.type) (e':=e') E hown hl h1 hroom (c:=c)
  unfold Oper.wp execOp
  simp only [ho,resolve,invoke,builtin,Sem.run_bind,Sem.run_pure,Result.andThen_ok,List.map_toArray,List.map_cons,List.map_nil,hs,hx,hrun]
  exact hK _ _ (h w' h2 h3)
end
theorem Sl.other (h:Sl w size A n c xs) (hne:∀a,A=aH a->a.block≠g) (u:Value):Sl (w.setCell ⟨g,k,aG⟩ u) size A n c xs :=
 h.keep (by simp [World.setCell]) fun b hb hl=>by
  obtain⟨a,ha,rfl⟩:=hl
  exact Below.heap_setCell w _ u _ (hne a ha)
theorem yz (A:ak) (n c:Nat) (xs:al) (w:World) (hb:n*40<=140737488355328) (hr:Rd w 3 A n xs) (h1:∀u∈xs,u.oneCell'=true) :
  Calls zZZ 128 #[aB A n c] w fun e w'=>∃v,e= .returned v/\w'.ownsRow w.heap.size 85 3 v n xs/\Below w.heap.size w w':=by
 have heq:=fun W=>Lib.run_eql_slice_nil (P:=zZZ) W 27 85 A n c 0 0 underlying27;cases A with
 | none =>
  obtain rfl:n=0:=by
   rcases Nat.eq_zero_or_pos n with h | h
   ·exact h
   ·obtain⟨_,_,h1,_⟩:=hr.2 h;cases h1
  obtain rfl:xs= []:=List.eq_nil_of_length_eq_zero (by simpa using hr.1);go_enter func128,ntmps128;go_wp2_with fail;go_ret;exact⟨_,rfl,World.ownsRow_nil _ _ _ _,Below.refl _ _⟩
 | some ad =>
  go_enter func128,ntmps128
  refine wL ?_;intros;refine zP rfl (.tmp 5) (.tmp 6) rfl XJ ae (World.ownsRow_made (size:=3) w #[] 0 ai (by simp [maxLen]) rfl) ae (hr.alloc _) h1 ww ac ?_;intro v1 w1 hown1 hg1 _;have hb1:=zk ((Below.refl _ _).alloc ai _) (World.ownsRow_made (size:=3) w #[] 0 ai (by simp [maxLen]) rfl) ai hg1;go_wp2_with fail;go_ret;exact⟨_,rfl,by simpa using hown1,hb1⟩
theorem XF:∀x y:aj,decide (Lib.compareBytes x y<0)=Op.bytesLess x y
 | [], []=>rfl
 | [],_::_=>rfl
 | _::_, []=>rfl
 | a::x,b::y=>by
  rw [Lib.compareBytes,Op.bytesLess]
  by_cases h1:a<b
  ·simp [h1]
  ·by_cases h2:b<a
   ·have hne:a≠b:=by rintro rfl;exact h1 h2
    simp [h1,h2,hne]
   ·have he:a=b:=by
     rcases z03 a b with h | h | h
     ·exact absurd h h1
     ·exact h
     ·exact absurd h h2
    subst he;have:=XF x y;simp [h1,this]
theorem jj (h:Op.bytesLess x y=true):Lib.compareBytes x y<0:=by
 have:=XF x y;rw [h,decide_eq_true_eq]at this;exact this
theorem ji (h:Op.bytesLess x y=false):¬Lib.compareBytes x y<0:=by
 have:=XF x y;rw [h,decide_eq_false_iff_not]at this;exact this
end Go.Proofs.YtaboknhfiijipaaGreat
