/- Lemmas of the proof. Conditions: as stated. -/
import Derived.Test.YtfmnggcfhalfnaaGreatQW06
import Derived.Test.YtfmnggcfhalfnaaGreatQW09
import Derived.Test.YtfmnggcfhalfnaaGreatQW10
import Derived.ArgAppend
import Derived.Lib.SlBytesConst
set_option linter.unusedVariables false
set_option linter.unusedSimpArgs false
set_option maxRecDepth 100000
set_option maxHeartbeats 4000000
namespace Go.Proofs.YtfmnggcfhalfnaaGreat
open Go.RowKit
def kw (p:PartP):List UInt8:=txt p.name++(kf p.dig).1++num p.size
def enc (l:List PartP):List UInt8:= [65,77,49]++num l.length++l.flatMap kw
def ZG (W:World) (base:Nat) (v:Value) (X:List UInt8):Prop :=
 W.ownsRow base 5 1 v X.length (bys X)∨(∃g,v= .slice (some ⟨g,0,none⟩) X.length X.length∧Rd W 1 (some ⟨g,0,none⟩) X.length (bys X))
theorem ZG.below {W W':World} {base:Nat} {v:Value} {X:List UInt8} (h:ZG W base v X) (hb:Below W.heap.size W W'):ZG W' base v X :=
 h.imp (fun h=>zb h hb) (fun ⟨g,e,h⟩=>⟨g,e,h.below hb⟩)
theorem ZG.lt {W:World} {base:Nat} {v:Value} {X:List UInt8} (h:ZG W base v X) (h0:0<X.length):∀k,v.ownBlock=some k→k<W.heap.size:=fun k hk=>by
 rcases h with h | ⟨g,rfl,hr⟩
 ·exact(h.lt k hk).2
 ·obtain⟨b,off,e,hb,_⟩:=hr.2 h0
  injection hk with hk;injection e with e;injection e with e1
  simp only at hk
  omega
theorem jK:∀(l r:List UInt8),qB l=some r→l.length=2*r.length:=fun l r h=>by
 have:=yU l r h
 rw [←this,qJ]
theorem yT {d:List UInt8} (h:zJ d=0):(kf d).2=0∧(kf d).1.length=32:=by
 unfold zJ at h;by_cases h64:d.length=64
 ·rw [if_neg (by omega)]at h;refine⟨h,?_⟩;unfold kf at h ⊢
  rw [if_neg (by omega),if_neg (by omega)]at h ⊢
  cases hu:qB d with
  | none=>rw [hu]at h;cases h
  | some r=>have:=jK d r hu;simp only [];omega
 ·rw [if_pos h64]at h;cases h
theorem qZ {s:List UInt8} (h:zF s=0):1≤s.length∧s.length≤12:=by
 unfold zF at h;by_cases hb:s.length<1∨12<s.length
 ·rw [if_pos hb]at h;cases h
 ·omega
theorem kP:∀(l:List PartP) (q:Option (List UInt8)),qe q l=0→∀p∈l,zF p.name=0∧zJ p.dig=0∧p.size≤300
 | [],_,_,p,hp=>by cases hp
 | x::l,q,h,p,hp=>by
  rw [zM]at h
  by_cases h1:zF x.name=0
  ·rw [if_neg (fun e=>e h1)]at h
   have key:∀bb:Bool,(if bb=true then 6 else if zJ x.dig≠0 then zJ x.dig else if 300<x.size then 4 else qe (some x.name) l)=0→zF p.name=0∧zJ p.dig=0∧p.size≤300:=fun bb h=>by
    cases bb with
    | true=>rw [if_pos rfl]at h;exact absurd h (by decide)
    | false =>
     rw [if_neg (by decide)]at h
     by_cases h2:zJ x.dig=0
     ·rw [if_neg (fun e=>e h2)]at h
      by_cases h3:300<x.size
      ·rw [if_pos h3]at h;exact absurd h (by decide)
      ·rw [if_neg h3]at h
       rcases List.mem_cons.1 hp with rfl | hp
       ·exact⟨h1,h2,by omega⟩
       ·exact kP l _ h p hp
     ·rw [if_pos h2]at h;exact absurd h h2
   exact key _ h
  ·rw [if_pos h1]at h;exact absurd h h1
theorem zl {l:List PartP} (h:chk l=0):l.length≤8∧∀p∈l,zF p.name=0∧zJ p.dig=0∧p.size≤300:=by
 unfold chk at h;by_cases hb:8<l.length
 ·rw [if_pos hb]at h;cases h
 ·rw [if_neg hb]at h;exact⟨by omega,kP l none h⟩
theorem jt {p:PartP} (h:zF p.name=0∧zJ p.dig=0∧p.size≤300):1≤(txt p.name).length∧(txt p.name).length≤14∧1≤(num p.size).length∧(num p.size).length≤2∧(kw p).length≤48:=by
 have h1:=qZ h.1;have h2:=ZA p.name (by omega);have h3:=yT h.2.1;have h4:=uG p.size 1 (by omega);simp only [kw,List.length_append];omega
theorem xT (l:List PartP) (h:∀p∈l,zF p.name=0∧zJ p.dig=0∧p.size≤300):(l.flatMap kw).length≤48*l.length:=by
 induction l with
 | nil=>simp
 | cons x l ih =>
  have h1:=(jt (h x (by simp))).2.2.2.2;have h2:=ih (fun p hp=>h p (by simp [hp]));simp only [List.flatMap_cons,List.length_append,List.length_cons];omega
theorem vB {q:Option (List UInt8)} {p:PartP} {r:List PartP} (h1:zF p.name=0) (h2:∀n,q=some n→leS p.name n=false) (h3:zJ p.dig=0) (h4:p.size≤300):qe q (p::r)=qe (some p.name) r:=by
 rw [zM,if_neg (fun e=>e h1)];cases q with
 | none=>simp only [];rw [if_neg (by decide),if_neg (fun e=>e h3),if_neg (by omega)]
 | some n=>simp only [h2 n rfl];rw [if_neg (by decide),if_neg (fun e=>e h3),if_neg (by omega)]
theorem ur (l:List PartP) (h:l.length≤8):enc l= [65,77,49,UInt8.ofNat l.length]++l.flatMap kw:=by
 rw [enc,zN (by omega)];simp
theorem vC (l:List PartP) (h:l.length≤8):(enc l).length=4+(l.flatMap kw).length:=by rw [ur l h];simp;omega
def keyS (k:Nat):List UInt8:=shaS [107,UInt8.ofNat k]
theorem vT (n:Int) (w:World) (h0: -9223372036854775808≤n) (h1:n≤9223372036854775807) :
  Calls Tryz.prog 9 #[.int .i64 n] w fun e w'=>e= .returned (.string ⟨(keyS (pk n 7)).toArray⟩)∧Below w.heap.size w w':=by
 have HP:=sqH (fun w'=>zG n 7 7 rfl w' h0 h1 (by omega) (by omega));have hk:=qM n (m:=7) (by omega);generalize pk n 7=k at *
 obtain⟨b,hb⟩:∃b,b=UInt8.ofNat k:=⟨_,rfl⟩
 have hw:IntKind.u8.wrap (k:Int)=(b.toNat:Int):=by rw [hb,IntKind.wrap_u8,UInt8.toNat_ofNat'];omega
 have HK:=sqH (show keyS k=shaS [107,b] from by rw [keyS,hb]);have hr:Rd (w.alloc (.cells #[.int .u8 107,.int .u8 (b.toNat:Int)] 5)) 1 (some ⟨w.heap.size,0,none⟩) 2 (bys [107,b]):=Rd.newN (w:=w) (e:=5) (size:=1) (m:=2) (bys [107,b]) rfl;have hb1:=(Below.refl w.heap.size w).alloc (Nat.le_refl _) (.cells #[.int .u8 107,.int .u8 (b.toNat:Int)] 5);have HD:=sqH (kj (some ⟨w.heap.size,0,none⟩) 2 2 [107,b] _ rfl (by omega) (by omega) hr);clear hb hr;go_enter Tryz.func9,Tryz.ntmps9;go_wp2_with fail;refine(HP.out _).mono ?_;rintro e_ _ ⟨rfl,rfl⟩;dsimp only;go_wp2_with fail;refine HD.out.mono ?_;rintro e_ w2 ⟨rfl,hb2⟩;dsimp only;go_wp2_with fail;go_ret;rw [HK.out];exact⟨rfl,hb1.trans (hb2.mono hb1.size)⟩
structure FlP where
 key:List UInt8
 lead:Int
 wait:List Int
def xm (p:FlP) (A:Option Addr) (c:Nat):List Value:= [.string ⟨p.key.toArray⟩,.int .i64 p.lead,.slice A p.wait.length c]
def ins (l:List Int):List Value:=l.map (.int .i64 ·)
def Fls (w:World) (A:Option Addr) (fs:List FlP):Prop :=
 ∃(As:List (Option Addr×Nat)),As.length=fs.length∧Rd w 3 A fs.length ((fs.zip As).flatMap fun x=>xm x.1 x.2.1 x.2.2) ∧
  ∀(k:Nat) (p:FlP) (a:Option Addr×Nat),fs[k]?=some p→As[k]?=some a→Rd w 1 a.1 p.wait.length (ins p.wait)∧p.wait.length≤a.2∧a.2≤maxLen
theorem Fls.below {w w':World} {A:Option Addr} {fs:List FlP} (h:Fls w A fs) (hb:Below w.heap.size w w'):Fls w' A fs:=by
 obtain⟨As,h1,h2,h3⟩:=h;exact⟨As,h1,h2.below hb,fun k p a hp ha=>⟨(h3 k p a hp ha).1.below hb,(h3 k p a hp ha).2⟩⟩
theorem yS:∀(fs:List FlP) (As:List (Option Addr×Nat)) (k j:Nat) (p:FlP) (a:Option Addr×Nat),fs[k]?=some p→As[k]?=some a→j<3 →
  ((fs.zip As).flatMap fun x=>xm x.1 x.2.1 x.2.2)[k*3+j]?=(xm p a.1 a.2)[j]?
 | f::fs,a'::As,0,j,p,a,hp,ha,hj=>by
  simp only [List.getElem?_cons_zero,Option.some.injEq]at hp ha
  subst hp ha
  rw [List.zip_cons_cons,List.flatMap_cons,Nat.zero_mul,Nat.zero_add,List.getElem?_append_left (by simpa [xm] using hj)]
 | f::fs,a'::As,k+1,j,p,a,hp,ha,hj=>by
  rw [List.zip_cons_cons,List.flatMap_cons,List.getElem?_append_right (by simp [xm];omega)]
  rw [show(k+1)*3+j - (xm f a'.1 a'.2).length=k*3+j by simp [xm];omega]
  exact yS fs As k j p a (by simpa using hp) (by simpa using ha) hj
theorem Fls.at_ {w:World} {A:Option Addr} {fs:List FlP} (h:Fls w A fs) (k:Nat) (hk:k<fs.length) :
  ∃b off B c,A=some ⟨b,off,none⟩∧b<w.heap.size∧w.cell? ⟨b,off+k*3,none⟩=some (.string ⟨fs[k].key.toArray⟩)∧w.cell? ⟨b,off+k*3+1,none⟩=some (.int .i64 fs[k].lead) ∧
   w.cell? ⟨b,off+k*3+2,none⟩=some (.slice B fs[k].wait.length c)∧Rd w 1 B fs[k].wait.length (ins fs[k].wait)∧fs[k].wait.length≤c∧c≤maxLen:=by
 obtain⟨As,h1,h2,h3⟩:=h;obtain⟨b,off,rfl,hb,hc⟩:=h2.2 (by omega);have hp:fs[k]?=some fs[k]:=List.getElem?_eq_getElem hk;have hka:k<As.length:=by omega
 have ha:As[k]?=some As[k]:=List.getElem?_eq_getElem hka;have hat:=fun j hj=>yS fs As k j fs[k] As[k] hp ha hj;obtain⟨h4,h5,h6⟩:=h3 k _ _ hp ha;have c0:=hc (k*3+0) _ ((hat 0 (by omega)).trans rfl);have c1:=hc (k*3+1) _ ((hat 1 (by omega)).trans rfl);have c2:=hc (k*3+2) _ ((hat 2 (by omega)).trans rfl);refine⟨b,off,As[k].1,As[k].2,rfl,hb,c0,?_,?_,h4,h5,h6⟩
 ·rw [←c1];congr 2
 ·rw [←c2];congr 2
def k5 (l:List BlobP) (r:RawP) (i:Nat):PartP :=
 let b:=(l[pk (IntKind.i64.wrap (r.b+7*(i:Int))) l.length]?).getD ⟨[], [],0,false⟩
 ⟨[112,UInt8.ofNat (97+i)],b.dig,b.data.length⟩
def zg (l:List BlobP) (r:RawP):List PartP:=if l.length=0 then [] else (List.range (pk r.a 4)).map (k5 l r)
structure AccP where
 blobs:List BlobP
 ents:List EntP
 used:Nat
 clock:Nat
def qm (bl:List BlobP) (r:RawP):List UInt8:=if pk r.kind 6=3 then enc (zg bl r) else js r 40
def kD (bl:List BlobP) (r:RawP):BlobP:=⟨shaS (qm bl r),qm bl r,pk r.b 5 - 3,false⟩
def jG (bl:List BlobP) (c:Nat) (r:RawP):EntP:=⟨keyS (pk r.a 7),zg bl r,pk r.b 5 - 3,c⟩
def zO (s:AccP) (r:RawP):AccP :=
 if pk r.kind 6<4 then
  if s.blobs.any (fun b=>b.dig==shaS (qm s.blobs r)) then s else { s with blobs:=s.blobs++ [kD s.blobs r],used:=s.used+(qm s.blobs r).length }
 else
  if s.ents.any (fun x=>x.key==keyS (pk r.a 7)) then { s with clock:=s.clock+pk r.b 3 } else { s with clock:=s.clock+pk r.b 3,ents:=s.ents++ [jG s.blobs (s.clock+pk r.b 3) r] }
def qR (l:List RawP):AccP:=(l.take 12).foldl zO ⟨[], [],0,0⟩
def sto (l:List RawP):StoP:=⟨srt (·.dig) (qR l).blobs,srt (·.key) (qR l).ents,min 4000 ((qR l).used+600),(qR l).clock⟩
def usd (l:List BlobP):Nat:=(l.map (·.data.length)).sum
theorem xx (l m:List BlobP):usd (l++m)=usd l+usd m:=by simp [usd]
theorem va {l m:List BlobP} (h:l.Perm m):usd l=usd m:=(h.map _).sum_nat
def Have (l:List BlobP) (ps:List PartP):Prop:=∀p∈ps,∃b∈l,b.dig=p.dig∧b.data.length=p.size
def GoodB1 (b:BlobP):Prop:=b.dig=shaS b.data∧b.data.length≤300∧b.pins≤5
structure GoodB (l:List BlobP):Prop where
 len:l.length≤24
 one:∀b∈l,GoodB1 b
 ris:RisesBy (·.dig) l
def GoodE1 (x:EntP):Prop:=zJ x.key=0∧chk x.parts=0∧x.pins≤5∧x.stamp≤1099511627776
structure GoodE (l:List EntP):Prop where
 len:l.length≤10
 one:∀x∈l,GoodE1 x
 ris:RisesBy (·.key) l
structure GoodS (s:StoP):Prop where
 b:GoodB s.blobs
 e:GoodE s.ents
 room:s.room≤4000
 used:usd s.blobs≤s.room
 clock:s.clock≤1099511627776
 ent:∀x∈s.ents,x.stamp≤s.clock∧Have s.blobs x.parts
theorem Have.mono {l m:List BlobP} {ps:List PartP} (h:Have l ps) (hm:∀b∈l,b∈m):Have m ps:=fun p hp=>by
 obtain⟨b,hb,h2⟩:=h p hp
 exact⟨b,hm b hb,h2⟩
theorem kA (l:List BlobP) (r:RawP):(zg l r).length≤3:=by
 have:=qM r.a (m:=4) (by omega);rw [zg];split
 ·simp
 ·simp;omega
theorem uL {l:List BlobP} {r:RawP} {i:Nat} (h:l.length≠0):∃b∈l,(k5 l r i).dig=b.dig∧(k5 l r i).size=b.data.length:=by
 have h1:=qM (IntKind.i64.wrap (r.b+7*(i:Int))) (m:=l.length) (by omega);refine⟨l[pk (IntKind.i64.wrap (r.b+7*(i:Int))) l.length],List.getElem_mem h1,?_⟩;simp only [k5,List.getElem?_eq_getElem h1,Option.getD_some,and_self]
theorem xW (l:List BlobP) (r:RawP):Have l (zg l r):=fun p hp=>by
 rw [zg]at hp
 split at hp
 ·cases hp
 ·rename_i h0
  obtain⟨i,_,rfl⟩:=List.mem_map.1 hp
  obtain⟨b,hb,h1,h2⟩:=uL (r:=r) (i:=i) h0
  exact⟨b,hb,h1.symm,h2.symm⟩
theorem Q8:∀i,i<3→zF [112,UInt8.ofNat (97+i)]=0:=by decide
theorem ple:∀i j,i<3→j<i→leS [112,UInt8.ofNat (97+i)] [112,UInt8.ofNat (97+j)]=false:=by
 have key:∀i j:Fin 3,j.val<i.val→leS [112,UInt8.ofNat (97+i.val)] [112,UInt8.ofNat (97+j.val)]=false:=by decide +kernel
 exact fun i j h h'=>key ⟨i,h⟩ ⟨j,by omega⟩ h'
theorem xP (f:Nat→PartP) (hn:∀i,(f i).name= [112,UInt8.ofNat (97+i)]) (hf:∀i,zJ (f i).dig=0∧(f i).size≤300):∀(n i:Nat) (q:Option (List UInt8)),i+n≤3→(q=none∨∃j,j<i∧q=some [112,UInt8.ofNat (97+j)])→qe q ((List.range' i n).map f)=0
 | 0,_,q,_,_=>by cases q<;>rfl
 | n+1,i,q,hi,hq=>by
  rw [List.range'_succ,List.map_cons,vB (by rw [hn];exact Q8 i (by omega)) (fun m hm=> ?_) (hf i).1 (hf i).2]
  ·exact xP f hn hf n (i+1) _ (by omega) (.inr ⟨i,by omega,by rw [hn]⟩)
  ·rcases hq with h | ⟨j,hj,h⟩
   ·rw [h]at hm;cases hm
   ·rw [h]at hm;cases hm;rw [hn];exact ple i j (by omega) hj
theorem yo {l:List BlobP} (h:∀b∈l,zJ b.dig=0∧b.data.length≤300) (r:RawP):chk (zg l r)=0:=by
 have h3:=kA l r;have h4:=qM r.a (m:=4) (by omega);rw [chk,if_neg (by omega),zg];split
 ·rfl
 ·rename_i h0;rw [List.range_eq_range'];refine xP _ (fun i=>rfl) (fun i=> ?_) _ 0 none (by omega) (.inl rfl);obtain⟨b,hb,e1,e2⟩:=uL (l:=l) (r:=r) (i:=i) h0;rw [e1,e2];exact h b hb
structure AccOk (k:Nat) (s:AccP):Prop where
 blen:s.blobs.length≤k
 bnd:(s.blobs.map (·.dig)).Nodup
 bone:∀b∈s.blobs,b.dig=shaS b.data∧b.data.length≤148∧b.pins≤1∧b.mark=false
 used:s.used=usd s.blobs
 usedk:s.used≤148*k
 elen:s.ents.length≤k
 end_:(s.ents.map (·.key)).Nodup
 eone:∀x∈s.ents,(∃j,j<7∧x.key=keyS j)∧chk x.parts=0∧x.parts.length≤3∧x.pins≤1∧x.stamp≤s.clock∧Have s.blobs x.parts
 clock:s.clock≤2*k
theorem AccOk.hex {k:Nat} {s:AccP} (h:AccOk k s):∀b∈s.blobs,zJ b.dig=0∧b.data.length≤300:=fun b hb=>by
 obtain⟨h1,h2,_⟩:=h.bone b hb
 exact⟨by rw [h1];exact qI _,by omega⟩
theorem k6 {k:Nat} {s:AccP} (h:AccOk k s) (r:RawP):(qm s.blobs r).length≤148:=by
 rw [qm];split
 ·have h3:=kA s.blobs r;have hz:=zl (yo h.hex r);rw [vC _ hz.1];have:=xT _ hz.2;omega
 ·have:=yq r 40;omega
theorem uE {α:Type} {l:List α} {f:α→List UInt8} {x:List UInt8} (h:¬(l.any fun b=>f b==x)=true):∀b∈l,f b≠x:=fun b hb e=>h (List.any_eq_true.2 ⟨b,hb,by simp [e]⟩)
theorem kS {α:Type} {l:List α} {f:α→List UInt8} {x:α} (h:(l.map f).Nodup) (hx:∀b∈l,f b≠f x):((l++ [x]).map f).Nodup:=by
 rw [List.map_append,List.nodup_append];refine⟨h,by simp,fun a ha b hb=> ?_⟩;obtain⟨y,hy,rfl⟩:=List.mem_map.1 ha;simp only [List.map_cons,List.map_nil,List.mem_singleton]at hb;subst hb;exact hx y hy
theorem AccOk.step {k:Nat} {s:AccP} (h:AccOk k s) (r:RawP):AccOk (k+1) (zO s r):=by
 have hb5:=qM r.b (m:=5) (by omega);have hb3:=qM r.b (m:=3) (by omega);have hl:=k6 h r;rw [zO];split
 ·split
  ·exact⟨by have:=h.blen;omega,h.bnd,h.bone,h.used,by have:=h.usedk;omega,by have:=h.elen;omega,h.end_,h.eone,by have:=h.clock;omega⟩
  ·rename_i hn;refine⟨by rw [List.length_append];have:=h.blen;simp;omega,kS h.bnd (uE hn),fun b hb=> ?_,?_,?_,by have:=h.elen;show s.ents.length≤k+1;omega,h.end_,fun x hx=> ?_,by have:=h.clock;show s.clock≤_;omega⟩
   ·rcases List.mem_append.1 hb with h1 | h1
    ·exact h.bone b h1
    ·have:=List.mem_singleton.1 h1;subst this;exact⟨rfl,hl,by show pk r.b 5 - 3≤1;omega,rfl⟩
   ·rw [xx];show s.used+_=_;rw [h.used];rfl
   ·show s.used+_≤_;have:=h.usedk;omega
   ·obtain⟨h1,h2,h3,h4,h5,h6⟩:=h.eone x hx;exact⟨h1,h2,h3,h4,h5,h6.mono fun b hb=>List.mem_append_left _ hb⟩
 ·split
  ·refine⟨by have:=h.blen;show s.blobs.length≤_;omega,h.bnd,h.bone,h.used,by have:=h.usedk;show s.used≤_;omega,by have:=h.elen;show s.ents.length≤_;omega,h.end_,fun x hx=> ?_,by have:=h.clock;show s.clock+pk r.b 3≤_;omega⟩;obtain⟨h1,h2,h3,h4,h5,h6⟩:=h.eone x hx;exact⟨h1,h2,h3,h4,by show x.stamp≤s.clock+pk r.b 3;omega,h6⟩
  ·rename_i hn;refine⟨by have:=h.blen;show s.blobs.length≤_;omega,h.bnd,h.bone,h.used,by have:=h.usedk;show s.used≤_;omega,by rw [List.length_append];have:=h.elen;simp;omega,kS h.end_ (uE hn),fun x hx=> ?_,by have:=h.clock;show s.clock+pk r.b 3≤_;omega⟩;rcases List.mem_append.1 hx with h1 | h1
   ·obtain⟨h1,h2,h3,h4,h5,h6⟩:=h.eone x h1;exact⟨h1,h2,h3,h4,by show x.stamp≤s.clock+pk r.b 3;omega,h6⟩
   ·have:=List.mem_singleton.1 h1;subst this;exact⟨⟨_,qM _ (by omega),rfl⟩,yo h.hex r,kA _ _,by show pk r.b 5 - 3≤1;omega,Nat.le_refl _,xW _ _⟩
theorem xL:∀(l:List RawP) (k:Nat) (s:AccP),AccOk k s→AccOk (k+l.length) (l.foldl zO s)
 | [],k,s,h=>h
 | r::l,k,s,h=>by
  have:=xL l (k+1) (zO s r) (h.step r)
  rw [List.length_cons,List.foldl_cons,show k+(l.length+1)=k+1+l.length by omega]
  exact this
theorem AccOk.nil_:AccOk 0 ⟨[], [],0,0⟩:=⟨by simp,by simp,by simp,rfl,by simp,by simp,by simp,by simp,by simp⟩
theorem AccOk.mono {k m:Nat} {s:AccP} (h:AccOk k s) (hk:k≤m):AccOk m s:=⟨by have:=h.blen;omega,h.bnd,h.bone,h.used,by have:=h.usedk;omega,by have:=h.elen;omega,h.end_,h.eone,by have:=h.clock;omega⟩
theorem xM (l:List RawP) (k:Nat):AccOk k ((l.take k).foldl zO ⟨[], [],0,0⟩):=by
 have:=xL (l.take k) 0 _ AccOk.nil_;exact this.mono (by rw [List.length_take];omega)
theorem kN (l:List RawP):AccOk 12 (qR l):=xM l 12
theorem yW {α:Type} [DecidableEq α]:∀(l m:List α),l.Nodup→(∀x∈l,x∈m)→l.length≤m.length
 | [],m,_,_=>by simp
 | x::l,m,h,hm=>by
  have h1:=List.nodup_cons.1 h
  have hx:=hm x (by simp)
  have:=yW l (m.erase x) h1.2 fun y hy=>(List.mem_erase_of_ne (by rintro rfl;exact h1.1 hy)).2 (hm y (by simp [hy]))
  rw [List.length_erase_of_mem hx]at this
  have h0:0<m.length:=List.length_pos_of_mem hx
  rw [List.length_cons];omega
theorem kR {ks:List (List UInt8)} (h:ks.Nodup) (hk:∀k∈ks,∃j,j<7∧k=keyS j):ks.length≤7:=by
 have:=yW ks ((List.range 7).map keyS) h fun k hk'=>by
  obtain⟨j,hj,rfl⟩:=hk k hk';exact List.mem_map.2 ⟨j,List.mem_range.2 hj,rfl⟩
 simpa using this
theorem uz {l m:List BlobP} {ps:List PartP} (h:Have l ps) (hp:l.Perm m):Have m ps:=h.mono fun b hb=>hp.mem_iff.1 hb
theorem xZ (l:List RawP):(sto l).room=usd (sto l).blobs+600:=by
 have h:=kN l;have h1:usd (sto l).blobs=(qR l).used:=by rw [h.used];exact va (zm _ _)
 rw [h1];show min 4000 _=_;have:=h.usedk;omega
theorem yA (l:List RawP):GoodS (sto l):=by
 have h:=kN l;have pb:((sto l).blobs).Perm (qR l).blobs:=zm _ _;have pe:((sto l).ents).Perm (qR l).ents:=zm _ _;have hk:=kR h.end_ fun k hk=>by
  obtain⟨x,hx,rfl⟩:=List.mem_map.1 hk;exact(h.eone x hx).1
 rw [List.length_map]at hk;refine⟨⟨by rw [pb.length_eq];have:=h.blen;omega,fun b hb=> ?_,qQ h.bnd⟩,⟨by rw [pe.length_eq];omega,fun x hx=> ?_,qQ h.end_⟩,?_,by rw [xZ];omega,by have:=h.clock;show(qR l).clock≤_;omega,fun x hx=> ?_⟩
 ·obtain⟨h1,h2,h3,_⟩:=h.bone b (pb.mem_iff.1 hb);exact⟨h1,by omega,by omega⟩
 ·obtain⟨⟨j,_,h1⟩,h2,h3,h4,h5,h6⟩:=h.eone x (pe.mem_iff.1 hx);exact⟨by rw [h1];exact qI _,h2,by omega,by have:=h.clock;omega⟩
 ·show min 4000 _≤4000;omega
 ·obtain⟨h1,h2,h3,h4,h5,h6⟩:=h.eone x (pe.mem_iff.1 hx);exact⟨h5,uz h6 pb.symm⟩
theorem jL (l:List BlobP) (j:Nat) (hj:j<l.length):usd (l.take (j+1))=usd (l.take j)+l[j].data.length:=by
 rw [List.take_succ_eq_append_getElem hj,xx];simp [usd]
theorem jM (l:List BlobP) (j:Nat):usd (l.take j)≤usd l:=by
 have h:usd l=usd (l.take j)+usd (l.drop j):=by rw [←xx,List.take_append_drop]
 omega
theorem Zf (A:Option Addr) (c:Nat) (l:List BlobP) (w:World) (hl:l.length≤1000000) (hu:usd l≤1000000000) (hA:Rw BlobS w A l) :
  Calls Tryz.prog 102 #[.slice A l.length c] w fun e w'=>e= .returned (.int .i64 (usd l:Int))∧Below w.heap.size w w':=by
 generalize hR:usd l=R;have HR:=sqH hR;clear hR;go_enter Tryz.func102,Tryz.ntmps102;go_wp2_with fail;go_loopg [3,8] l.length (fun gn u i wr=>∃j:Nat,gn=l.length - j∧i= .int .i64 j∧j≤l.length∧u= .int .i64 ((usd (l.take j):Nat):Int)∧Below w.heap.size w wr)
 case atStart=>exact⟨0,rfl,rfl,by omega,rfl,Below.refl _ _⟩
 case round =>
  obtain⟨j,hgk,rfl,hj,rfl,hbl⟩:=hrel;have HGK:=sqH hgk;clear hgk;by_cases hlt:j<l.length
  ·have hcc:decide (j<l.length)=true:=decide_eq_true hlt;obtain⟨b,off,B,cb,rfl,hbb,c0,c1,c2,c3,hs⟩:=(hA.below hbl).blob_at j hlt;have hj0:(0:Int)≤(j:Int):=by omega
   have hj1:(j:Int)<(l.length:Int):=by omega
   have hst:=jL l j hlt;have hle:=jM l (j+1);have hle2:usd (l.take j)+l[j].data.length≤1000000000:=by omega
   have HST:=sqH hst;clear hst hle hs;have hb1:=(Below.refl wr.heap.size wr).alloc (Nat.le_refl _) (.cells #[.string ⟨l[j].dig.toArray⟩,.slice B l[j].data.length cb,.int .i64 (l[j].pins:Int),.bool l[j].mark] 32);have hb2:=hbl.trans (hb1.mono hbl.size);generalize l[j].data.length=d at *
   generalize usd (l.take j)=u at *
   generalize l[j]=x at *
   clear hb1;go_wp2_with fail;go_roundg (l.length - (j+1))
   case measure=>have:=HGK.out;omega
   case rel=>exact⟨j+1,rfl,by go_num,by omega,by rw [HST.out];go_num,hb2⟩
  ·obtain rfl:j=l.length:=by omega
   have hcc:decide (l.length<l.length)=false:=by simp
   rw [List.take_length,HR.out];go_wp2_with fail;go_ret;exact⟨rfl,hbl⟩
theorem je (A:Option Addr) (c:Nat) (l:List BlobP) (rm more:Nat) (w:World) (hl:l.length≤1000000) (hu:usd l≤1000000000) (hrm:rm≤4000) (hmo:more≤4000) (hA:Rw BlobS w A l) :
  Calls Tryz.prog 60 #[.slice A l.length c,.int .i64 rm,.int .i64 more] w fun e w'=>e= .returned (.tuple #[.int .i64 ((usd l+more - rm:Nat):Int),.int .i64 0])∧Below w.heap.size w w':=by
 have HU:=sqH (Zf A c l w hl hu hA);have g1:decide ((rm:Int)<0)=false:=decide_eq_false (by omega);have g2:decide ((rm:Int)>4000)=false:=decide_eq_false (by omega);have g3:decide ((4000:Int)<(rm:Int))=false:=decide_eq_false (by omega);have g4:decide ((more:Int)<0)=false:=decide_eq_false (by omega);have g5:decide ((more:Int)>4000)=false:=decide_eq_false (by omega);have g6:decide ((4000:Int)<(more:Int))=false:=decide_eq_false (by omega);clear hA;generalize hR:usd l=R at *
 have hmx:max (0:Int) ((R:Int)+(more:Int) - (rm:Int))=((R+more - rm:Nat):Int):=by omega
 have HMX:=sqH hmx;clear hR hmx;go_enter Tryz.func60,Tryz.ntmps60;go_wp2_with fail;refine HU.out.mono ?_;rintro e_ w1 ⟨rfl,hb1⟩;dsimp only;go_wp2_with fail;go_ret2;rw [←HMX.out];exact⟨rfl,hb1⟩
theorem vM (A:Option Addr) (c:Nat) (l:List BlobP) (rm more:Nat) (w:World) (hl:l.length≤1000000) (hu:usd l≤1000000000) (hrm:rm≤4000) (hmo:more≤4000) (hA:Rw BlobS w A l) :
  Calls Tryz.prog 28 #[.slice A l.length c,.int .i64 rm,.int .i64 more] w fun e w'=>e= .returned (.int .i64 (if usd l+more≤rm then 0 else 7))∧Below w.heap.size w w':=by
 have HU:=sqH (je A c l rm more w hl hu hrm hmo hA);clear hA;generalize hR:usd l=R at *
 by_cases h:R+more≤rm
 ·have HI:=sqH (show(if R+more≤rm then (0:Int) else 7)=0 from if_pos h);have hz:R+more - rm=0:=by omega
  rw [hz]at HU;clear hR hz h;go_enter Tryz.func28,Tryz.ntmps28;go_wp2_with fail;refine HU.out.mono ?_;rintro e_ w1 ⟨rfl,hb1⟩;dsimp only
  repeat' (fail_if_success (first|at_builtin|at_make));first|go_values|go_skip|go_guarded|go_step|go_upon|go_back
  go_ret;rw [HI.out];exact⟨rfl,hb1⟩
 ·have HI:=sqH (show(if R+more≤rm then (0:Int) else 7)=7 from if_neg h);obtain⟨z,hz⟩:∃z,z=R+more - rm:=⟨_,rfl⟩
  have hz0:0<z:=by omega
  have g1:decide ((z:Int)>0)=true:=decide_eq_true (by omega);have g2:decide ((0:Int)<(z:Int))=true:=decide_eq_true (by omega);have g3:decide (0<z)=true:=decide_eq_true hz0;rw [←hz]at HU;clear hR hz h;go_enter Tryz.func28,Tryz.ntmps28;go_wp2_with fail;refine HU.out.mono ?_;rintro e_ w1 ⟨rfl,hb1⟩;dsimp only
  repeat' (fail_if_success (first|at_builtin|at_make));first|go_values|go_skip|go_guarded|go_step|go_upon|go_back
  go_ret;rw [HI.out];exact⟨rfl,hb1⟩
theorem yj (A:Option Addr) (c:Nat) (l:List BlobP) (r:RawP) (w:World) (hl:l.length≤1000000) (hc:l.length≤c) (hm:c≤maxLen) (hd:∀b∈l,b.data.length≤1000000) (hA:Rw BlobS w A l) (hr:RawOk r) :
  Calls Tryz.prog 10 #[.slice A l.length c,.agg #[.int .i64 r.kind,.int .i64 r.a,.int .i64 r.b,.string r.text]] w fun e w'=>∃v,e= .returned v∧w'.ownsRow w.heap.size 37 3 v (zg l r).length (pcs (zg l r))∧Below w.heap.size w w':=by
 have HR:=sqH hr;have HD:=sqH hd;have HC:=sqH (And.intro hc hm);have HPA:=sqH (fun w'=>zG r.a 4 4 rfl w' hr.a0 hr.a1 (by omega) (by omega));have hp4:=qM r.a (m:=4) (by omega);generalize hPT:zg l r=PT;have HPT:=sqH (show PT=if l.length=0 then [] else (List.range (pk r.a 4)).map (k5 l r) from hPT.symm);obtain⟨m,hmm⟩:∃m,m=pk r.a 4:=⟨_,rfl⟩
 rw [←hmm]at hp4 HPA HPT;obtain⟨rk,ra,rb,rt⟩:=r;have hX:=Arr.new w 24 [.int .i64 rk,.int .i64 ra,.int .i64 rb,.string rt];have hb1:=(Below.refl w.heap.size w).alloc (Nat.le_refl _) (.cells #[.int .i64 rk,.int .i64 ra,.int .i64 rb,.string rt] 24);have hX':Arr (w.alloc (.cells #[.int .i64 rk,.int .i64 ra,.int .i64 rb,.string rt] 24)) w.heap.size 24 [.int .i64 rk,.int .i64 ra,.int .i64 rb,.string rt]:=hX;have x1:=hX'.cell (k:=1) rfl;clear hX hd hr hc hm hmm hPT;go_enter Tryz.func10,Tryz.ntmps10;go_wp2_with fail;have hs1:(w.alloc (.cells #[.int .i64 rk,.int .i64 ra,.int .i64 rb,.string rt] 24)).heap.size=w.heap.size+1:=World.size_alloc _ _;generalize w.alloc (.cells #[.int .i64 rk,.int .i64 ra,.int .i64 rb,.string rt] 24)=w1 at *
 have HS1:=sqH hs1;clear x1 hs1;refine(HPA.out _).mono ?_;rintro e_ w2 ⟨rfl,hw2⟩;dsimp only;subst hw2;go_wp2_with fail;rcases Nat.eq_zero_or_pos l.length with h0 | h0
 ·have HZ:=sqH (show PT= [] by rw [HPT.out,if_pos h0]);have h0b:decide (((l.length:Nat):Int)>0)=false:=decide_eq_false (by omega);have h0c:decide ((0:Int)<((l.length:Nat):Int))=false:=decide_eq_false (by omega);have h0d:decide (0<l.length)=false:=decide_eq_false (by omega);go_loopg [5,11] m (fun gn v i wr=>∃k:Nat,gn=m - k∧i= .int .i64 k∧k≤m∧v= .slice none 0 0∧wr=w1)
  case atStart=>exact⟨0,rfl,rfl,by omega,rfl,rfl⟩
  case round =>
   obtain⟨k,hgk,rfl,hk,rfl,rfl⟩:=hrel;have HGK:=sqH hgk;clear hgk;by_cases hlt:k<m
   ·have hcc:decide (k<m)=true:=decide_eq_true hlt;go_wp2_with fail;go_roundg (m - (k+1))
    case measure=>have:=HGK.out;omega
    case rel=>exact⟨k+1,rfl,by go_num,by omega,rfl,rfl⟩
   ·obtain rfl:k=m:=by omega
    have hcc:decide (k<k)=false:=by simp
    go_wp2_with fail;go_ret;rw [HZ.out];exact⟨_,rfl,World.ownsRow_nil _ _ _ _,hb1⟩
 ·have HZ:=sqH (show PT=(List.range m).map (k5 l ⟨rk,ra,rb,rt⟩) by rw [HPT.out,if_neg (by omega)]);have HX:=sqH hX';have HA:=sqH hA;clear hX' hA HPT;go_loopg [5,11] m (fun gn v i wr=>∃k:Nat,gn=m - k∧i= .int .i64 k∧k≤m∧wr.ownsRow w1.heap.size 37 3 v k (pcs ((List.range k).map (k5 l ⟨rk,ra,rb,rt⟩)))∧Below w1.heap.size w1 wr)
  case atStart=>exact⟨0,rfl,rfl,by omega,World.ownsRow_nil _ _ _ _,Below.refl _ _⟩
  case round =>
   obtain⟨k,hgk,rfl,hk,hown,hbel⟩:=hrel;have HGK:=sqH hgk;clear hgk;by_cases hlt:k<m
   ·have hcc:decide (k<m)=true:=decide_eq_true hlt;have h0b:decide (((l.length:Nat):Int)>0)=true:=decide_eq_true (by omega);have h0c:decide ((0:Int)<((l.length:Nat):Int))=true:=decide_eq_true (by omega);have h0d:decide (0<l.length)=true:=decide_eq_true h0;have x2:=(HX.out.below hbel).cell (k:=2) rfl;have hw7:IntKind.i64.wrap (7*(k:Int))=7*(k:Int):=IntWalk.i64_in _ (by omega);have hwi:∀z, -9223372036854775808≤IntKind.i64.wrap z∧IntKind.i64.wrap z≤9223372036854775807:=fun z=>by rw [IntKind.wrap_i64];omega
    have hP:=zG (IntKind.i64.wrap (rb+7*(k:Int))) l.length l.length rfl wr (hwi _).1 (hwi _).2 h0 (by omega);rw [IntWalk.i64_left]at hP;have HP:=sqH hP;have hpl:=qM (IntKind.i64.wrap (rb+7*(k:Int))) (m:=l.length) h0;clear hP;obtain⟨q,hq⟩:∃q,q=pk (IntKind.i64.wrap (rb+7*(k:Int))) l.length:=⟨_,rfl⟩
    rw [←hq]at hpl;rw [←IntWalk.i64_left,←hq]at HP;rw [IntWalk.i64_left]at HP;have hprt:k5 l ⟨rk,ra,rb,rt⟩ k=⟨[112,UInt8.ofNat (97+k)],l[q].dig,l[q].data.length⟩:=by
     simp only [k5,←hq,List.getElem?_eq_getElem hpl,Option.getD_some]
    have HPR:=sqH hprt;have hrng:(List.range (k+1)).map (k5 l ⟨rk,ra,rb,rt⟩)=(List.range k).map (k5 l ⟨rk,ra,rb,rt⟩)++ [k5 l ⟨rk,ra,rb,rt⟩ k]:=by rw [List.range_succ,List.map_append];rfl
    have HRN:=sqH hrng;have hdl:=HD.out _ (List.getElem_mem hpl);obtain⟨b,off,B,cb,rfl,hbb,c0,c1,c2,c3,_⟩:=(HA.out.below (hb1.trans (hbel.mono hb1.size))).blob_at q hpl;generalize l[q]=bl at *
    obtain⟨dg,dt,pn,mk⟩:=bl;dsimp only at c0 c1 c2 c3 hdl;generalize hs:(⟨dg.toArray⟩:ByteArray)=s at *
    have HS:=sqH hs;have i0:(0:Int)≤(q:Int):=by omega
    have i1:(q:Int)<(l.length:Int):=by omega
    have hcv:=fun (w':World) (g:Nat) (h:w'.cell? ⟨g,0,none⟩=some (.int .u8 (97+(k:Int))))=>jr (97+(k:Int)) w' g h (by omega) (by omega);have hw1:IntKind.i64.wrap (97+(k:Int))=97+(k:Int):=IntWalk.i64_in _ (by omega);have hw2:IntKind.u8.wrap (97+(k:Int))=97+(k:Int):=by rw [IntKind.wrap_u8];omega
    clear hprt hrng hq hs;go_wp2_with fail;refine HP.out.mono ?_;rintro e_ w3 ⟨rfl,hw3⟩;dsimp only;subst hw3
    repeat' (fail_if_success (first|at_builtin|at_make));first|go_values|go_skip|go_guarded|go_step|go_upon|go_back
    have hnm:(({ data:=#[112] }:ByteArray)++({ data:=#[97+UInt8.ofNat k] }:ByteArray))=⟨#[112,UInt8.ofNat (97+k)]⟩:=by rw [UInt8.ofNat_add];rfl
    rw [hnm];have hbb1:=(Below.refl wr.heap.size wr).alloc (Nat.le_refl _) (.cells #[.string s,.slice B dt.length cb,.int .i64 pn,.bool mk] 32);have hbb2:=hbb1.alloc hbb1.size (.cells #[.int .u8 (97+(k:Int))] 5);have hown2:=zb hown hbb2;have hs4:((wr.alloc (.cells #[.string s,.slice B dt.length cb,.int .i64 pn,.bool mk] 32)).alloc (.cells #[.int .u8 (97+(k:Int))] 5)).heap.size=wr.heap.size+1+1:=by rw [World.size_alloc,World.size_alloc]
    generalize (wr.alloc (.cells #[.string s,.slice B dt.length cb,.int .i64 pn,.bool mk] 32)).alloc (.cells #[.int .u8 (97+(k:Int))] 5)=w4 at *
    have hbel4:=hbel.trans (hbb2.mono hbel.size);rw [←hs4];refine zh rfl (.tmp 28) (.tmp 41) rfl jU (by rfl) hown2 (us:= [.string ⟨#[112,UInt8.ofNat (97+k)]⟩,.string s,.int .i64 dt.length]) (m:=1) (by rfl) rfl (by intro u hu;simp only [List.mem_cons,List.not_mem_nil,or_false]at hu;rcases hu with rfl | rfl | rfl<;>rfl) (by omega) hbel4.size ?_;intro v7 w7 ho7 hg7 _;have hb7:=zc hbel4 hown2 (Nat.le_refl _) hg7;have ho8:w7.ownsRow w1.heap.size 37 3 v7 (k+1) (pcs ((List.range (k+1)).map (k5 l ⟨rk,ra,rb,rt⟩))):=by
     rw [HRN.out,HPR.out,Zq];have e1:pcs [⟨[112,UInt8.ofNat (97+k)],dg,dt.length⟩]= [.string ⟨#[112,UInt8.ofNat (97+k)]⟩,.string s,.int .i64 dt.length]:=by rw [←HS.out];rfl
     rw [e1];exact ho7
    clear hown hown2 ho7 hg7 hbb1 hbb2;go_wp2_with fail;go_roundg (m - (k+1))
    case measure=>have:=HGK.out;omega
    case rel=>exact⟨k+1,rfl,by go_num,by omega,ho8,hb7⟩
   ·obtain rfl:k=m:=by omega
    have hcc:decide (k<k)=false:=by simp
    go_wp2_with fail;go_ret;rw [HZ.out];refine⟨_,rfl,?_,hb1.trans (hbel.mono hb1.size)⟩;rw [List.length_map,List.length_range];exact zu hown hb1.size
def put4 (w:World) (g o:Nat) (u0 u1 u2 u3:Value):World:=(((w.setCell ⟨g,o,none⟩ u0).setCell ⟨g,o+1,none⟩ u1).setCell ⟨g,o+2,none⟩ u2).setCell ⟨g,o+3,none⟩ u3
theorem Ql {X Y:List Value} {a0 a1 a2 a3 u0 u1 u2 u3:Value} {o:Nat} (ho:X.length=o) :
  ((((X++ [a0,a1,a2,a3]++Y).set o u0).set (o+1) u1).set (o+2) u2).set (o+3) u3=X++ [u0,u1,u2,u3]++Y:=by
 subst ho;simp only [List.append_assoc];rw [List.set_append_right _ _ (Nat.le_refl _),List.set_append_right _ _ (by omega),List.set_append_right _ _ (by omega),List.set_append_right _ _ (by omega)];simp
theorem yu {w:World} {base g n cap o:Nat} {e:TypeId} {s:Nat} {X Y:List Value} {a0 a1 a2 a3:Value} (h:w.ownsRow base e s (.slice (some ⟨g,0,none⟩) n cap) n (X++ [a0,a1,a2,a3]++Y)) (ho:X.length=o) (u0 u1 u2 u3:Value) :
  (put4 w g o u0 u1 u2 u3).ownsRow base e s (.slice (some ⟨g,0,none⟩) n cap) n (X++ [u0,u1,u2,u3]++Y)∧w.grownBy (put4 w g o u0 u1 u2 u3) (some g):=by
 have hl:(X++ [a0,a1,a2,a3]++Y).length=o+4+Y.length:=by simp [ho];omega
 obtain⟨k1,g1,_,_⟩:=kz h (k:=o) (by omega) u0;obtain⟨k2,g2,_,_⟩:=kz k1 (k:=o+1) (by rw [List.length_set];omega) u1;obtain⟨k3,g3,_,_⟩:=kz k2 (k:=o+2) (by rw [List.length_set,List.length_set];omega) u2;obtain⟨k4,g4,_,_⟩:=kz k3 (k:=o+3) (by rw [List.length_set,List.length_set,List.length_set];omega) u3;rw [Ql ho]at k4;refine⟨k4,?_⟩;have t:∀ {a b c:World},a.grownBy b (some g)→b.grownBy c (some g)→a.grownBy c (some g):=fun {a b c} h k =>
  ⟨k.os.trans h.os,k.tape.trans h.tape,k.output.trans h.output,Nat.le_trans h.size k.size,fun i hi hne=>(k.block i (Nat.lt_of_lt_of_le hi h.size) hne).trans (h.block i hi hne)⟩
 exact t (t (t g1 g2) g3) g4
section
variable {α:Type} {S:Shp α} {w:World} {e:TypeId} {base g cap:Nat}
theorem um (P Q:Cel α) (p q:α×List Value):cls (P++p::q::Q)=cls P++p.2++(q.2++cls Q):=by
 rw [qu,zp,zp,List.append_assoc]
theorem RwO.swap {P Q:List α} {a x:α} (h:RwO S e w base (.slice (some ⟨g,0,none⟩) (P++a::x::Q).length cap) (P++a::x::Q)) (h4:S.size=4) :
  ∃ca cx,S.R w a ca∧S.R w x cx∧(∀i u,ca[i]?=some u→w.cell? ⟨g,P.length*4+i,none⟩=some u)∧(∀i u,cx[i]?=some u→w.cell? ⟨g,(P.length+1)*4+i,none⟩=some u)∧(∀k,w.frozen? ⟨g,k,none⟩=false) ∧
   ∀a0 a1 a2 a3 x0 x1 x2 x3,ca= [a0,a1,a2,a3]→cx= [x0,x1,x2,x3] →
    let W:=put4 (put4 w g ((P.length+1)*4) a0 a1 a2 a3) g (P.length*4) x0 x1 x2 x3
    RwO S e W base (.slice (some ⟨g,0,none⟩) (P++x::a::Q).length cap) (P++x::a::Q)∧w.grownBy W (some g):=by
 obtain⟨ps,h1,h2,h3,h5⟩:=h;obtain⟨P',R',rfl,hP,hR⟩:=List.map_eq_append_iff.1 h1;obtain⟨pa,R2,rfl,ha,hR2⟩:=List.map_eq_cons_iff.1 hR;obtain⟨px,Q',rfl,hx,hQ⟩:=List.map_eq_cons_iff.1 hR2;have hPl:P'.length=P.length:=by rw [←hP,List.length_map]
 have hRa:S.R w a pa.2:=by rw [←ha];exact h2 pa (by simp)
 have hRx:S.R w x px.2:=by rw [←hx];exact h2 px (by simp)
 have hla:=S.len hRa;have hlx:=S.len hRx;have hcl:=qY P' (fun p hp=>h2.lens p (by simp [hp]));rw [h4]at hla hlx hcl h3;rw [hPl]at hcl;have hlen:(P++a::x::Q).length=P.length+Q.length+2:=by simp;omega
 have hown:=h3;have hfz:∀k,w.frozen? ⟨g,k,none⟩=false:=fun k=>by
  rcases h3.2 with ⟨e1,_⟩ | ⟨g',cap',cur,e1,hb,hg,_⟩
  ·cases e1
  ·injection e1 with e1 _ e3;injection e1 with e1;injection e1 with e1;subst e1;have hA:Arr w g e cur.toList:=by simpa [Arr] using hg
   exact hA.frozen k
 have hrd:=Rd.of_own h3;obtain⟨b0,off0,e0,hb0,hcell⟩:=hrd.2 (by omega);injection e0 with e0;injection e0 with e1 e2;subst e1 e2;rw [um]at hcell h3;refine⟨pa.2,px.2,hRa,hRx,fun i u hu=> ?_,fun i u hu=> ?_,hfz,fun a0 a1 a2 a3 x0 x1 x2 x3 ea ex=> ?_⟩
 ·have hi:=(List.getElem?_eq_some_iff.1 hu).1;have:=hcell (P.length*4+i) u (by
   rw [List.append_assoc,List.getElem?_append_right (by omega),hcl,show P.length*4+i - P.length*4=i by omega,List.getElem?_append_left hi];exact hu)
  rwa [Nat.zero_add]at this
 ·have hi:=(List.getElem?_eq_some_iff.1 hu).1;have:=hcell ((P.length+1)*4+i) u (by
   rw [List.getElem?_append_right (by rw [List.length_append];omega),List.length_append,hcl,hla,show(P.length+1)*4+i - (P.length*4+4)=i by omega,List.getElem?_append_left hi];exact hu)
  rwa [Nat.zero_add]at this
 ·rw [ea,ex]at h3;have h6:w.ownsRow base e 4 (.slice (some ⟨g,0,none⟩) (P++a::x::Q).length cap) (P++a::x::Q).length ((cls P'++ [a0,a1,a2,a3])++ [x0,x1,x2,x3]++cls Q'):=by
   simpa [List.append_assoc] using h3
  obtain⟨k1,g1⟩:=yu h6 (o:=(P.length+1)*4) (by rw [List.length_append,hcl];simp;omega) a0 a1 a2 a3;have h7:(put4 w g ((P.length+1)*4) a0 a1 a2 a3).ownsRow base e 4 (.slice (some ⟨g,0,none⟩) (P++a::x::Q).length cap) (P++a::x::Q).length (cls P'++ [a0,a1,a2,a3]++([a0,a1,a2,a3]++cls Q')):=by
   simpa [List.append_assoc] using k1
  obtain⟨k2,g2⟩:=yu h7 (o:=P.length*4) hcl x0 x1 x2 x3;have hg:w.grownBy (put4 (put4 w g ((P.length+1)*4) a0 a1 a2 a3) g (P.length*4) x0 x1 x2 x3) (some g) :=
   ⟨g2.os.trans g1.os,g2.tape.trans g1.tape,g2.output.trans g1.output,Nat.le_trans g1.size g2.size,fun i hi hne=>(g2.block i (Nat.lt_of_lt_of_le hi g1.size) hne).trans (g1.block i hi hne)⟩
  have hmem:∀p,p∈P'++px::pa::Q'→p∈P'++pa::px::Q':=fun p hp=>by
   simp only [List.mem_append,List.mem_cons]at hp ⊢
   rcases hp with h | h | h | h
   ·exact .inl h
   ·exact .inr (.inr (.inl h))
   ·exact .inr (.inl h)
   ·exact .inr (.inr (.inr h))
  have hl2:(P++x::a::Q).length=(P++a::x::Q).length:=by simp
  refine⟨⟨P'++px::pa::Q',by simp [hP,ha,hx,hQ],?_,?_,fun p hp=>h5 p (hmem p hp)⟩,hg⟩
  ·exact zK.grown (w:=w) (g:=some g) (fun p hp=>h2 p (hmem p hp)) hg (fun p hp b hb=>h5 p (hmem p hp) b hb)
  ·rw [um,ea,ex,hl2,h4];simpa [List.append_assoc] using k2
end
section
variable {α:Type} {f:α→List UInt8}
structure Ins (f:α→List UInt8) (A:List α) (x:α) (B:List α):Prop where
 ris:RisesBy f (A++B)
 less:∀b∈B,Op.bytesLess (f x) (f b)=true
theorem Ins.start {A:List α} (h:RisesBy f A) (x:α):Ins f A x []:=⟨by simpa using h,by simp⟩
theorem Ins.down {A B:List α} {a x:α} (h:Ins f (A++ [a]) x B) (hl:Op.bytesLess (f x) (f a)=true):Ins f A x (a::B) :=
 ⟨by simpa using h.ris,fun b hb=>by
  rcases List.mem_cons.1 hb with rfl | hb
  ·exact hl
  ·exact h.less b hb⟩
theorem Ins.done0 {B:List α} {x:α} (h:Ins f [] x B):RisesBy f (x::B):=List.pairwise_cons.2 ⟨h.less,by have:=h.ris;rwa [List.nil_append]at this⟩
theorem Ins.done {A B:List α} {a x:α} (h:Ins f (A++ [a]) x B) (hl:Op.bytesLess (f a) (f x)=true):RisesBy f (A++ [a]++x::B):=by
 obtain⟨h1,h2,h3⟩:=List.pairwise_append.1 h.ris;refine List.pairwise_append.2 ⟨h1,List.pairwise_cons.2 ⟨h.less,h2⟩,fun y hy z hz=> ?_⟩;rcases List.mem_cons.1 hz with rfl | hz
 ·rcases List.mem_append.1 hy with hy | hy
  ·exact zy ((List.pairwise_append.1 h1).2.2 y hy a (by simp)) hl
  ·have:=List.mem_singleton.1 hy;subst this;exact hl
 ·exact h3 y hy z hz
theorem uY {l m:List α} (h:RisesBy f m) (hp:m.Perm l):m=srt f l:=by
 refine RisesBy.perm h (qQ ?_) (hp.trans (zm f l).symm);exact(hp.map f).nodup_iff.1 h.map.nodup
end
def RwX {α:Type} (S:Shp α) (e:TypeId) (w:World) (base:Nat) (v:Value) (l:List α) (N:Nat→Prop):Prop :=
 ∃ps:Cel α,ps.map (·.1)=l∧zK S w ps∧w.ownsRow base e S.size v l.length (cls ps)∧∀p∈ps,∀b,(v.ownBlock=some b∨N b)→¬leads b p.2
section
variable {α:Type} {S:Shp α} {w w':World} {e:TypeId} {base base':Nat} {v v':Value} {l:List α} {N N':Nat→Prop}
theorem RwX.rwo (h:RwX S e w base v l N):RwO S e w base v l:=by
 obtain⟨ps,h1,h2,h3,h4⟩:=h;exact⟨ps,h1,h2,h3,fun p hp b hb=>h4 p hp b (.inl hb)⟩
theorem RwX.below (h:RwX S e w base v l N) (hb:Below w.heap.size w w'):RwX S e w' base v l N:=by
 obtain⟨ps,h1,h2,h3,h4⟩:=h;exact⟨ps,h1,h2.below hb,zb h3 hb,h4⟩
theorem RwX.nil_ (h:w.ownsRow base e S.size v 0 []):RwX S e w base v [] N:=⟨[],rfl,(fun p hp=>nomatch hp),h,(fun p hp=>nomatch hp)⟩
theorem RwX.other {g:Option Nat} (h:RwX S e w base v l N) (hg:w.grownBy w' g) (hv:∀b,g=some b→v.ownBlock≠some b) (hN:∀b,g=some b→N b):RwX S e w' base v l N:=by
 obtain⟨ps,h1,h2,h3,h4⟩:=h;refine⟨ps,h1,h2.grown hg (fun p hp b hb=>h4 p hp b (.inr (hN b hb))),h3.kept hg ?_,h4⟩;cases hb:v.ownBlock with
 | none=>exact .inl rfl
 | some b=>exact .inr (fun e1=>hv b e1.symm hb)
theorem RwX.wider (h:RwX S e w base v l N) (hN:∀b,N' b→N b∨w.heap.size≤b):RwX S e w base v l N':=by
 obtain⟨ps,h1,h2,h3,h4⟩:=h;refine⟨ps,h1,h2,h3,fun p hp b hb hl=> ?_⟩;rcases hb with hb | hb
 ·exact h4 p hp b (.inl hb) hl
 ·rcases hN b hb with h5 | h5
  ·exact h4 p hp b (.inr h5) hl
  ·have:=S.live (h2 p hp) b hl;omega
theorem RwX.open_ (h:RwX S e w base v l N):∃xs,w.ownsRow base e S.size v l.length xs ∧
  ∀(x:α) (cs:List Value) (w1 w2:World) (v2:Value),Below w.heap.size w w1→S.R w1 x cs→(∀b,(v.ownBlock=some b∨N b)→¬leads b cs)→w2.ownsRow base e S.size v2 (l.length+1) (xs++cs)→w1.grownBy w2 v.ownBlock→(v2.ownBlock=v.ownBlock∨∃g,v2.ownBlock=some g∧w1.heap.size≤g) →
   RwX S e w2 base v2 (l++ [x]) N:=by
 obtain⟨ps,h1,h2,h3,h4⟩:=h;refine⟨_,h3,fun x cs w1 w2 v2 hb hx hxl ho hg hv=> ?_⟩;have h2':=h2.below hb;have hall:∀p∈ps++ [(x,cs)],S.R w1 p.1 p.2∧∀b,(v.ownBlock=some b∨N b)→¬leads b p.2:=fun p hp=>by
  rcases List.mem_append.1 hp with h | h
  ·exact⟨h2' p h,h4 p h⟩
  ·have:=List.mem_singleton.1 h;subst this;exact⟨hx,hxl⟩
 refine⟨ps++ [(x,cs)],by simp [h1],?_,?_,fun p hp b hb hl=> ?_⟩
 ·exact zK.grown (w:=w1) (g:=v.ownBlock) (fun p hp=>(hall p hp).1) hg (fun p hp b hb=>(hall p hp).2 b (.inl hb))
 ·rw [qu,List.length_append];simpa [cls] using ho
 ·rcases hb with hb | hb
  ·rcases hv with e1 | ⟨g,e1,hge⟩
   ·exact(hall p hp).2 b (.inl (by rw [←e1];exact hb)) hl
   ·rw [e1]at hb;cases hb
    have:=S.live (hall p hp).1 _ hl;omega
  ·exact(hall p hp).2 b (.inr hb) hl
end
def Shp.off {α:Type} (S:Shp α) (N:Nat→Prop):Shp α where
 size:=S.size
 R w x cs:=S.R w x cs∧∀b,N b→¬leads b cs
 len h:=S.len h.1
 one h:=S.one h.1
 live h:=S.live h.1
 keep h hs hk:=⟨S.keep h.1 hs hk,h.2⟩
theorem RwX.off {α:Type} {S:Shp α} {w:World} {e:TypeId} {base:Nat} {v:Value} {l:List α} {N:Nat→Prop} (h:RwX S e w base v l N):RwO (S.off N) e w base v l:=by
 obtain⟨ps,h1,h2,h3,h4⟩:=h;exact⟨ps,h1,fun p hp=>⟨h2 p hp,fun b hb=>h4 p hp b (.inr hb)⟩,h3,fun p hp b hb=>h4 p hp b (.inl hb)⟩
theorem RwO.on {α:Type} {S:Shp α} {w:World} {e:TypeId} {base:Nat} {v:Value} {l:List α} {N:Nat→Prop} (h:RwO (S.off N) e w base v l):RwX S e w base v l N:=by
 obtain⟨ps,h1,h2,h3,h4⟩:=h;exact⟨ps,h1,fun p hp=>(h2 p hp).1,h3,fun p hp b hb=>hb.elim (h4 p hp b) ((h2 p hp).2 b)⟩
theorem q8 {w:World} {base size n g:Nat} {e e':TypeId} {v:Value} {xs ys:List Value} (h:w.ownsRow base e size v n xs) (hA:Arr w g e' ys) (hne:e≠e'):v.ownBlock≠some g:=fun hg=>by
 rcases h.2 with ⟨rfl,_⟩ | ⟨g',cap,cur,rfl,_,h2,_⟩
 ·cases hg
 ·cases hg
  have h3:=Eq.trans (Eq.symm h2) hA
  simp only [Option.some.injEq,Obj.cells.injEq]at h3
  exact hne h3.2.1
theorem jP {w:World} {g g':Nat} {e e':TypeId} {xs ys:List Value} (h:Arr w g e xs) (h':Arr w g' e' ys) (hne:e≠e'):g≠g':=fun hg=>by
 subst hg
 have h3:=(h:w.heap[g]?=_).symm.trans h'
 simp only [Option.some.injEq,Obj.cells.injEq]at h3
 exact hne h3.2.1
theorem yi {w:World} {base n:Nat} {size:Nat} {e:TypeId} {v:Value} {xs:List Value} (h:w.ownsRow base e size v n xs):∃A c,v= .slice A n c∧Sl w size A n c xs∧∀a,A=some a→base≤a.block:=Sl.of_own h
def Q3:AccP:=⟨[], [],0,0⟩
def kI (l:List RawP) (k:Nat):AccP:=(l.take k).foldl zO Q3
theorem uc (l:List RawP) (k:Nat) (hk:k<l.length):kI l (k+1)=zO (kI l k) l[k]:=by
 unfold kI;rw [List.take_succ_eq_append_getElem hk,List.foldl_append];rfl
theorem xj (l:List RawP) (k:Nat):AccOk k (kI l k):=xM l k
structure StW (w:World) (H:Nat) (vb ve:Value) (s:AccP):Prop where
 box:Arr w (H+1) 28 [vb,ve,.int .i64 0,.int .i64 s.clock]
 res:Arr w H 28 [.slice none 0 0,.slice none 0 0,.int .i64 0,.int .i64 0]
 b:RwX BlobS 32 w (H+2) vb s.blobs (fun g=>(g=H∨g=H+1)∨ve.ownBlock=some g)
 e:RwX EntS 35 w (H+2) ve s.ents (fun g=>(g=H∨g=H+1)∨vb.ownBlock=some g)
 ne:∀g,vb.ownBlock=some g→ve.ownBlock≠some g
theorem StW.below {w w':World} {H:Nat} {vb ve:Value} {s:AccP} (h:StW w H vb ve s) (hb:Below w.heap.size w w'):StW w' H vb ve s :=
 ⟨h.box.below hb,h.res.below hb,h.b.below hb,h.e.below hb,h.ne⟩
theorem kv:El Tryz.prog 25 32 4 56:=El.mk' (z:= .agg #[.string ByteArray.empty,.slice none 0 0,.int .i64 0,.bool false]) Tryz.underlying25 (by kernel_rfl) rfl (by omega) (by omega)
theorem yR:El Tryz.prog 26 35 4 56:=El.mk' (z:= .agg #[.string ByteArray.empty,.slice none 0 0,.int .i64 0,.int .i64 0]) Tryz.underlying26 (by kernel_rfl) rfl (by omega) (by omega)
theorem zH (w:World) (g k:Nat) (u:Value):w.grownBy (w.setCell ⟨g,k,none⟩ u) (some g):=⟨rfl,rfl,rfl,by simp [World.setCell],fun j _ hj=>Below.heap_setCell w _ u j (fun e=>hj (by rw [e]))⟩
theorem Arr.grown {w w':World} {g:Nat} {e:TypeId} {xs:List Value} {r:Option Nat} (h:Arr w g e xs) (hg:w.grownBy w' r) (hne:r≠some g):Arr w' g e xs:=(hg.block g h.lt (fun e=>hne e.symm)).trans h
theorem yn (x:BlobP) (B:Option Addr) (c:Nat):∀u∈zi x B c,u.oneCell'=true:=by
 intro u hu;simp only [zi,List.mem_cons,List.not_mem_nil,or_false]at hu;rcases hu with rfl | rfl | rfl | rfl<;>rfl
theorem yQ (x:EntP) (B:Option Addr) (c:Nat):∀u∈zw x B c,u.oneCell'=true:=by
 intro u hu;simp only [zw,List.mem_cons,List.not_mem_nil,or_false]at hu;rcases hu with rfl | rfl | rfl | rfl<;>rfl
theorem yN {x:BlobP} {B:Option Addr} {c b:Nat} (h:leads b (zi x B c)):∃a,B=some a∧a.block=b:=by
 obtain⟨a,n,c',hm,rfl⟩:=h;simp only [zi,List.mem_cons,List.not_mem_nil,or_false,Value.slice.injEq,reduceCtorEq,false_or]at hm;exact⟨a,hm.1.symm,rfl⟩
theorem xS {x:EntP} {B:Option Addr} {c b:Nat} (h:leads b (zw x B c)):∃a,B=some a∧a.block=b:=by
 obtain⟨a,n,c',hm,rfl⟩:=h;simp only [zw,List.mem_cons,List.not_mem_nil,or_false,Value.slice.injEq,reduceCtorEq,false_or]at hm;exact⟨a,hm.1.symm,rfl⟩
theorem Qk {w:World} {g c j:Nat} {cur:Array Value} {e:TypeId} {fz:Nat×Nat} (h:w.heap[g]?=some (.cells cur e fz)) (hf:fz.2≤fz.1∨c≤fz.1) (hj:j<c):w.frozen? ⟨g,j,none⟩=false:=by
 obtain⟨lo,hi⟩:=fz;simp only [World.frozen?,h,Bool.and_eq_false_iff,decide_eq_false_iff_not];simp only at hf;omega
theorem zV.sl {w:World} {base c:Nat} {A:Option Addr} {l:List UInt8} (h:zV w base A c l):Sl w 1 A l.length c (bys l)∧∀a,A=some a→base≤a.block:=by
 have h1:=h.rd;have h2:=h.cap;obtain⟨g,rest,fz,rfl,hb,hg,hl,hm,hf⟩:=h;exact⟨⟨h1,h2.1,h2.2,fun a ha=>(by cases ha;exact(Array.getElem?_eq_some_iff.1 hg).1),fun g' o e j hj=>(by cases e;exact Qk hg hf (by omega))⟩,fun a ha=>by cases ha;exact hb⟩
section
variable {w:World} {H:Nat} {vb ve:Value} {s:AccP}
theorem StW.lt (h:StW w H vb ve s):H+1<w.heap.size:=h.box.lt
theorem StW.bB (h:StW w H vb ve s):∀g,vb.ownBlock=some g→H+2≤g∧g<w.heap.size:=fun g e=>h.b.rwo.blk e
theorem StW.bE (h:StW w H vb ve s):∀g,ve.ownBlock=some g→H+2≤g∧g<w.heap.size:=fun g e=>h.e.rwo.blk e
theorem StW.rows (h:StW w H vb ve s) (k:Nat) (u:Value) :
  RwX BlobS 32 (w.setCell ⟨H+1,k,none⟩ u) (H+2) vb s.blobs (fun g=>(g=H∨g=H+1)∨ve.ownBlock=some g)∧RwX EntS 35 (w.setCell ⟨H+1,k,none⟩ u) (H+2) ve s.ents (fun g=>(g=H∨g=H+1)∨vb.ownBlock=some g)∧Arr (w.setCell ⟨H+1,k,none⟩ u) H 28 [.slice none 0 0,.slice none 0 0,.int .i64 0,.int .i64 0] :=
 ⟨h.b.other (zH w _ k u) (fun b e1 e2=>by cases e1;have:=h.bB _ e2;omega) (fun b e=>by cases e;exact .inl (.inr rfl)),
  h.e.other (zH w _ k u) (fun b e1 e2=>by cases e1;have:=h.bE _ e2;omega) (fun b e=>by cases e;exact .inl (.inr rfl)),
  h.res.other (by omega) u⟩
theorem StW.tick (h:StW w H vb ve s) (c:Nat):StW (w.setCell ⟨H+1,3,none⟩ (.int .i64 c)) H vb ve { s with clock:=c }:=by
 obtain⟨h1,h2,h3⟩:=h.rows 3 (.int .i64 c);exact⟨h.box.set (k:=3) (by simp) _,h3,h1,h2,h.ne⟩
theorem StW.openB (h:StW w H vb ve s):∃xs,w.ownsRow (H+2) 32 4 vb s.blobs.length xs ∧
  ∀(x:BlobP) (B:Option Addr) (c u:Nat) (w1 w2:World) (v2:Value),Below w.heap.size w w1→Sl w1 1 B x.data.length c (bys x.data)→(∀a,B=some a→w.heap.size≤a.block) →
   w2.ownsRow (H+2) 32 4 v2 (s.blobs.length+1) (xs++zi x B c)→w1.grownBy w2 vb.ownBlock→(v2.ownBlock=vb.ownBlock∨v2.ownBlock=some w1.heap.size) →
   Arr w2 (H+1) 28 [vb,ve,.int .i64 0,.int .i64 s.clock]∧StW (w2.setCell ⟨H+1,0,none⟩ v2) H v2 ve { s with blobs:=s.blobs++ [x],used:=u }:=by
 obtain⟨xs,hx,hop⟩:=h.b.open_;refine⟨xs,hx,fun x B c u w1 w2 v2 hb hs hB ho hg hv=> ?_⟩;have h1:=h.below hb;have hsz:=hb.size;have b2:=hop x (zi x B c) w1 w2 v2 hb ⟨B,c,rfl,hs⟩ (fun b hb' hl=>by
  obtain⟨a,e1,rfl⟩:=yN hl;have:=hB a e1;rcases hb' with e | (e | e) | e
  ·have:=(h.bB _ e).2;omega
  ·have:=h.lt;omega
  ·have:=h.lt;omega
  ·have:=(h.bE _ e).2;omega) ho hg (hv.imp id fun e=>⟨_,e,Nat.le_refl _⟩)
 have e2:=(((h1.e.wider (N':=fun g=>((g=H∨g=H+1)∨vb.ownBlock=some g)∨v2.ownBlock=some g) (fun b hb=>by
  rcases hb with hb | hb
  ·exact .inl hb
  ·rcases hv with e | e
   ·exact .inl (.inr (e▸hb))
   ·rw [e]at hb;cases hb;exact .inr (Nat.le_refl _))).other hg (fun b e1=>h.ne b e1) (fun b e=> .inl (.inr e))).wider (N':=fun g=>(g=H∨g=H+1)∨v2.ownBlock=some g) (fun b hb=> .inl (hb.elim (fun e=> .inl (.inl e)) .inr)))
 have box2:=h1.box.grown hg (fun e=>by have:=h.bB _ e;omega);have res2:=h1.res.grown hg (fun e=>by have:=h.bB _ e;omega);have bV:∀g,v2.ownBlock=some g→H+2≤g:=fun g e=>(b2.rwo.blk e).1;have gs:=zH w2 (H+1) 0 v2;refine⟨box2,box2.set (k:=0) (by simp) v2,res2.other (by omega) v2,b2.other gs (fun b e1 e2=>by cases e1;have:=bV _ e2;omega) (fun b e=>by cases e;exact .inl (.inr rfl)),
  e2.other gs (fun b e1 e2=>by cases e1;have:=h.bE _ e2;omega) (fun b e=>by cases e;exact .inl (.inr rfl)),fun g e1 e2=> ?_⟩
 rcases hv with e | e
 ·exact h.ne g (e▸e1) e2
 ·rw [e]at e1;cases e1;have:=(h.bE _ e2).2;omega
theorem StW.openE (h:StW w H vb ve s):∃xs,w.ownsRow (H+2) 35 4 ve s.ents.length xs ∧
  ∀(x:EntP) (B:Option Addr) (c:Nat) (w1 w2:World) (v2:Value),Below w.heap.size w w1→Sl w1 3 B x.parts.length c (pcs x.parts)→(∀a,B=some a→w.heap.size≤a.block) →
   w2.ownsRow (H+2) 35 4 v2 (s.ents.length+1) (xs++zw x B c)→w1.grownBy w2 ve.ownBlock→(v2.ownBlock=ve.ownBlock∨∃g,v2.ownBlock=some g∧w1.heap.size≤g) →
   Arr w2 (H+1) 28 [vb,ve,.int .i64 0,.int .i64 s.clock]∧StW (w2.setCell ⟨H+1,1,none⟩ v2) H vb v2 { s with ents:=s.ents++ [x] }:=by
 obtain⟨xs,hx,hop⟩:=h.e.open_;refine⟨xs,hx,fun x B c w1 w2 v2 hb hs hB ho hg hv=> ?_⟩;have h1:=h.below hb;have hsz:=hb.size;have e2:=hop x (zw x B c) w1 w2 v2 hb ⟨B,c,rfl,hs⟩ (fun b hb' hl=>by
  obtain⟨a,e1,rfl⟩:=xS hl;have:=hB a e1;rcases hb' with e | (e | e) | e
  ·have:=(h.bE _ e).2;omega
  ·have:=h.lt;omega
  ·have:=h.lt;omega
  ·have:=(h.bB _ e).2;omega) ho hg hv
 have b2:=(((h1.b.wider (N':=fun g=>((g=H∨g=H+1)∨ve.ownBlock=some g)∨v2.ownBlock=some g) (fun b hb=>by
  rcases hb with hb | hb
  ·exact .inl hb
  ·rcases hv with e | ⟨g,e,hge⟩
   ·exact .inl (.inr (e▸hb))
   ·rw [e]at hb;cases hb;exact .inr hge)).other hg (fun b e1 e2=>h.ne b e2 e1) (fun b e=> .inl (.inr e))).wider (N':=fun g=>(g=H∨g=H+1)∨v2.ownBlock=some g) (fun b hb=> .inl (hb.elim (fun e=> .inl (.inl e)) .inr)))
 have box2:=h1.box.grown hg (fun e=>by have:=h.bE _ e;omega);have res2:=h1.res.grown hg (fun e=>by have:=h.bE _ e;omega);have bV:∀g,v2.ownBlock=some g→H+2≤g:=fun g e=>(e2.rwo.blk e).1;have gs:=zH w2 (H+1) 1 v2;refine⟨box2,box2.set (k:=1) (by simp) v2,res2.other (by omega) v2,b2.other gs (fun b e1 e2=>by cases e1;have:=h.bB _ e2;omega) (fun b e=>by cases e;exact .inl (.inr rfl)),
  e2.other gs (fun b e1 e2=>by cases e1;have:=bV _ e2;omega) (fun b e=>by cases e;exact .inl (.inr rfl)),fun g e1 e2=> ?_⟩
 rcases hv with e | ⟨g',e,hge⟩
 ·exact h.ne g e1 (e▸e2)
 ·rw [e]at e2;cases e2;have:=(h.bB _ e1).2;omega
theorem Arr.all4 {w:World} {g:Nat} {e:TypeId} {x0 x1 x2 x3:Value} (h:Arr w g e [x0,x1,x2,x3]) (y0 y1 y2 y3:Value) :
  Arr ((((w.setCell ⟨g,0,none⟩ y0).setCell ⟨g,1,none⟩ y1).setCell ⟨g,2,none⟩ y2).setCell ⟨g,3,none⟩ y3) g e [y0,y1,y2,y3] :=
 (((h.set (k:=0) (by simp) y0).set (k:=1) (by simp) y1).set (k:=2) (by simp) y2).set (k:=3) (by simp) y3
theorem RwX.set {α:Type} {S:Shp α} {w:World} {e:TypeId} {base g k:Nat} {v:Value} {l:List α} {N:Nat→Prop} (h:RwX S e w base v l N) (hg:g<base) (hN:N g) (u:Value):RwX S e (w.setCell ⟨g,k,none⟩ u) base v l N :=
 h.other (zH w g k u) (fun b e1 e2=>by cases e1;have:=(h.rwo.blk e2).1;omega) (fun b e=>by cases e;exact hN)
end
end Go.Proofs.YtfmnggcfhalfnaaGreat
