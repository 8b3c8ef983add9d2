/- Lemmas of the proof. Conditions: as stated. -/
import Derived.Test.YtdbbehfbkiiloaaGreatDoorQS24
set_option linter.unusedVariables false
set_option linter.unusedSimpArgs false
set_option maxRecDepth 100000
set_option maxHeartbeats 8000000
namespace Go.Proofs.YtdbbehfbkiiloaaGreatDoor
open Go.RowKit
def uni (L:List (List UInt8)):List (List UInt8):=srt (fun x=>x) (nub L)
theorem kL (L:List (List UInt8)):Rises (uni L):=qd (f:=fun x=>x) (by rw [List.map_id'];exact xy L)
theorem vo (L:List (List UInt8)):StrL (uni L) (fun x=>x∈L):=by
 refine⟨(kL L).nodup,(kL L).imp fun {a b} h=> ?_,fun x=> ?_⟩
 ·rw [KN];cases hb:Op.bytesLess b a with
  | false=>rfl
  | true=>have:=qf h hb;rw [qC]at this;cases this
 ·show x∈srt _ _↔_;rw [(zj _ _).mem_iff,qX]
theorem yI {L:List (List UInt8)} {x:List UInt8}:x∈uni L↔x∈L:=(vo L).mem x
theorem StrL.uni {L M:List (List UInt8)} {p:List UInt8→Prop} (h:StrL M p) (hp:∀x,p x↔x∈L):M=uni L :=
 StrL.uniq h ⟨(vo L).nd,(vo L).le,fun x=>(yI).trans (hp x).symm⟩
theorem Ky (L:List (List UInt8)):(uni L).length≤L.length:=by
 have:∀l:List (List UInt8),(nub l).length≤l.length:=fun l=>by
  induction l with
  | nil=>exact Nat.le_refl _
  | cons x l ih =>
   rw [nub];split
   ·exact Nat.le_trans ih (by simp)
   ·simpa using ih
 show(srt _ _).length≤_;rw [(zj _ _).length_eq];exact this L
structure ColP where
 phase:Nat
 grey:List (List UInt8)
 at_:List UInt8
def mkd (bl:List BlobP):List (List UInt8):=(bl.filter (·.mark)).map (·.dig)
theorem qW {bl:List BlobP} {x:List UInt8}:x∈mkd bl↔∃b∈bl,b.mark=true∧b.dig=x:=by
 unfold mkd;rw [List.mem_map];constructor
 ·rintro⟨b,hb,e⟩;obtain⟨h1,h2⟩:=List.mem_filter.1 hb;exact⟨b,h1,h2,e⟩
 ·rintro⟨b,hb,h,e⟩;exact⟨b,List.mem_filter.2 ⟨hb,h⟩,e⟩
def NoM (b:BlobP):List UInt8×List UInt8×Nat:=(b.dig,b.data,b.pins)
def EqM (l m:List BlobP):Prop:=l.map NoM=m.map NoM
theorem EqM.symm {l m:List BlobP} (h:EqM l m):EqM m l:=Eq.symm h
theorem EqM.trans {l m k:List BlobP} (h:EqM l m) (h':EqM m k):EqM l k:=Eq.trans h h'
theorem EqM.rfl_ (l:List BlobP):EqM l l:=rfl
theorem EqM.len {l m:List BlobP} (h:EqM l m):l.length=m.length:=by
 have:=congrArg List.length h;simpa using this
theorem EqM.at_ {l m:List BlobP} (h:EqM l m) (i:Nat) (h1:i<l.length) (h2:i<m.length):m[i].dig=l[i].dig∧m[i].data=l[i].data∧m[i].pins=l[i].pins:=by
 have h3:=congrArg (fun x=>x[i]?) h;simp only [List.getElem?_map,List.getElem?_eq_getElem h1,List.getElem?_eq_getElem h2,Option.map_some,Option.some.injEq,NoM,Prod.mk.injEq]at h3;exact⟨h3.1.symm,h3.2.1.symm,h3.2.2.symm⟩
theorem EqM.mem {l m:List BlobP} (h:EqM l m) {b:BlobP} (hb:b∈l):∃b'∈m,b'.dig=b.dig∧b'.data=b.data∧b'.pins=b.pins:=by
 obtain⟨i,hi,rfl⟩:=List.mem_iff_getElem.1 hb;have h2:i<m.length:=by rw [←h.len];exact hi
 exact⟨m[i],List.getElem_mem h2,h.at_ i hi h2⟩
theorem EqM.cons {a b:BlobP} {l m:List BlobP} (h:EqM (a::l) (b::m)):(b.dig=a.dig∧b.data=a.data∧b.pins=a.pins)∧EqM l m:=by
 unfold EqM at h;simp only [List.map_cons,List.cons.injEq]at h;obtain⟨h1,h2⟩:=h;unfold NoM at h1;simp only [Prod.mk.injEq]at h1;exact⟨⟨h1.1.symm,h1.2.1.symm,h1.2.2.symm⟩,h2⟩
theorem jG {x:List UInt8}:∀ {l m:List BlobP},EqM l m→m.findIdx? (fun b=>b.dig==x)=l.findIdx? (fun b=>b.dig==x)
 | [], [],_=>rfl
 | [],b::m,h=>by cases h
 | a::l, [],h=>by cases h
 | a::l,b::m,h=>by
  obtain⟨h1,h2⟩:=h.cons
  rw [List.findIdx?_cons,List.findIdx?_cons,h1.1,jG h2]
theorem ZY {l m:List BlobP} (h:EqM l m) (x:List UInt8):kids m x=kids l x:=by
 unfold kids;rw [jG h];cases hf:l.findIdx? (fun b=>b.dig==x) with
 | none=>rfl
 | some i =>
  have hi:i<l.length:=(List.findIdx?_eq_some_iff_getElem.1 hf).1;have hi2:i<m.length:=by rw [←h.len];exact hi
  simp only [List.getElem?_eq_getElem hi,List.getElem?_eq_getElem hi2];rw [(h.at_ i hi hi2).2.1]
theorem jH {l m:List BlobP} (h:EqM l m) {x:List UInt8}:InB m x↔InB l x:=by
 constructor
 ·rintro⟨b,hb,e⟩;obtain⟨b',hb',e1,_⟩:=h.symm.mem hb;exact⟨b',hb',e1.trans e⟩
 ·rintro⟨b,hb,e⟩;obtain⟨b',hb',e1,_⟩:=h.mem hb;exact⟨b',hb',e1.trans e⟩
theorem vN {l m:List BlobP} (h:EqM l m) {ds:List (List UInt8)} {x:List UInt8} (hx:Rch l ds x):Rch m ds x:=by
 induction hx with
 | root h1 h2=>exact .root h1 ((jH h).2 h2)
 | step h1 h2 h3 ih=>exact .step ih (by rw [ZY h];exact h2) ((jH h).2 h3)
theorem Ka {l m:List BlobP} (h:EqM l m) {ds:List (List UInt8)}:Rch m ds=Rch l ds:=funext fun x=>propext ⟨vN h.symm,vN h⟩
theorem vO:∀ {l m:List BlobP},EqM l m→uL m=uL l
 | [], [],_=>rfl
 | [],b::m,h=>by cases h
 | a::l, [],h=>by cases h
 | a::l,b::m,h=>by
  obtain⟨h1,h2⟩:=h.cons
  have ih:=vO h2
  unfold uL at ih ⊢
  rw [List.filter_cons,List.filter_cons,h1.2.2]
  split
  ·rw [List.map_cons,List.map_cons,h1.1,ih]
  ·exact ih
theorem Kc {s:StoP} {m:List BlobP} (h:EqM s.blobs m):rts { s with blobs:=m }=rts s:=by
 show vY s.ents++uL m=_;rw [vO h];rfl
theorem Kb {l m:List BlobP} (h:EqM l m) (hr:RisesBy (·.dig) l):RisesBy (·.dig) m:=by
 have e:m.map (·.dig)=l.map (·.dig):=by
  have h3:=congrArg (List.map Prod.fst) h;simp only [List.map_map]at h3;exact h3.symm
 have:=List.pairwise_map.1 (e▸hr.map:Rises (m.map (·.dig)));exact this
theorem Kd {l m:List BlobP} (h:EqM l m):usd m=usd l:=by
 have h3:=congrArg (List.map fun x:List UInt8×List UInt8×Nat=>x.2.1.length) h;simp only [List.map_map]at h3;unfold usd;exact(congrArg List.sum h3).symm
theorem ZX {s:StoP} {m:List BlobP} (h:EqM s.blobs m) (hg:GoodS s):GoodS { s with blobs:=m } :=
 ⟨⟨by rw [←h.len];exact hg.b.len,fun b hb=>by
   obtain⟨b',hb',e1,e2,e3⟩:=h.symm.mem hb
   have h1:=hg.b.one b' hb'
   unfold GoodB1 at h1 ⊢
   rw [←e1,←e2,←e3];exact h1,Kb h hg.b.ris⟩,hg.e,hg.room,by show usd m≤_;rw [Kd h];exact hg.used,hg.clock,fun x hx=>⟨(hg.ent x hx).1,fun p hp=>by
   obtain⟨b,hb,e1,e2⟩:=(hg.ent x hx).2 p hp
   obtain⟨b',hb',e3,e4,_⟩:=h.mem hb
   exact⟨b',hb',e3.trans e1,by rw [e4];exact e2⟩⟩⟩
structure GoodC (s:StoP) (c:ColP):Prop where
 ph:c.phase≤2
 gh:∀d∈c.grey,hexC d=0
 ris:Rises c.grey
 ah:c.at_= []∨hexC c.at_=0
 g0:c.phase≠1→c.grey= []
 a0:c.phase≠2→c.at_= []
 mr:c.phase=1→∀x∈rts s,InB s.blobs x→x∈mkd s.blobs∨x∈c.grey
 mb:c.phase=1→∀b∈s.blobs,b.mark=true→∀x∈kids s.blobs b.dig,InB s.blobs x→x∈mkd s.blobs∨x∈c.grey
 sw:c.phase=2→∀x,Rch s.blobs (rts s) x→x∈mkd s.blobs
section
variable {s:StoP} {i:Nat}
end
def unm (bl:List BlobP):Nat:=(bl.filter (fun b=> !b.mark)).length
def ahead (a:List UInt8) (bl:List BlobP):Nat:=(bl.filter (fun b=>Op.bytesLess a b.dig)).length
end Go.Proofs.YtdbbehfbkiiloaaGreatDoor
namespace Go.Proofs.YtdbbehfbkiiloaaGreatDoor
open Go.RowKit Go.Maps
section
variable {w w':World} {g h B:Nat} {e e':TypeId} {u0 u1 u2 u3 x0 x1 x2 a0 a1 a2 a3 b0 b1 b2:Value}
end
abbrev Yv (w:World) (g:Nat) (u0 u1 u2 u3:Value):World:=(((w.setCell ⟨g,0,none⟩ u0).setCell ⟨g,1,none⟩ u1).setCell ⟨g,2,none⟩ u2).setCell ⟨g,3,none⟩ u3
section
variable {w w':World} {g h B:Nat} {e:TypeId} {xs:List Value}
theorem RwX.own_m {α:Type} {S:Shp α} {w:World} {e:TypeId} {base:Nat} {v:Value} {l:List α} {N:Nat→Prop} (h:RwX S e w base v l N):∃xs,w.ownsRow base e S.size v l.length xs:=by
 obtain⟨ps,_,_,h3,_⟩:=h;exact⟨_,h3⟩
theorem OwSt.nb {base:Nat} {v1 v2:Value} {s:StoP} {N:Nat→Prop} (ho:OwSt w base v1 v2 s N) (hA:Arr w g e xs) (h1:52≠e) (h2:64≠e):v1.ownBlock≠some g∧v2.ownBlock≠some g:=by
 obtain⟨xs1,hx⟩:=ho.b.own_m;obtain⟨xs2,hy⟩:=ho.e.own_m;exact⟨zx hx hA h1,zx hy hA h2⟩
end
structure RdC (w:World) (A:Option Addr) (n:Nat) (c:ColP):Prop where
 rd:Rd w 1 A c.grey.length (strs c.grey)
 cap:c.grey.length≤n
 max:n≤maxLen
theorem RdC.below {w w':World} {A:Option Addr} {n:Nat} {c:ColP} (h:RdC w A n c) (hb:Below w.heap.size w w'):RdC w' A n c:=⟨h.rd.below hb,h.cap,h.max⟩
theorem RdC.of_own {w:World} {base:Nat} {v:Value} {c:ColP} (h:w.ownsRow base 9 1 v c.grey.length (strs c.grey)):∃A n,v= .slice A c.grey.length n∧RdC w A n c:=by
 obtain⟨A,n,rfl,hs,_⟩:=Sl.of_own h;exact⟨A,n,rfl,hs.rd,hs.cap,hs.max⟩
abbrev coV (v:Value) (c:ColP):Value:= .agg #[.int .i64 c.phase,v,.string ⟨c.at_.toArray⟩]
structure StpW (W:World) (H base:Nat) (v1 v2:Value) (r k:Nat) (t:StoP) (cc:List Value) (N:Nat→Prop):Prop where
 s:Arr W H 26 [v1,v2,.int .i64 r,.int .i64 k]
 c:Arr W (H+1) 29 cc
 r:Arr W (H+1+1) 26 [.slice none 0 0,.slice none 0 0,.int .i64 0,.int .i64 0]
 d:Arr W (H+1+1+1) 29 [.int .i64 0,.slice none 0 0,.string ⟨#[]⟩]
 o:OwSt W base v1 v2 t (fun b=>N b∨(H≤b∧b≤H+3))
theorem StpW.below {W W':World} {H base r k:Nat} {v1 v2:Value} {t:StoP} {cc:List Value} {N:Nat→Prop} (h:StpW W H base v1 v2 r k t cc N) (hb:Below W.heap.size W W'):StpW W' H base v1 v2 r k t cc N :=
 ⟨h.s.below hb,h.c.below hb,h.r.below hb,h.d.below hb,h.o.below hb⟩
abbrev qv (g n:Nat):Value:= .slice (some ⟨g,0,none⟩) n n
abbrev z4:List Value:= [.slice none 0 0,.slice none 0 0,.int .i64 0,.int .i64 0]
abbrev z3:List Value:= [.int .i64 0,.slice none 0 0,.string ⟨#[]⟩]
def jf (w:World) (l:List (List UInt8)) (f:FuncId) (x:Value) (p:List UInt8→Bool):Prop :=
 (∀args W,(callFunc f args).run Tryz.prog W= .ok (.enter f args) W)∧∀(b:List UInt8) (W:World),b∈l→Below w.heap.size w W →
  Calls Tryz.prog f #[.string ⟨b.toArray⟩,x] W fun e w'=>e= .returned (.bool (p b))∧Below W.heap.size W w'
theorem j7 (A:Option Addr) (c:Nat) (l:List (List UInt8)) (f:FuncId) (x:Value) (p:List UInt8→Bool) (w:World) (hl:l.length≤1000000) (hA:Rd w 1 A l.length (strs l)) (HC:jf w l f x p) :
  Calls Tryz.prog 90 #[.slice A l.length c,.func (.func f) #[] #[x]] w fun e w'=>e= .returned (.int .i64 (plc (l.findIdx? p)))∧Below w.heap.size w w':=by
 obtain⟨hcf,hcc0⟩:=HC;have HCC:=sqH hcc0;clear hcc0;generalize hR:l.findIdx? p=R;have HR:=sqH hR;clear hR;go_enter Tryz.func90,Tryz.ntmps90;go_wp2_with fail;go_loopg [5,8] l.length (fun gn u i wr=>∃j:Nat,gn=l.length - j∧i= .int .i64 j∧j≤l.length∧(∀k (h:k<l.length),k<j→p l[k]=false)∧Below w.heap.size w wr)
 case atStart=>exact⟨0,rfl,rfl,by omega,fun k _ h=>absurd h (by omega),Below.refl _ _⟩
 case round =>
  obtain⟨j,hgk,rfl,hj,hno,hbl⟩:=hrel;have HGK:=sqH hgk;have HNO:=sqH hno;clear hgk hno;by_cases hlt:j<l.length
  ·have hcc:decide (j<l.length)=true:=decide_eq_true hlt;obtain⟨b,off,hAb,_,hcell⟩:=(hA.below hbl).2 (by omega);subst hAb;have c0:=hcell j _ (qe l j hlt);have hcl:=HCC.out l[j] wr (List.getElem_mem hlt) hbl;have hj0:(0:Int)≤(j:Int):=by omega
   have hj1:(j:Int)<(l.length:Int):=by omega
   cases hp:p l[j] with
   | true =>
    have HF:=sqH (show R=some j by
     rw [←HR.out,List.findIdx?_eq_some_iff_getElem];exact⟨hlt,hp,fun k hk=>by rw [HNO.out k (by omega) hk];simp⟩)
    rw [hp]at hcl;have HCL:=sqH hcl;clear hp hcl hcell;generalize l[j]=bl at *
    go_wp2_with fail;refine HCL.out.mono ?_;rintro e_ w5 ⟨rfl,hb5⟩;dsimp only;have hb05:=hbl.trans (hb5.mono hbl.size);go_wp2_with fail;go_ret;rw [HF.out];exact⟨rfl,hb05⟩
   | false =>
    have HN:=sqH (show ∀k (h:k<l.length),k<j+1→p l[k]=false from fun k h hk=>by
     rcases Nat.lt_or_ge k j with h1 | h1
     ·exact HNO.out k h h1
     ·have:k=j:=by omega
      subst this;exact hp)
    rw [hp]at hcl;have HCL:=sqH hcl;clear hp hcl hcell;generalize l[j]=bl at *
    go_wp2_with fail;refine HCL.out.mono ?_;rintro e_ w5 ⟨rfl,hb5⟩;dsimp only;have hb05:=hbl.trans (hb5.mono hbl.size);go_wp2_with fail;go_roundg (l.length - (j+1))
    case measure=>have:=HGK.out;omega
    case rel=>exact⟨j+1,rfl,by go_num,by omega,HN.out,hb05⟩
  ·obtain rfl:j=l.length:=by omega
   have hcc:decide (l.length<l.length)=false:=by simp
   have HF:=sqH (show R=none by
    rw [←HR.out,List.findIdx?_eq_none_iff];intro x hx;obtain⟨k,hk,rfl⟩:=List.mem_iff_getElem.1 hx;exact HNO.out k hk hk)
   go_wp2_with fail;go_ret;rw [HF.out];exact⟨rfl,hbl⟩
theorem QH (A:Option Addr) (c:Nat) (l:List (List UInt8)) (f:FuncId) (x:Value) (p:List UInt8→Bool) (w:World) (hl:l.length≤1000000) (hA:Rd w 1 A l.length (strs l)) (HC:jf w l f x p) :
  Calls Tryz.prog 92 #[.slice A l.length c,.func (.func f) #[] #[x]] w fun e w'=>e= .returned (.bool (l.any p))∧Below w.heap.size w w':=by
 have hI:=j7 A c l f x p w hl hA HC;clear HC;have HI:=sqH hI;clear hI;have hany:l.any p=(l.findIdx? p).isSome:=by rw [List.findIdx?_isSome]
 rw [hany];cases hf:l.findIdx? p with
 | none =>
  rw [hf]at HI;go_enter Tryz.func92,Tryz.ntmps92;go_wp2_with fail;refine HI.out.mono ?_;rintro e_ w1 ⟨rfl,hb1⟩;dsimp only;go_wp2_with fail;go_ret;exact⟨rfl,hb1⟩
 | some i =>
  rw [hf]at HI;have hi:decide ((i:Int)≥0)=true:=decide_eq_true (by omega);have hi2:decide ((0:Int)≤(i:Int))=true:=decide_eq_true (by omega);go_enter Tryz.func92,Tryz.ntmps92;go_wp2_with fail;refine HI.out.mono ?_;rintro e_ w1 ⟨rfl,hb1⟩;dsimp only;go_wp2_with fail;go_ret;exact⟨rfl,hb1⟩
theorem jh (gk:Nat) (B:Option Addr) (d:Nat) (M l:List (List UInt8)) (w:World) (hk:w.cell? ⟨gk,0,none⟩=some (.slice B M.length d)) (hg:gk<w.heap.size) (hM:M.length≤1000000) (hB:Rd w 1 B M.length (strs M)):jf w l 93 (.pointer (some ⟨gk,0,none⟩)) (fun s=> !decide (s∈M)):=by
 refine⟨fun _ _=>by kernel_rfl,fun b W hb hbel=> ?_⟩;have hk0:W.cell? ⟨gk,0,none⟩=some (.slice B M.length d):=(hbel.cell (p:=⟨gk,0,none⟩) hg).trans hk;have HCT:=sqH (QN B d M b W (by omega) (hB.below hbel));dsimp only;generalize decide (b∈M)=dv at *
 clear hk hB hbel;go_enter Tryz.func93,Tryz.ntmps93;go_wp2_with fail;refine HCT.out.mono ?_;rintro e_ wx ⟨rfl,rfl⟩;dsimp only;go_wp2_with fail;go_ret;exact⟨rfl,Below.refl _ _⟩
theorem xd (A B:Option Addr) (c d:Nat) (L M:List (List UInt8)) (w:World) (hl:L.length≤1000000) (hm:M.length≤1000000) (hA:Rd w 1 A L.length (strs L)) (hB:Rd w 1 B M.length (strs M)) (hsub:∀x∈L,x∈M) :
  Calls Tryz.prog 52 #[.slice A L.length c,.slice B M.length d] w fun e w'=>e= .returned (.bool true)∧Below w.heap.size w w':=by
 have hb1:=(Below.refl w.heap.size w).alloc (Nat.le_refl _) (.cells #[.slice B M.length d] 27);have hbx:Arr (w.alloc (.cells #[.slice B M.length d] 27)) w.heap.size 27 [.slice B M.length d]:=Arr.new w 27 _;have hct:=QH A c L _ (.pointer (some ⟨w.heap.size,0,none⟩)) (fun s=> !decide (s∈M)) _ hl (hA.below hb1) (jh w.heap.size B d M L _ (hbx.cell (k:=0) rfl) hbx.lt hm (hB.below hb1));rw [show L.any (fun s=> !decide (s∈M))=false from List.any_eq_false.2 fun x hx=>by simp [hsub x hx]]at hct;have HCT:=sqH hct;clear hct hbx hA hB hsub;go_enter Tryz.func52,Tryz.ntmps52;go_wp2_with fail;refine HCT.out.mono ?_;rintro e_ w2 ⟨rfl,hb2⟩;dsimp only;go_wp2_with fail;go_ret;exact⟨rfl,hb1.trans (hb2.mono hb1.size)⟩
theorem uN {P:Program} {w:World} {ops:Array Oper} {rest:List Oper} {o:Oper} {a:Act} {Q:Exit→Act→World→Prop} (hgd:o.guard=none) (s x:Operand) {t e e':TypeId} {size bytes:Nat}
  (ho:o.op= .call { callee:= .builtin .append,args:=#[s,x],argTypes:=#[t,t] }) (E:El P t e size bytes)
  {base:Nat} {v:Value} {n:Nat} {xs:List Value} (hs:a.eval s=v) (hown:w.ownsRow base e size v n xs) {H:Nat}
  {us:List Value} {m c:Nat} (hx:a.eval x= .slice (some ⟨H,0,none⟩) m c) (hH:H=w.heap.size) (hl:us.length=m*size) (h1:∀u∈us,u.oneCell'=true)
  (hb:(n+m)*bytes≤140737488355328) (hbase:base≤w.heap.size)
  (h:∀v' w',w'.ownsRow base e size v' (n+m) (xs++us)→w.grownBy w' v.ownBlock→(v'.ownBlock=v.ownBlock∨∃g,v'.ownBlock=some g∧w.heap.size≤g)→wpList P ops Q rest (a.put o.dst v') w') :
  wpList P ops Q (o::rest) a (w.alloc (.cells us.toArray e')):=by
 subst hH;exact zd hgd s x ho E hs hown hx hl h1 hb hbase h
theorem Q6 (bl:List BlobP) (k:Nat) (h:k<bl.length):mkd (bl.take (k+1))=mkd (bl.take k)++(if bl[k].mark then [bl[k].dig] else []):=by
 unfold mkd;rw [List.take_succ_eq_append_getElem h,List.filter_append,List.map_append]
 congr 1
 by_cases hp:bl[k].mark=true
 ·rw [if_pos hp,List.filter_cons_of_pos hp];rfl
 ·rw [if_neg hp,List.filter_cons_of_neg hp];rfl
theorem xZ (bl:List BlobP):(mkd bl).length≤bl.length:=by
 unfold mkd;rw [List.length_map];exact List.length_filter_le _ _
theorem ky (A:Option Addr) (c:Nat) (bl:List BlobP) (w:World) (hl:bl.length≤1000) (hA:Rw BlobS w A bl) :
  Calls Tryz.prog 45 #[.slice A bl.length c] w fun e w'=>∃v,e= .returned v∧w'.ownsRow w.heap.size 9 1 v (mkd bl).length (strs (mkd bl))∧Below w.heap.size w w':=by
 have HA:=sqH hA;have hb63:(bl.length:Int)≤9223372036854775807:=by omega
 clear hA;go_enter Tryz.func45,Tryz.ntmps45;go_wp2_with fail;go_loopg [3,8] bl.length (fun gn u i wr=>∃k:Nat,gn=bl.length - k∧i= .int .i64 k∧k≤bl.length∧wr.ownsRow w.heap.size 9 1 u (mkd (bl.take k)).length (strs (mkd (bl.take k)))∧Below w.heap.size w wr)
 case atStart=>exact⟨0,rfl,rfl,by omega,World.ownsRow_nil _ _ _ _,Below.refl _ _⟩
 case round =>
  obtain⟨k,hgk,rfl,hk,hown,hbel⟩:=hrel;have HGK:=sqH hgk;clear hgk;by_cases hlt:k<bl.length
  rotate_left
  ·obtain rfl:k=bl.length:=by omega
   have hlb:decide (bl.length<bl.length)=false:=by simp
   rw [List.take_length]at hown;have HO:=sqH hown;clear hown;go_wp2_with fail;go_ret;exact⟨_,rfl,HO.out,hbel⟩
  have hlb:decide (k<bl.length)=true:=decide_eq_true hlt;have hk0:(0:Int)≤(k:Int):=by omega
  have hk1:(k:Int)<(bl.length:Int):=by omega
  obtain⟨bq,oq,Bq,cq,hA,hbq,d0,d1,d2,d3,hsl⟩:=(HA.out.below hbel).blob_at k hlt;subst hA;have HSU:=sqH (Q6 bl k hlt);have HKL:=sqH hlt;have hml:=xZ (bl.take k);rw [List.length_take]at hml;generalize bl[k]=q at *
  generalize q.mark=qm at *
  have hbox:Arr (wr.alloc (.cells #[.string ⟨q.dig.toArray⟩,.slice Bq q.data.length cq,.int .i64 q.pins,.bool qm] 52)) wr.heap.size 52 [.string ⟨q.dig.toArray⟩,.slice Bq q.data.length cq,.int .i64 q.pins,.bool qm]:=Arr.new wr 52 _;have hbA:=hbel.alloc hbel.size (.cells #[.string ⟨q.dig.toArray⟩,.slice Bq q.data.length cq,.int .i64 q.pins,.bool qm] 52);have hownA:=hown.alloc (.cells #[.string ⟨q.dig.toArray⟩,.slice Bq q.data.length cq,.int .i64 q.pins,.bool qm] 52);have p0:=hbox.cell (k:=0) rfl;have p3:=hbox.cell (k:=3) rfl;clear hsl hown hbox;cases qm with
  | false =>
   have hsu:=HSU.out;rw [if_neg (by decide),List.append_nil]at hsu;have HSV:=sqH hsu;have HOA:=sqH hownA;clear hsu hownA;go_wp2_with fail;go_roundg (bl.length - (k+1))
   case measure=>have:=HGK.out;have:=HKL.out;omega
   case rel=>exact⟨k+1,rfl,by go_num,by have:=HKL.out;omega,by rw [HSV.out];exact HOA.out,hbA⟩
  | true =>
   have hsu:=HSU.out;rw [if_pos rfl]at hsu;have HSV:=sqH hsu;have HSZ:=sqH (World.size_alloc wr (.cells #[.string ⟨q.dig.toArray⟩,.slice Bq q.data.length cq,.int .i64 q.pins,.bool true] 52)).symm;clear hsu
   repeat' (fail_if_success (first|at_builtin|at_make));first|go_values|go_skip|go_guarded|go_step|go_upon|go_back
   clear d0 d1 d2 d3;generalize (wr.alloc (.cells #[.string ⟨q.dig.toArray⟩,.slice Bq q.data.length cq,.int .i64 q.pins,.bool true] 52))=wA at *
   refine uN rfl (.tmp 14) (.tmp 17) rfl xk (by rfl) hownA (us:= [.string ⟨q.dig.toArray⟩]) (by rfl) HSZ.out rfl (by intro u hu;rw [List.mem_singleton.1 hu];rfl) (by omega) hbA.size ?_;intro v9 w9 ho9 hg9 hv9;have hb9:=z7 hbA hownA (Nat.le_refl _) hg9;have HO9:=sqH ho9;clear ho9 hg9 hv9 hownA p0 p3;go_wp2_with fail;go_roundg (bl.length - (k+1))
   case measure=>have:=HGK.out;have:=HKL.out;omega
   case rel=>exact⟨k+1,rfl,by go_num,by have:=HKL.out;omega,by rw [HSV.out,yQ,List.length_append];exact HO9.out,hb9⟩
end Go.Proofs.YtdbbehfbkiiloaaGreatDoor
namespace Go.Proofs.YtdbbehfbkiiloaaGreatDoor
open Go.RowKit
def je (w:World) (g:Option Nat) (l:List (List UInt8)) (f:FuncId) (x:Value) (p:List UInt8→Bool):Prop :=
 (∀args W,(callFunc f args).run Tryz.prog W= .ok (.enter f args) W)∧∀(b:List UInt8) (W:World),b∈l→w.grownBy W g →
  Calls Tryz.prog f #[.string ⟨b.toArray⟩,x] W fun e w'=>e= .returned (.bool (p b))∧Below W.heap.size W w'
theorem Yh (w:World):(zeroValue 9).run Tryz.prog w= .ok (.string ByteArray.empty) w:=by kernel_rfl
theorem KW {w:World} {base g cap n:Nat} {xs:List Value} (h:w.ownsRow base 9 1 (.slice (some ⟨g,0,none⟩) n cap) n xs) (i:Nat) (hi:i<n) :
  ∃zs:List Value,zs.length=n - i∧(∀ty c,(Builtin.clear_ #[27] ty #[.slice (some ⟨g,i,none⟩) (n - i) c]).run Tryz.prog w= .ok (.tuple #[]) (w.setCells g i zs)) ∧
   (w.setCells g i zs).ownsRow base 9 1 (.slice (some ⟨g,0,none⟩) i cap) i (xs.take i)∧w.grownBy (w.setCells g i zs) (some g):=by
 have hl:=yW (Value.string ByteArray.empty).cells (n - i);obtain⟨k1,k2,k3,k4⟩:=Z6 h (by omega) hi (zs:=(Builtin.zeroCells (Value.string ByteArray.empty).cells (n - i)).toList) hl;simp only [Nat.mul_one]at k1 k2 k3 k4;exact⟨_,by rw [hl];simp [Value.cells],fun ty c=>vj w _ _ ty _ _ _ (by omega) Tryz.underlying27 Yh rfl (yX _ _ (by simp [Value.cells]) (by intro u hu;simp [Value.cells]at hu;subst hu;rfl)) g _ c k3 k4,k1,k2⟩
theorem QK (base:Nat) (v:Value) (l:List (List UInt8)) (f:FuncId) (x:Value) (p:List UInt8→Bool) (w:World) (hl:l.length≤1000000) (hx:w.ownsRow base 9 1 v l.length (strs l)) (HC:je w v.ownBlock l f x p) :
  Calls Tryz.prog 49 #[v,.func (.func f) #[] #[x]] w fun e w'=>∃v',e= .returned v'∧w'.ownsRow base 9 1 v' (l.filter (fun b=> !p b)).length (strs (l.filter (fun b=> !p b)))∧w.grownBy w' v.ownBlock:=by
 obtain⟨hce,hcc0⟩:=HC;have HCC:=sqH hcc0;clear hcc0;obtain⟨A,cap,rfl,hlc,hrw⟩:=Rd.of_own' hx;have HI:=sqH (j7 A cap l f x p w (by omega) hrw ⟨hce,fun b W hb hbl=>HCC.out b W hb ⟨hbl.os,hbl.tape,hbl.output,hbl.size,fun k hk _=>hbl.block k hk⟩⟩);cases hf:l.findIdx? p with
 | none =>
  rw [hf]at HI;have hall:l.filter (fun b=> !p b)=l:=List.filter_eq_self.2 fun b hb=>by
   have:=List.findIdx?_eq_none_iff.1 hf b hb;rw [this];rfl
  have HALL:=sqH hall;have HX:=sqH hx;clear hall hf hx hrw;go_enter Tryz.func49,Tryz.ntmps49;go_wp2_with fail;refine HI.out.mono ?_;rintro e_ w1 ⟨rfl,hb1⟩;dsimp only;simp only [plc];go_wp2_with fail;go_ret;refine⟨_,rfl,by rw [HALL.out];exact z6 HX.out hb1,⟨hb1.os,hb1.tape,hb1.output,hb1.size,fun k hk _=>hb1.block k hk⟩⟩
 | some i0 =>
  rw [hf]at HI;simp only [plc]at HI;obtain⟨hi0,hpi,hno⟩:=List.findIdx?_eq_some_iff_getElem.1 hf;have hkeep0:(l.take (i0+1)).filter (fun b=> !p b)=l.take i0:=by
   rw [List.take_succ_eq_append_getElem hi0,List.filter_append,List.filter_cons_of_neg (by rw [hpi];simp)];rw [List.filter_nil,List.append_nil];refine List.filter_eq_self.2 fun b hb=> ?_;obtain⟨k,hk,rfl⟩:=List.mem_iff_getElem.1 hb;rw [List.length_take]at hk;have:=hno k (by omega);rw [List.getElem_take];simpa using this
  obtain⟨g,cap',cs,e1,hbg,hA,hnc, -, -, -⟩:=Qy hx (by omega);injection e1 with e11 e12 e13;clear e12;subst e11 e13;have hgw:g<w.heap.size:=hA.lt;have HGW:=sqH hgw;have HK0:=sqH hkeep0;clear hkeep0 hno hf hA hrw hgw;have hw1:IntKind.i64.wrap ((i0:Int)+1)=(i0:Int)+1:=IntWalk.i64_in _ (by omega);have hm1:((i0:Int)== -1)=false:=by rw [beq_eq_false_iff_ne];omega
  go_enter Tryz.func49,Tryz.ntmps49;go_wp2_with fail;refine HI.out.mono ?_;rintro e_ w1 ⟨rfl,hb1⟩;dsimp only;have hx1:=z6 hx hb1;have HG1:=sqH (show w.grownBy w1 (some g) from⟨hb1.os,hb1.tape,hb1.output,hb1.size,fun k hk _=>hb1.block k hk⟩);clear hx hb1 HI;go_wp2_with fail;go_loopg [5,6] (l.length - (i0+1)) (fun gn u v wr=>∃(i j:Nat) (M:List (List UInt8)),gn=l.length - j∧u= .int .i64 i∧v= .int .i64 j∧i<j∧j≤l.length∧M.length=l.length∧M.take i=(l.take j).filter (fun b=> !p b)∧M.drop j=l.drop j∧wr.ownsRow base 9 1 (.slice (some ⟨g,0,none⟩) l.length cap) l.length (strs M)∧w.grownBy wr (some g))
  case atStart=>exact⟨i0,i0+1,l,rfl,rfl,by go_num,by omega,by omega,rfl,HK0.out.symm,rfl,hx1,HG1.out⟩
  case round =>
   clear hx1;obtain⟨i,j,M,hgk,rfl,rfl,hij,hj,hM,hMt,hMd,hxr,hgr⟩:=hrel;have HGK:=sqH hgk;have HML:=sqH hM;have HMT:=sqH hMt;have HMD:=sqH hMd;have HGR:=sqH hgr;clear hgk hM hMt hMd hgr;by_cases hlt:j<l.length
   ·have hjj:decide (j<l.length)=true:=decide_eq_true hlt;have hMj:j<M.length:=by have:=HML.out;omega
    have eMj:M[j]=l[j]:=by
     have h1:=HMD.out;rw [List.drop_eq_getElem_cons hMj,List.drop_eq_getElem_cons hlt]at h1;injection h1
    obtain⟨bq,oq,hq, -,d0⟩:=(Rd.of_own hxr).2 (by omega);injection hq with hq;injection hq with hq1 hq2;subst hq1 hq2;have d0:=d0 j _ (qe M j hMj);rw [Nat.zero_add,eMj]at d0;have hmem:l[j]∈l:=List.getElem_mem hlt;have hpt:(l.take (j+1)).filter (fun b=> !p b)=(l.take j).filter (fun b=> !p b)++(if p l[j] then [] else [l[j]]):=by
     rw [List.take_succ_eq_append_getElem hlt,List.filter_append]
     congr 1
     cases hp:p l[j] with
     | true=>rw [List.filter_cons_of_neg (by rw [hp];simp)];rfl
     | false=>rw [List.filter_cons_of_pos (by rw [hp];rfl)];rfl
    have hMset:∀y,(M.set i y).drop (j+1)=l.drop (j+1):=fun y=>by
     rw [List.drop_set,if_pos (by omega)];have h1:=HMD.out;rw [List.drop_eq_getElem_cons hMj,List.drop_eq_getElem_cons hlt]at h1;injection h1
    have hMs0:M.drop (j+1)=l.drop (j+1):=by
     have h1:=HMD.out;rw [List.drop_eq_getElem_cons hMj,List.drop_eq_getElem_cons hlt]at h1;injection h1
    have hMtk:∀y,(M.set i y).take (i+1)=M.take i++ [y]:=fun y=>by
     have hi:i<(M.set i y).length:=by rw [List.length_set];omega
     rw [List.take_succ_eq_append_getElem hi,List.getElem_set_self,List.take_set]
     congr 1
     rw [List.set_eq_of_length_le (by rw [List.length_take];omega)]
    have HPT:=sqH hpt;have HMS:=sqH hMset;have HMS0:=sqH hMs0;have HMK:=sqH hMtk;have hwj:IntKind.i64.wrap ((j:Int)+1)=(j:Int)+1:=IntWalk.i64_in _ (by omega);have hwi:IntKind.i64.wrap ((i:Int)+1)=(i:Int)+1:=IntWalk.i64_in _ (by omega);have hcl:=HCC.out l[j] wr hmem HGR.out;clear hpt hMset hMs0 hMtk hmem eMj;have hj0:(0:Int)≤(j:Int):=by omega
    have hj1:(j:Int)<(l.length:Int):=by omega
    have hi0':(0:Int)≤(i:Int):=by omega
    have hi1':(i:Int)<(l.length:Int):=by omega
    have hiM:i<(strs M).length:=by rw [strs,List.length_map];omega
    generalize l[j]=bl at *
    cases hp:p bl with
    | true =>
     rw [hp]at hcl;have HCL:=sqH hcl;have HPV:=sqH hp;clear hcl hp;go_wp2_with fail;clear d0;refine HCL.out.mono ?_;rintro e_ wB ⟨rfl,hbB⟩;dsimp only;have hxB:=z6 hxr hbB;have HGB:=sqH (HGR.out.trans (show wr.grownBy wB (some g) from⟨hbB.os,hbB.tape,hbB.output,hbB.size,fun k hk _=>hbB.block k hk⟩));clear hxr hbB;go_wp2_with fail;go_roundg (l.length - (j+1))
     case measure=>have:=HGK.out;omega
     case rel=>exact⟨i,j+1,M,rfl,rfl,by go_num,by omega,by omega,HML.out,by rw [HPT.out,HPV.out,if_pos rfl,List.append_nil];exact HMT.out,HMS0.out,hxB,HGB.out⟩
    | false =>
     rw [hp]at hcl;have HCL:=sqH hcl;have HPV:=sqH hp;clear hcl hp;generalize hsd:(⟨bl.toArray⟩:ByteArray)=sd at *
     have HSD:=sqH hsd;clear hsd;go_wp2_with fail;clear d0;refine HCL.out.mono ?_;rintro e_ wB ⟨rfl,hbB⟩;dsimp only;have hxB:=z6 hxr hbB;have hgB:=HGR.out.trans (show wr.grownBy wB (some g) from⟨hbB.os,hbB.tape,hbB.output,hbB.size,fun k hk _=>hbB.block k hk⟩);obtain⟨hx8,hg8,⟨v0,q0⟩,p0⟩:=k5 hxB hiM (.string sd);rw [show(strs M).set i (.string sd)=strs (M.set i bl) by rw [strs,strs,List.map_set,←HSD.out]]at hx8;have HG9:=sqH (hgB.trans hg8);clear hxr hxB hgB hbB hg8;go_wp2_with fail;clear q0 p0;generalize (wB.setCell ⟨g,i,none⟩ (.string sd))=w8 at *
     go_roundg (l.length - (j+1))
     case measure=>have:=HGK.out;omega
     case rel=>exact⟨i+1,j+1,M.set i bl,rfl,by go_num,by go_num,by omega,by omega,by rw [List.length_set];exact HML.out,by rw [HPT.out,HPV.out,HMK.out,HMT.out];rfl,HMS.out _,hx8,HG9.out⟩
   ·obtain rfl:j=l.length:=by omega
    have hjj:decide (l.length<l.length)=false:=by simp
    have hMl:M.take i=l.filter (fun b=> !p b):=by rw [HMT.out,List.take_length]
    have hle:(l.filter (fun b=> !p b)).length=i:=by rw [←hMl,List.length_take];have:=HML.out;omega
    obtain⟨zs,hzz,hclr,hx9,hg9⟩:=KW hxr i (by omega);have hi0':(0:Int)≤(i:Int):=by omega
    have hi1':(i:Int)≤(l.length:Int):=by omega
    have hi2':(i:Int)≤(cap:Int):=by omega
    have hce:¬cap=i:=by omega
    have HX9:=sqH hx9;have HG9:=sqH (HGR.out.trans hg9);have HLE:=sqH hle;have HML2:=sqH hMl;clear hx9 hg9 hxr hle hMl;go_wp2_with fail;go_ret;refine⟨_,rfl,?_,HG9.out⟩;have h1:=HX9.out;rw [show(strs M).take i=strs (l.filter (fun b=> !p b)) by rw [strs,←List.map_take,HML2.out];rfl]at h1;rw [HLE.out];exact h1
end Go.Proofs.YtdbbehfbkiiloaaGreatDoor
namespace Go.Proofs.YtdbbehfbkiiloaaGreatDoor
open Go.RowKit Go.Maps
theorem Ym (d:List UInt8) (h:hexC d=0) (W:World):Calls Tryz.prog 55 #[.string ⟨d.toArray⟩] W fun e w'=>e= .returned (.int .i64 0)∧Below W.heap.size W w':=by
 have hl:=zJ h;have:=qc ⟨d.toArray⟩ W (by show d.toArray.size≤_;rw [List.size_toArray];omega);rw [show(⟨d.toArray⟩:ByteArray).data.toList=d from rfl,h]at this;exact this
theorem yA (Ag:Option Addr) (ng:Nat) (cp:ColP) (s:StoP) (w:World) (hgl:cp.grey.length≤1000) (hg:GoodC s cp) (hc:RdC w Ag ng cp) :
  Calls Tryz.prog 44 #[coV (.slice Ag cp.grey.length ng) cp] w fun e w'=>e= .returned (.int .i64 0)∧Below w.heap.size w w':=by
 obtain⟨phase,grey,at_⟩:=cp;have h1:=hg.ph;have h2:=hg.gh;have h3:=hg.ris;have h4:=hg.ah;have h5:=hg.g0;have h6:=hg.a0;clear hg;simp only at h1 h2 h3 h4 h5 h6 hgl;rcases (show phase=0∨phase=1∨phase=2 by omega) with rfl | rfl | rfl
 ·obtain rfl:=h5 (by omega);obtain rfl:=h6 (by omega);clear h1 h2 h3 h4 h5 h6 hgl hc;have hx:Arr (w.alloc (.cells #[.int .i64 0,.slice Ag 0 ng,.string ⟨#[]⟩] 29)) w.heap.size 29 [.int .i64 0,.slice Ag 0 ng,.string ⟨#[]⟩]:=Arr.new w 29 _;have hb:=(Below.refl w.heap.size w).alloc (Nat.le_refl _) (.cells #[.int .i64 0,.slice Ag 0 ng,.string ⟨#[]⟩] 29);obtain⟨x0,x1,x2⟩:=sqC3 hx;go_enter Tryz.func44,Tryz.ntmps44;go_wp2_with fail;go_loopg [46] 1 (fun gn i wr=>gn=1∧i= .int .i64 0∧Below w.heap.size w wr)
  case atStart=>exact⟨rfl,rfl,hb⟩
  case round =>
   obtain⟨hgk,rfl,hbl⟩:=hrel;clear hgk;go_wp2_with fail;go_ret;exact⟨rfl,hbl⟩
 ·obtain rfl:=h6 (by omega);clear h4 h5 h6;have hx:Arr (w.alloc (.cells #[.int .i64 1,.slice Ag grey.length ng,.string ⟨#[]⟩] 29)) w.heap.size 29 [.int .i64 1,.slice Ag grey.length ng,.string ⟨#[]⟩]:=Arr.new w 29 _;have hb:=(Below.refl w.heap.size w).alloc (Nat.le_refl _) (.cells #[.int .i64 1,.slice Ag grey.length ng,.string ⟨#[]⟩] 29);have hrd:=hc.rd.below hb;simp only at hrd;have hg63:(grey.length:Int)≤9223372036854775807:=by omega
  obtain⟨x0,x1,x2⟩:=sqC3 hx;have HX:=sqH hx;have HRD:=sqH hrd;have H2:=sqH h2;have H3:=sqH h3;clear h1 h2 h3 hc hx hrd;go_enter Tryz.func44,Tryz.ntmps44;go_wp2_with fail;generalize (w.alloc (.cells #[.int .i64 1,.slice Ag grey.length ng,.string ⟨#[]⟩] 29))=w0 at *
  clear x0 x1 x2;go_loopg [46] grey.length (fun gn i wr=>∃j:Nat,gn=grey.length - j∧i= .int .i64 j∧j≤grey.length∧Below w0.heap.size w0 wr)
  case atStart=>exact⟨0,rfl,rfl,by omega,Below.refl _ _⟩
  case round =>
   obtain⟨j,hgk,rfl,hj,hbl⟩:=hrel;have HGK:=sqH hgk;clear hgk;by_cases hlt:j<grey.length
   rotate_left
   ·obtain rfl:j=grey.length:=by omega
    have hlb:decide (grey.length<grey.length)=false:=by simp
    go_wp2_with fail;go_ret;exact⟨rfl,hb.trans (hbl.mono hb.size)⟩
   have hlb:decide (j<grey.length)=true:=decide_eq_true hlt;have hj0:(0:Int)≤(j:Int):=by omega
   have hj1:(j:Int)<(grey.length:Int):=by omega
   have hrd2:=HRD.out.below hbl;obtain⟨b,off,hAb,hbb,hcell⟩:=hrd2.2 (by omega);subst hAb;have c0:=hcell j _ (qe grey j hlt);have HHX:=sqH (Ym grey[j] (H2.out _ (List.getElem_mem hlt)) wr);have HKL:=sqH hlt;by_cases hj00:0<j
   ·have hq:=List.pairwise_iff_getElem.1 H3.out (j - 1) j (by omega) hlt (by omega);have c1:=hcell (j - 1) _ (qe grey (j - 1) (by omega));generalize grey[j - 1]=q at *
    generalize grey[j]=p at *
    have hkb:decide (0<(j:Int))=true:=decide_eq_true (by omega);have hkc:decide ((j:Int)>0)=true:=decide_eq_true (by omega);have hkd:decide (0<j)=true:=decide_eq_true hj00;have hm1:IntKind.i64.wrap ((j:Int) - 1)=(j:Int) - 1:=IntWalk.i64_in _ (by omega);have hm2:((j:Int) - 1).toNat=j - 1:=by omega
    have hm3:(0:Int)≤(j:Int) - 1:=by omega
    have hm4:(j:Int) - 1<(grey.length:Int):=by omega
    have hm5:(1:Int)≤(j:Int):=by omega
    obtain⟨sq,hsq⟩:∃s:ByteArray,s=⟨q.toArray⟩:=⟨_,rfl⟩
    obtain⟨sp,hsp⟩:∃s:ByteArray,s=⟨p.toArray⟩:=⟨_,rfl⟩
    rw [←hsq]at c1;rw [←hsp]at c0 HHX;have l1:Op.bytesLess sp.toList sq.toList=false:=by
     rw [hsp,hsq,ByteArray.toList_eq,ByteArray.toList_eq];exact qS hq
    have l2:(sp.toList==sq.toList)=false:=by
     rw [hsp,hsq,ByteArray.toList_eq,ByteArray.toList_eq,beq_eq_false_iff_ne];exact(xW hq).symm
    have HCL:=sqH (show ∀W,Below w0.heap.size w0 W→W.cell? ⟨w.heap.size,1,none⟩=some (.slice (some ⟨b,off,none⟩) grey.length ng) from fun W h=>(HX.out.below h).cell (k:=1) rfl);have HBB:=sqH hbb;clear hsq hsp hq hcell hrd2 hbb;go_wp2_with fail;clear c0;refine HHX.out.mono ?_;rintro e_ w5 ⟨rfl,hb5⟩;dsimp only;have hb05:=hbl.trans (hb5.mono hbl.size);have c2:=(hb5.cell (p:=⟨b,off+(j - 1),none⟩) HBB.out).trans c1;have x1:=HCL.out _ hb05;clear c1;go_wp2_with fail;go_roundg (grey.length - (j+1))
    case measure=>have:=HGK.out;have:=HKL.out;omega
    case rel=>exact⟨j+1,rfl,by go_num,by have:=HKL.out;omega,hb05⟩
   ·have hkb:decide (0<(j:Int))=false:=decide_eq_false (by omega);have hkc:decide ((j:Int)>0)=false:=decide_eq_false (by omega);have hkd:decide (0<j)=false:=decide_eq_false hj00;clear hcell hrd2 hbb;go_wp2_with fail;refine HHX.out.mono ?_;rintro e_ w5 ⟨rfl,hb5⟩;dsimp only;have hb05:=hbl.trans (hb5.mono hbl.size);go_wp2_with fail;go_roundg (grey.length - (j+1))
    case measure=>have:=HGK.out;have:=HKL.out;omega
    case rel=>exact⟨j+1,rfl,by go_num,by have:=HKL.out;omega,hb05⟩
 ·obtain rfl:=h5 (by omega);rcases h4 with rfl | h4
  ·clear h1 h2 h3 h5 h6 hgl hc;have hx:Arr (w.alloc (.cells #[.int .i64 2,.slice Ag 0 ng,.string ⟨#[]⟩] 29)) w.heap.size 29 [.int .i64 2,.slice Ag 0 ng,.string ⟨#[]⟩]:=Arr.new w 29 _;have hb:=(Below.refl w.heap.size w).alloc (Nat.le_refl _) (.cells #[.int .i64 2,.slice Ag 0 ng,.string ⟨#[]⟩] 29);obtain⟨x0,x1,x2⟩:=sqC3 hx;go_enter Tryz.func44,Tryz.ntmps44;go_wp2_with fail;go_loopg [46] 1 (fun gn i wr=>gn=1∧i= .int .i64 0∧Below w.heap.size w wr)
   case atStart=>exact⟨rfl,rfl,hb⟩
   case round =>
    obtain⟨hgk,rfl,hbl⟩:=hrel;clear hgk;go_wp2_with fail;go_ret;exact⟨rfl,hbl⟩
  ·clear h1 h2 h3 h5 h6 hgl hc;by_cases hem:at_= []
   ·subst hem;exact absurd h4 (by decide)
   have HH:=fun W=>Ym at_ h4 W;have hne:(⟨at_.toArray⟩:ByteArray).toList.isEmpty=false:=by
    rw [ByteArray.toList_eq];cases at_ with
    | nil=>exact absurd rfl hem
    | cons a l=>rfl
   obtain⟨ds,hds⟩:∃s:ByteArray,s=⟨at_.toArray⟩:=⟨_,rfl⟩
   simp only [coV];rw [←hds]at hne HH ⊢
   clear hds h4 hem;have HHX:=sqH HH;clear HH;have hx:Arr (w.alloc (.cells #[.int .i64 2,.slice Ag 0 ng,.string ds] 29)) w.heap.size 29 [.int .i64 2,.slice Ag 0 ng,.string ds]:=Arr.new w 29 _;have hb:=(Below.refl w.heap.size w).alloc (Nat.le_refl _) (.cells #[.int .i64 2,.slice Ag 0 ng,.string ds] 29);obtain⟨x0,x1,x2⟩:=sqC3 hx;go_enter Tryz.func44,Tryz.ntmps44;go_wp2_with fail;refine(HHX.out _).mono ?_;rintro e_ w5 ⟨rfl,hb5⟩;dsimp only;have x0':=(hx.below hb5).cell (k:=0) rfl;have x1':=(hx.below hb5).cell (k:=1) rfl;have x2':=(hx.below hb5).cell (k:=2) rfl;have hb05:=hb.trans (hb5.mono hb.size);go_wp2_with fail;go_loopg [46] 1 (fun gn i wr=>gn=1∧i= .int .i64 0∧Below w.heap.size w wr)
   case atStart=>exact⟨rfl,rfl,hb05⟩
   case round =>
    obtain⟨hgk,rfl,hbl⟩:=hrel;clear hgk;go_wp2_with fail;go_ret;exact⟨rfl,hbl⟩
theorem jK {bl:List BlobP} {d:List UInt8} {L:List (List UInt8)} (h:StrL L (Rch bl [d])):((L.length:Int)==0)= !(bl.any (fun b=>b.dig==d)):=by
 cases ha:bl.any (fun b=>b.dig==d) with
 | true =>
  obtain⟨b,hb,e⟩:=List.any_eq_true.1 ha;have hm:=(h.mem d).2 (.root (List.mem_singleton.2 rfl) ⟨b,hb,by simpa using e⟩);have:=List.length_pos_of_mem hm;rw [beq_eq_false_iff_ne.2 (by omega)];rfl
 | false =>
  have hn:L= []:=by
   cases L with
   | nil=>rfl
   | cons x L =>
    exfalso;have hx:=(h.mem x).1 (by simp);have key:∀y,Rch bl [d] y→InB bl d:=fun y hy=>by
     induction hy with
     | root h1 h2=>rw [List.mem_singleton]at h1;subst h1;exact h2
     | step _ _ _ ih=>exact ih
    obtain⟨b,hb,e⟩:=key x hx;have:=List.any_eq_false.1 ha b hb;simp [e]at this
  rw [hn];rfl
theorem QE (gs c:Nat) (A:Option Addr) (bl:List BlobP) (d:List UInt8) (w:World) (hl:bl.length≤1000) (hcap:bl.length≤c) (hcm:c≤maxLen) (hdig:∀x∈bl,x.dig.length≤1000) (hrd:Rw BlobS w A bl) (hx:w.cell? ⟨gs,0,none⟩=some (.slice A bl.length c)) :
  Calls Tryz.prog 50 #[.string ⟨d.toArray⟩,.pointer (some ⟨gs,0,none⟩)] w fun e w'=>e= .returned (.bool (!(bl.any (fun b=>b.dig==d))))∧Below w.heap.size w w':=by
 have hb1:=(Below.refl w.heap.size w).alloc (Nat.le_refl _) (.cells #[.string ⟨d.toArray⟩] 9);have hbx:Arr (w.alloc (.cells #[.string ⟨d.toArray⟩] 9)) w.heap.size 9 (strs [d]):=Arr.new w 9 _;have HFR:=sqH (j0 A (some ⟨w.heap.size,0,none⟩) c 1 bl [d] _ hl hcap hcm hdig (hrd.below hb1) (by simp) (Rd.of_arr hbx rfl rfl));clear hrd hbx;go_enter Tryz.func50,Tryz.ntmps50;go_wp2_with fail;refine HFR.out.mono ?_;rintro e_ w2 ⟨v,L,rfl,hL,hLl,hown,hb2⟩;dsimp only;obtain⟨Av,cv,rfl, -, -⟩:=Rd.of_own' hown;have hfn:=jK hL;go_wp2_with fail;go_ret;rw [←hfn];exact⟨rfl,hb1.trans (hb2.mono hb1.size)⟩
theorem uq (w w0:World) (g:Option Nat) (gs c:Nat) (A:Option Addr) (bl:List BlobP) (l:List (List UInt8)) (hl:bl.length≤1000) (hcap:bl.length≤c) (hcm:c≤maxLen) (hdig:∀x∈bl,x.dig.length≤1000) (hrd:Rw BlobS w0 A bl) (hx:w0.cell? ⟨gs,0,none⟩=some (.slice A bl.length c)) (hgs:gs<w0.heap.size) (hB:∀W,w.grownBy W g→Below w0.heap.size w0 W) :
  je w g l 50 (.pointer (some ⟨gs,0,none⟩)) (fun d=> !(bl.any (fun b=>b.dig==d))):=by
 refine⟨fun _ _=>by kernel_rfl,fun b W _ hbel=> ?_⟩;have h:=hB W hbel;exact QE gs c A bl b W hl hcap hcm hdig (hrd.below h) ((h.cell (p:=⟨gs,0,none⟩) hgs).trans hx)
def prt (bl:List BlobP):List (List UInt8):=(bl.filter (·.mark)).flatMap fun b=>(kC b.data).1.map (·.dig)
theorem vU (bl:List BlobP) (k:Nat) (h:k<bl.length):prt (bl.take (k+1))=prt (bl.take k)++(if bl[k].mark then (kC bl[k].data).1.map (·.dig) else []):=by
 unfold prt;rw [List.take_succ_eq_append_getElem h,List.filter_append,List.flatMap_append]
 congr 1
 by_cases hp:bl[k].mark=true
 ·rw [if_pos hp,List.filter_cons_of_pos hp];simp
 ·rw [if_neg hp,List.filter_cons_of_neg hp];rfl
theorem Z8 (bl:List BlobP):∀k,k≤bl.length→(prt (bl.take k)).length≤8*k
 | 0,_=>by simp [prt]
 | k+1,h=>by
  have ih:=Z8 bl k (by omega)
  rw [vU bl k (by omega),List.length_append]
  have:=kq (bl[k]'(by omega)).data
  split
  ·rw [List.length_map];omega
  ·simp only [List.length_nil];omega
theorem K2 {s:StoP} {cp:ColP} {R:List (List UInt8)} (hg:GoodS s) (hc:GoodC s cp) (hp:cp.phase=1) (hR:StrL R (fun x=>x∈rts s)):∀x∈(R++prt s.blobs).filter (fun d=> !(!(s.blobs.any (fun b=>b.dig==d)))),x∈mkd s.blobs++cp.grey:=by
 intro x hx;obtain⟨h1,h2⟩:=List.mem_filter.1 hx;rw [Bool.not_not]at h2;obtain⟨b,hb,e⟩:=List.any_eq_true.1 h2;have hin:InB s.blobs x:=⟨b,hb,by simpa using e⟩
 rw [List.mem_append];rcases List.mem_append.1 h1 with h | h
 ·exact hc.mr hp x ((hR.mem x).1 h) hin
 ·obtain⟨y,hy,hyx⟩:=List.mem_flatMap.1 h;obtain⟨hy1,hy2⟩:=List.mem_filter.1 hy;exact hc.mb hp y hy1 (by simpa using hy2) x (by rw [yG hg.b.ris hy1];exact hyx) hin
end Go.Proofs.YtdbbehfbkiiloaaGreatDoor
namespace Go.Proofs.YtdbbehfbkiiloaaGreatDoor
open Go.RowKit
theorem jM {s:StoP} (hg:GoodS s):∀b∈s.blobs,b.dig≠ []:=fun b hb e=>by
 have h1:=zJ (zD b.data)
 rw [←(hg.b.one b hb).1,e]at h1
 cases h1
end Go.Proofs.YtdbbehfbkiiloaaGreatDoor
namespace Go.Proofs.YtdbbehfbkiiloaaGreatDoor
open Go.RowKit Go.Maps
def qY (bl:List BlobP) (L:List (List UInt8)):List BlobP:=bl.map fun b=>if b.dig∈L then { b with mark:=true } else b
theorem xw (bl:List BlobP) (L:List (List UInt8)):EqM bl (qY bl L):=by
 unfold EqM qY;rw [List.map_map];refine List.map_congr_left fun b _=> ?_;show NoM b=NoM (if b.dig∈L then { b with mark:=true } else b);split<;>rfl
end Go.Proofs.YtdbbehfbkiiloaaGreatDoor
namespace Go.Proofs.YtdbbehfbkiiloaaGreatDoor
open Go.RowKit
noncomputable def Zz (bl:List BlobP) (ds:List (List UInt8)):List (List UInt8):=(bl.filter (fun b=> @decide (Rch bl ds b.dig) (Classical.propDecidable _))).map (·.dig)
theorem Q5 {bl:List BlobP} {ds:List (List UInt8)} {x:List UInt8}:x∈Zz bl ds↔Rch bl ds x:=by
 unfold Zz;rw [List.mem_map];constructor
 ·rintro⟨b,hb,rfl⟩;exact @of_decide_eq_true _ (Classical.propDecidable _) (List.mem_filter.1 hb).2
 ·intro h;obtain⟨b,hb,rfl⟩:=h.inB;exact⟨b,List.mem_filter.2 ⟨hb, @decide_eq_true _ (Classical.propDecidable _) h⟩,rfl⟩
noncomputable def zL (s:StoP) (c:ColP) (ds:List (List UInt8)):StoP×ColP :=
 if c.phase=1 then (s,⟨1,uni (c.grey++ds),c.at_⟩) else if c.phase=2 then ({ s with blobs:=qY s.blobs (Zz s.blobs ds) },c) else (s,c)
theorem Y8 {s:StoP} {c:ColP} {ds:List (List UInt8)} (h:c.phase=0):zL s c ds=(s,c):=by unfold zL;rw [if_neg (by omega),if_neg (by omega)]
theorem Y9 {s:StoP} {c:ColP} {ds:List (List UInt8)} (h:c.phase=1):zL s c ds=(s,⟨1,uni (c.grey++ds),c.at_⟩):=by unfold zL;rw [if_pos h]
theorem Ya {s:StoP} {c:ColP} {ds:List (List UInt8)} (h:c.phase=2):zL s c ds=({ s with blobs:=qY s.blobs (Zz s.blobs ds) },c):=by unfold zL;rw [if_neg (by omega),if_pos h]
theorem Q0 (s:StoP) (c:ColP) (ds:List (List UInt8)):EqM s.blobs (zL s c ds).1.blobs:=by
 unfold zL;split
 ·exact EqM.rfl_ _
 ·split
  ·exact xw _ _
  ·exact EqM.rfl_ _
theorem qt (s:StoP) (c:ColP) (ds:List (List UInt8)):(zL s c ds).1= { s with blobs:=(zL s c ds).1.blobs }:=by
 unfold zL;split
 ·rfl
 ·split<;>rfl
theorem xr {s:StoP} (c:ColP) (ds:List (List UInt8)) (hg:GoodS s):GoodS (zL s c ds).1:=by
 rw [qt];exact ZX (Q0 s c ds) hg
theorem jY {bl:List BlobP} {L:List (List UInt8)} {x:List UInt8}:x∈mkd (qY bl L)↔x∈mkd bl∨(x∈L∧InB bl x):=by
 rw [qW,qW];unfold qY;constructor
 ·rintro⟨b,hb,hm,rfl⟩;obtain⟨a,ha,rfl⟩:=List.mem_map.1 hb;by_cases h:a.dig∈L
  ·rw [if_pos h];exact .inr ⟨h,a,ha,rfl⟩
  ·rw [if_neg h]at hm ⊢;exact .inl ⟨a,ha,hm,rfl⟩
 ·rintro(⟨b,hb,hm,rfl⟩ | ⟨hx,b,hb,rfl⟩)
  ·refine⟨_,List.mem_map.2 ⟨b,hb,rfl⟩,?_,?_⟩<;>split<;>first | rfl | exact hm
  ·exact⟨_,List.mem_map.2 ⟨b,hb,rfl⟩,by rw [if_pos hx],by rw [if_pos hx]⟩
theorem yh {s t:StoP} {c:ColP} {ds:List (List UInt8)} (hc:GoodC s c) (hr:RisesBy (·.dig) s.blobs) (hr':RisesBy (·.dig) t.blobs)
  (hh:∀d∈ds,hexC d=0) (hrt:∀x∈rts t,x∈rts s∨x∈ds)
  (hin:∀x,InB t.blobs x→InB s.blobs x∨x∈ds)
  (hmk:∀x,x∈mkd t.blobs↔x∈mkd s.blobs)
  (hkd:∀x,InB s.blobs x→kids t.blobs x=kids s.blobs x):GoodC (zL t c ds).1 (zL t c ds).2:=by
 by_cases h1:c.phase=1
 ·rw [Y9 h1];refine⟨by show 1≤2;omega,fun d hd=> ?_,kL _,hc.ah,fun h=>absurd rfl h,fun _=>hc.a0 (by omega),fun _ x hx hb=> ?_,fun _ b hb hm x hx hi=> ?_,fun h=>by cases h⟩
  ·rcases List.mem_append.1 (yI.1 hd) with h | h
   ·exact hc.gh d h
   ·exact hh d h
  ·show x∈mkd t.blobs∨x∈uni (c.grey++ds);rw [yI,List.mem_append];rcases hrt x hx with h | h
   ·rcases hin x hb with h2 | h2
    ·rcases hc.mr h1 x h h2 with h3 | h3
     ·exact .inl ((hmk x).2 h3)
     ·exact .inr (.inl h3)
    ·exact .inr (.inr h2)
   ·exact .inr (.inr h)
  ·show x∈mkd t.blobs∨x∈uni (c.grey++ds);rw [yI,List.mem_append];have hbm:b.dig∈mkd s.blobs:=(hmk _).1 (qW.2 ⟨b,hb,hm,rfl⟩);obtain⟨b',hb',hm',e⟩:=qW.1 hbm;have hx':x∈kids s.blobs b'.dig:=by
    have h2:=hkd b'.dig ⟨b',hb',rfl⟩;rw [←h2,e];exact hx
   rcases hin x hi with h2 | h2
   ·rcases hc.mb h1 b' hb' hm' x hx' h2 with h3 | h3
    ·exact .inl ((hmk x).2 h3)
    ·exact .inr (.inl h3)
   ·exact .inr (.inr h2)
 ·by_cases h2:c.phase=2
  ·rw [Ya h2];have hg0:=hc.g0 h1;refine⟨hc.ph,hc.gh,hc.ris,hc.ah,hc.g0,hc.a0,fun h=>absurd h h1,fun h=>absurd h h1,fun _ x hx=> ?_⟩;show x∈mkd (qY t.blobs (Zz t.blobs ds));have hE:EqM t.blobs (qY t.blobs (Zz t.blobs ds)):=xw _ _;have hx':Rch t.blobs (rts t) x:=by
    have:Rch (qY t.blobs (Zz t.blobs ds)) (rts { t with blobs:=qY t.blobs (Zz t.blobs ds) }) x:=hx;rw [Kc hE,Ka hE]at this;exact this
   clear hx;rw [jY];have key:Rch s.blobs (rts s) x∨Rch t.blobs ds x:=by
    induction hx' with
    | @root x h3 h4 =>
     rcases hrt x h3 with h | h
     ·rcases hin x h4 with h5 | h5
      ·exact .inl (.root h h5)
      ·exact .inr (.root h5 h4)
     ·exact .inr (.root h h4)
    | @step x y h3 h4 h5 ih =>
     rcases ih with ih | ih
     ·rw [hkd x ih.inB]at h4;rcases hin y h5 with h6 | h6
      ·exact .inl (.step ih h4 h6)
      ·exact .inr (.root h6 h5)
     ·exact .inr (.step ih h4 h5)
   rcases key with h | h
   ·exact .inl ((hmk x).2 (hc.sw h2 x h))
   ·exact .inr ⟨Q5.2 h,h.inB⟩
  ·have h0:c.phase=0:=by have:=hc.ph;omega
   rw [Y8 h0];exact⟨hc.ph,hc.gh,hc.ris,hc.ah,hc.g0,hc.a0,fun h=>absurd h h1,fun h=>absurd h h1,fun h=>absurd h h2⟩
theorem xt (s:StoP) (c:ColP) (ds:List (List UInt8)):8*unm (zL s c ds).1.blobs+(zL s c ds).2.grey.length≤8*unm s.blobs+c.grey.length+ds.length:=by
 unfold zL;split
 ·have:=Ky (c.grey++ds);rw [List.length_append]at this;show 8*unm s.blobs+(uni (c.grey++ds)).length≤_;omega
 ·split
  ·have h:unm (qY s.blobs (Zz s.blobs ds))≤unm s.blobs:=by
    unfold unm qY;generalize Zz s.blobs ds=L;generalize s.blobs=bl
    induction bl with
    | nil=>exact Nat.le_refl _
    | cons b bl ih =>
     rw [List.map_cons,List.filter_cons,List.filter_cons];by_cases hb:b.dig∈L
     ·rw [if_pos hb];cases hm:b.mark with
      | true=>simpa [hm] using ih
      | false=>simp only [hm];simp;omega
     ·rw [if_neg hb];cases hm:b.mark with
      | true=>simpa [hm] using ih
      | false=>simpa [hm] using ih
   show 8*unm (qY s.blobs _)+c.grey.length≤_;omega
  ·show 8*unm s.blobs+c.grey.length≤_;omega
structure Bsy (m:Nat) (s:StoP) (c:ColP):Prop where
 g:GoodS s
 gc:GoodC s c
 gr:8*unm s.blobs+c.grey.length≤296+9*m
 k7:∀x∈s.ents,∃j,j<7∧x.key=keyS j
 ck:s.clock≤24+m
theorem Bsy.e7 {m:Nat} {s:StoP} {c:ColP} (h:Bsy m s c):s.ents.length≤7:=by
 have h1:=yi (ks:=s.ents.map (·.key)) (by
  have:Rises (s.ents.map (·.key)):=h.g.e.ris.map;exact this.nodup) (fun k hk=>by
  obtain⟨x,hx,rfl⟩:=List.mem_map.1 hk;exact h.k7 x hx)
 rwa [List.length_map]at h1
theorem Bsy.up {m n:Nat} {s:StoP} {c:ColP} (h:Bsy m s c) (hn:m≤n):Bsy n s c:=⟨h.g,h.gc,by have:=h.gr;omega,h.k7,by have:=h.ck;omega⟩
theorem vh {l:List BlobP} {D:List UInt8} {b:BlobP} (h:b∈putB l D):b∈l∨b=⟨shaS D,D,0,false⟩:=by
 unfold putB at h;cases hf:l.findIdx? (fun b=>b.dig==shaS D) with
 | none =>
  rw [hf]at h;rcases List.mem_cons.1 ((zj _ _).mem_iff.1 h) with h | h
  ·exact .inr h
  ·exact .inl h
 | some i=>rw [hf]at h;exact .inl h
theorem kU {p:BlobP→Bool} (l:List BlobP) (D:List UInt8):((putB l D).filter p).length≤(l.filter p).length+1:=by
 unfold putB;cases hf:l.findIdx? (fun b=>b.dig==shaS D) with
 | none =>
  show((srt _ _).filter p).length≤_;rw [((zj _ _).filter p).length_eq,List.filter_cons];split
  ·simp
  ·omega
 | some i=>show(l.filter p).length≤_;omega
theorem Bsy.put {m:Nat} {s:StoP} {c:ColP} {D:List UInt8} (h:Bsy m s c) (hf:Fits s D):Bsy (m+1) (zL (kY s D) c [shaS D]).1 (zL (kY s D) c [shaS D]).2:=by
 have ht:GoodS (kY s D):=hf.good;have hsub:∀b∈s.blobs,b∈(kY s D).blobs:=fun b hb=>vV hb;refine⟨xr c _ ht,yh h.gc h.g.b.ris ht.b.ris (fun d hd=> ?_) (fun x hx=> ?_) (fun x hx=> ?_) (fun x=> ?_) (fun x hx=> ?_),?_,?_,?_⟩
 ·rw [List.mem_singleton.1 hd];exact zD _
 ·left;rcases List.mem_append.1 hx with h1 | h1
  ·exact List.mem_append_left _ h1
  ·obtain⟨b,hb,rfl⟩:=List.mem_map.1 h1;obtain⟨h2,h3⟩:=List.mem_filter.1 hb;rcases vh h2 with h4 | h4
   ·exact List.mem_append_right _ (List.mem_map.2 ⟨b,List.mem_filter.2 ⟨h4,h3⟩,rfl⟩)
   ·subst h4;simp at h3
 ·obtain⟨b,hb,rfl⟩:=hx;rcases vh hb with h4 | h4
  ·exact .inl ⟨b,h4,rfl⟩
  ·subst h4;exact .inr (List.mem_singleton.2 rfl)
 ·rw [qW,qW];constructor
  ·rintro⟨b,hb,hm,e⟩;rcases vh hb with h4 | h4
   ·exact⟨b,h4,hm,e⟩
   ·subst h4;cases hm
  ·rintro⟨b,hb,hm,e⟩;exact⟨b,hsub b hb,hm,e⟩
 ·exact(yH ht.b.ris h.g.b.ris hsub hx).symm
 ·have h1:=xt (kY s D) c [shaS D];have h2:unm (kY s D).blobs≤unm s.blobs+1:=kU s.blobs D;have h3:=h.gr;simp only [List.length_singleton]at h1;omega
 ·rw [qt];exact h.k7
 ·rw [qt];have:=h.ck;show s.clock≤_;omega
theorem yM {l:List EntP} {x y:EntP} (h:y∈Zy l x):y∈l∨(y.key=x.key∧y.parts=x.parts):=by
 unfold Zy at h;cases hf:l.findIdx? (fun y=>y.key==x.key) with
 | none =>
  rw [hf]at h;rcases List.mem_cons.1 ((zj _ _).mem_iff.1 h) with h | h
  ·subst h;exact .inr ⟨rfl,rfl⟩
  ·exact .inl h
 | some i =>
  rw [hf]at h;rcases List.mem_or_eq_of_mem_set h with h | h
  ·exact .inl h
  ·subst h;exact .inr ⟨rfl,rfl⟩
theorem Bsy.pute {m:Nat} {s:StoP} {c:ColP} {K:List UInt8} {ps:List PartP} (h:Bsy m s c) (hK:∃j,j<7∧K=keyS j) (hp:chk ps=0) (hh:zM s.blobs ps=0) (hc:s.clock<1099511627776):Bsy (m+1) (zL (xD s K ps) c (ps.map (·.dig))).1 (zL (xD s K ps) c (ps.map (·.dig))).2:=by
 have hKx:hexC K=0:=by obtain⟨j,_,rfl⟩:=hK;exact zD _
 have ht:GoodS (xD s K ps):=uI h.g hKx hp (kg hh) hc (by have:=h.e7;omega);refine⟨xr c _ ht,yh h.gc h.g.b.ris ht.b.ris (fun d hd=> ?_) (fun x hx=> ?_) (fun x hx=> .inl hx) (fun x=>Iff.rfl) (fun x hx=>rfl),?_,?_,?_⟩
 ·obtain⟨p,hpm,rfl⟩:=List.mem_map.1 hd;exact((zC hp).2 p hpm).2.1
 ·rcases List.mem_append.1 hx with h1 | h1
  ·obtain⟨y,hy,h2⟩:=List.mem_flatMap.1 h1;rcases yM hy with h3 | ⟨_,h3⟩
   ·exact .inl (List.mem_append_left _ (List.mem_flatMap.2 ⟨y,h3,h2⟩))
   ·rw [h3]at h2;exact .inr h2
  ·exact .inl (List.mem_append_right _ h1)
 ·have h1:=xt (xD s K ps) c (ps.map (·.dig));have h2:unm (xD s K ps).blobs=unm s.blobs:=rfl;have h3:=h.gr;have h4:=(zC hp).1;rw [List.length_map]at h1;omega
 ·rw [qt];intro x hx;rcases yM (show x∈Zy s.ents _ from hx) with h3 | ⟨h3,_⟩
  ·exact h.k7 x h3
  ·rw [h3];exact hK
 ·rw [qt];have:=h.ck;show s.clock+1≤_;omega
end Go.Proofs.YtdbbehfbkiiloaaGreatDoor
