/- Lemmas, as stated. -/
import Derived.Test.YtaboknhfiijipaaGreatRows
import Derived.ProofKit
import Derived.Test.YtaboknhfiijipaaGreatQC20
import Derived.Test.YtaboknhfiijipaaGreatQC22
set_option linter.unusedVariables false
set_option linter.unusedSimpArgs false
open Go.Proofs.Tryz renaming prog->zZZ
namespace Go.Proofs.YtaboknhfiijipaaGreat
open Go.RowKit Go.Maps
variable {x:EntP} {n:Int} {es:List EntP} {fs:List FlP} {ps:List PartP} {l:LoP} {i m:Nat} {s:StoP} {k key:aj}
abbrev stZ:StoP:=⟨[], [],0,0⟩
abbrev coZ:ColP:=⟨0, [], []⟩
abbrev loZ:LoP:=⟨stZ,coZ, []⟩
def yu (fs:List FlP) (key:aj) (n:Int):List FlP×Bool×Nat :=
 match fnd 0 fs key with
 | none=>if fs.length=6 then ([],false,7) else (fs++ [⟨key,n, []⟩],true,0)
 | some i=>match fs[i]? with
  | none=>([],false,0)
  | some p=>if (p.lead::p.wait).contains n then ([],false,6) else if p.wait.length=5 then ([],false,7) else (fs.set i ⟨p.key,p.lead,p.wait++ [n]⟩,false,0)
def xh (fs:List FlP) (key:aj):List FlP×List Int×Nat :=
 match fnd 0 fs key with
 | none=>([], [],5)
 | some i=>match fs[i]? with
  | none=>([], [],0)
  | some p=>(fs.eraseIdx i,p.lead::p.wait,0)
noncomputable def qQ (s:StoP) (c:ColP) (key:aj) (ps:List PartP):StoP×ColP×Nat :=
 if qP s.aJ ps=0 then ((zH (xL s key ps) c (ps.map (·.dig))).1,(zH (xL s key ps) c (ps.map (·.dig))).2,0) else (stZ,coZ,qP s.aJ ps)
def Zn (l:LoP) (key:aj) (n:Int):LoP×List PartP×Bool×Nat :=
 match l.st.aK.findIdx? (fun x=>x.key==key) with
 | some i=>match l.st.aK[i]? with
  | none=>(loZ, [],false,0)
  | some x=>({ l with st:=kB l.st i x },x.aQ,false,0)
 | none=>if (yu l.fs key n).2.2=0 then ({ l with fs:=(yu l.fs key n).1 }, [],(yu l.fs key n).2.1,0) else (loZ, [],false,(yu l.fs key n).2.2)
noncomputable def kW (l:LoP) (key:aj) (ps:List PartP):LoP×List Int×Nat :=
 if (xh l.fs key).2.2=0 then
  if (qQ l.st l.co key ps).2.2=0 then (⟨(qQ l.st l.co key ps).1,(qQ l.st l.co key ps).2.1,(xh l.fs key).1⟩,(xh l.fs key).2.1,0) else (loZ, [],(qQ l.st l.co key ps).2.2)
 else (loZ, [],(xh l.fs key).2.2)
def xz (l:LoP) (key:aj):LoP×List Int×Nat :=
 if (xh l.fs key).2.2=0 then ({ l with fs:=(xh l.fs key).1 },(xh l.fs key).2.1,0) else (loZ, [],(xh l.fs key).2.2)
noncomputable def Vv (l:LoP) (key:aj) (ps:List PartP):LoP×Nat :=
 if (fnd 0 l.fs key).isSome then (loZ,10)
 else if (qQ l.st l.co key ps).2.2=0 then (⟨(qQ l.st l.co key ps).1,(qQ l.st l.co key ps).2.1,l.fs⟩,0) else (loZ,(qQ l.st l.co key ps).2.2)
theorem Zb (s:StoP) (c:ColP) (ds:List aj):(zH s c ds).1.aM=s.aM/\(zH s c ds).1.aL=s.aL:=by
 rw [kG];exact⟨rfl,rfl⟩
theorem Z8:es.findIdx? (fun x=>x.key==k)=none↔∀x∈es,x.key≠k:=by
 rw [List.findIdx?_eq_none_iff];simp
theorem Z9 (h:es.findIdx? (fun x=>x.key==k)=some i):∃hi:i<es.length,es[i].key=k:=by
 obtain⟨hi,h1,_⟩:=List.findIdx?_eq_some_iff_getElem.1 h;exact⟨hi,by simpa using h1⟩
theorem GoodL.apart (h:GoodL l):∀p∈l.fs,∀x∈l.st.aK,x.key≠p.key:=fun p hp=>by
 obtain⟨j,hj,rfl⟩:=List.getElem_of_mem hp
 exact Z8.1 (h.no j hj)
theorem GoodL.of (hs:GoodS l.st) (hc:GoodC l.st l.co) (hg:l.co.aN.length<=1000) (hf:GoodF l.fs) (hn:∀p∈l.fs,∀x∈l.st.aK,x.key≠p.key):GoodL l :=
 ⟨hs,hc,hg,hf,fun j hj=>Z8.2 (hn _ (List.getElem_mem hj))⟩
theorem vt {t:StoP} {c:ColP} (h:GoodC s c) (hb:t.aJ=s.aJ) (hr:∀x∈rts t,x∈rts s):GoodC t c :=
 ⟨h.ph,h.gh,h.ris,h.ah,h.g0,h.a0,fun h1 x hx hb'=>by rw [hb]at hb' ⊢;exact h.mr h1 x (hr x hx) hb',fun h1=>by rw [hb];exact h.mb h1,fun h1 x hx=>by
  rw [hb]at hx ⊢
  exact h.sw h1 x (hx.dmono hr)⟩
theorem KG (hi:i<es.length) (h:x.aQ=es[i].aQ):vR (es.set i x)=vR es:=by
 unfold vR;rw [List.flatMap_def,List.flatMap_def,KN (fun x:EntP=>x.aQ.map (·.dig)) hi (by rw [h])]
theorem Kq (hi:i<s.aK.length):rts (kB s i s.aK[i])=rts s:=by
 show vR (s.aK.set i { s.aK[i] with aP:=s.aL+1 })++xQ s.aJ=vR s.aK++xQ s.aJ;rw [KG (x:= { s.aK[i] with aP:=s.aL+1 }) hi rfl]
theorem xd {y:EntP} (hi:i<es.length) (hk:x.key=es[i].key) (h:y∈es.set i x):∃z∈es,z.key=y.key:=by
 rcases List.mem_or_eq_of_mem_set h with h | rfl
 ·exact⟨y,h,rfl⟩
 ·exact⟨es[i],List.getElem_mem hi,hk.symm⟩
theorem GoodL.get (h:GoodL l) (hi:i<l.st.aK.length) (hc:l.st.aL<1099511627776):GoodL { l with st:=kB l.st i l.st.aK[i] } :=
 .of (ZO h.s hi hc) (vt h.c rfl (fun x hx=>by rw [Kq hi]at hx;exact hx)) h.g h.f fun p hp x hx=>by
  obtain⟨z,hz,e⟩:=xd (x:= { l.st.aK[i] with aP:=l.st.aL+1 }) hi rfl hx
  rw [<-e]
  exact h.apart p hp z hz
theorem Yx (h:GoodF fs) (hk:hexC key=0) (hkl:key.length<=1000) (h1:1<=n) (h2:n<=1000) (h0:(yu fs key n).2.2=0) :
  GoodF (yu fs key n).1/\(∀p∈(yu fs key n).1,p.key=key\/∃q∈fs,q.key=p.key)/\(yu fs key n).1.length<=fs.length+1:=by
 unfold yu at h0 ⊢
 cases hf:fnd 0 fs key with
 | none =>
  rw [hf]at h0;simp only at h0 ⊢
  by_cases h6:fs.length=6
  ·rw [if_pos h6]at h0;cases h0
  ·rw [if_neg h6];refine⟨h.snoc (by have:=h.len;omega) hk hkl hf h1 h2,fun p hp=> ?_,ac⟩;rcases List.mem_append.1 hp with hp | hp
   ·exact .inr ⟨p,hp,rfl⟩
   ·rw [List.mem_singleton.1 hp];exact .inl rfl
 | some i =>
  obtain⟨hi,hik⟩:=yj hf;rw [hf]at h0;simp only [List.getElem?_eq_getElem hi]at h0 ⊢
  by_cases hc:(fs[i].lead::fs[i].wait).contains n=true
  ·rw [if_pos hc]at h0;cases h0
  ·rw [if_neg hc]at h0 ⊢
   by_cases h5:fs[i].wait.length=5
   ·rw [if_pos h5]at h0;cases h0
   ·rw [if_neg h5];refine⟨h.set hi h1 h2 (by simpa using hc) (by have:=h.few i hi;omega),fun p hp=> ?_,ac⟩;rcases List.mem_or_eq_of_mem_set hp with hp | rfl
    ·exact .inr ⟨p,hp,rfl⟩
    ·exact .inl hik
structure LInv (m:Nat) (l:LoP):Prop where
 b:Bsy m l.st l.co
 f:GoodF l.fs
 ap:∀p∈l.fs,∀x∈l.st.aK,x.key≠p.key
 k7:∀p∈l.fs,∃j,j<7/\p.key=keyS j
theorem LInv.good (h:LInv m l) (hm:m<=78):GoodL l:= .of h.b.g h.b.gc (by have:=h.b.gr;omega) h.f h.ap
theorem LInv.up {n:Nat} (h:LInv m l) (hn:m<=n):LInv n l:=⟨h.b.up hn,h.f,h.ap,h.k7⟩
theorem LInv.get (h:LInv m l) (hm:m<=1000) (hi:i<l.st.aK.length):LInv (m+1) { l with st:=kB l.st i l.st.aK[i] }:=by
 have hc:l.st.aL<1099511627776:=by have:=h.b.ck;omega
 have hk:∀x∈(kB l.st i l.st.aK[i]).aK,∃z∈l.st.aK,z.key=x.key:=fun x hx=>xd (x:= { l.st.aK[i] with aP:=l.st.aL+1 }) hi rfl hx;refine⟨⟨ZO h.b.g hi hc,vt h.b.gc rfl (fun x hx=>by rw [Kq hi]at hx;exact hx),?_,fun x hx=> ?_,?_⟩,h.f,fun p hp x hx=> ?_,h.k7⟩
 ·have:=h.b.gr;show 8*unm l.st.aJ+l.co.aN.length<=_;omega
 ·obtain⟨z,hz,e⟩:=hk x hx;rw [<-e];exact h.b.k7 z hz
 ·have:=h.b.ck;show l.st.aL+1<=_;omega
 ·obtain⟨z,hz,e⟩:=hk x hx;rw [<-e];exact h.ap p hp z hz
theorem LInv.ask (h:LInv m l) (hm:m<=78) (hk:∃j,j<7/\key=keyS j) (h1:1<=n) (h2:n<=1000) (h0:(Zn l key n).2.2.2=0):LInv (m+1) (Zn l key n).1:=by
 have hkx:hexC key=0/\key.length<=1000:=by obtain⟨j,_,rfl⟩:=hk;exact⟨zr _,by rw [keyS,Zg];omega⟩
 unfold Zn at h0 ⊢
 cases hf:l.st.aK.findIdx? (fun x=>x.key==key) with
 | some i =>
  obtain⟨hi,_⟩:=Z9 hf;simp only [List.getElem?_eq_getElem hi];exact h.get ww hi
 | none =>
  rw [hf]at h0;simp only at h0 ⊢
  split at h0
  ·rename_i hj;rw [if_pos hj];obtain⟨a1,a2,_⟩:=Yx h.f hkx.1 hkx.2 h1 h2 hj;refine⟨h.b.up (Nat.le_succ _),a1,fun p hp x hx=> ?_,fun p hp=> ?_⟩
   ·rcases a2 p hp with e | ⟨q,hq,e⟩
    ·rw [e];exact Z8.1 hf x hx
    ·rw [<-e];exact h.ap q hq x hx
   ·rcases a2 p hp with e | ⟨q,hq,e⟩
    ·rw [e];exact hk
    ·rw [<-e];exact h.k7 q hq
  ·rename_i hj;exact absurd h0 hj
theorem ZL (h:GoodF fs) (h0:(xh fs key).2.2=0) :
  GoodF (xh fs key).1/\(∀p∈(xh fs key).1,p∈fs/\p.key≠key)/\∃i,∃hi:i<fs.length,fs[i].key=key/\xh fs key=(fs.eraseIdx i,fs[i].lead::fs[i].wait,0):=by
 unfold xh at h0 ⊢
 cases hf:fnd 0 fs key with
 | none=>rw [hf]at h0;cases h0
 | some i =>
  obtain⟨hi,hik⟩:=yj hf;simp only [List.getElem?_eq_getElem hi];refine⟨h.erase i,fun p hp=>⟨List.mem_of_mem_eraseIdx hp,fun e=> ?_⟩,i,hi,hik,rfl⟩;have:=uZ h.nodup hi;rw [hik]at this;exact(qL _ _ _).1 this p hp e
theorem LInv.done (h:LInv m l) (hm:m<=78) (hk:∃j,j<7/\key=keyS j) (hp:chk ps=0) (h0:(kW l key ps).2.2=0):LInv (m+1) (kW l key ps).1:=by
 unfold kW at h0 ⊢
 split at h0
 ·rename_i he;rw [if_pos he];obtain⟨a1,a2,_⟩:=ZL h.f he;split at h0
  ·rename_i hb;rw [if_pos hb];unfold qQ at hb ⊢
   by_cases hh:qP l.st.aJ ps=0
   ·rw [if_pos hh];refine⟨h.b.pute hk hp hh (by have:=h.b.ck;omega),a1,fun p hp x hx=> ?_,fun p hp=>h.k7 p (a2 p hp).1⟩;dsimp only at hx;rw [kG]at hx;rcases Zd (show x∈xf l.st.aK _ from hx) with h3 | ⟨h3,_⟩
    ·exact h.ap p (a2 p hp).1 x h3
    ·rw [h3];exact fun e=>(a2 p hp).2 e.symm
   ·rw [if_neg hh]at hb;exact absurd hb hh
  ·rename_i hb;exact absurd h0 hb
 ·rename_i he;exact absurd h0 he
theorem LInv.fail (h:LInv m l) (h0:(xz l key).2.2=0):LInv (m+1) (xz l key).1:=by
 unfold xz at h0 ⊢
 split at h0
 ·rename_i he;rw [if_pos he];obtain⟨a1,a2,_⟩:=ZL h.f he;exact⟨h.b.up (Nat.le_succ _),a1,fun p hp=>h.ap p (a2 p hp).1,fun p hp=>h.k7 p (a2 p hp).1⟩
 ·rename_i he;exact absurd h0 he
theorem LInv.put (h:LInv m l) (hm:m<=78) (hk:∃j,j<7/\key=keyS j) (hp:chk ps=0) (h0:(Vv l key ps).2=0):LInv (m+1) (Vv l key ps).1:=by
 unfold Vv at h0 ⊢
 split at h0
 ·cases h0
 ·rename_i he;rw [if_neg he];split at h0
  ·rename_i hb;rw [if_pos hb];unfold qQ at hb ⊢
   by_cases hh:qP l.st.aJ ps=0
   ·rw [if_pos hh];refine⟨h.b.pute hk hp hh (by have:=h.b.ck;omega),h.f,fun p hp x hx=> ?_,h.k7⟩;dsimp only at hx;rw [kG]at hx;rcases Zd (show x∈xf l.st.aK _ from hx) with h3 | ⟨h3,_⟩
    ·exact h.ap p hp x h3
    ·rw [h3];intro e;have hn:fnd 0 l.fs key=none:=by
      cases hf:fnd 0 l.fs key with
      | none=>rfl
      | some i=>rw [hf]at he;exact absurd rfl he
     exact(qL _ _ _).1 hn p hp e.symm
   ·rw [if_neg hh]at hb;exact absurd hb hh
  ·rename_i hb;exact absurd h0 hb
theorem XS:(zZZ.mayEnter&& !zZZ.liftsFinal&&(zZZ.make==some .cut))=true:=by kernel_rfl
theorem z5j:zZZ.mayEnter=true:=by have:=XS;simp only [Bool.and_eq_true]at this;exact this.1.1
theorem lft:zZZ.liftsFinal=false:=by have:=XS;simp only [Bool.and_eq_true,Bool.not_eq_true']at this;exact this.1.2
theorem mk:zZZ.make=some .cut:=by have:=XS;simp only [Bool.and_eq_true,beq_iff_eq]at this;exact this.2
end Go.Proofs.YtaboknhfiijipaaGreat
