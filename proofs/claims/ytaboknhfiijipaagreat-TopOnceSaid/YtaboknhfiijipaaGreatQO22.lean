/- Lemmas, as stated. -/
import Derived.Test.YtaboknhfiijipaaGreatRows
import Derived.ProofKit
import Derived.Test.YtaboknhfiijipaaGreatQO19
import Derived.Test.YtaboknhfiijipaaGreatQO21
set_option linter.unusedVariables false
set_option linter.unusedSimpArgs false
open Go.Proofs.Tryz renaming prog->zZZ
namespace Go.Proofs.YtaboknhfiijipaaGreat
open Go.RowKit Go.Maps
variable {x:EntP} {n:Int} {es:List EntP} {fs:List FlP} {ps:List PartP} {l:LoP} {i m:Nat} {s:StoP} {k key:ai}
abbrev stZ:StoP:=⟨[], [],0,0⟩
abbrev coZ:ColP:=⟨0, [], []⟩
abbrev loZ:LoP:=⟨stZ,coZ, []⟩
def kK (fs:List FlP) (key:ai) (n:Int):List FlP×Bool×Nat :=
 match fnd 0 fs key with
 | none=>if fs.length=6 then ([],false,7) else (fs++ [⟨key,n, []⟩],true,0)
 | some i=>match fs[i]? with
  | none=>([],false,0)
  | some p=>if (p.lead::p.wait).contains n then ([],false,6) else if p.wait.length=5 then ([],false,7) else (fs.set i ⟨p.key,p.lead,p.wait++ [n]⟩,false,0)
def kX (fs:List FlP) (key:ai):List FlP×List Int×Nat :=
 match fnd 0 fs key with
 | none=>([], [],5)
 | some i=>match fs[i]? with
  | none=>([], [],0)
  | some p=>(fs.eraseIdx i,p.lead::p.wait,0)
noncomputable def qJ (s:StoP) (c:ColP) (key:ai) (ps:List PartP):StoP×ColP×Nat :=
 if qK s.aI ps=0 then ((zG (xy s key ps) c (ps.map (·.dig))).1,(zG (xy s key ps) c (ps.map (·.dig))).2,0) else (stZ,coZ,qK s.aI ps)
def jv (l:LoP) (key:ai) (n:Int):LoP×List PartP×Bool×Nat :=
 match l.st.aJ.findIdx? (fun x=>x.key==key) with
 | some i=>match l.st.aJ[i]? with
  | none=>(loZ, [],false,0)
  | some x=>({ l with st:=kv l.st i x },x.aP,false,0)
 | none=>if (kK l.fs key n).2.2=0 then ({ l with fs:=(kK l.fs key n).1 }, [],(kK l.fs key n).2.1,0) else (loZ, [],false,(kK l.fs key n).2.2)
noncomputable def kH (l:LoP) (key:ai) (ps:List PartP):LoP×List Int×Nat :=
 if (kX l.fs key).2.2=0 then
  if (qJ l.st l.co key ps).2.2=0 then (⟨(qJ l.st l.co key ps).1,(qJ l.st l.co key ps).2.1,(kX l.fs key).1⟩,(kX l.fs key).2.1,0) else (loZ, [],(qJ l.st l.co key ps).2.2)
 else (loZ, [],(kX l.fs key).2.2)
def yX (l:LoP) (key:ai):LoP×List Int×Nat :=
 if (kX l.fs key).2.2=0 then ({ l with fs:=(kX l.fs key).1 },(kX l.fs key).2.1,0) else (loZ, [],(kX l.fs key).2.2)
noncomputable def Y1 (l:LoP) (key:ai) (ps:List PartP):LoP×Nat :=
 if (fnd 0 l.fs key).isSome then (loZ,10)
 else if (qJ l.st l.co key ps).2.2=0 then (⟨(qJ l.st l.co key ps).1,(qJ l.st l.co key ps).2.1,l.fs⟩,0) else (loZ,(qJ l.st l.co key ps).2.2)
theorem jH (s:StoP) (c:ColP) (ds:List ai):(zG s c ds).1.aL=s.aL/\(zG s c ds).1.aK=s.aK:=by
 rw [kB];exact⟨rfl,rfl⟩
theorem jF:es.findIdx? (fun x=>x.key==k)=none↔∀x∈es,x.key≠k:=by
 rw [List.findIdx?_eq_none_iff];simp
theorem xq (h:es.findIdx? (fun x=>x.key==k)=some i):∃hi:i<es.length,es[i].key=k:=by
 obtain⟨hi,h1,_⟩:=List.findIdx?_eq_some_iff_getElem.1 h;exact⟨hi,by simpa using h1⟩
theorem GoodL.apart (h:GoodL l):∀p∈l.fs,∀x∈l.st.aJ,x.key≠p.key:=fun p hp=>by
 obtain⟨j,hj,rfl⟩:=List.getElem_of_mem hp
 exact jF.1 (h.no j hj)
theorem GoodL.of (hs:GoodS l.st) (hc:GoodC l.st l.co) (hg:l.co.aM.length<=1000) (hf:GoodF l.fs) (hn:∀p∈l.fs,∀x∈l.st.aJ,x.key≠p.key):GoodL l :=
 ⟨hs,hc,hg,hf,fun j hj=>jF.2 (hn _ (List.getElem_mem hj))⟩
theorem xN {t:StoP} {c:ColP} (h:GoodC s c) (hb:t.aI=s.aI) (hr:∀x∈rts t,x∈rts s):GoodC t c :=
 ⟨h.ph,h.gh,h.ris,h.ah,h.g0,h.a0,fun h1 x hx hb'=>by rw [hb]at hb' ⊢;exact h.mr h1 x (hr x hx) hb',fun h1=>by rw [hb];exact h.mb h1,fun h1 x hx=>by
  rw [hb]at hx ⊢
  exact h.sw h1 x (hx.dmono hr)⟩
theorem QX (hi:i<es.length) (h:x.aP=es[i].aP):ur (es.set i x)=ur es:=by
 unfold ur;rw [List.flatMap_def,List.flatMap_def,K0 (fun x:EntP=>x.aP.map (·.dig)) hi (by rw [h])]
theorem QJ (hi:i<s.aJ.length):rts (kv s i s.aJ[i])=rts s:=by
 show ur (s.aJ.set i { s.aJ[i] with aO:=s.aK+1 })++uB s.aI=ur s.aJ++uB s.aI;rw [QX (x:= { s.aJ[i] with aO:=s.aK+1 }) hi rfl]
theorem yY {y:EntP} (hi:i<es.length) (hk:x.key=es[i].key) (h:y∈es.set i x):∃z∈es,z.key=y.key:=by
 rcases List.mem_or_eq_of_mem_set h with h | rfl
 ·exact⟨y,h,rfl⟩
 ·exact⟨es[i],List.getElem_mem hi,hk.symm⟩
theorem GoodL.get (h:GoodL l) (hi:i<l.st.aJ.length) (hc:l.st.aK<1099511627776):GoodL { l with st:=kv l.st i l.st.aJ[i] } :=
 .of (Zg h.s hi hc) (xN h.c rfl (fun x hx=>by rw [QJ hi]at hx;exact hx)) h.g h.f fun p hp x hx=>by
  obtain⟨z,hz,e⟩:=yY (x:= { l.st.aJ[i] with aO:=l.st.aK+1 }) hi rfl hx
  rw [<-e]
  exact h.apart p hp z hz
theorem KC (h:GoodF fs) (hk:hexC key=0) (hkl:key.length<=1000) (h1:1<=n) (h2:n<=1000) (h0:(kK fs key n).2.2=0) :
  GoodF (kK fs key n).1/\(∀p∈(kK fs key n).1,p.key=key\/∃q∈fs,q.key=p.key)/\(kK fs key n).1.length<=fs.length+1:=by
 unfold kK at h0 ⊢
 cases hf:fnd 0 fs key with
 | none =>
  rw [hf]at h0;simp only at h0 ⊢
  by_cases h6:fs.length=6
  ·rw [if_pos h6]at h0;cases h0
  ·rw [if_neg h6];refine⟨h.snoc (by have:=h.len;omega) hk hkl hf h1 h2,fun p hp=> ?_,ab⟩;rcases List.mem_append.1 hp with hp | hp
   ·exact .inr ⟨p,hp,rfl⟩
   ·rw [List.mem_singleton.1 hp];exact .inl rfl
 | some i =>
  obtain⟨hi,hik⟩:=qy hf;rw [hf]at h0;simp only [List.getElem?_eq_getElem hi]at h0 ⊢
  by_cases hc:(fs[i].lead::fs[i].wait).contains n=true
  ·rw [if_pos hc]at h0;cases h0
  ·rw [if_neg hc]at h0 ⊢
   by_cases h5:fs[i].wait.length=5
   ·rw [if_pos h5]at h0;cases h0
   ·rw [if_neg h5];refine⟨h.set hi h1 h2 (by simpa using hc) (by have:=h.few i hi;omega),fun p hp=> ?_,ab⟩;rcases List.mem_or_eq_of_mem_set hp with hp | rfl
    ·exact .inr ⟨p,hp,rfl⟩
    ·exact .inl hik
structure LInv (m:Nat) (l:LoP):Prop where
 b:Bsy m l.st l.co
 f:GoodF l.fs
 ap:∀p∈l.fs,∀x∈l.st.aJ,x.key≠p.key
 k7:∀p∈l.fs,∃j,j<7/\p.key=keyS j
theorem LInv.good (h:LInv m l) (hm:m<=78):GoodL l:= .of h.b.g h.b.gc (by have:=h.b.gr;omega) h.f h.ap
theorem LInv.up {n:Nat} (h:LInv m l) (hn:m<=n):LInv n l:=⟨h.b.up hn,h.f,h.ap,h.k7⟩
theorem LInv.get (h:LInv m l) (hm:m<=1000) (hi:i<l.st.aJ.length):LInv (m+1) { l with st:=kv l.st i l.st.aJ[i] }:=by
 have hc:l.st.aK<1099511627776:=by have:=h.b.ck;omega
 have hk:∀x∈(kv l.st i l.st.aJ[i]).aJ,∃z∈l.st.aJ,z.key=x.key:=fun x hx=>yY (x:= { l.st.aJ[i] with aO:=l.st.aK+1 }) hi rfl hx;refine⟨⟨Zg h.b.g hi hc,xN h.b.gc rfl (fun x hx=>by rw [QJ hi]at hx;exact hx),?_,fun x hx=> ?_,?_⟩,h.f,fun p hp x hx=> ?_,h.k7⟩
 ·have:=h.b.gr;show 8*unm l.st.aI+l.co.aM.length<=_;omega
 ·obtain⟨z,hz,e⟩:=hk x hx;rw [<-e];exact h.b.k7 z hz
 ·have:=h.b.ck;show l.st.aK+1<=_;omega
 ·obtain⟨z,hz,e⟩:=hk x hx;rw [<-e];exact h.ap p hp z hz
theorem LInv.ask (h:LInv m l) (hm:m<=78) (hk:∃j,j<7/\key=keyS j) (h1:1<=n) (h2:n<=1000) (h0:(jv l key n).2.2.2=0):LInv (m+1) (jv l key n).1:=by
 have hkx:hexC key=0/\key.length<=1000:=by obtain⟨j,_,rfl⟩:=hk;exact⟨zy _,by rw [keyS,vH];omega⟩
 unfold jv at h0 ⊢
 cases hf:l.st.aJ.findIdx? (fun x=>x.key==key) with
 | some i =>
  obtain⟨hi,_⟩:=xq hf;simp only [List.getElem?_eq_getElem hi];exact h.get wu hi
 | none =>
  rw [hf]at h0;simp only at h0 ⊢
  split at h0
  ·rename_i hj;rw [if_pos hj];obtain⟨a1,a2,_⟩:=KC h.f hkx.1 hkx.2 h1 h2 hj;refine⟨h.b.up (Nat.le_succ _),a1,fun p hp x hx=> ?_,fun p hp=> ?_⟩
   ·rcases a2 p hp with e | ⟨q,hq,e⟩
    ·rw [e];exact jF.1 hf x hx
    ·rw [<-e];exact h.ap q hq x hx
   ·rcases a2 p hp with e | ⟨q,hq,e⟩
    ·rw [e];exact hk
    ·rw [<-e];exact h.k7 q hq
  ·rename_i hj;exact absurd h0 hj
theorem Zc (h:GoodF fs) (h0:(kX fs key).2.2=0) :
  GoodF (kX fs key).1/\(∀p∈(kX fs key).1,p∈fs/\p.key≠key)/\∃i,∃hi:i<fs.length,fs[i].key=key/\kX fs key=(fs.eraseIdx i,fs[i].lead::fs[i].wait,0):=by
 unfold kX at h0 ⊢
 cases hf:fnd 0 fs key with
 | none=>rw [hf]at h0;cases h0
 | some i =>
  obtain⟨hi,hik⟩:=qy hf;simp only [List.getElem?_eq_getElem hi];refine⟨h.erase i,fun p hp=>⟨List.mem_of_mem_eraseIdx hp,fun e=> ?_⟩,i,hi,hik,rfl⟩;have:=kJ h.nodup hi;rw [hik]at this;exact(zT _ _ _).1 this p hp e
theorem LInv.done (h:LInv m l) (hm:m<=78) (hk:∃j,j<7/\key=keyS j) (hp:chk ps=0) (h0:(kH l key ps).2.2=0):LInv (m+1) (kH l key ps).1:=by
 unfold kH at h0 ⊢
 split at h0
 ·rename_i he;rw [if_pos he];obtain⟨a1,a2,_⟩:=Zc h.f he;split at h0
  ·rename_i hb;rw [if_pos hb];unfold qJ at hb ⊢
   by_cases hh:qK l.st.aI ps=0
   ·rw [if_pos hh];refine⟨h.b.pute hk hp hh (by have:=h.b.ck;omega),a1,fun p hp x hx=> ?_,fun p hp=>h.k7 p (a2 p hp).1⟩;dsimp only at hx;rw [kB]at hx;rcases jJ (show x∈x8 l.st.aJ _ from hx) with h3 | ⟨h3,_⟩
    ·exact h.ap p (a2 p hp).1 x h3
    ·rw [h3];exact fun e=>(a2 p hp).2 e.symm
   ·rw [if_neg hh]at hb;exact absurd hb hh
  ·rename_i hb;exact absurd h0 hb
 ·rename_i he;exact absurd h0 he
theorem LInv.fail (h:LInv m l) (h0:(yX l key).2.2=0):LInv (m+1) (yX l key).1:=by
 unfold yX at h0 ⊢
 split at h0
 ·rename_i he;rw [if_pos he];obtain⟨a1,a2,_⟩:=Zc h.f he;exact⟨h.b.up (Nat.le_succ _),a1,fun p hp=>h.ap p (a2 p hp).1,fun p hp=>h.k7 p (a2 p hp).1⟩
 ·rename_i he;exact absurd h0 he
theorem LInv.put (h:LInv m l) (hm:m<=78) (hk:∃j,j<7/\key=keyS j) (hp:chk ps=0) (h0:(Y1 l key ps).2=0):LInv (m+1) (Y1 l key ps).1:=by
 unfold Y1 at h0 ⊢
 split at h0
 ·cases h0
 ·rename_i he;rw [if_neg he];split at h0
  ·rename_i hb;rw [if_pos hb];unfold qJ at hb ⊢
   by_cases hh:qK l.st.aI ps=0
   ·rw [if_pos hh];refine⟨h.b.pute hk hp hh (by have:=h.b.ck;omega),h.f,fun p hp x hx=> ?_,h.k7⟩;dsimp only at hx;rw [kB]at hx;rcases jJ (show x∈x8 l.st.aJ _ from hx) with h3 | ⟨h3,_⟩
    ·exact h.ap p hp x h3
    ·rw [h3];intro e;have hn:fnd 0 l.fs key=none:=by
      cases hf:fnd 0 l.fs key with
      | none=>rfl
      | some i=>rw [hf]at he;exact absurd rfl he
     exact(zT _ _ _).1 hn p hp e.symm
   ·rw [if_neg hh]at hb;exact absurd hb hh
  ·rename_i hb;exact absurd h0 hb
theorem X2:(zZZ.mayEnter&& !zZZ.liftsFinal&&(zZZ.make==some .cut))=true:=by kernel_rfl
theorem z4g:zZZ.mayEnter=true:=by have:=X2;simp only [Bool.and_eq_true]at this;exact this.1.1
theorem lft:zZZ.liftsFinal=false:=by have:=X2;simp only [Bool.and_eq_true,Bool.not_eq_true']at this;exact this.1.2
theorem mk:zZZ.make=some .cut:=by have:=X2;simp only [Bool.and_eq_true,beq_iff_eq]at this;exact this.2
end Go.Proofs.YtaboknhfiijipaaGreat
