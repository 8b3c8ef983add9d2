/- Lemmas of the proof. Conditions: as stated. -/
import Derived.Test.YtnmlbflhnnmoeaaGreatQX35
import Derived.Test.YtnmlbflhnnmoeaaGreatQX43
import Derived.Test.YtnmlbflhnnmoeaaGreatQX45
set_option linter.unusedVariables false
set_option linter.unusedSimpArgs false
namespace Go.Proofs.YtnmlbflhnnmoeaaGreat
open Go.RowKit
section
variable {s:StoP} {i:Nat}
end
theorem jL (s:StoP) (c:ColP):(zm s c).1.blobs.length=s.blobs.length:=(qu s c).1.len.symm
theorem V8 (a:List UInt8) (bl:List BlobP):ahead a bl≤bl.length:=List.length_filter_le _ _
theorem yl {a:List UInt8} {bl:List BlobP} {i:Nat} (hi:i<bl.length) (h:Op.bytesLess a bl[i].dig=true):ahead bl[i].dig bl+1≤ahead a bl:=by
 refine yL bl (fun x _ hx=>zL h hx) ⟨bl[i],List.getElem_mem hi,qM _,h⟩
theorem jE (a:List UInt8) (bl:List BlobP) (i:Nat):ahead a (bl.eraseIdx i)≤ahead a bl:=((List.eraseIdx_sublist bl i).filter _).length_le
theorem Kj {s:StoP} {c:ColP} (h:(zZ s c).2.1.phase≠0):ahead (zZ s c).2.1.at_ (zZ s c).1.blobs+1≤ahead c.at_ s.blobs:=by
 rcases zV s c with ⟨_,e⟩ | ⟨i,hi,hf,_,e⟩ | ⟨i,hi,hf,_,e⟩
 ·rw [e]at h;exact absurd rfl h
 ·rw [e];exact yl hi (List.findIdx?_eq_some_iff_getElem.1 hf).2.1
 ·rw [e];have h1:=yl hi (List.findIdx?_eq_some_iff_getElem.1 hf).2.1;have h2:=jE s.blobs[i].dig s.blobs i;show ahead s.blobs[i].dig (s.blobs.eraseIdx i)+1≤_;omega
theorem Q6 (s:StoP) (c:ColP):(zZ s c).2.1.phase=2∨(zZ s c).2.1=⟨0, [], []⟩:=by
 rcases zV s c with ⟨_,e⟩ | ⟨_,_,_,_,e⟩ | ⟨_,_,_,_,e⟩
 ·rw [e];exact .inr rfl
 ·rw [e];exact .inl rfl
 ·rw [e];exact .inl rfl
def qZ (k:Nat) (s:StoP) (c:ColP):Nat :=
 if c.phase=1 then k*unm s.blobs+c.grey.length+s.blobs.length+2 else if c.phase=2 then ahead c.at_ s.blobs+1 else 0
theorem kP {k:Nat} {s:StoP} {c:ColP} (hk:Qn k s.blobs) (hp:c.phase=1∨c.phase=2):qZ k (zy s c).1 (zy s c).2.1+1≤qZ k s c:=by
 unfold zy;rcases hp with hp | hp
 ·rw [if_pos hp];show qZ k (zm s c).1 (zm s c).2+1≤_;have hl:=jL s c;rcases vd s c with h | h
  ·have:=uL hk h;unfold qZ;rw [if_pos h,if_pos hp,hl];omega
  ·unfold qZ;rw [h,if_neg (by decide),if_pos rfl,if_pos hp];have:=V8 [] (zm s c).1.blobs;rw [hl]at this;show ahead [] _+1+1≤_;omega
 ·rw [if_neg (by omega)];rcases Q6 s c with h | h
  ·have:=Kj (s:=s) (c:=c) (by omega);unfold qZ;rw [if_neg (by omega),if_pos h,if_neg (by omega),if_pos hp];omega
  ·unfold qZ;rw [h,if_neg (by decide),if_neg (by decide),if_neg (by omega),if_pos hp];omega
structure OnlyC (s:StoP) (c:ColP):Prop where
 mb:∀b∈s.blobs,b.mark=true→Rch s.blobs (rts s) b.dig
 gr:∀x∈c.grey,InB s.blobs x→Rch s.blobs (rts s) x
 sw:c.phase=2→∀b∈s.blobs,Op.bytesLess c.at_ b.dig=false→b.mark=true
 en:c.phase=0→∀b∈s.blobs,b.mark=true
theorem V3 {s:StoP} (hg:GoodS s):OnlyC (qy s) (k9 s):=by
 refine⟨fun b hb hm=> ?_,fun x hx hb=> .root ?_ hb,fun h=>(by cases h),fun h=>by cases h⟩
 ·obtain⟨a,_,rfl⟩:=List.mem_map.1 hb;cases hm
 ·rw [Xo];exact qS.1 hx
theorem ZM {x:List UInt8} (h:x≠ []):Op.bytesLess [] x=true:=by
 cases x with
 | nil=>exact absurd rfl h
 | cons a x=>rw [Zr];exact decide_eq_true (List.nil_lt_cons a x)
theorem Kq {s:StoP} {c:ColP} (hg:GoodS s) (h:OnlyC s c):OnlyC (zm s c).1 (zm s c).2:=by
 have hdig:∀b∈s.blobs,b.dig≠ []:=fun b hb e=>by
  have h1:=qd (zu b.data);rw [←(hg.b.one b hb).1,e]at h1;cases h1
 rcases qi s c with ⟨_,e⟩ | ⟨d,rest,hc,_,e⟩ | ⟨d,rest,i,hi,hc,_,_,_,e⟩ | ⟨d,rest,i,hi,hc,hf,hd,hm,e⟩
 ·rw [e];exact⟨h.mb,(fun x hx=>by cases hx),fun _ b hb hl=>absurd (ZM (hdig b hb)) (by rw [hl];decide),fun h=>by cases h⟩
 ·rw [e];exact⟨h.mb,fun x hx=>h.gr x (by rw [hc];exact List.mem_cons_of_mem _ hx),fun h=>(by cases h),fun h=>by cases h⟩
 ·rw [e];exact⟨h.mb,fun x hx=>h.gr x (by rw [hc];exact List.mem_cons_of_mem _ hx),fun h=>(by cases h),fun h=>by cases h⟩
 ·have hE:EqM s.blobs (s.blobs.set i { s.blobs[i] with mark:=true }):=ZJ hi true;have hR:Rch (s.blobs.set i { s.blobs[i] with mark:=true }) (rts { s with blobs:=s.blobs.set i { s.blobs[i] with mark:=true } })=Rch s.blobs (rts s):=by rw [yD hE];exact uh hE
  have hdr:Rch s.blobs (rts s) d:=h.gr d (by rw [hc];exact List.mem_cons_self ..) ⟨_,List.getElem_mem hi,hd⟩;rw [e];refine⟨fun b hb hmb=> ?_,fun x hx hbx=> ?_,fun h=>(by cases h),fun h=>by cases h⟩
  ·show Rch (s.blobs.set i _) (rts _) _;rw [hR];rcases List.mem_or_eq_of_mem_set hb with h2 | h2
   ·exact h.mb b h2 hmb
   ·subst h2;show Rch _ _ s.blobs[i].dig;rw [hd];exact hdr
  ·show Rch (s.blobs.set i _) (rts _) _;rw [hR];have hbx':=(yz hE).1 hbx;rcases List.mem_append.1 (qS.1 hx) with h2 | h2
   ·exact h.gr x (by rw [hc];exact List.mem_cons_of_mem _ h2) hbx'
   ·exact .step hdr h2 hbx'
def V6:Nat→StoP→ColP→StoP×List (List UInt8)
 | 0,s,_=>(s, [])
 | n+1,s,c=>if c.phase=0 then (s, []) else
   ((V6 n (zy s c).1 (zy s c).2.1).1,(if (zy s c).2.2= [] then [] else [(zy s c).2.2])++(V6 n (zy s c).1 (zy s c).2.1).2)
def yn (s:StoP) (c:ColP):StoP×List (List UInt8):=V6 (qZ 8 s c) s c
theorem Xy (s:StoP) (c:ColP):(zy s c).2.1.phase≤2:=by
 unfold zy;split
 ·rcases vd s c with h | h
  ·show(zm s c).2.phase≤2;omega
  ·show(zm s c).2.phase≤2;rw [h];exact Nat.le_refl _
 ·rcases Q6 s c with h | h
  ·omega
  ·rw [h];exact Nat.zero_le _
theorem vO {s:StoP} {c:ColP} (h:c.phase=0):∀n,V6 n s c=(s, [])
 | 0=>rfl
 | n+1=>by unfold V6;rw [if_pos h]
theorem jC:∀(n m:Nat) (s:StoP) (c:ColP),c.phase≤2→qZ 8 s c≤n→qZ 8 s c≤m→V6 n s c=V6 m s c
 | n,m,s,c,hp,hn,hm=>by
  by_cases h0:c.phase=0
  ·rw [vO h0,vO h0]
  ·have hl:=kP (k:=8) (c:=c) (y9 s.blobs) (by omega)
   obtain⟨n,rfl⟩:∃k,n=k+1:=⟨n - 1,by omega⟩
   obtain⟨m,rfl⟩:∃k,m=k+1:=⟨m - 1,by omega⟩
   unfold V6
   rw [if_neg h0,if_neg h0,jC n m _ _ (Xy s c) (by omega) (by omega)]
theorem vM {s:StoP} {c:ColP} (h:c.phase=0):yn s c=(s, []):=vO h _
theorem xj {s:StoP} {c:ColP} (h:c.phase=1∨c.phase=2):yn s c=((yn (zy s c).1 (zy s c).2.1).1,(if (zy s c).2.2= [] then [] else [(zy s c).2.2])++(yn (zy s c).1 (zy s c).2.1).2):=by
 have hl:=kP (k:=8) (c:=c) (y9 s.blobs) h;obtain⟨n,hn⟩:∃k,qZ 8 s c=k+1:=⟨qZ 8 s c - 1,by omega⟩
 unfold yn;rw [hn]
 conv=>lhs;unfold V6
 rw [if_neg (by omega),jC n _ _ _ (Xy s c) (by omega) (Nat.le_refl _)]
theorem vA:∀(k:Nat) (s:StoP) (c:ColP),RisesBy (·.dig) s.blobs→(∀b∈s.blobs,b.dig≠ [])→c.phase=2→ahead c.at_ s.blobs≤k →
  yn s c=({ s with blobs:=s.blobs.filter (fun b=>b.mark|| !Op.bytesLess c.at_ b.dig) },(s.blobs.filter (fun b=>Op.bytesLess c.at_ b.dig&& !b.mark)).map (·.dig))
 | k,s,c,hr,hne,hp,hk=>by
  have hT:zy s c=zZ s c:=by unfold zy;rw [if_neg (by omega)]
  rw [xj (.inr hp),hT]
  rcases zV s c with ⟨hf,e⟩ | ⟨i,hi,hf,hm,e⟩ | ⟨i,hi,hf,hm,e⟩
  ·rw [e,vM rfl]
   have hn:=List.findIdx?_eq_none_iff.1 hf
   have h1:s.blobs.filter (fun b=>b.mark|| !Op.bytesLess c.at_ b.dig)=s.blobs:=List.filter_eq_self.2 fun b hb=>by
    have h3:=hn b hb;rw [h3];cases b.mark<;>rfl
   have h2:s.blobs.filter (fun b=>Op.bytesLess c.at_ b.dig&& !b.mark)= []:=List.filter_eq_nil_iff.2 fun b hb=>by
    have h3:=hn b hb;rw [h3];simp
   rw [h1,h2];rfl
  all_goals
   have hat:=(List.findIdx?_eq_some_iff_getElem.1 hf).2.1
   have hlo:=(List.findIdx?_eq_some_iff_getElem.1 hf).2.2
   have hdec:s.blobs=s.blobs.take i++s.blobs[i]::s.blobs.drop (i+1):=by rw [←List.drop_eq_getElem_cons hi,List.take_append_drop]
   have hL1:∀b∈s.blobs.take i,Op.bytesLess c.at_ b.dig=false∧Op.bytesLess s.blobs[i].dig b.dig=false:=fun b hb=>by
    obtain⟨j,hj,rfl⟩:=List.mem_iff_getElem.1 hb
    rw [List.length_take]at hj
    rw [List.getElem_take]
    have h3:=hlo j (by omega)
    refine⟨by simpa using h3,?_⟩
    cases h4:Op.bytesLess s.blobs[i].dig s.blobs[j].dig with
    | false=>rfl
    | true=>exact absurd (zL hat h4) h3
   have hL2:∀b∈s.blobs.drop (i+1),Op.bytesLess c.at_ b.dig=true∧Op.bytesLess s.blobs[i].dig b.dig=true:=fun b hb=>by
    obtain⟨j,hj,rfl⟩:=List.mem_iff_getElem.1 hb
    rw [List.length_drop]at hj
    rw [List.getElem_drop]
    have h4:Op.bytesLess s.blobs[i].dig (s.blobs[i+1+j]'(by omega)).dig=true:=List.pairwise_iff_getElem.1 hr i (i+1+j) hi (by omega) (by omega)
    exact⟨zL hat h4,h4⟩
   have hirr:Op.bytesLess s.blobs[i].dig s.blobs[i].dig=false:=qM _
  ·have hk1:1≤k:=by have:=yl hi hat;omega
   have ih:=vA (k - 1) s ⟨2, [],s.blobs[i].dig⟩ hr hne rfl (by
    have:=yl hi hat;show ahead s.blobs[i].dig s.blobs≤_;omega)
   rw [e]
   show((yn s ⟨2, [],s.blobs[i].dig⟩).1,(if ([]:List UInt8)= [] then [] else [[]])++(yn s ⟨2, [],s.blobs[i].dig⟩).2)=_
   rw [ih,if_pos rfl,List.nil_append]
   generalize hbi:s.blobs[i]=q at *
   generalize hA:s.blobs.take i=L1 at *
   generalize hB:s.blobs.drop (i+1)=L2 at *
   simp only [hdec]
   have f1:∀b∈L1++q::L2,(b.mark|| !Op.bytesLess q.dig b.dig)=(b.mark|| !Op.bytesLess c.at_ b.dig):=fun b hb=>by
    rcases List.mem_append.1 hb with h | h
    ·rw [(hL1 b h).1,(hL1 b h).2]
    ·rcases List.mem_cons.1 h with h | h
     ·subst h;rw [hm];rfl
     ·rw [(hL2 b h).1,(hL2 b h).2]
   have f2:∀b∈L1++q::L2,(Op.bytesLess q.dig b.dig&& !b.mark)=(Op.bytesLess c.at_ b.dig&& !b.mark):=fun b hb=>by
    rcases List.mem_append.1 hb with h | h
    ·rw [(hL1 b h).1,(hL1 b h).2]
    ·rcases List.mem_cons.1 h with h | h
     ·subst h;rw [hm];simp
     ·rw [(hL2 b h).1,(hL2 b h).2]
   rw [List.filter_congr f1,List.filter_congr f2]
  ·have hk1:1≤k:=by have:=yl hi hat;omega
   have hrl:=kB hr i
   have ih:=vA (k - 1) { s with blobs:=s.blobs.eraseIdx i } ⟨2, [],s.blobs[i].dig⟩ hrl (fun b hb=>hne b (kX _ _ b hb)) rfl (by
    have:=yl hi hat;have:=jE s.blobs[i].dig s.blobs i;show ahead s.blobs[i].dig (s.blobs.eraseIdx i)≤_;omega)
   have hn0:=hne _ (List.getElem_mem hi)
   rw [e]
   show((yn { s with blobs:=s.blobs.eraseIdx i } ⟨2, [],s.blobs[i].dig⟩).1,(if s.blobs[i].dig= [] then [] else [s.blobs[i].dig])++(yn { s with blobs:=s.blobs.eraseIdx i } ⟨2, [],s.blobs[i].dig⟩).2)=_
   rw [ih,if_neg hn0]
   have hers:s.blobs.eraseIdx i=s.blobs.take i++s.blobs.drop (i+1):=List.eraseIdx_eq_take_drop_succ ..
   simp only [hers]
   clear ih hrl hne hk hers e
   generalize hbi:s.blobs[i]=q at *
   generalize hA:s.blobs.take i=L1 at *
   generalize hB:s.blobs.drop (i+1)=L2 at *
   simp only [hdec,List.filter_append,List.filter_cons,List.map_append]
   have g1:L1.filter (fun b=>b.mark|| !Op.bytesLess q.dig b.dig)=L1.filter (fun b=>b.mark|| !Op.bytesLess c.at_ b.dig):=List.filter_congr fun b hb=>by rw [(hL1 b hb).1,(hL1 b hb).2]
   have g2:L2.filter (fun b=>b.mark|| !Op.bytesLess q.dig b.dig)=L2.filter (fun b=>b.mark|| !Op.bytesLess c.at_ b.dig):=List.filter_congr fun b hb=>by rw [(hL2 b hb).1,(hL2 b hb).2]
   have g3:L1.filter (fun b=>Op.bytesLess q.dig b.dig&& !b.mark)= []:=List.filter_eq_nil_iff.2 fun b hb=>by rw [(hL1 b hb).2];simp
   have g4:L1.filter (fun b=>Op.bytesLess c.at_ b.dig&& !b.mark)= []:=List.filter_eq_nil_iff.2 fun b hb=>by rw [(hL1 b hb).1];simp
   have g5:L2.filter (fun b=>Op.bytesLess q.dig b.dig&& !b.mark)=L2.filter (fun b=>Op.bytesLess c.at_ b.dig&& !b.mark):=List.filter_congr fun b hb=>by rw [(hL2 b hb).1,(hL2 b hb).2]
   rw [g1,g2,g3,g4,g5,hm,hat]
   rfl
termination_by k=>k
decreasing_by all_goals omega
theorem Qe:∀(k:Nat) (s:StoP) (c:ColP),GoodS s→GoodC s c→OnlyC s c→c.phase=1→qZ 8 s c≤k →
  ∃m,EqM s.blobs m∧GoodS { s with blobs:=m }∧GoodC { s with blobs:=m } ⟨2, [], []⟩∧OnlyC { s with blobs:=m } ⟨2, [], []⟩∧yn s c=yn { s with blobs:=m } ⟨2, [], []⟩
 | k,s,c,hg,hc,ho,hp,hk=>by
  have hT:zy s c=((zm s c).1,(zm s c).2, []):=by unfold zy;rw [if_pos hp]
  have hl:=kP (k:=8) (y9 s.blobs) (.inl hp:c.phase=1∨c.phase=2)
  have he:yn s c=yn (zm s c).1 (zm s c).2:=by
   rw [xj (.inl hp),hT];show((yn (zm s c).1 (zm s c).2).1,(if ([]:List UInt8)= [] then [] else [[]])++(yn (zm s c).1 (zm s c).2).2)=_;rw [if_pos rfl,List.nil_append]
  rw [hT]at hl;have h1:=uK c hg;have h2:=uc hg hp hc;have h3:=Kq hg ho;have h4:=qu s c;rcases vd s c with h | h
  ·have hk1:1≤k:=by omega
   obtain⟨m,m1,m2,m3,m4,m5⟩:=Qe (k - 1) (zm s c).1 (zm s c).2 h1 h2 h3 h (by
    have:qZ 8 (zm s c).1 (zm s c).2+1≤qZ 8 s c:=hl;omega)
   have e: { (zm s c).1 with blobs:=m }= { s with blobs:=m }:=by rw [h4.2]
   rw [e]at m2 m3 m4 m5;exact⟨m,h4.1.trans m1,m2,m3,m4,he.trans m5⟩
  ·rw [h]at h2 h3 he;rw [h4.2]at h1 h2 h3 he;exact⟨_,h4.1,h1,h2,h3,he⟩
termination_by k=>k
decreasing_by all_goals omega
theorem xx {p q:BlobP→Bool}:∀ {l m:List BlobP},EqM l m→(∀b∈l,∀b'∈m,b'.dig=b.dig→q b'=p b)→EqM (l.filter p) (m.filter q)
 | [], [],_,_=>rfl
 | [],b::m,h,_=>by cases h
 | a::l, [],h,_=>by cases h
 | a::l,b::m,h,hpq=>by
  obtain⟨h1,h2⟩:=h.cons
  have ih:=xx h2 (fun x hx y hy=>hpq x (List.mem_cons_of_mem _ hx) y (List.mem_cons_of_mem _ hy))
  have e:=hpq a (List.mem_cons_self ..) b (List.mem_cons_self ..) h1.1
  rw [List.filter_cons,List.filter_cons,e]
  split
  ·show _::_=_::_
   rw [show NoM a=NoM b from by unfold NoM;rw [h1.1,h1.2.1,h1.2.2],show(l.filter p).map NoM=(m.filter q).map NoM from ih]
  ·exact ih
theorem XY {l m:List BlobP} (h:EqM l m):m.map (·.dig)=l.map (·.dig):=by
 have h3:=congrArg (List.map Prod.fst) h;simp only [List.map_map]at h3;exact h3.symm
theorem YL {s:StoP} (hg:GoodS s):∀b∈s.blobs,b.dig≠ []:=fun b hb e=>by
 have h1:=qd (zu b.data)
 rw [←(hg.b.one b hb).1,e]at h1
 cases h1
theorem Jb {s:StoP} (hg:GoodS s) {L:List (List UInt8)} (hL:StrL L (Rch s.blobs (rts s))) :
  ∃m,EqM (cln s).blobs m∧GoodS { s with blobs:=m }∧yn (qy s) (k9 s)=({ s with blobs:=m },(s.blobs.filter (fun b=> !decide (b.dig∈L))).map (·.dig)):=by
 obtain⟨m,m1,m2,m3,m4,m5⟩:=Qe _ (qy s) (k9 s) (ku hg) (yJ hg) (V3 hg) rfl (Nat.le_refl _);have hE:EqM s.blobs m:=(yf s.blobs).trans m1;have hmk:∀b∈m,b.mark=true↔Rch s.blobs (rts s) b.dig:=fun b hb=>by
  have hR:Rch m (rts { qy s with blobs:=m })=Rch s.blobs (rts s):=by
   rw [show rts { qy s with blobs:=m }=rts s from yD hE,uh hE]
  refine⟨fun h=>by rw [←hR];exact m4.mb b hb h,fun h=> ?_⟩;obtain⟨b',hb',hm,e⟩:=qo.1 (m3.sw rfl _ (by show Rch m (rts { qy s with blobs:=m }) _;rw [hR];exact h));have:=m2.b.ris.inj hb' hb e;subst this;exact hm
 have hne:=YL m2;have hsw:=vA _ { qy s with blobs:=m } ⟨2, [], []⟩ m2.b.ris hne rfl (Nat.le_refl _);have e1:m.filter (fun b=>b.mark|| !Op.bytesLess [] b.dig)=m.filter (·.mark):=List.filter_congr fun b hb=>by
  rw [ZM (hne b hb)];simp
 have e2:m.filter (fun b=>Op.bytesLess [] b.dig&& !b.mark)=m.filter (fun b=> !b.mark):=List.filter_congr fun b hb=>by
  rw [ZM (hne b hb)];simp
 have hF1:EqM (cln s).blobs (m.filter (·.mark)):=by
  unfold cln;refine xx hE fun b hb b' hb' e=> ?_;have:=hmk b' hb';rw [e]at this;by_cases h:Rch s.blobs (rts s) b.dig
  ·rw [this.2 h];exact(@decide_eq_true _ (Classical.propDecidable _) h).symm
  ·rw [@decide_eq_false _ (Classical.propDecidable _) h];cases hm:b'.mark with
   | false=>rfl
   | true=>exact absurd (this.1 hm) h
 have hF2:(m.filter (fun b=> !b.mark)).map (·.dig)=(s.blobs.filter (fun b=> !decide (b.dig∈L))).map (·.dig):=by
  refine XY (xx hE fun b hb b' hb' e=> ?_);have h1:=hmk b' hb';have h2:=hL.mem b.dig;rw [e]at h1;by_cases h:Rch s.blobs (rts s) b.dig
  ·rw [h1.2 h,decide_eq_true (h2.2 h)]
  ·rw [decide_eq_false (fun h3=>h (h2.1 h3))];cases hm:b'.mark with
   | false=>rfl
   | true=>exact absurd (h1.1 hm) h
 refine⟨m.filter (·.mark),hF1,?_,?_⟩
 ·exact xW (s:=cln s) hF1 (qp hg)
 ·rw [m5,hsw];show({ s with blobs:=m.filter (fun b=>b.mark|| !Op.bytesLess [] b.dig) },(m.filter (fun b=>Op.bytesLess [] b.dig&& !b.mark)).map (·.dig))=_;rw [e1,e2,hF2]
theorem Q4:∀(k:Nat) (s:StoP) (c:ColP),GoodS s→GoodC s c→qZ 8 s c≤k →
  GoodS (yn s c).1∧Rch (yn s c).1.blobs (rts (yn s c).1)=Rch s.blobs (rts s)∧(yn s c).1.ents=s.ents∧(yn s c).1.room=s.room∧(yn s c).1.clock=s.clock
 | k,s,c,hg,hc,hk=>by
  by_cases h0:c.phase=0
  ·rw [vM h0];exact⟨hg,rfl,rfl,rfl,rfl⟩
  ·have hp:c.phase=1∨c.phase=2:=by have:=hc.ph;omega
   have hl:=kP (k:=8) (y9 s.blobs) hp
   obtain⟨h1,h2,h3,h4,h5,h6⟩:=yI hg hc hp
   have hk1:1≤k:=by omega
   obtain⟨k1,k2,k3,k4,k5⟩:=Q4 (k - 1) (zy s c).1 (zy s c).2.1 h1 h2 (by omega)
   rw [xj hp]
   exact⟨k1,k2.trans h3,k3.trans h4,k4.trans h5,k5.trans h6⟩
termination_by k=>k
decreasing_by all_goals omega
end Go.Proofs.YtnmlbflhnnmoeaaGreat
