/- Lemmas of the proof. Conditions: as stated. -/
import Derived.Test.YtnmlbflhnnmoeaaGreatQX41
import Derived.Test.YtnmlbflhnnmoeaaGreatQX42
import Derived.Test.YtnmlbflhnnmoeaaGreatQX43
set_option linter.unusedVariables false
set_option linter.unusedSimpArgs false
set_option maxRecDepth 100000
set_option maxHeartbeats 16000000
namespace Go.Proofs.YtnmlbflhnnmoeaaGreat
open Go.RowKit Go.Maps
end Go.Proofs.YtnmlbflhnnmoeaaGreat
namespace Go.Proofs.YtnmlbflhnnmoeaaGreat
open Go.RowKit
def J9 (bl:List BlobP) (L:List (List UInt8)):List BlobP:=bl.filter (fun b=>decide (b.dig∈L))
theorem VA {s:StoP} {L:List (List UInt8)} (hL:StrL L (Rch s.blobs (rts s))):J9 s.blobs L=(cln s).blobs:=by
 unfold cln J9;refine List.filter_congr fun b hb=> ?_;have:=hL.mem b.dig;by_cases h:b.dig∈L
 ·rw [decide_eq_true h];exact(@decide_eq_true _ (Classical.propDecidable _) (this.1 h)).symm
 ·rw [decide_eq_false h];exact(@decide_eq_false _ (Classical.propDecidable _) (fun h2=>h (this.2 h2))).symm
section
variable {bl bl':List BlobP} {ds ds':List (List UInt8)}
end
theorem Rch.dmono {bl:List BlobP} {ds ds':List (List UInt8)} {x:List UInt8} (hd:∀x∈ds,x∈ds') (h:Rch bl ds x):Rch bl ds' x:=h.mono fun y hy hb=> .root (hd y hy) hb
theorem qO (s:StoP):(cln s).ents=s.ents:=rfl
theorem qN (s:StoP):(cln s).room=s.room:=rfl
theorem yZ (s:StoP):(cln s).clock=s.clock:=rfl
theorem U9 {s:StoP} (hr:RisesBy (·.dig) s.blobs) {b:BlobP} (hb:b∈(cln s).blobs):Rch (cln s).blobs (rts (cln s)) b.dig:=(XL hr _).2 (vW.1 hb).2
theorem Zv {s:StoP} (h:∀b∈s.blobs,Rch s.blobs (rts s) b.dig):cln s=s:=by
 have e:(cln s).blobs=s.blobs:=List.filter_eq_self.2 fun b hb=> @decide_eq_true _ (Classical.propDecidable _) (h b hb);obtain⟨b,x,r,c⟩:=s;unfold cln at e ⊢
 rw [StoP.mk.injEq];exact⟨e,rfl,rfl,rfl⟩
theorem QH {s:StoP} (hr:RisesBy (·.dig) s.blobs):cln (cln s)=cln s:=Zv fun b hb=>U9 hr hb
theorem yX {s:StoP} {es:List EntP} (h:GoodS s) (hs:es.Sublist s.ents):GoodS { s with ents:=es } :=
 ⟨h.b,⟨Nat.le_trans hs.length_le h.e.len,fun x hx=>h.e.one x (hs.subset hx),List.Pairwise.sublist hs h.e.ris⟩,h.room,h.used,h.clock,fun x hx=>h.ent x (hs.subset hx)⟩
theorem QK {s:StoP} {es:List EntP} (hs:∀x∈es,x∈s.ents):∀x∈rts { s with ents:=es },x∈rts s:=fun x hx=>by
 rcases List.mem_append.1 hx with h | h
 ·obtain⟨y,hy,h2⟩:=List.mem_flatMap.1 h
  exact List.mem_append_left _ (List.mem_flatMap.2 ⟨y,hs y hy,h2⟩)
 ·exact List.mem_append_right _ h
theorem Qw {s:StoP} {es:List EntP} (hr:RisesBy (·.dig) s.blobs) (hs:∀x∈es,x∈s.ents):cln { cln s with ents:=es }=cln { s with ents:=es }:=by
 have er:rts { cln s with ents:=es }=rts { s with ents:=es }:=by
  show jn es++xq (cln s).blobs=_;rw [Qq];rfl
 have e1:∀x,Rch (cln s).blobs (rts { cln s with ents:=es }) x↔Rch s.blobs (rts { s with ents:=es }) x:=fun x=>by
  rw [er];exact⟨fun h=>h.sub hr (ke hr) vy (fun _ h=>h),fun h=>h.keepb hr (ke hr) vy (fun _ h=>h) (fun _ h=>Zo (h.dmono (QK hs)))⟩
 have e2:(cln { cln s with ents:=es }).blobs=(cln { s with ents:=es }).blobs:=by
  show List.filter _ (List.filter _ s.blobs)=List.filter _ s.blobs;rw [List.filter_filter];refine List.filter_congr fun b hb=> ?_;by_cases h:Rch s.blobs (rts { s with ents:=es }) b.dig
  ·have h1:Rch s.blobs (rts s) b.dig:=h.dmono (QK hs);rw [@decide_eq_true _ (Classical.propDecidable _) h];rw [Bool.and_eq_true];exact⟨@decide_eq_true _ (Classical.propDecidable _) ((e1 _).2 h), @decide_eq_true _ (Classical.propDecidable _) h1⟩
  ·rw [@decide_eq_false _ (Classical.propDecidable _) h];rw [Bool.and_eq_false_iff];exact .inl (@decide_eq_false _ (Classical.propDecidable _) fun h2=>h ((e1 _).1 h2))
 have e3:∀t u:StoP,t.blobs=u.blobs→t.ents=u.ents→t.room=u.room→t.clock=u.clock→t=u:=fun t u h1 h2 h3 h4=>by
  cases t;cases u;simp only at h1 h2 h3 h4;subst h1 h2 h3 h4;rfl
 exact e3 _ _ e2 rfl rfl rfl
noncomputable def Z7 (more:Nat):Nat→StoP→List (List UInt8)→Option (StoP×List (List UInt8))
 | 0,_,_=>none
 | n+1,s,g=>if usd s.blobs+more≤s.room then some (s,g) else
  match xw s.ents s.ents.length with
  | none=>none
  | some i=>match s.ents[i]? with
   | none=>none
   | some x=>Z7 more n (cln { s with ents:=s.ents.eraseIdx i }) (g++ [x.key])
noncomputable def kS (more:Nat) (s:StoP):Option (StoP×List (List UInt8)) :=
 if usd s.blobs+more≤s.room then some (s, []) else Z7 more (s.ents.length+1) (cln s) []
theorem jB {more n:Nat} {s t:StoP} {g g':List (List UInt8)} (h:Z7 more (n+1) s g=some (t,g')) :
  (usd s.blobs+more≤s.room∧t=s∧g'=g)∨(¬usd s.blobs+more≤s.room∧∃i,∃hi:i<s.ents.length,xw s.ents s.ents.length=some i∧Z7 more n (cln { s with ents:=s.ents.eraseIdx i }) (g++ [s.ents[i].key])=some (t,g')):=by
 unfold Z7 at h;by_cases hf:usd s.blobs+more≤s.room
 ·rw [if_pos hf]at h;cases h
  exact .inl ⟨hf,rfl,rfl⟩
 ·rw [if_neg hf]at h;cases ho:xw s.ents s.ents.length with
  | none=>rw [ho]at h;cases h
  | some i =>
   have hi:=(k8 s.ents _ i ho).2;rw [ho]at h;simp only [List.getElem?_eq_getElem hi]at h;exact .inr ⟨hf,i,hi,rfl,h⟩
theorem Zc {more:Nat}:∀(n:Nat) (s t:StoP) (g g':List (List UInt8)),GoodS s→Z7 more n s g=some (t,g')→GoodS t∧usd t.blobs+more≤t.room∧t.ents.length+g'.length=s.ents.length+g.length∧t.room=s.room∧t.clock=s.clock
 | 0,s,t,g,g',hg,h=>by unfold Z7 at h;cases h
 | n+1,s,t,g,g',hg,h=>by
  rcases jB h with ⟨h1,rfl,rfl⟩ | ⟨h1,i,hi,ho,h2⟩
  ·exact⟨hg,h1,rfl,rfl,rfl⟩
  ·have h3:=Zc n _ t _ g' (qp (yX hg (List.eraseIdx_sublist _ _))) h2
   refine⟨h3.1,h3.2.1,?_,h3.2.2.2⟩
   have h4:=h3.2.2.1
   rw [qO]at h4
   simp only [List.length_eraseIdx_of_lt hi,List.length_append,List.length_cons,List.length_nil]at h4
   omega
theorem Ks {more:Nat} {s t:StoP} {g:List (List UInt8)} (hg:GoodS s) (h:kS more s=some (t,g)):GoodS t∧usd t.blobs+more≤t.room∧t.ents.length+g.length=s.ents.length∧t.room=s.room∧t.clock=s.clock:=by
 unfold kS at h;by_cases hf:usd s.blobs+more≤s.room
 ·rw [if_pos hf]at h;cases h;exact⟨hg,hf,rfl,rfl,rfl⟩
 ·rw [if_neg hf]at h;have:=Zc _ _ t [] g (qp hg) h;simpa [qO,qN,yZ] using this
section
variable {w:World} {base g cap:Nat} {e:TypeId} {N:Nat→Prop}
theorem RwX.own4 {α:Type} {S:Shp α} {v:Value} {l:List α} (h:RwX S e w base v l N):w.ownsRow base e S.size v l.length (cls h.choose):=h.choose_spec.2.2.1
theorem RwX.arr4 {α:Type} {S:Shp α} {l:List α} (h:RwX S e w base (.slice (some ⟨g,0,none⟩) l.length cap) l N) (h0:0<l.length):∃cs,Arr w g e cs∧cs.length=cap*S.size:=by
 obtain⟨g',cap',cs,e1,_,h4,_,_,h5,_⟩:=xI h.own4 h0;injection e1 with e11 _ e13;injection e11 with e11;injection e11 with e11;subst e11 e13;exact⟨cs,h4,h5⟩
theorem RwX.rwN {α:Type} {S:Shp α} {l:List α} (h:RwX S e w base (.slice (some ⟨g,0,none⟩) l.length cap) l N):Rw (S.off (fun b=>b=g∨N b)) w (some ⟨g,0,none⟩) l:=by
 obtain⟨ps,h1,h2,h3,h4⟩:=h;exact⟨ps,h1,fun p hp=>⟨h2 p hp,fun b hb=>h4 p hp b (hb.imp (fun e=>by rw [e];rfl) id)⟩,Rd.of_own h3⟩
theorem RwX.at4B {l:List BlobP} (h:RwX BlobS e w base (.slice (some ⟨g,0,none⟩) l.length cap) l N) (j:Nat) (hj:j<l.length) :
  ∃B c,w.cell? ⟨g,j*4,none⟩=some (.string ⟨l[j].dig.toArray⟩)∧w.cell? ⟨g,j*4+1,none⟩=some (.slice B l[j].data.length c)∧w.cell? ⟨g,j*4+2,none⟩=some (.int .i64 (l[j].pins:Int))∧w.cell? ⟨g,j*4+3,none⟩=some (.bool l[j].mark) ∧
   Sl w 1 B l[j].data.length c (bys l[j].data)∧∀b,(b=g∨N b)→¬leads b [.string ⟨l[j].dig.toArray⟩,.slice B l[j].data.length c,.int .i64 (l[j].pins:Int),.bool l[j].mark]:=by
 obtain⟨b,off,cs,e1,hb,⟨⟨B,c,rfl,hs⟩,hl⟩,hc⟩:=h.rwN.at_ j hj;cases e1
 simp only [Nat.zero_add]at hc;exact⟨B,c,hc 0 _ rfl,hc 1 _ rfl,hc 2 _ rfl,hc 3 _ rfl,hs,hl⟩
theorem RwX.at4E {l:List EntP} (h:RwX EntS e w base (.slice (some ⟨g,0,none⟩) l.length cap) l N) (j:Nat) (hj:j<l.length) :
  ∃B c,w.cell? ⟨g,j*4,none⟩=some (.string ⟨l[j].key.toArray⟩)∧w.cell? ⟨g,j*4+1,none⟩=some (.slice B l[j].parts.length c)∧w.cell? ⟨g,j*4+2,none⟩=some (.int .i64 (l[j].pins:Int))∧w.cell? ⟨g,j*4+3,none⟩=some (.int .i64 (l[j].stamp:Int)) ∧
   Sl w 3 B l[j].parts.length c (pcs l[j].parts)∧∀b,(b=g∨N b)→¬leads b [.string ⟨l[j].key.toArray⟩,.slice B l[j].parts.length c,.int .i64 (l[j].pins:Int),.int .i64 (l[j].stamp:Int)]:=by
 obtain⟨b,off,cs,e1,hb,⟨⟨B,c,rfl,hs⟩,hl⟩,hc⟩:=h.rwN.at_ j hj;cases e1
 simp only [Nat.zero_add]at hc;exact⟨B,c,hc 0 _ rfl,hc 1 _ rfl,hc 2 _ rfl,hc 3 _ rfl,hs,hl⟩
theorem RwX.trunc_ {α:Type} {S:Shp α} {l:List α} {i:Nat} {zs:List Value} (h:RwX S e w base (.slice (some ⟨g,0,none⟩) l.length cap) l N) (hi:i<l.length) (hz:zs.length=(l.length - i)*S.size) :
  RwX S e (w.setCells g (i*S.size) zs) base (.slice (some ⟨g,0,none⟩) i cap) (l.take i) N∧w.grownBy (w.setCells g (i*S.size) zs) (some g)∧(∀j,j<zs.length→(w.cell? ⟨g,i*S.size+j,none⟩).isSome=true)∧(∀j,j<zs.length→w.frozen? ⟨g,i*S.size+j,none⟩=false):=by
 obtain⟨ps,h1,h2,h3,h4⟩:=h;obtain⟨k1,k2,k3,k4⟩:=Z8 h3 (by omega) hi hz;have hpl:ps.length=l.length:=by rw [←h1,List.length_map]
 have hm:∀p∈ps.take i,p∈ps:=fun p hp=>List.mem_of_mem_take hp;refine⟨⟨ps.take i,by rw [←h1,List.map_take],qj.grown (w:=w) (g:=some g) (fun p hp=>h2 p (hm p hp)) k2 (fun p hp b hb=>h4 p (hm p hp) b (.inl hb)),?_,fun p hp b hb=>h4 p (hm p hp) b hb⟩,k2,k3,k4⟩;rw [←qV (s:=S.size) ps i h2.lens,List.length_take,Nat.min_eq_left (by omega)];exact k1
theorem RwX.truncB {l:List BlobP} (h:RwX BlobS e w base (.slice (some ⟨g,0,none⟩) l.length cap) l N) (i:Nat) (hi:i<l.length) :
  ∃zs:List Value,zs.length=(l.length - i)*4∧(∀ty c,(Builtin.clear_ #[23] ty #[.slice (some ⟨g,i*4,none⟩) (l.length - i) c]).run Tryz.prog w= .ok (.tuple #[]) (w.setCells g (i*4) zs)) ∧
   RwX BlobS e (w.setCells g (i*4) zs) base (.slice (some ⟨g,0,none⟩) i cap) (l.take i) N∧w.grownBy (w.setCells g (i*4) zs) (some g):=by
 have hl:=ky (Value.agg #[.string ByteArray.empty,.slice none 0 0,.int .i64 0,.bool false]).cells (l.length - i);obtain⟨k1,k2,k3,k4⟩:=h.trunc_ hi (zs:=(Builtin.zeroCells (Value.agg #[.string ByteArray.empty,.slice none 0 0,.int .i64 0,.bool false]).cells (l.length - i)).toList) hl;exact⟨_,hl,fun ty c=>yB w _ _ ty _ _ _ (by omega) Tryz.underlying23 JN rfl (kr _ _ (by simp [Value.cells]) (by intro u hu;simp [Value.cells]at hu;rcases hu with rfl | rfl | rfl | rfl<;>rfl)) g _ c k3 k4,k1,k2⟩
end
def Xv (w:World) (g:Option Nat) (l:List BlobP) (f:FuncId) (x:Value) (p:BlobP→Bool):Prop :=
 (∀args W,(callFunc f args).run Tryz.prog W= .ok (.enter f args) W)∧∀(b:BlobP) (B:Option Addr) (cb:Nat) (W:World),b∈l→w.grownBy W g→Sl W 1 B b.data.length cb (bys b.data) →
  Calls Tryz.prog f #[.agg #[.string ⟨b.dig.toArray⟩,.slice B b.data.length cb,.int .i64 b.pins,.bool b.mark],x] W fun e w'=>e= .returned (.bool (p b))∧Below W.heap.size W w'
theorem Vd (base:Nat) (v:Value) (l:List BlobP) (N:Nat→Prop) (f:FuncId) (x:Value) (p:BlobP→Bool) (w:World) (hl:l.length≤100000) (hx:RwX BlobS 63 w base v l N) (HC:Xv w v.ownBlock l f x p) :
  Calls Tryz.prog 139 #[v,.func (.func f) #[] #[x]] w fun e w'=>∃v',e= .returned v'∧RwX BlobS 63 w' base v' (l.filter (fun b=> !p b)) N∧w.grownBy w' v.ownBlock∧v'.ownBlock=v.ownBlock:=by
 obtain⟨hce,hcc0⟩:=HC;have HCC:=sqH hcc0;clear hcc0;have hlen0:=hx.rwo.rows;obtain⟨A,cap,rfl,hlc,hcm,hrw⟩:=hlen0;have HI:=sqH (jw A cap l f x p w (by omega) hrw ⟨hce,fun b B cb W hb hbl hs=>HCC.out b B cb W hb ⟨hbl.os,hbl.tape,hbl.output,hbl.size,fun k hk _=>hbl.block k hk⟩ hs⟩);cases hf:l.findIdx? p with
 | none =>
  rw [hf]at HI;have hall:l.filter (fun b=> !p b)=l:=List.filter_eq_self.2 fun b hb=>by
   have:=List.findIdx?_eq_none_iff.1 hf b hb;rw [this];rfl
  have HALL:=sqH hall;have HX:=sqH hx;clear hall hf hx hrw;go_enter Tryz.func139,Tryz.ntmps139;go_wp2_with fail;refine HI.out.mono ?_;rintro e_ w1 ⟨rfl,hb1⟩;dsimp only;simp only [plc];go_wp2_with fail;go_ret;refine⟨_,rfl,by rw [HALL.out];exact HX.out.below hb1,⟨hb1.os,hb1.tape,hb1.output,hb1.size,fun k hk _=>hb1.block k hk⟩,rfl⟩
 | some i0 =>
  rw [hf]at HI;simp only [plc]at HI;obtain⟨hi0,hpi,hno⟩:=List.findIdx?_eq_some_iff_getElem.1 hf;have hkeep0:(l.take (i0+1)).filter (fun b=> !p b)=l.take i0:=by
   rw [List.take_succ_eq_append_getElem hi0,List.filter_append,List.filter_cons_of_neg (by rw [hpi];simp)];rw [List.filter_nil,List.append_nil];refine List.filter_eq_self.2 fun b hb=> ?_;obtain⟨k,hk,rfl⟩:=List.mem_iff_getElem.1 hb;rw [List.length_take]at hk;have:=hno k (by omega);rw [List.getElem_take];simpa using this
  obtain⟨g,cap',cs,e1,hbg,hA,hnc, -, -, -⟩:=xI (hx.own4) (by omega);injection e1 with e11 e12 e13;clear e12;subst e11 e13;have hgw:g<w.heap.size:=hA.lt;have HGW:=sqH hgw;have HK0:=sqH hkeep0;clear hkeep0 hno hf hA hrw hgw;have hw1:IntKind.i64.wrap ((i0:Int)+1)=(i0:Int)+1:=IntWalk.i64_in _ (by omega);have hm1:((i0:Int)== -1)=false:=by rw [beq_eq_false_iff_ne];omega
  go_enter Tryz.func139,Tryz.ntmps139;go_wp2_with fail;refine HI.out.mono ?_;rintro e_ w1 ⟨rfl,hb1⟩;dsimp only;have hx1:=hx.below hb1;have HG1:=sqH (show w.grownBy w1 (some g) from⟨hb1.os,hb1.tape,hb1.output,hb1.size,fun k hk _=>hb1.block k hk⟩);clear hx hb1 HI;go_wp2_with fail;go_loopg [5,6] (l.length - (i0+1)) (fun gn u v wr=>∃(i j:Nat) (M:List BlobP),gn=l.length - j∧u= .int .i64 i∧v= .int .i64 j∧i<j∧j≤l.length∧M.length=l.length∧M.take i=(l.take j).filter (fun b=> !p b)∧M.drop j=l.drop j∧RwX BlobS 63 wr base (.slice (some ⟨g,0,none⟩) l.length cap) M N∧w.grownBy wr (some g))
  case atStart=>exact⟨i0,i0+1,l,rfl,rfl,by go_num,by omega,by omega,rfl,HK0.out.symm,rfl,hx1,HG1.out⟩
  case round =>
   clear hx1;obtain⟨i,j,M,hgk,rfl,rfl,hij,hj,hM,hMt,hMd,hxr,hgr⟩:=hrel;have HGK:=sqH hgk;have HML:=sqH hM;have HMT:=sqH hMt;have HMD:=sqH hMd;have HGR:=sqH hgr;clear hgk hM hMt hMd hgr;by_cases hlt:j<l.length
   ·have hjj:decide (j<l.length)=true:=decide_eq_true hlt;have hMj:j<M.length:=by have:=HML.out;omega
    have eMj:M[j]=l[j]:=by
     have h1:=HMD.out;rw [List.drop_eq_getElem_cons hMj,List.drop_eq_getElem_cons hlt]at h1;injection h1
    rw [←HML.out]at hxr;obtain⟨B,cb,d0,d1,d2,d3,hs,hld⟩:=hxr.at4B j hMj;rw [HML.out]at hxr;have hmem:l[j]∈l:=List.getElem_mem hlt;have hpt:(l.take (j+1)).filter (fun b=> !p b)=(l.take j).filter (fun b=> !p b)++(if p l[j] then [] else [l[j]]):=by
     rw [List.take_succ_eq_append_getElem hlt,List.filter_append]
     congr 1
     cases hp:p l[j] with
     | true=>rw [List.filter_cons_of_neg (by rw [hp];simp)];rfl
     | false=>rw [List.filter_cons_of_pos (by rw [hp];rfl)];rfl
    rw [eMj]at d0 d1 d2 d3 hs hld;have hMset:∀y,(M.set i y).drop (j+1)=l.drop (j+1):=fun y=>by
     rw [List.drop_set,if_pos (by omega)];have h1:=HMD.out;rw [List.drop_eq_getElem_cons hMj,List.drop_eq_getElem_cons hlt]at h1;injection h1
    have hMs0:M.drop (j+1)=l.drop (j+1):=by
     have h1:=HMD.out;rw [List.drop_eq_getElem_cons hMj,List.drop_eq_getElem_cons hlt]at h1;injection h1
    have hMtk:∀y,(M.set i y).take (i+1)=M.take i++ [y]:=fun y=>by
     have hi:i<(M.set i y).length:=by rw [List.length_set];omega
     rw [List.take_succ_eq_append_getElem hi,List.getElem_set_self,List.take_set]
     congr 1
     rw [List.set_eq_of_length_le (by rw [List.length_take];omega)]
    have HPT:=sqH hpt;have HMS:=sqH hMset;have HMS0:=sqH hMs0;have HMK:=sqH hMtk;have HMEM:=sqH hmem;have hwj:IntKind.i64.wrap ((j:Int)+1)=(j:Int)+1:=IntWalk.i64_in _ (by omega);have hwi:IntKind.i64.wrap ((i:Int)+1)=(i:Int)+1:=IntWalk.i64_in _ (by omega);have HLD:=sqH hld;clear hpt hMset hMs0 hMtk hmem hld eMj;have hj0:(0:Int)≤(j:Int):=by omega
    have hj1:(j:Int)<(l.length:Int):=by omega
    have hi0':(0:Int)≤(i:Int):=by omega
    have hi1':(i:Int)<(l.length:Int):=by omega
    have hiM:i<M.length:=by omega
    have hgr2:(w.grownBy wr (some g)):=HGR.out;have hgwr:g<wr.heap.size:=Nat.lt_of_lt_of_le HGW.out hgr2.size;generalize l[j]=bl at *
    have hbox:Arr (wr.alloc (.cells #[.string ⟨bl.dig.toArray⟩,.slice B bl.data.length cb,.int .i64 bl.pins,.bool bl.mark] 63)) wr.heap.size 63 [.string ⟨bl.dig.toArray⟩,.slice B bl.data.length cb,.int .i64 bl.pins,.bool bl.mark]:=Arr.new wr 63 _;have hbA:=(Below.refl wr.heap.size wr).alloc (Nat.le_refl _) (.cells #[.string ⟨bl.dig.toArray⟩,.slice B bl.data.length cb,.int .i64 bl.pins,.bool bl.mark] 63);have hsA:=hs.below hbA;have hxA:=hxr.below hbA;have hgA:w.grownBy (wr.alloc (.cells #[.string ⟨bl.dig.toArray⟩,.slice B bl.data.length cb,.int .i64 bl.pins,.bool bl.mark] 63)) (some g):=hgr2.trans ⟨hbA.os,hbA.tape,hbA.output,hbA.size,fun k hk _=>hbA.block k hk⟩;have hcl:=HCC.out bl B cb _ HMEM.out hgA hsA;obtain⟨k0,k1,k2,k3⟩:=sqC4 hbox;generalize hsd:(⟨bl.dig.toArray⟩:ByteArray)=sd at *
    have HSD:=sqH hsd;clear hsd hs hgr2 hxr;cases hp:p bl with
    | true =>
     rw [hp]at hcl;have HCL:=sqH hcl;have HPV:=sqH hp;clear hcl hp hsA hbox;go_wp2_with fail;clear d0 d1 d2 d3;generalize (wr.alloc (.cells #[.string sd,.slice B bl.data.length cb,.int .i64 bl.pins,.bool bl.mark] 63))=wA at *
     refine HCL.out.mono ?_;rintro e_ wB ⟨rfl,hbB⟩;dsimp only;have hxB:=hxA.below hbB;have hgB:=hgA.trans (show wA.grownBy wB (some g) from⟨hbB.os,hbB.tape,hbB.output,hbB.size,fun k hk _=>hbB.block k hk⟩);clear hxA hgA hbB k0 k1 k2 k3 hbA;go_wp2_with fail;go_roundg (l.length - (j+1))
     case measure=>have:=HGK.out;omega
     case rel=>exact⟨i,j+1,M,rfl,rfl,by go_num,by omega,by omega,HML.out,by rw [HPT.out,HPV.out,if_pos rfl,List.append_nil];exact HMT.out,HMS0.out,hxB,hgB⟩
    | false =>
     rw [hp]at hcl;have HCL:=sqH hcl;have HPV:=sqH hp;have HSA:=sqH hsA;clear hcl hp hsA;go_wp2_with fail;clear d0 d1 d2 d3;generalize hgq:wr.heap.size=gq at *
     generalize (wr.alloc (.cells #[.string sd,.slice B bl.data.length cb,.int .i64 bl.pins,.bool bl.mark] 63))=wA at *
     refine HCL.out.mono ?_;rintro e_ wB ⟨rfl,hbB⟩;dsimp only;have hxB:=hxA.below hbB;have hgB:=hgA.trans (show wA.grownBy wB (some g) from⟨hbB.os,hbB.tape,hbB.output,hbB.size,fun k hk _=>hbB.block k hk⟩);have hboxB:=hbox.below hbB;have hsB:=HSA.out.below hbB;clear k0 k1 k2 k3;obtain⟨k0,k1,k2,k3⟩:=sqC4 hboxB;rw [←HML.out]at hxB;obtain⟨cs,hAg,hcl4⟩:=hxB.arr4 (by omega);have hcl4:cs.length=cap*4:=hcl4;have q0:=hAg.cell (k:=i*4) (List.getElem?_eq_getElem (by omega));have q1:=hAg.cell (k:=i*4+1) (List.getElem?_eq_getElem (by omega));have q2:=hAg.cell (k:=i*4+2) (List.getElem?_eq_getElem (by omega));have q3:=hAg.cell (k:=i*4+3) (List.getElem?_eq_getElem (by omega));have p0:=hAg.frozen (i*4);have p1:=hAg.frozen (i*4+1);have p2:=hAg.frozen (i*4+2);have p3:=hAg.frozen (i*4+3);obtain⟨hx8,hg8⟩:=hxB.put4 (x:=bl) (u0:= .string sd) (u1:= .slice B bl.data.length cb) (u2:= .int .i64 bl.pins) (u3:= .bool bl.mark) rfl hiM ⟨B,cb,by rw [←HSD.out];rfl,hsB⟩ HLD.out;have hg9:=hgB.trans hg8;rw [HML.out]at hx8;rw [put4]at hx8 hg9;clear hbox hboxB hxA hxB hgA hgB hbA hbB hAg hg8 HSA hsB;go_wp2_with fail;clear q0 q1 q2 q3 p0 p1 p2 p3 k0 k1 k2 k3;generalize ((((wB.setCell ⟨g,i*4,none⟩ (.string sd)).setCell ⟨g,i*4+1,none⟩ (.slice B bl.data.length cb)).setCell ⟨g,i*4+2,none⟩ (.int .i64 bl.pins)).setCell ⟨g,i*4+3,none⟩ (.bool bl.mark))=w8 at *
     go_roundg (l.length - (j+1))
     case measure=>have:=HGK.out;omega
     case rel=>exact⟨i+1,j+1,M.set i bl,rfl,by go_num,by go_num,by omega,by omega,by rw [List.length_set];exact HML.out,by rw [HPT.out,HPV.out,HMK.out,HMT.out];rfl,HMS.out _,hx8,hg9⟩
   ·obtain rfl:j=l.length:=by omega
    have hjj:decide (l.length<l.length)=false:=by simp
    have hMl:M.take i=l.filter (fun b=> !p b):=by rw [HMT.out,List.take_length]
    have hle:(l.filter (fun b=> !p b)).length=i:=by rw [←hMl,List.length_take];have:=HML.out;omega
    rw [←HML.out]at hxr;obtain⟨zs,hzz,hclr,hx9,hg9⟩:=hxr.truncB i (by have:=HML.out;omega);rw [HML.out]at hclr;have hi0':(0:Int)≤(i:Int):=by omega
    have hi1':(i:Int)≤(l.length:Int):=by omega
    have hi2':(i:Int)≤(cap:Int):=by omega
    have hce:¬cap=i:=by omega
    have HX9:=sqH hx9;have HG9:=sqH (HGR.out.trans hg9);have HLE:=sqH hle;have HML2:=sqH hMl;clear hx9 hg9 hxr hle hMl;go_wp2_with fail;go_ret;refine⟨_,rfl,?_,HG9.out,rfl⟩;have h1:=HX9.out;rw [HML2.out]at h1;exact h1
theorem Kd (w:World) (g:Option Nat) (gc:Nat) (AL:Option Addr) (cL:Nat) (L:List (List UInt8)) (l:List BlobP) (hgc:gc<w.heap.size) (hne:g≠some gc) (hcell:w.cell? ⟨gc,0,none⟩=some (.slice AL L.length cL)) (hL:L.length≤1000000) (hrd:Rd w 1 AL L.length (strs L)) (hna:∀a,AL=some a→g≠some a.block) :
  Xv w g l 140 (.pointer (some ⟨gc,0,none⟩)) (fun b=> !decide (b.dig∈L)):=by
 refine⟨fun _ _=>by kernel_rfl,fun b B cb W hb hgr hs=> ?_⟩;have hc:W.cell? ⟨gc,0,none⟩=some (.slice AL L.length cL):=hgr.cell hcell (fun e=>hne e.symm);have hgW:gc<W.heap.size:=Nat.lt_of_lt_of_le hgc hgr.size;have hr:Rd W 1 AL L.length (strs L):=hrd.keepb hgr.size (fun k hk ⟨a,e1,e2⟩=>hgr.block k hk (fun e=>hna a e1 (by rw [e2];exact e.symm)));have hb1:=(Below.refl W.heap.size W).alloc (Nat.le_refl _) (.cells #[.string ⟨b.dig.toArray⟩,.slice B b.data.length cb,.int .i64 b.pins,.bool b.mark] 63);have hbox:Arr (W.alloc (.cells #[.string ⟨b.dig.toArray⟩,.slice B b.data.length cb,.int .i64 b.pins,.bool b.mark] 63)) W.heap.size 63 [.string ⟨b.dig.toArray⟩,.slice B b.data.length cb,.int .i64 b.pins,.bool b.mark]:=Arr.new W 63 _;have hk1:(W.alloc (.cells #[.string ⟨b.dig.toArray⟩,.slice B b.data.length cb,.int .i64 b.pins,.bool b.mark] 63)).cell? ⟨gc,0,none⟩=some (.slice AL L.length cL):=(World.cell?_alloc_lt W _ ⟨gc,0,none⟩ hgW).trans hc;have p0:=hbox.cell (k:=0) rfl;have HCT:=sqH (ZF AL cL L b.dig _ (by omega) (hr.below hb1));dsimp only;generalize hdv:decide (b.dig∈L)=dv at *
 clear hr hc hrd hcell hbox;go_enter Tryz.func140,Tryz.ntmps140;go_wp2_with fail;refine HCT.out.mono ?_;rintro e_ wx ⟨rfl,rfl⟩;dsimp only;go_wp2_with fail;go_ret;exact⟨rfl,hb1⟩
theorem jk (base:Nat) (v1 v2:Value) (s:StoP) (w:World) (N:Nat→Prop) (hg:GoodS s) (ho:OwSt w base v1 v2 s N) :
  Calls Tryz.prog 92 #[stV v1 v2 s] w fun e w'=>∃v1',e= .returned (stV v1' v2 (cln s))∧OwSt w' base v1' v2 (cln s) N∧w.grownBy w' v1.ownBlock∧v1'.ownBlock=v1.ownBlock:=by
 have hbl:=hg.b.len;have h41:∀b,v1.ownBlock=some b→b<w.heap.size:=fun b e=>(ho.b.rwo.blk e).2;have h42:∀b,v2.ownBlock=some b→b<w.heap.size:=fun b e=>(ho.e.rwo.blk e).2;obtain⟨A,c,B,d,e1,e2,hrd⟩:=ho.rows;have hr0:=hrd;subst e1 e2;obtain⟨w0,hw0,hS,hR,hb0⟩:=qF w 26 [.slice A s.blobs.length c,.slice B s.ents.length d,.int .i64 s.room,.int .i64 s.clock] [.slice none 0 0,.slice none 0 0,.int .i64 0,.int .i64 0];have HALL:=sqH (yr A B c d s (s.room:Int) (s.clock:Int) w0 hg.rts (hrd.below hb0));have ho0:=(ho.wider (N':=fun b=>N b∨b=w.heap.size∨b=w.heap.size+1) (fun b hb=>hb.imp id (fun e=>by omega))).below hb0;obtain⟨x0,x1,x2,x3⟩:=sqC4 hS;obtain⟨H,hH⟩:∃H,H=w.heap.size:=⟨_,rfl⟩
 rw [←hH]at hS hR ho0 h41 h42;rw [hw0]at x0 x1 x2 x3;have HGR0:=sqH (show w.grownBy w0 (Value.slice A s.blobs.length c).ownBlock from kq hb0);have HHW:=sqH hH;clear hr0 hrd hb0 ho;go_enter Tryz.func92,Tryz.ntmps92;go_wp2_with fail;rw [←hw0];clear hw0 x0 x1 x2 x3;rw [←hH];clear hH;refine HALL.out.mono ?_;rintro e_ w2 ⟨v3,L,rfl,hL,hLl,ho3,hb2⟩;dsimp only;obtain⟨AL,cL,rfl,hcL,hrL⟩:=Rd.of_own' ho3;have hna:∀a,AL=some a→w0.heap.size≤a.block:=fun a e=>by
  subst e;rcases ho3.2 with ⟨e,_⟩ | ⟨g,cap,cur,e,hb,_⟩
  ·cases e
  ·cases e;exact hb
 have HL:=sqH hL;have HRL:=sqH hrL;have hLn:L.length≤24:=by omega
 have hS2:=hS.below hb2;have hR2:=hR.below hb2;have ho2:=ho0.below hb2;have HGR2:=sqH (kw HGR0.out hb2);have hH2:H<w2.heap.size:=hS2.lt;have h02:w0.heap.size≤w2.heap.size:=hb2.size;have hsz0:H+1<w0.heap.size:=hR.lt;have hb3:=(Below.refl w2.heap.size w2).alloc (Nat.le_refl _) (.cells #[.slice AL L.length cL] 27);have hA3:Arr (w2.alloc (.cells #[.slice AL L.length cL] 27)) w2.heap.size 27 [.slice AL L.length cL]:=Arr.new w2 27 _;have hS3:=hS2.below hb3;have hR3:=hR2.below hb3;have ho3':=ho2.below hb3;have HT:=sqH (Kd (w2.alloc (.cells #[.slice AL L.length cL] 27)) (Value.slice A s.blobs.length c).ownBlock w2.heap.size AL cL L s.blobs hA3.lt (fun e=>by have:=h41 _ e;omega) (hA3.cell (k:=0) rfl) (by omega) (HRL.out.below hb3) (fun a e1 e2=>by have:=hna a e1;have:=h41 _ e2;omega));have HDF:=sqH (Vd base (.slice A s.blobs.length c) s.blobs _ _ _ _ _ (by omega) ho3'.b HT.out);have HGR3:=sqH (kw HGR2.out hb3);obtain⟨q0,q1,q2,q3⟩:=sqC4 hS2;obtain⟨p0,p1,p2,p3⟩:=sqC4 hS3;clear hS hR ho0 hb2 ho2 ho3 hL hrL hA3 hb3 hR2 hna;go_wp2_with fail;clear q0 q1 q2 q3 p0 p1 p2 p3 hS2;generalize (w2.alloc (.cells #[.slice AL L.length cL] 27))=w3 at *
 refine HDF.out.mono ?_;rintro e_ w4 ⟨v1',rfl,hx4,hg4,hob⟩;dsimp only;have hbk:s.blobs.filter (fun b=> !(!decide (b.dig∈L)))=(cln s).blobs:=by
  rw [←VA HL.out];unfold J9;refine List.filter_congr fun b hb=> ?_;rw [Bool.not_not]
 rw [hbk]at hx4;obtain⟨A',c',e1, -, -, -⟩:=hx4.rwo.rows;subst e1;have ho4:=ho3'.turnB hx4 hg4 hob;have hS3l:=hS3.lt;have hR3l:=hR3.lt;have hneH:∀k,(Value.slice A s.blobs.length c).ownBlock=some k→k<H:=h41;have hS4:=hS3.grown hg4 (fun e=>by have:=h41 H e;omega);have hR4:=hR3.grown hg4 (fun e=>by have:=h41 (H+1) e;omega);have HGR4:=sqH (HGR3.out.trans hg4);have f0:=hS4.frozen 0;have y0:=hS4.cell (k:=0) rfl;have hS5:=hS4.set (k:=0) (by simp) (.slice A' (cln s).blobs.length c');have hR5:=hR4.other (g':=H) (k:=0) (by omega) (.slice A' (cln s).blobs.length c');have hv1b:(Value.slice A' (cln s).blobs.length c').ownBlock≠some H:=fun e=>by rw [hob]at e;have:=h41 H e;omega
 have hv1c:(Value.slice A' (cln s).blobs.length c').ownBlock≠some (H+1):=fun e=>by rw [hob]at e;have:=h41 (H+1) e;omega
 have hv2b:(Value.slice B s.ents.length d).ownBlock≠some H:=fun e=>by have:=h42 H e;omega
 have hv2c:(Value.slice B s.ents.length d).ownBlock≠some (H+1):=fun e=>by have:=h42 (H+1) e;omega
 have ho5:=ho4.setX (g:=H) (k:=0) (.inr (.inl rfl)) hv1b hv2b (.slice A' (cln s).blobs.length c');have HGR5:=sqH (zH (H:=H) (k:=0) (u:=(.slice A' (cln s).blobs.length c')) HGR4.out (by rw [HHW.out];exact Nat.le_refl _));obtain⟨z0,z1,z2,z3⟩:=sqC4 hS5;obtain⟨r0,r1,r2,r3⟩:=sqF4 hR5;obtain⟨x0,x1,x2,x3⟩:=sqC4 hR5;have hfin:=hR5.all4 (.slice A' (cln s).blobs.length c') (.slice B s.ents.length d) (.int .i64 s.room) (.int .i64 s.clock);have ho6:=(((ho5.setX (g:=H+1) (k:=0) (.inr (.inr (by rw [HHW.out]))) hv1c hv2c (.slice A' (cln s).blobs.length c')).setX (g:=H+1) (k:=1) (.inr (.inr (by rw [HHW.out]))) hv1c hv2c (.slice B s.ents.length d)).setX (g:=H+1) (k:=2) (.inr (.inr (by rw [HHW.out]))) hv1c hv2c (.int .i64 s.room)).setX (g:=H+1) (k:=3) (.inr (.inr (by rw [HHW.out]))) hv1c hv2c (.int .i64 s.clock);have HGR6:=sqH (zH (H:=H+1) (k:=3) (u:=(.int .i64 s.clock)) (zH (H:=H+1) (k:=2) (u:=(.int .i64 s.room)) (zH (H:=H+1) (k:=1) (u:=(.slice B s.ents.length d)) (zH (H:=H+1) (k:=0) (u:=(.slice A' (cln s).blobs.length c')) HGR5.out (by rw [HHW.out];omega)) (by rw [HHW.out];omega)) (by rw [HHW.out];omega)) (by rw [HHW.out];omega));have HOB:=sqH hob;have HO6:=sqH ho6;clear ho3' hx4 ho4 hg4 hS3 hR3 hS4 hR4 hS5 hR5 ho5 ho6 hob hbk hv1b hv1c hv2b hv2c hneH h41 h42;go_wp2_with fail;refine bodyPost_ret (results_cell_row rfl _ _ (H+1) _ _ _ _ (by rfl) hfin Tryz.underlying26 rfl (by kernel_rfl)) rfl ?_;exact⟨(.slice A' (cln s).blobs.length c'),rfl,HO6.out.mono (fun b hb=> .inl hb),HGR6.out,HOB.out⟩
theorem XW (A:Option Addr) (c:Nat) (B:Option Addr) (d:Nat) (s:StoP) (w:World) (hg:GoodS s) (hr:RdSt w A c B d s) :
  Calls Tryz.prog 33 #[.agg #[.slice A s.blobs.length c,.slice B s.ents.length d,.int .i64 s.room,.int .i64 s.clock]] w fun e w' =>
   ∃v1 v2,e= .returned (.tuple #[.agg #[v1,v2,.int .i64 s.room,.int .i64 s.clock],.int .i64 ((s.blobs.length:Int) - ((cln s).blobs.length:Int)),.int .i64 0])∧OwSt w' w.heap.size v1 v2 (cln s) (fun b=>b<w.heap.size)∧Below w.heap.size w w':=by
 have hlb:s.blobs.length≤24:=hg.b.len;have hle:s.ents.length≤10:=hg.e.len;have hcl:=Xn s;have HGD:=sqH hg;obtain⟨w0,hw0,hS,hR,hb0⟩:=qF w 26 [.slice A s.blobs.length c,.slice B s.ents.length d,.int .i64 s.room,.int .i64 s.clock] [.slice none 0 0,.slice none 0 0,.int .i64 0,.int .i64 0];have hr0:=hr.below hb0;obtain⟨H,hH⟩:∃H,H=w.heap.size:=⟨_,rfl⟩
 have HCK:=sqH (zF A c B d s w0 hg hr0);rw [←hH]at hS hR hb0 ⊢
 have hHl:H<w0.heap.size:=hS.lt;have hHr:H+1<w0.heap.size:=hR.lt;obtain⟨x0,x1,x2,x3⟩:=sqC4 hS;rw [hw0,hH]at x0 x1 x2 x3;have HPL:=sqH (show ∀b∈s.blobs,b.data.length≤1000000 from fun b hb=>by have:=(hg.b.one b hb).2.1;omega);have HQL:=sqH (show ∀x∈s.ents,x.parts.length≤1000000 from fun x hx=>by have:=(zj (hg.e.one x hx).2.1).1;omega);have HG:=sqH hg;clear hg hr;go_enter Tryz.func33,Tryz.ntmps33;go_wp2_with fail;rw [←hw0,←hH];have HH:=sqH hH;clear hw0 hH x0 x1 x2 x3;refine HCK.out.mono ?_;rintro e_ w1 ⟨rfl,hb1⟩;dsimp only;have hr1:=hr0.below hb1;have hS1:=hS.below hb1;obtain⟨z0,z1,z2,z3⟩:=sqC4 hS1;have HCP:=sqH (qe A c B d s w1 (by omega) (by omega) HPL.out HQL.out hr1);clear hr0 hS;go_wp2_with fail;clear z0 z1 z2 z3;refine HCP.out.mono ?_;rintro e_ w3 ⟨q1,q2,rfl,ho3,hb3⟩;dsimp only;have hc3:=hb1.trans (hb3.mono hb1.size);have hS3:=hS1.below hb3;have hcln:=jk w1.heap.size _ _ s w3 (fun b=>b<w1.heap.size) HGD.out ho3;simp only [stV,qN,yZ]at hcln;have HCL:=sqH hcln;clear hcln hr1 hS1 hb3 HCP;have HO3:=sqH ho3;clear ho3;go_wp2_with fail;refine HCL.out.mono ?_;rintro e_ w4 ⟨v1',rfl,ho4,hg4,hob⟩;dsimp only;obtain⟨A',c',B',d',e1,e2,hrd4⟩:=ho4.rows;subst e1;injection e2 with e21 e22 e23;subst e21 e23;clear e22;have hq1:∀b,(Value.slice (some ⟨q1,0,none⟩) s.blobs.length s.blobs.length).ownBlock=some b→w1.heap.size≤b:=fun b e=>(HO3.out.b.rwo.blk e).1;have hc4:Below w0.heap.size w0 w4:=hc3.grown hg4 hc3.size (fun k hk=>by have:=hq1 k hk;have:=hb1.size;omega);have hS4:=hS3.grown hg4 (fun e=>by have:=hq1 H e;have:=hb1.size;omega);have hR4:=(hR.below hc3).grown hg4 (fun e=>by have:=hq1 (H+1) e;have:=hb1.size;omega);obtain⟨G,hGe⟩:∃G,G=w4.heap.size:=⟨_,rfl⟩
 have hba:=(Below.refl w4.heap.size w4).alloc (Nat.le_refl _) (.cells #[(.slice A' (cln s).blobs.length c'),(.slice (some ⟨q2,0,none⟩) s.ents.length s.ents.length),.int .i64 s.room,.int .i64 s.clock] 26);have hX:Arr (w4.alloc (.cells #[(.slice A' (cln s).blobs.length c'),(.slice (some ⟨q2,0,none⟩) s.ents.length s.ents.length),.int .i64 s.room,.int .i64 s.clock] 26)) G 26 [(.slice A' (cln s).blobs.length c'),(.slice (some ⟨q2,0,none⟩) s.ents.length s.ents.length),.int .i64 s.room,.int .i64 s.clock]:=by rw [hGe];exact Arr.new w4 26 _
 have hS:=hS4.below hba;have hR7:=hR4.below hba;have hrd7:=hrd4.below hba;have hb:=(hb0.trans (hc4.mono (Nat.le_of_lt hHl))).alloc (by have:=hc4.size;omega) (.cells #[(.slice A' (cln s).blobs.length c'),(.slice (some ⟨q2,0,none⟩) s.ents.length s.ents.length),.int .i64 s.room,.int .i64 s.clock] 26);have h04:=hc4.size;have hba4:=hba.size;have HGE:=sqH hGe;have hG4:w0.heap.size≤G:=by rw [hGe];exact h04
 clear hS4 hR4 hrd4 hc4 hba ho4 hg4 hob hR hb0 hS3 hc3 hb1 hGe hq1
 repeat' ((fail_if_success (with_reducible refine at_reg_ 5 ?_));(fail_if_success (with_reducible refine at_sreg_ 5 ?_));(fail_if_success (with_reducible refine at_ssreg_ 5 ?_));(fail_if_success at_builtin);(fail_if_success at_make);(first | go_values | go_skip | go_guarded | go_step | go_upon | go_back))
 rw [←HGE.out];generalize (w4.alloc (.cells #[(.slice A' (cln s).blobs.length c'),(.slice (some ⟨q2,0,none⟩) s.ents.length s.ents.length),.int .i64 s.room,.int .i64 s.clock] 26))=w7 at *
 have hR:=hR7;clear hR7;have hw7:H≤w7.heap.size:=by omega
 have hH7:H+1<w7.heap.size:=by omega
 have hHH:H≠H+1:=by omega
 have hGH:G≠H+1:=by omega
 have hwd:IntKind.i64.wrap ((s.blobs.length:Int) - ((cln s).blobs.length:Int))=(s.blobs.length:Int) - ((cln s).blobs.length:Int):=IntWalk.i64_in _ (by omega);have HSB:=sqH (show ∀W,Below w7.heap.size w7 W→(W.cell? ⟨H,0,none⟩=some (.slice A s.blobs.length c)∧(W.cell? ⟨G,0,none⟩=some (.slice A' (cln s).blobs.length c')∧W.cell? ⟨G,1,none⟩=some (.slice (some ⟨q2,0,none⟩) s.ents.length s.ents.length)∧W.cell? ⟨G,2,none⟩=some (.int .i64 s.room)∧W.cell? ⟨G,3,none⟩=some (.int .i64 s.clock))) from fun W h=>⟨(hS.below h).cell (k:=0) rfl,(hX.below h).cell (k:=0) rfl,(hX.below h).cell (k:=1) rfl,(hX.below h).cell (k:=2) rfl,(hX.below h).cell (k:=3) rfl⟩);have hgc:=qp HGD.out;have HCP:=sqH (show ∀W,Below w7.heap.size w7 W→Calls Tryz.prog 29 #[.agg #[.slice A' (cln s).blobs.length c',.slice (some ⟨q2,0,none⟩) s.ents.length s.ents.length,.int .i64 s.room,.int .i64 s.clock]] W fun e w'=>∃g1 g2,e= .returned (.agg #[.slice (some ⟨g1,0,none⟩) (cln s).blobs.length (cln s).blobs.length,.slice (some ⟨g2,0,none⟩) s.ents.length s.ents.length,.int .i64 s.room,.int .i64 s.clock])∧OwSt w' W.heap.size (.slice (some ⟨g1,0,none⟩) (cln s).blobs.length (cln s).blobs.length) (.slice (some ⟨g2,0,none⟩) s.ents.length s.ents.length) (cln s) (fun b=>b<W.heap.size)∧Below W.heap.size W w' by
  intro W h;exact qe A' c' (some ⟨q2,0,none⟩) s.ents.length (cln s) W (by omega) (by rw [qO];omega) (fun b hb=>by have:=(hgc.b.one b hb).2.1;omega) (fun x hx=>by have:=(zj (hgc.e.one x hx).2.1).1;omega) (hrd7.below h))
 clear hS hX hrd7 hgc;refine wp_region_held_drew (S:=(fun w'=>w'.cell? ⟨H,0,none⟩=some (.slice A s.blobs.length c)∧(w'.cell? ⟨G,0,none⟩=some (.slice A' (cln s).blobs.length c')∧w'.cell? ⟨G,1,none⟩=some (.slice (some ⟨q2,0,none⟩) s.ents.length s.ents.length)∧w'.cell? ⟨G,2,none⟩=some (.int .i64 s.room)∧w'.cell? ⟨G,3,none⟩=some (.int .i64 s.clock)))) (by kernel_rfl) ?_ (fun hHeld=> ?_)
 ·exact HSB.out _ (Below.refl _ w7).drew
 have hB:=(Below.refl w7.heap.size w7).drew;generalize w7.drew=wn0 at *
 refine sqTH 0 ?_;try simp only [sqP]
 refine sqTH 2 ?_;try simp only [sqP]
 refine sqTH 3 ?_;try simp only [sqP]
 refine sqTH 4 ?_;try simp only [sqP]
 refine sqTH 5 ?_;try simp only [sqP]
 refine sqTH 6 ?_;try simp only [sqP]
 refine sqTH 7 ?_;try simp only [sqP]
 refine sqTH 8 ?_;try simp only [sqP]
 refine wpAnyH_ready (rs:= [1]) (by kernel_rfl) (by simp) ?_;refine AllReadyH.cons (o:=_) rfl (fun K hK=> ?_) ?_
 ·
  go_simp;refine(HCP.out wn0 hB).mono ?_;rintro e9 w9 ⟨g1,g2,rfl,ho9,hb9⟩;dsimp only;refine qJ hK ?_ (Below wn0.heap.size wn0) (fun W=>OwSt W w7.heap.size (.slice (some ⟨g1,0,none⟩) (cln s).blobs.length (cln s).blobs.length) (.slice (some ⟨g2,0,none⟩) s.ents.length s.ents.length) (cln s) (fun b=>b<w7.heap.size)) ?_ ?_ (fun wn1 hHeld hst hnew=> ?_)
  ·(exact HSB.out _ (hB.trans (hb9.mono hB.size)))
  ·(exact hb9)
  ·(exact(ho9.lower hB.size).wider (fun b hb=> .inl (Nat.lt_of_lt_of_le hb hB.size)))
  have hB:=hB.trans (hst.mono hB.size);have ho:=hnew;clear hnew;clear hst;clear hK K
  try simp only [sqP]
  refine wpAnyH_ready (rs:= [9]) (by kernel_rfl) (by simp) ?_;refine AllReadyH.cons (o:=_) rfl (fun K hK=> ?_) ?_
  ·
   obtain⟨f0,f1,f2,f3⟩:=sqF4 (hR.below hB);obtain⟨y0,y1,y2,y3⟩:=sqC4 (hR.below hB);go_simp;clear f0 f1 f2 f3 y0 y1 y2 y3;have hfin:=(hR.below hB).all4 (Value.slice (some ⟨g1,0,none⟩) (cln s).blobs.length (cln s).blobs.length) (Value.slice (some ⟨g2,0,none⟩) s.ents.length s.ents.length) (.int .i64 s.room) (.int .i64 s.clock);have hoF:=(((ho.set (g:=H+1) (k:=0) hH7 hH7 (Value.slice (some ⟨g1,0,none⟩) (cln s).blobs.length (cln s).blobs.length)).set (g:=H+1) (k:=1) hH7 hH7 (Value.slice (some ⟨g2,0,none⟩) s.ents.length s.ents.length)).set (g:=H+1) (k:=2) hH7 hH7 (.int .i64 s.room)).set (g:=H+1) (k:=3) hH7 hH7 (.int .i64 s.clock);have hb1:=hb.trans (hB.mono hw7);have hbF:=(((hb1.setCell (p:=⟨H+1,0,none⟩) (by simp only;omega) (Value.slice (some ⟨g1,0,none⟩) (cln s).blobs.length (cln s).blobs.length)).setCell (p:=⟨H+1,1,none⟩) (by simp only;omega) (Value.slice (some ⟨g2,0,none⟩) s.ents.length s.ents.length)).setCell (p:=⟨H+1,2,none⟩) (by simp only;omega) (.int .i64 s.room)).setCell (p:=⟨H+1,3,none⟩) (by simp only;omega) (.int .i64 s.clock);refine qJ hK ?_ (fun W=>Arr W (H+1) 26 [(Value.slice (some ⟨g1,0,none⟩) (cln s).blobs.length (cln s).blobs.length),(Value.slice (some ⟨g2,0,none⟩) s.ents.length s.ents.length),.int .i64 s.room,.int .i64 s.clock]) (fun W=>OwSt W w7.heap.size (Value.slice (some ⟨g1,0,none⟩) (cln s).blobs.length (cln s).blobs.length) (Value.slice (some ⟨g2,0,none⟩) s.ents.length s.ents.length) (cln s) (fun b=>b<w7.heap.size)∧Below H w W) ?_ ?_ (fun wn2 hHeld hF hG=> ?_)
   ·have h1:=HSB.out _ hB;rw [ki hHH,ki hGH,ki hGH,ki hGH,ki hGH];exact h1
   ·exact hfin
   ·exact⟨hoF,hbF⟩
   clear hB hfin ho hoF hb1 hbF;clear hK K
   try simp only [sqP]
   refine sqTH 10 ?_;try simp only [sqP]
   refine sqTH 11 ?_;try simp only [sqP]
   refine wpAnyH_done (by kernel_rfl) ?_ _;dsimp only [Exit.then];clear hHeld;obtain⟨hoF,hbF⟩:=hG;go_wp2_with fail;refine bodyPost_ret (zM rfl _ _ (H+1) _ _ _ _ (by rfl) hF Tryz.underlying26 rfl (by kernel_rfl)) rfl ?_;exact⟨_,_,rfl,(hoF.lower (base':=H) (by omega)).wider (N':=fun b=>b<H) (fun b hb=> .inl (by omega)),hbF⟩
  exact AllReadyH.nil
 exact AllReadyH.nil
def lessE (es:List EntP) (K:List (List UInt8)):List EntP:=es.filter (fun y=> !decide (y.key∈K))
theorem vT (es:List EntP):lessE es []=es:=List.filter_eq_self.2 fun y hy=>by simp
theorem ui {es:List EntP} {K:List (List UInt8)} {y:EntP}:y∈lessE es K↔y∈es∧y.key∉K:=by
 unfold lessE;rw [List.mem_filter];simp
theorem uO (es:List EntP) (k:List UInt8) (K:List (List UInt8)):lessE (lessE es [k]) K=lessE es (k::K):=by
 unfold lessE;rw [List.filter_filter];refine List.filter_congr fun y hy=> ?_;by_cases h1:y.key=k<;>by_cases h2:y.key∈K<;>simp [h1,h2]
theorem uJ:∀ {es:List EntP} (hr:RisesBy (·.key) es) (i:Nat) (hi:i<es.length),es.eraseIdx i=lessE es [es[i].key]
 | x::l,hr,0,_=>by
  have h1:∀y∈l,¬y.key=x.key:=fun y hy e=>by
   have h2:Op.bytesLess x.key y.key=true:=(List.pairwise_cons.1 hr).1 y hy
   rw [e,qM]at h2;cases h2
  rw [List.eraseIdx_cons_zero]
  unfold lessE
  rw [List.getElem_cons_zero,List.filter_cons_of_neg (by simp)]
  exact(List.filter_eq_self.2 fun y hy=>by simpa using h1 y hy).symm
 | x::l,hr,i+1,hi=>by
  have hi':i<l.length:=by simpa using hi
  have ih:=uJ (List.pairwise_cons.1 hr).2 i hi'
  have h1:¬x.key=l[i].key:=fun e=>by
   have h2:Op.bytesLess x.key l[i].key=true:=(List.pairwise_cons.1 hr).1 _ (List.getElem_mem hi')
   rw [e,qM]at h2;cases h2
  rw [List.eraseIdx_cons_succ,ih]
  unfold lessE
  rw [List.getElem_cons_succ,List.filter_cons_of_pos (by simpa using h1)]
theorem Us {es:List EntP} {i:Nat} (ho:xw es es.length=some i) (hi:i<es.length) {y:EntP} (hy:y∈es) (hp:y.pins=0):es[i].stamp≤y.stamp:=by
 obtain⟨j,hj,rfl⟩:=List.mem_iff_getElem.1 hy;exact j7 es _ i hi ho j hj hj hp
structure Ages (more:Nat) (s t:StoP) (xs:List EntP):Prop where
 mem:∀x∈xs,x∈s.ents∧x.pins=0
 asc:xs.Pairwise (fun a b=>a.stamp≤b.stamp)
 rest:∀x∈xs,∀y∈t.ents,y.pins=0→x.stamp≤y.stamp
 ents:t.ents=lessE s.ents (xs.map (·.key))
 last:xs≠ []→¬usd (cln { s with ents:=lessE s.ents (xs.map (·.key)).dropLast }).blobs+more≤s.room
theorem jA {more:Nat}:∀(n:Nat) (s t:StoP) (g g':List (List UInt8)),GoodS s→cln s=s→Z7 more n s g=some (t,g')→∃xs:List EntP,g'=g++xs.map (·.key)∧Ages more s t xs
 | 0,s,t,g,g',hg,hc,h=>by unfold Z7 at h;cases h
 | n+1,s,t,g,g',hg,hc,h=>by
  rcases jB h with ⟨h1,rfl,rfl⟩ | ⟨h1,i,hi,ho,h2⟩
  ·exact⟨[],by simp,⟨(fun x hx=>nomatch hx),List.Pairwise.nil,(fun x hx=>nomatch hx),(vT _).symm,fun h=>absurd rfl h⟩⟩
  ·have hg2:=yX hg (List.eraseIdx_sublist s.ents i)
   have ee:=uJ hg.e.ris i hi
   obtain⟨xs,e1,A⟩:=jA n _ t _ g' (qp hg2) (QH hg2.b.ris) h2
   refine⟨s.ents[i]::xs,by rw [e1];simp,?_⟩
   have hsub:∀x∈xs,x∈s.ents:=fun x hx=>kX _ _ x (A.mem x hx).1
   have hte:t.ents=lessE s.ents ((s.ents[i]::xs).map (·.key)):=by
    rw [A.ents,qO];show lessE (s.ents.eraseIdx i) _=_;rw [ee,uO];rfl
   refine⟨fun x hx=> ?_,List.pairwise_cons.2 ⟨fun x hx=>Us ho hi (hsub x hx) (A.mem x hx).2,A.asc⟩,fun x hx y hy hp=> ?_,hte,fun _=> ?_⟩
   ·rcases List.mem_cons.1 hx with rfl | hx
    ·exact⟨List.getElem_mem hi,vq s.ents _ i hi ho⟩
    ·exact⟨hsub x hx,(A.mem x hx).2⟩
   ·rcases List.mem_cons.1 hx with rfl | hx
    ·refine Us ho hi ?_ hp;rw [hte]at hy;exact(ui.1 hy).1
    ·exact A.rest x hx y hy hp
   ·cases xs with
    | nil =>
     show ¬usd (cln { s with ents:=lessE s.ents [] }).blobs+more≤s.room;rw [vT];show ¬usd (cln s).blobs+more≤s.room;rw [hc];exact h1
    | cons x xs =>
     have h3:=A.last (by simp);have e3:usd (cln { cln { s with ents:=s.ents.eraseIdx i } with ents:=lessE (s.ents.eraseIdx i) ((x::xs).map (·.key)).dropLast }).blobs=usd (cln { s with ents:=lessE (s.ents.eraseIdx i) ((x::xs).map (·.key)).dropLast }).blobs:=congrArg (fun u:StoP=>usd u.blobs) (Qw (s:= { s with ents:=s.ents.eraseIdx i }) hg.b.ris (fun y hy=>(ui.1 hy).1));have e4:lessE (s.ents.eraseIdx i) ((x::xs).map (·.key)).dropLast=lessE s.ents ((s.ents[i]::x::xs).map (·.key)).dropLast:=by
      rw [ee,uO];rfl
     rw [e4]at e3;have h5:¬usd (cln { cln { s with ents:=s.ents.eraseIdx i } with ents:=lessE (s.ents.eraseIdx i) ((x::xs).map (·.key)).dropLast }).blobs+more≤s.room:=h3;rw [e4]at h5;exact fun h6=>h5 (by rw [e3];exact h6)
theorem Kg {more:Nat} {s t:StoP} {g:List (List UInt8)} (hg:GoodS s) (h:kS more s=some (t,g)):∃xs:List EntP,g=xs.map (·.key)∧Ages more s t xs:=by
 unfold kS at h;by_cases hf:usd s.blobs+more≤s.room
 ·rw [if_pos hf]at h;cases h
  exact⟨[],rfl,⟨(fun x hx=>nomatch hx),List.Pairwise.nil,(fun x hx=>nomatch hx),(vT _).symm,fun h=>absurd rfl h⟩⟩
 ·rw [if_neg hf]at h;obtain⟨xs,e1,A⟩:=jA _ _ t [] g (qp hg) (QH hg.b.ris) h;refine⟨xs,by rw [e1];simp,⟨A.mem,A.asc,A.rest,A.ents,fun hx=> ?_⟩⟩;have h3:=A.last hx;have e3:usd (cln { cln s with ents:=lessE s.ents (xs.map (·.key)).dropLast }).blobs=usd (cln { s with ents:=lessE s.ents (xs.map (·.key)).dropLast }).blobs:=congrArg (fun u:StoP=>usd u.blobs) (Qw hg.b.ris (fun y hy=>(ui.1 hy).1));exact fun h4=>h3 (show usd (cln { cln s with ents:=lessE s.ents (xs.map (·.key)).dropLast }).blobs+more≤s.room by rw [e3];exact h4)
end Go.Proofs.YtnmlbflhnnmoeaaGreat
