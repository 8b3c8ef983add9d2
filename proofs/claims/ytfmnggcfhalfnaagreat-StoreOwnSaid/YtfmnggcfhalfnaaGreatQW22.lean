/- Lemmas of the proof. Conditions: as stated. -/
import Derived.Test.YtfmnggcfhalfnaaGreatQW21
set_option linter.unusedVariables false
set_option linter.unusedSimpArgs false
set_option maxRecDepth 100000
set_option maxHeartbeats 16000000
namespace Go.Proofs.YtfmnggcfhalfnaaGreat
open Go.RowKit
theorem vO (A:Option Addr) (c:Nat) (l:List BlobP) (PA:Option Addr) (pc:Nat) (ps:List PartP) (w:World) (hl:l.length≤1000000) (hp:ps.length≤1000000) (hA:Rw BlobS w A l) (hP:Rd w 3 PA ps.length (pcs ps)) :
  Calls Tryz.prog 31 #[.slice A l.length c,.slice PA ps.length pc] w fun e w'=>e= .returned (.int .i64 (ql l ps:Int))∧Below w.heap.size w w':=by
 generalize hR:ql l ps=R;have HR0:=sqH hR;clear hR;go_enter Tryz.func31,Tryz.ntmps31;go_wp2_with fail;go_loopg [11] ps.length (fun gn i wr=>∃j:Nat,gn=ps.length - j∧i= .int .i64 j∧j≤ps.length∧ql l (ps.drop j)=R∧Below w.heap.size w wr)
 case atStart=>exact⟨0,rfl,rfl,by omega,by rw [List.drop_zero];exact HR0.out,Below.refl _ _⟩
 case round =>
  obtain⟨j,hgk,rfl,hj,hrest,hbl⟩:=hrel;have HGK:=sqH hgk;have HRS:=sqH hrest;clear hgk hrest;by_cases hlt:j<ps.length
  ·have hcc:decide (j<ps.length)=true:=decide_eq_true hlt;obtain⟨b,off,rfl,hbb,hcell⟩:=(hP.below hbl).2 (by omega);have hj0:(0:Int)≤(j:Int):=by omega
   have hj1:(j:Int)<(ps.length:Int):=by omega
   have hat:=fun k (hk:k<3)=>qL ps j k hlt hk;have HDR:=sqH (show ql l (ps[j]::ps.drop (j+1))=R by rw [←List.drop_eq_getElem_cons hlt];exact HRS.out);generalize ps[j]=p at *
   have c0:=hcell (j*3+0) _ (hat 0 (by omega));have c1:=hcell (j*3+1) _ (hat 1 (by omega));have c2:=hcell (j*3+2) _ (hat 2 (by omega));rw [Nat.add_zero]at c0;rw [show off+(j*3+1)=off+j*3+1 by omega]at c1;rw [show off+(j*3+2)=off+j*3+2 by omega]at c2
   try dsimp only [qx,List.getElem?_cons_zero,List.getElem?_cons_succ]at c0 c1 c2
   obtain⟨sn,hsn⟩:∃s:ByteArray,s=⟨p.name.toArray⟩:=⟨_,rfl⟩
   obtain⟨sp,hsp⟩:∃s:ByteArray,s=⟨p.dig.toArray⟩:=⟨_,rfl⟩
   rw [←hsn]at c0;rw [←hsp]at c1;have HSP:=sqH hsp;have hX:Arr (wr.alloc (.cells #[.string sn,.string sp,.int .i64 p.size] 37)) wr.heap.size 37 [.string sn,.string sp,.int .i64 p.size]:=Arr.new wr 37 _;have hba:=(Below.refl wr.heap.size wr).alloc (Nat.le_refl _) (.cells #[.string sn,.string sp,.int .i64 p.size] 37);have hb2:=hbl.trans (hba.mono hbl.size);have x1:=hX.cell (k:=1) rfl;clear hat hcell hbl hba hsn hsp;go_wp2_with fail;generalize wr.alloc (.cells #[.string sn,.string sp,.int .i64 p.size] 37)=w2 at *
   generalize wr.heap.size=gx at *
   clear c0 c1 c2 x1;have hA2:=hA.below hb2;have HFN:=jb A c l p.dig w2 hl hA2;rw [←HSP.out]at HFN;cases hf:l.findIdx? (fun x=>x.dig==p.dig) with
   | none =>
    rw [hf,ZF]at HFN;have HFN:=sqH HFN;have HE:=sqH (show R=5 by rw [←HDR.out,ql,hf]);clear hf hA2;refine HFN.out.mono ?_;rintro e_ w3 ⟨rfl,hb3⟩;dsimp only;have hb23:=hb2.trans (hb3.mono hb2.size);go_wp2_with fail;go_ret;rw [HE.out];exact⟨rfl,hb23⟩
   | some i =>
    obtain⟨hi,_,_⟩:=List.findIdx?_eq_some_iff_getElem.1 hf;rw [hf,ZF]at HFN;have HFN:=sqH HFN;have HRR:=sqH (show R=if l[i].data.length=p.size then ql l (ps.drop (j+1)) else 4 by
     rw [←HDR.out,ql,hf];show(if (match l[i]? with | some b=>b.data.length | none=>0)=p.size then _ else _)=_;rw [List.getElem?_eq_getElem hi])
    clear hf;refine HFN.out.mono ?_;rintro e_ w3 ⟨rfl,hb3⟩;dsimp only;have hb23:=hb2.trans (hb3.mono hb2.size);have hX3:=hX.below hb3;obtain⟨b',off',B,cb,rfl,hbb',d0,d1,d2,d3,_⟩:=(hA2.below hb3).blob_at i hi;have hi0:(0:Int)≤(i:Int):=by omega
    have hi1:(i:Int)<(l.length:Int):=by omega
    have x2:=hX3.cell (k:=2) rfl;generalize l[i].data.length=m at *
    clear hA2 hX hb2 hb3 d0 d2 d3;by_cases hm:m=p.size
    ·have hne:((m:Int) != (p.size:Int))=false:=by rw [bne_eq_false_iff_eq];omega
     have HN:=sqH (show ql l (ps.drop (j+1))=R by rw [HRR.out,if_pos hm]);go_wp2_with fail;go_quiet (fail);go_wp2_with fail;go_roundg (ps.length - (j+1))
     case measure=>have:=HGK.out;omega
     case rel=>exact⟨j+1,rfl,by go_num,by omega,HN.out,zk hb23 _⟩
    ·have hne:((m:Int) != (p.size:Int))=true:=by rw [bne_iff_ne];omega
     have HN:=sqH (show R=4 by rw [HRR.out,if_neg hm]);go_wp2_with fail;go_quiet (fail);go_wp2_with fail;go_ret;rw [HN.out];exact⟨rfl,zk hb23 _⟩
  ·obtain rfl:j=ps.length:=by omega
   have hcc:decide (ps.length<ps.length)=false:=by simp
   have HE:=sqH (show R=0 by rw [←HRS.out,List.drop_length,ql]);go_wp2_with fail;go_ret;rw [HE.out];exact⟨rfl,hbl⟩
theorem Q6 (k:Int) (h:k=0∨k=1∨k=2) (w:World):(Instr.index 101 (.agg #[.int .i64 0,.int .i64 0,.int .i64 0]) (.int .i64 k)).run Tryz.prog w= .ok (.int .i64 0) w:=by
 rcases h with rfl | rfl | rfl<;>kernel_rfl
theorem yw {P:Program} {fn:Func} {p u:Tmp} {ty:TypeId} (h:fn.results=#[.cell p ty,.tmp u]) (tmps:Array Value) (w:World) (g:Nat) (t:TypeId) (cs:Array Value) (fr:Nat×Nat) (d:TypeDesc)
  (hp:tmps.getD p undef= .pointer (some ⟨g,0,none⟩)) (hg:w.heap[g]?=some (.cells cs t fr))
  (hu:P.underlying ty=some d) (hd:(match d with | .struct _ | .array _ _=>true | _=>false)=true) (hi:(P.info? ty).map (·.size)=some cs.size) :
  (results fn tmps).run P w= .ok (.tuple #[.agg cs,tmps.getD u undef]) w:=by
 have hp':tmps[p]?.getD undef= .pointer (some ⟨g,0,none⟩):=by simpa using hp
 simp [results,h,hp',asAddr,run_loadVar_row w g t ty cs fr d hg hu hd hi]
theorem zZ {P:Program} {fn:Func} {p u z:Tmp} {ty:TypeId} (h:fn.results=#[.cell p ty,.tmp u,.tmp z]) (tmps:Array Value) (w:World) (g:Nat) (t:TypeId) (cs:Array Value) (fr:Nat×Nat) (d:TypeDesc)
  (hp:tmps.getD p undef= .pointer (some ⟨g,0,none⟩)) (hg:w.heap[g]?=some (.cells cs t fr))
  (hu:P.underlying ty=some d) (hd:(match d with | .struct _ | .array _ _=>true | _=>false)=true) (hi:(P.info? ty).map (·.size)=some cs.size) :
  (results fn tmps).run P w= .ok (.tuple #[.agg cs,tmps.getD u undef,tmps.getD z undef]) w:=by
 have hp':tmps[p]?.getD undef= .pointer (some ⟨g,0,none⟩):=by simpa using hp
 simp [results,h,hp',asAddr,run_loadVar_row w g t ty cs fr d hg hu hd hi]
structure OwSt (w:World) (base:Nat) (v1 v2:Value) (s:StoP) (N:Nat→Prop):Prop where
 b:RwX BlobS 32 w base v1 s.blobs (fun g=>N g∨v2.ownBlock=some g)
 e:RwX EntS 35 w base v2 s.ents (fun g=>N g∨v1.ownBlock=some g)
 ne:∀g,v1.ownBlock=some g→v2.ownBlock≠some g
theorem OwSt.below {w w':World} {base:Nat} {v1 v2:Value} {s:StoP} {N:Nat→Prop} (h:OwSt w base v1 v2 s N) (hb:Below w.heap.size w w'):OwSt w' base v1 v2 s N:=⟨h.b.below hb,h.e.below hb,h.ne⟩
theorem OwSt.lower {w:World} {base base':Nat} {v1 v2:Value} {s:StoP} {N:Nat→Prop} (h:OwSt w base v1 v2 s N) (hb:base'≤base):OwSt w base' v1 v2 s N:=⟨h.b.lower hb,h.e.lower hb,h.ne⟩
theorem OwSt.wider {w:World} {base:Nat} {v1 v2:Value} {s:StoP} {N N':Nat→Prop} (h:OwSt w base v1 v2 s N) (hN:∀b,N' b→N b∨w.heap.size≤b):OwSt w base v1 v2 s N' :=
 ⟨h.b.wider fun b hb=>hb.elim (fun h1=>(hN b h1).imp .inl id) (fun h1=> .inl (.inr h1)),h.e.wider fun b hb=>hb.elim (fun h1=>(hN b h1).imp .inl id) (fun h1=> .inl (.inr h1)),h.ne⟩
structure RdSt (w:World) (A:Option Addr) (c:Nat) (B:Option Addr) (d:Nat) (s:StoP):Prop where
 b:Rw BlobS w A s.blobs
 e:Rw EntS w B s.ents
 bc:s.blobs.length≤c
 bm:c≤maxLen
 ec:s.ents.length≤d
 em:d≤maxLen
theorem RdSt.below {w w':World} {A B:Option Addr} {c d:Nat} {s:StoP} (h:RdSt w A c B d s) (hb:Below w.heap.size w w'):RdSt w' A c B d s:=⟨h.b.below hb,h.e.below hb,h.bc,h.bm,h.ec,h.em⟩
theorem OwSt.rows {w:World} {base:Nat} {v1 v2:Value} {s:StoP} {N:Nat→Prop} (h:OwSt w base v1 v2 s N):∃A c B d,v1= .slice A s.blobs.length c∧v2= .slice B s.ents.length d∧RdSt w A c B d s:=by
 obtain⟨A,c,e1,h1,h2,h3⟩:=h.b.rwo.rows;obtain⟨B,d,e2,k1,k2,k3⟩:=h.e.rwo.rows;exact⟨A,c,B,d,e1,e2,h3,k3,h1,h2,k1,k2⟩
theorem qD (A:Option Addr) (c:Nat) (B:Option Addr) (d:Nat) (s:StoP) (w:World) (hg:GoodS s) (hr:RdSt w A c B d s) :
  Calls Tryz.prog 26 #[.agg #[.slice A s.blobs.length c,.slice B s.ents.length d,.int .i64 s.room,.int .i64 s.clock]] w fun e w'=>e= .returned (.int .i64 0)∧Below w.heap.size w w':=by
 have hlb:s.blobs.length≤24:=hg.b.len;have hle:s.ents.length≤10:=hg.e.len;have hus:usd s.blobs≤4000:=Nat.le_trans hg.used hg.room;have hrm:=hg.room;have hck:=hg.clock;obtain⟨w0,hw0⟩:∃w0,w0=w.alloc (.cells #[.slice A s.blobs.length c,.slice B s.ents.length d,.int .i64 s.room,.int .i64 s.clock] 28):=⟨_,rfl⟩
 obtain⟨H,hH⟩:∃H,H=w.heap.size:=⟨_,rfl⟩
 have hS:Arr w0 H 28 [.slice A s.blobs.length c,.slice B s.ents.length d,.int .i64 s.room,.int .i64 s.clock]:=by rw [hw0,hH];exact Arr.new w 28 _
 have hb0:Below w.heap.size w w0:=by rw [hw0];exact(Below.refl _ _).alloc (Nat.le_refl _) _
 have hA0:=hr.b.below hb0;have hE0:=hr.e.below hb0;have HSB:=sqH (show ∀W,Below w0.heap.size w0 W→W.cell? ⟨H,0,none⟩=some (.slice A s.blobs.length c)∧W.cell? ⟨H,1,none⟩=some (.slice B s.ents.length d)∧W.cell? ⟨H,2,none⟩=some (.int .i64 s.room) from fun W h =>
  ⟨(hS.below h).cell (k:=0) rfl,(hS.below h).cell (k:=1) rfl,(hS.below h).cell (k:=2) rfl⟩)
 have HCB:=sqH (fun W (h:Below w0.heap.size w0 W)=>yF A c s.blobs W hg.b (hA0.below h));have HCE:=sqH (fun W (h:Below w0.heap.size w0 W)=>qC B d s.ents W hg.e (hE0.below h));have HCF:=sqH (show ∀W,Below w0.heap.size w0 W→Calls Tryz.prog 28 #[.slice A s.blobs.length c,.int .i64 s.room,.int .i64 0] W fun e w'=>e= .returned (.int .i64 0)∧Below W.heap.size W w' from fun W h=>by
  have:=vM A c s.blobs s.room 0 W (by omega) (by omega) hrm (by omega) (hA0.below h);rw [if_pos (by have:=hg.used;omega)]at this;exact this)
 have HEN:=sqH (show ∀x∈s.ents,x.stamp≤s.clock∧ql s.blobs x.parts=0∧x.parts.length≤8 from fun x hx =>
  ⟨(hg.ent x hx).1,ky hg.b.ris (hg.ent x hx).2,(zl (hg.e.one x hx).2.1).1⟩)
 have ck1:decide ((s.clock:Int)<0)=false:=decide_eq_false (by omega);have ck2:decide ((s.clock:Int)>1099511627776)=false:=decide_eq_false (by omega);have ck3:decide ((1099511627776:Int)<(s.clock:Int))=false:=decide_eq_false (by omega);have ck4:decide (1099511627776<s.clock)=false:=decide_eq_false (by omega);clear hg hr;go_enter Tryz.func26,Tryz.ntmps26;go_wp2_with fail;rw [←hw0];rw [←hH];clear hw0;have HH:=sqH hH;clear hH;refine wp_region_held_drew (S:=(fun w'=>w'.cell? ⟨H,0,none⟩=some (.slice A s.blobs.length c)∧w'.cell? ⟨H,1,none⟩=some (.slice B s.ents.length d)∧w'.cell? ⟨H,2,none⟩=some (.int .i64 s.room))) (by kernel_rfl) ?_ (fun hHeld=> ?_)
 ·exact HSB.out _ (Below.refl _ w0).drew
 have hB:=(Below.refl w0.heap.size w0).drew;generalize w0.drew=wn0 at *
 refine sqTH 0 ?_;try simp only [sqP]
 refine sqTH 1 ?_;try simp only [sqP]
 refine sqTH 3 ?_;try simp only [sqP]
 refine sqTH 4 ?_;try simp only [sqP]
 refine sqTH 6 ?_;try simp only [sqP]
 refine sqTH 7 ?_;try simp only [sqP]
 refine sqTH 8 ?_;try simp only [sqP]
 refine sqTH 9 ?_;try simp only [sqP]
 refine sqTH 12 ?_;try simp only [sqP]
 refine wpAnyH_ready (rs:= [2]) (by kernel_rfl) (by simp) ?_;refine AllReadyH.cons (o:=_) rfl (fun K hK=> ?_) ?_
 ·
  go_simp;refine(HCB.out wn0 hB).mono ?_;rintro e5 w5 ⟨rfl,hb5⟩;dsimp only;refine zr hK ?_ (Below wn0.heap.size wn0) (fun W=>True) ?_ ?_ (fun wn1 hHeld hst hnew=> ?_)
  ·(exact HSB.out _ (hB.trans (hb5.mono hB.size)))
  ·(exact hb5)
  ·(trivial)
  have hB:=hB.trans (hst.mono hB.size);clear hst;clear hK K
  try simp only [sqP]
  refine wpAnyH_ready (rs:= [5]) (by kernel_rfl) (by simp) ?_;refine AllReadyH.cons (o:=_) rfl (fun K hK=> ?_) ?_
  ·
   go_simp;refine(HCE.out wn1 hB).mono ?_;rintro e5 w5 ⟨rfl,hb5⟩;dsimp only;refine zr hK ?_ (Below wn1.heap.size wn1) (fun W=>True) ?_ ?_ (fun wn2 hHeld hst hnew=> ?_)
   ·(exact HSB.out _ (hB.trans (hb5.mono hB.size)))
   ·(exact hb5)
   ·(trivial)
   have hB:=hB.trans (hst.mono hB.size);clear hst;clear hK K
   try simp only [sqP]
   refine wpAnyH_ready (rs:= [10]) (by kernel_rfl) (by simp) ?_;refine AllReadyH.cons (o:=_) rfl (fun K hK=> ?_) ?_
   ·
    go_simp;refine(HCF.out wn2 hB).mono ?_;rintro e5 w5 ⟨rfl,hb5⟩;dsimp only;refine zr hK ?_ (Below wn2.heap.size wn2) (fun W=>True) ?_ ?_ (fun wn3 hHeld hst hnew=> ?_)
    ·(exact HSB.out _ (hB.trans (hb5.mono hB.size)))
    ·(exact hb5)
    ·(trivial)
    have hB:=hB.trans (hst.mono hB.size);clear hst;clear hK K
    try simp only [sqP]
    refine sqTH 11 ?_;try simp only [sqP]
    refine wpAnyH_done (by kernel_rfl) ?_ _;dsimp only [Exit.then];clear hHeld;have hb1:=hb0.trans (hB.mono hb0.size);have hS1:=hS.below hB;have hA1:=hA0.below hB;have hE1:=hE0.below hB;clear hB hS hA0 hE0 hb0;generalize wn3=w1 at *
    go_wp2_with fail;go_loopg [19] 3 (fun gn i wr=>∃j:Int,i= .int .i64 j∧(j=0∨j=1∨j=2∨j=3)∧gn=(3 - j).toNat∧wr=w1)
    case atStart=>exact⟨0,rfl,by omega,rfl,rfl⟩
    case round =>
     obtain⟨j,rfl,hj,hgn,hwr⟩:=hrel;subst hwr;have ix0:=Q6 0 (by omega) wr;have ix1:=Q6 1 (by omega) wr;have ix2:=Q6 2 (by omega) wr;rcases hj with rfl | rfl | rfl | rfl
     ·go_wp2_with fail;go_roundg 2
      case measure=>omega
      case rel=>exact⟨1,rfl,by omega,rfl,rfl⟩
     ·go_wp2_with fail;go_roundg 1
      case measure=>omega
      case rel=>exact⟨2,rfl,by omega,rfl,rfl⟩
     ·go_wp2_with fail;go_roundg 0
      case measure=>omega
      case rel=>exact⟨3,rfl,by omega,rfl,rfl⟩
     ·clear hgn ix0 ix1 ix2;generalize wr=wr0 at *
      have d3:=hS1.cell (k:=3) rfl;have d1:=hS1.cell (k:=1) rfl;go_wp2_with fail;clear d3 d1;go_loopg [37] s.ents.length (fun gn i wr=>∃j:Nat,gn=s.ents.length - j∧i= .int .i64 j∧j≤s.ents.length∧Below wr0.heap.size wr0 wr)
      case atStart=>exact⟨0,rfl,rfl,by omega,Below.refl _ _⟩
      case round =>
       obtain⟨j,hgk,rfl,hj,hbl⟩:=hrel;have HGK:=sqH hgk;clear hgk;by_cases hlt:j<s.ents.length
       ·have hcc:decide (j<s.ents.length)=true:=decide_eq_true hlt;obtain⟨b,off,PB,cb,rfl,hbb,c0,c1,c2,c3,hs⟩:=(hE1.below hbl).ent_at j hlt;have hj0:(0:Int)≤(j:Int):=by omega
        have hj1:(j:Int)<(s.ents.length:Int):=by omega
        obtain⟨g1,g2,g3⟩:=HEN.out s.ents[j] (List.getElem_mem hlt);have HG2:=sqH g2;generalize s.ents[j]=x at *
        obtain⟨sx,hsx⟩:∃s:ByteArray,s=⟨x.key.toArray⟩:=⟨_,rfl⟩
        rw [←hsx]at c0;have st1:decide ((x.stamp:Int)>(s.clock:Int))=false:=decide_eq_false (by omega);have st2:decide ((s.clock:Int)<(x.stamp:Int))=false:=decide_eq_false (by omega);have st3:decide (s.clock<x.stamp)=false:=decide_eq_false (by omega);have hX:Arr (wr.alloc (.cells #[.string sx,.slice PB x.parts.length cb,.int .i64 x.pins,.int .i64 x.stamp] 35)) wr.heap.size 35 [.string sx,.slice PB x.parts.length cb,.int .i64 x.pins,.int .i64 x.stamp]:=Arr.new wr 35 _;have hba:=(Below.refl wr.heap.size wr).alloc (Nat.le_refl _) (.cells #[.string sx,.slice PB x.parts.length cb,.int .i64 x.pins,.int .i64 x.stamp] 35);have hbl2:=hbl.trans (hba.mono hbl.size);have hs2:=hs.below hba;have hS2:=hS1.below hbl2;have hA2:=hA1.below hbl2;have x1:=hX.cell (k:=1) rfl;have x3:=hX.cell (k:=3) rfl;have y0:=hS2.cell (k:=0) rfl;have y3:=hS2.cell (k:=3) rfl;clear hsx hs hba hbl g2;go_wp2_with fail;generalize wr.alloc (.cells #[.string sx,.slice PB x.parts.length cb,.int .i64 x.pins,.int .i64 x.stamp] 35)=w2 at *
        generalize wr.heap.size=gx at *
        clear c0 c1 c2 c3 x1 x3 y0 y3;have HHV:=vO A c s.blobs PB cb x.parts w2 (by omega) (by omega) hA2 hs2.rd;rw [HG2.out]at HHV;have HHV:=sqH HHV;clear hA2 hs2 hS2 hX;refine HHV.out.mono ?_;rintro e_ w3 ⟨rfl,hb3⟩;dsimp only;have hbl3:=hbl2.trans (hb3.mono hbl2.size);go_wp2_with fail;go_roundg (s.ents.length - (j+1))
        case measure=>have:=HGK.out;omega
        case rel=>exact⟨j+1,rfl,by go_num,by omega,hbl3⟩
       ·obtain rfl:j=s.ents.length:=by omega
        have hcc:decide (s.ents.length<s.ents.length)=false:=by simp
        go_wp2_with fail;go_ret;exact⟨rfl,hb1.trans (hbl.mono hb1.size)⟩
   exact AllReadyH.nil
  exact AllReadyH.nil
 exact AllReadyH.nil
theorem OwSt.set {w:World} {base g k:Nat} {v1 v2:Value} {s:StoP} {N:Nat→Prop} (h:OwSt w base v1 v2 s N) (hg:g<base) (hN:N g) (u:Value):OwSt (w.setCell ⟨g,k,none⟩ u) base v1 v2 s N:=⟨h.b.set hg (.inl hN) u,h.e.set hg (.inl hN) u,h.ne⟩
theorem qE (A:Option Addr) (c:Nat) (B:Option Addr) (d:Nat) (s:StoP) (w:World) (hl:s.blobs.length≤100000) (he:s.ents.length≤100000) (hd:∀b∈s.blobs,b.data.length≤1000000) (hp:∀x∈s.ents,x.parts.length≤1000000) (hr:RdSt w A c B d s) :
  Calls Tryz.prog 12 #[.agg #[.slice A s.blobs.length c,.slice B s.ents.length d,.int .i64 s.room,.int .i64 s.clock]] w fun e w'=>∃g1 g2,e= .returned (.agg #[.slice (some ⟨g1,0,none⟩) s.blobs.length s.blobs.length,.slice (some ⟨g2,0,none⟩) s.ents.length s.ents.length,.int .i64 s.room,.int .i64 s.clock])∧OwSt w' w.heap.size (.slice (some ⟨g1,0,none⟩) s.blobs.length s.blobs.length) (.slice (some ⟨g2,0,none⟩) s.ents.length s.ents.length) s (fun b=>b<w.heap.size)∧Below w.heap.size w w':=by
 obtain⟨w0,hw0,hS,hR,hb0⟩:=zB w 28 [.slice A s.blobs.length c,.slice B s.ents.length d,.int .i64 s.room,.int .i64 s.clock] [.slice none 0 0,.slice none 0 0,.int .i64 0,.int .i64 0];obtain⟨H,hH⟩:∃H,H=w.heap.size:=⟨_,rfl⟩
 have hA0:=hr.b.below hb0;have hE0:=hr.e.below hb0;rw [←hH]at hS hR hb0 ⊢
 have hHl:H<w0.heap.size:=hS.lt;have hHr:H+1<w0.heap.size:=hR.lt;have HSB:=sqH (show ∀W,Below w0.heap.size w0 W→W.cell? ⟨H,1,none⟩=some (.slice B s.ents.length d) from fun W h=>(hS.below h).cell (k:=1) rfl);have HC0:=sqH (show ∀W,Below w0.heap.size w0 W→W.cell? ⟨H,0,none⟩=some (.slice A s.blobs.length c) from fun W h=>(hS.below h).cell (k:=0) rfl);have HCB:=sqH (show ∀W,Below w0.heap.size w0 W→Calls Tryz.prog 36 #[.slice A s.blobs.length c] W fun e w'=>∃g,e= .returned (.slice (some ⟨g,0,none⟩) s.blobs.length s.blobs.length)∧RwX BlobS 32 w' w0.heap.size (.slice (some ⟨g,0,none⟩) s.blobs.length s.blobs.length) s.blobs (fun b=>b<w0.heap.size)∧Below W.heap.size W w' from fun W h =>
  (xC A c s.blobs W hl hd (hA0.below h)).mono fun e w' ⟨g,h1,h2,h3⟩=>⟨g,h1,(h2.lower h.size).wider (fun b hb=> .inl (Nat.lt_of_lt_of_le hb h.size)),h3⟩)
 have HCE:=sqH (show ∀W v1,Below w0.heap.size w0 W→RwX BlobS 32 W w0.heap.size v1 s.blobs (fun b=>b<w0.heap.size)→Calls Tryz.prog 37 #[.slice B s.ents.length d] W fun e w'=>∃g,e= .returned (.slice (some ⟨g,0,none⟩) s.ents.length s.ents.length)∧OwSt w' w0.heap.size v1 (.slice (some ⟨g,0,none⟩) s.ents.length s.ents.length) s (fun b=>b<w0.heap.size)∧Below W.heap.size W w' from fun W v1 h hv =>
  (xD B d s.ents W he hp (hE0.below h)).mono fun e w' ⟨g,h1,h2,h3⟩=>by
   have hge:W.heap.size≤g:=(h2.rwo.blk rfl).1;refine⟨g,h1,⟨(hv.wider (fun b hb=>hb.imp id (fun e=>by cases e;exact hge))).below h3,(h2.lower h.size).wider (fun b hb=> .inl ?_),fun g' e1 e2=> ?_⟩,h3⟩
   ·rcases hb with hb | hb
    ·exact Nat.lt_of_lt_of_le hb h.size
    ·exact(hv.rwo.blk hb).2
   ·have:=(hv.rwo.blk e1).2;have e3:some g=some g':=e2;cases e3;omega)
 clear hr hd hp hA0 hE0;go_enter Tryz.func12,Tryz.ntmps12;go_wp2_with fail;rw [←hw0];rw [←hH];clear hw0 hH;refine zj 9 (S:=(fun w'=>w'.cell? ⟨H,1,none⟩=some (.slice B s.ents.length d))) (by kernel_rfl) ?_ (fun hHeld=> ?_)
 ·exact HSB.out _ (Below.refl _ w0).drew
 have hB:=(Below.refl w0.heap.size w0).drew;generalize w0.drew=wn0 at *
 refine sqTT 0 ?_;try simp only [sqP]
 refine sqTT 3 ?_;try simp only [sqP]
 refine sqTT 4 ?_;try simp only [sqP]
 refine za (rs:= [1]) (by kernel_rfl) (by simp) ?_;refine z6.cons (o:=_) rfl (fun K hK=> ?_) ?_
 ·
  have c0:=HC0.out _ hB;go_simp;refine uI hK ?_ (Below wn0.heap.size wn0) (fun W=>True) ?_ ?_ (fun wn1 hHeld hst hnew=> ?_)
  ·(exact HSB.out _ (hB.trans (Below.mono (show Below wn0.heap.size wn0 _ from by(first | exact hb5 | exact Below.refl _ _)) hB.size)))
  ·(first | exact hb5 | exact Below.refl _ _)
  ·(trivial)
  have hB:=hB.trans (hst.mono hB.size);clear hst;clear hK K
  try simp only [sqP]
  refine za (rs:= [2]) (by kernel_rfl) (by simp) ?_;refine z6.cons (o:=_) rfl (fun K hK=> ?_) ?_
  ·
   go_simp;refine(HCB.out wn1 hB).mono ?_;rintro e5 w5 ⟨g1,rfl,hx5,hb5⟩;dsimp only;refine uI hK ?_ (Below wn1.heap.size wn1) (fun W=>RwX BlobS 32 W w0.heap.size (.slice (some ⟨g1,0,none⟩) s.blobs.length s.blobs.length) s.blobs (fun b=>b<w0.heap.size)) ?_ ?_ (fun wn2 hHeld hst hnew=> ?_)
   ·(exact HSB.out _ (hB.trans (Below.mono (show Below wn1.heap.size wn1 _ from by(first | exact hb5 | exact Below.refl _ _)) hB.size)))
   ·(first | exact hb5 | exact Below.refl _ _)
   ·(exact hx5)
   have hB:=hB.trans (hst.mono hB.size);have hv1:=hnew;clear hnew;clear hst;clear hK K
   try simp only [sqP]
   refine sqTT 6 ?_;try simp only [sqP]
   refine za (rs:= [5]) (by kernel_rfl) (by simp) ?_;refine z6.cons (o:=_) rfl (fun K hK=> ?_) ?_
   ·
    go_simp;refine(HCE.out wn2 _ hB hv1).mono ?_;rintro e5 w5 ⟨g2,rfl,hx5,hb5⟩;dsimp only;refine uI hK ?_ (Below wn2.heap.size wn2) (fun W=>OwSt W w0.heap.size (.slice (some ⟨g1,0,none⟩) s.blobs.length s.blobs.length) (.slice (some ⟨g2,0,none⟩) s.ents.length s.ents.length) s (fun b=>b<w0.heap.size)) ?_ ?_ (fun wn3 hHeld hst hnew=> ?_)
    ·(exact HSB.out _ (hB.trans (Below.mono (show Below wn2.heap.size wn2 _ from by(first | exact hb5 | exact Below.refl _ _)) hB.size)))
    ·(first | exact hb5 | exact Below.refl _ _)
    ·(exact hx5)
    have hB:=hB.trans (hst.mono hB.size);have ho:=hnew;clear hnew hv1;clear hst;clear hK K
    try simp only [sqP]
    refine za (rs:= [7]) (by kernel_rfl) (by simp) ?_;refine z6.cons (o:=_) rfl (fun K hK=> ?_) ?_
    ·
     have fz:=(hS.below hB).frozen 0;have cz:=(hS.below hB).cell (k:=0) rfl;go_simp;clear fz cz;refine uI hK ?_ (fun W=>Arr W H 28 [(.slice (some ⟨g1,0,none⟩) s.blobs.length s.blobs.length),.slice B s.ents.length d,.int .i64 s.room,.int .i64 s.clock]∧Arr W (H+1) 28 [.slice none 0 0,.slice none 0 0,.int .i64 0,.int .i64 0]) (fun W=>OwSt W w0.heap.size (.slice (some ⟨g1,0,none⟩) s.blobs.length s.blobs.length) (.slice (some ⟨g2,0,none⟩) s.ents.length s.ents.length) s (fun b=>b<w0.heap.size)∧Below H w W) ?_ ?_ (fun wn4 hHeld hF hG=> ?_)
     ·exact((hS.below hB).set (k:=0) (by simp) (.slice (some ⟨g1,0,none⟩) s.blobs.length s.blobs.length)).cell (k:=1) rfl
     ·exact⟨(hS.below hB).set (k:=0) (by simp) (.slice (some ⟨g1,0,none⟩) s.blobs.length s.blobs.length),(hR.below hB).other (by omega) (.slice (some ⟨g1,0,none⟩) s.blobs.length s.blobs.length)⟩
     ·exact⟨ho.set hHl hHl (.slice (some ⟨g1,0,none⟩) s.blobs.length s.blobs.length),(hb0.trans (hB.mono (Nat.le_of_lt hHl))).setCell (p:=⟨H,0,none⟩) (Nat.le_refl _) (.slice (some ⟨g1,0,none⟩) s.blobs.length s.blobs.length)⟩
     clear hB ho;clear hK K
     try simp only [sqP]
     refine sqTT 8 ?_;try simp only [sqP]
     refine za (rs:= [9]) (by kernel_rfl) (by simp) ?_;refine z6.last (o:=_) rfl (fun K hK=> ?_);have fz:=hF.1.frozen 1;have cz:=hF.1.cell (k:=1) rfl;go_simp;clear fz cz;refine Q2 hK ?_;clear hK K
     try simp only [sqP]
     refine q4 (by kernel_rfl) ?_ _;dsimp only [Exit.then];clear hHeld;obtain⟨hS7,hR7⟩:=hF;obtain⟨ho7,hb7⟩:=hG;have hS9:Arr (wn4.setCell ⟨H,1,none⟩ (.slice (some ⟨g2,0,none⟩) s.ents.length s.ents.length)) H 28 [(.slice (some ⟨g1,0,none⟩) s.blobs.length s.blobs.length),(.slice (some ⟨g2,0,none⟩) s.ents.length s.ents.length),.int .i64 s.room,.int .i64 s.clock]:=hS7.set (k:=1) (by simp) (.slice (some ⟨g2,0,none⟩) s.ents.length s.ents.length);have hR9:=hR7.other (g':=H) (k:=1) (by omega) (.slice (some ⟨g2,0,none⟩) s.ents.length s.ents.length);have ho9:=ho7.set (k:=1) hHl hHl (.slice (some ⟨g2,0,none⟩) s.ents.length s.ents.length);have hb9:=hb7.setCell (p:=⟨H,1,none⟩) (Nat.le_refl _) (.slice (some ⟨g2,0,none⟩) s.ents.length s.ents.length);clear hS7 hR7 ho7 hb7 hS hR;generalize wn4.setCell ⟨H,1,none⟩ (.slice (some ⟨g2,0,none⟩) s.ents.length s.ents.length)=w9 at *
     obtain⟨z0,z1,z2,z3⟩:=sqC4 hS9;obtain⟨f0,f1,f2,f3⟩:=sqF4 hR9;obtain⟨y0,y1,y2,y3⟩:=sqC4 hR9;have hfin:=hR9.all4 (.slice (some ⟨g1,0,none⟩) s.blobs.length s.blobs.length) (.slice (some ⟨g2,0,none⟩) s.ents.length s.ents.length) (.int .i64 s.room) (.int .i64 s.clock);have ho10:=(((ho9.set (g:=H+1) (k:=0) (by omega) (by omega) (.slice (some ⟨g1,0,none⟩) s.blobs.length s.blobs.length)).set (g:=H+1) (k:=1) (by omega) (by omega) (.slice (some ⟨g2,0,none⟩) s.ents.length s.ents.length)).set (g:=H+1) (k:=2) (by omega) (by omega) (.int .i64 s.room)).set (g:=H+1) (k:=3) (by omega) (by omega) (.int .i64 s.clock);have hb10:=(((hb9.setCell (p:=⟨H+1,0,none⟩) (by simp only;omega) (.slice (some ⟨g1,0,none⟩) s.blobs.length s.blobs.length)).setCell (p:=⟨H+1,1,none⟩) (by simp only;omega) (.slice (some ⟨g2,0,none⟩) s.ents.length s.ents.length)).setCell (p:=⟨H+1,2,none⟩) (by simp only;omega) (.int .i64 s.room)).setCell (p:=⟨H+1,3,none⟩) (by simp only;omega) (.int .i64 s.clock);clear hR9 ho9 hb9 hS9;go_wp2_with fail;clear z0 z1 z2 z3 f0 f1 f2 f3 y0 y1 y2 y3;refine bodyPost_ret (results_cell_row rfl _ _ (H+1) _ _ _ _ (by rfl) hfin Tryz.underlying28 rfl (by kernel_rfl)) rfl ?_;exact⟨g1,g2,rfl,(ho10.lower (base':=H) (by omega)).wider (N':=fun b=>b<H) (fun b hb=> .inl (by omega)),hb10⟩
    exact z6.nil
   exact z6.nil
  exact z6.nil
 exact z6.nil
end Go.Proofs.YtfmnggcfhalfnaaGreat
namespace Go.Proofs.YtfmnggcfhalfnaaGreat
open Go.RowKit Go.Maps
structure Kd (base:Nat) (w w':World):Prop where
 bel:Below base w w'
 u8:∀a x,w.cell? a=some (.int .u8 x)→∃y,w'.cell? a=some (.int .u8 y)
 str:∀a s,w.cell? a=some (.string s)→∃t,w'.cell? a=some (.string t)
 sl:∀a A n c,w.cell? a=some (.slice A n c)→w'.cell? a=some (.slice A n c)
 i64:∀a x,w.cell? a=some (.int .i64 x)→w'.cell? a=some (.int .i64 x)
 fz:∀a,a.block<w.heap.size→w'.frozen? a=w.frozen? a
theorem Kd.refl (base:Nat) (w:World):Kd base w w:=⟨Below.refl _ _,fun a x h=>⟨x,h⟩,fun a s h=>⟨s,h⟩,fun _ _ _ _ h=>h,fun _ _ h=>h,fun _ _=>rfl⟩
theorem Kd.trans {base:Nat} {w1 w2 w3:World} (h:Kd base w1 w2) (k:Kd base w2 w3):Kd base w1 w3:=by
 refine⟨h.bel.trans k.bel,fun a x e=> ?_,fun a s e=> ?_,fun a A n c e=>k.sl _ _ _ _ (h.sl _ _ _ _ e),fun a x e=>k.i64 _ _ (h.i64 _ _ e),fun a ha=>(k.fz a (Nat.lt_of_lt_of_le ha h.bel.size)).trans (h.fz a ha)⟩
 ·obtain⟨y,e2⟩:=h.u8 a x e;exact k.u8 a y e2
 ·obtain⟨t,e2⟩:=h.str a s e;exact k.str a t e2
theorem Kd.mono {base base':Nat} {w w':World} (h:Kd base w w') (hb:base'≤base):Kd base' w w':=⟨h.bel.mono hb,h.u8,h.str,h.sl,h.i64,h.fz⟩
theorem zW {w:World} {a:Addr} {v:Value} (h:w.cell? a=some v):a.block<w.heap.size:=by
 rcases Nat.lt_or_ge a.block w.heap.size with h1 | h1
 ·exact h1
 ·simp [World.cell?,Array.getElem?_eq_none h1]at h
theorem Kd.of_below {base:Nat} {w w':World} (hb:Below w.heap.size w w') (h:base≤w.heap.size):Kd base w w':=by
 refine⟨hb.mono h,fun a x e=>⟨x,?_⟩,fun a s e=>⟨s,?_⟩,fun a A n c e=> ?_,fun a x e=> ?_,fun a ha=> ?_⟩
 ·rw [←e];exact World.cell?_of_block (hb.block _ (zW e))
 ·rw [←e];exact World.cell?_of_block (hb.block _ (zW e))
 ·rw [←e];exact World.cell?_of_block (hb.block _ (zW e))
 ·rw [←e];exact World.cell?_of_block (hb.block _ (zW e))
 ·simp only [World.frozen?,hb.block _ ha]
theorem Kd.setU8 {base:Nat} {w:World} {a:Addr} {x y:Int} (h:w.cell? a=some (.int .u8 x)) (hb:base≤a.block):Kd base w (w.setCell a (.int .u8 y)):=by
 refine⟨(Below.refl _ _).setCell hb _,fun b z e=> ?_,fun b s e=> ?_,fun b A n c e=> ?_,fun b i e=> ?_,fun b _=>World.frozen?_setCell _ _ _ _⟩
 ·by_cases hab:a=b
  ·subst hab;exact⟨y,World.cell?_setCell_same _ _ _ e⟩
  ·exact⟨z,(World.cell?_setCell_other _ _ _ _ hab).trans e⟩
 ·have hab:a≠b:=fun q=>by subst q;rw [h]at e;cases e
  exact⟨s,(World.cell?_setCell_other _ _ _ _ hab).trans e⟩
 ·have hab:a≠b:=fun q=>by subst q;rw [h]at e;cases e
  exact(World.cell?_setCell_other _ _ _ _ hab).trans e
 ·have hab:a≠b:=fun q=>by subst q;rw [h]at e;cases e
  exact(World.cell?_setCell_other _ _ _ _ hab).trans e
theorem Kd.setStr {base:Nat} {w:World} {a:Addr} {s t:ByteArray} (h:w.cell? a=some (.string s)) (hb:base≤a.block):Kd base w (w.setCell a (.string t)):=by
 refine⟨(Below.refl _ _).setCell hb _,fun b z e=> ?_,fun b u e=> ?_,fun b A n c e=> ?_,fun b i e=> ?_,fun b _=>World.frozen?_setCell _ _ _ _⟩
 ·have hab:a≠b:=fun q=>by subst q;rw [h]at e;cases e
  exact⟨z,(World.cell?_setCell_other _ _ _ _ hab).trans e⟩
 ·by_cases hab:a=b
  ·subst hab;exact⟨t,World.cell?_setCell_same _ _ _ e⟩
  ·exact⟨u,(World.cell?_setCell_other _ _ _ _ hab).trans e⟩
 ·have hab:a≠b:=fun q=>by subst q;rw [h]at e;cases e
  exact(World.cell?_setCell_other _ _ _ _ hab).trans e
 ·have hab:a≠b:=fun q=>by subst q;rw [h]at e;cases e
  exact(World.cell?_setCell_other _ _ _ _ hab).trans e
def SpD (base:Nat) (w:World) (B:Option Addr) (m:Nat):Prop:=m≤maxLen∧∀j,j<m→∃g o x,B=some ⟨g,o,none⟩∧base≤g∧w.cell? ⟨g,o+j,none⟩=some (.int .u8 x)∧w.frozen? ⟨g,o+j,none⟩=false
def SpP (base:Nat) (w:World) (B:Option Addr) (m:Nat):Prop:=m≤maxLen∧∀j,j<m→∃g o s,B=some ⟨g,o,none⟩∧base≤g∧w.cell? ⟨g,o+j*3,none⟩=some (.string s)∧w.frozen? ⟨g,o+j*3,none⟩=false
def SpR (D:Nat→World→Option Addr→Nat→Prop) (base:Nat) (w:World) (A:Option Addr) (n:Nat):Prop:=n≤maxLen∧∀k,k<n→∃g o s B m c,A=some ⟨g,o,none⟩∧base≤g∧w.cell? ⟨g,o+k*4,none⟩=some (.string s)∧w.frozen? ⟨g,o+k*4,none⟩=false∧w.cell? ⟨g,o+k*4+1,none⟩=some (.slice B m c)∧D base w B m
theorem SpD.kd {base b2:Nat} {w w':World} {B:Option Addr} {m:Nat} (h:SpD base w B m) (k:Kd b2 w w'):SpD base w' B m:=by
 refine⟨h.1,fun j hj=> ?_⟩;obtain⟨g,o,x,rfl,hb,hc,hf⟩:=h.2 j hj;obtain⟨y,hy⟩:=k.u8 _ _ hc;exact⟨g,o,y,rfl,hb,hy,(k.fz _ (zW hc)).trans hf⟩
theorem SpP.kd {base b2:Nat} {w w':World} {B:Option Addr} {m:Nat} (h:SpP base w B m) (k:Kd b2 w w'):SpP base w' B m:=by
 refine⟨h.1,fun j hj=> ?_⟩;obtain⟨g,o,s,rfl,hb,hc,hf⟩:=h.2 j hj;obtain⟨t,ht⟩:=k.str _ _ hc;exact⟨g,o,t,rfl,hb,ht,(k.fz _ (zW hc)).trans hf⟩
theorem SpR.kd {D:Nat→World→Option Addr→Nat→Prop} {base b2:Nat} {w w':World} {A:Option Addr} {n:Nat} (hD:∀B m,D base w B m→D base w' B m) (h:SpR D base w A n) (k:Kd b2 w w'):SpR D base w' A n:=by
 refine⟨h.1,fun j hj=> ?_⟩;obtain⟨g,o,s,B,m,c,rfl,hb,hc,hf,hs,hd⟩:=h.2 j hj;obtain⟨t,ht⟩:=k.str _ _ hc;exact⟨g,o,t,B,m,c,rfl,hb,ht,(k.fz _ (zW hc)).trans hf,k.sl _ _ _ _ hs,hD B m hd⟩
structure Spl (base:Nat) (w:World) (X:Option Addr) (n:Nat) (Y:Option Addr) (m:Nat):Prop where
 b:SpR SpD base w X n
 e:SpR SpP base w Y m
theorem Spl.kd {base b2:Nat} {w w':World} {X Y:Option Addr} {n m:Nat} (h:Spl base w X n Y m) (k:Kd b2 w w'):Spl base w' X n Y m :=
 ⟨h.b.kd (fun _ _ hd=>hd.kd k) k,h.e.kd (fun _ _ hd=>hd.kd k) k⟩
theorem SpD.of_sl {base:Nat} {w:World} {B:Option Addr} {c:Nat} {D:List UInt8} (h:Sl w 1 B D.length c (bys D)) (hb:∀a,B=some a→base≤a.block):SpD base w B D.length:=by
 refine⟨Nat.le_trans h.cap h.max,fun j hj=> ?_⟩;obtain⟨g,o,rfl,hg,hc⟩:=h.rd.2 (by omega);have hu:(bys D)[j]?=some (.int .u8 ((D[j]).toNat:Int)):=by simp [bys,List.getElem?_eq_getElem hj]
 exact⟨g,o,_,rfl,hb _ rfl,hc j _ hu,h.nf g o rfl j (by omega)⟩
theorem SpP.of_sl {base:Nat} {w:World} {B:Option Addr} {c:Nat} {ps:List PartP} (h:Sl w 3 B ps.length c (pcs ps)) (hb:∀a,B=some a→base≤a.block):SpP base w B ps.length:=by
 refine⟨Nat.le_trans h.cap h.max,fun j hj=> ?_⟩;obtain⟨g,o,rfl,hg,hc⟩:=h.rd.2 (by omega);have hu:(pcs ps)[j*3]?=some (.string ⟨(ps[j]).name.toArray⟩):=by
  have:=qL ps j 0 hj (by omega);rw [Nat.add_zero]at this;rw [this];rfl
 exact⟨g,o,_,rfl,hb _ rfl,hc _ _ hu,h.nf g o rfl _ (by omega)⟩
theorem SpR.of_b {base:Nat} {w:World} {v:Value} {l:List BlobP} {N:Nat→Prop} {T:TypeId} (h:RwX BlobS T w base v l N) (hN:∀b,b<base→N b):∃A c,v= .slice A l.length c∧l.length≤c∧c≤maxLen∧SpR SpD base w A l.length:=by
 obtain⟨ps,rfl,h2,h3,h4⟩:=h;rw [List.length_map]at h3 ⊢
 have hl:=qY ps h2.lens;rcases h3.2 with ⟨rfl,e⟩ | ⟨g,cap,cur,rfl,hb,hh,hn,hm,hs,ht⟩
 ·exact⟨none,0,by rw [e],by omega,Nat.zero_le _,by omega,fun k hk=>by omega⟩
 ·refine⟨_,cap,rfl,hn,hm,Nat.le_trans hn hm,fun k hk=> ?_⟩;have hc:∀j u,(ps[k].2)[j]?=some u→w.cell? ⟨g,0+k*4+j,none⟩=some u:=fun j u hu=>by
   have hlj:j<4:=by
    have:=h2.lens _ (List.getElem_mem hk);have h':ps[k].2.length=4:=this;have:=(List.getElem?_eq_some_iff.1 hu).1;omega
   have h5:(cls ps)[k*4+j]?=some u:=(xQ (s:=4) ps k j hk h2.lens hlj).trans hu;have h6:cur.toList[k*4+j]?=some u:=by
    rw [←ht]at h5;rw [List.getElem?_take]at h5;split at h5
    ·exact h5
    ·cases h5
   rw [Nat.zero_add];simpa [World.cell?,hh] using h6
  obtain⟨B,c,e1,hsl⟩:=h2 _ (List.getElem_mem hk);refine⟨g,0,_,B,_,c,rfl,hb,hc 0 _ (by rw [e1];rfl),xp hh _,hc 1 _ (by rw [e1];rfl),SpD.of_sl hsl fun a ha=> ?_⟩;rcases Nat.lt_or_ge a.block base with hlt | hge
  ·exact absurd ⟨a,ps[k].1.data.length,c,by rw [e1,ha];simp [zi],rfl⟩ (h4 _ (List.getElem_mem hk) a.block (.inr (hN _ hlt)))
  ·exact hge
theorem SpR.of_e {base:Nat} {w:World} {v:Value} {l:List EntP} {N:Nat→Prop} {T:TypeId} (h:RwX EntS T w base v l N) (hN:∀b,b<base→N b):∃A c,v= .slice A l.length c∧l.length≤c∧c≤maxLen∧SpR SpP base w A l.length:=by
 obtain⟨ps,rfl,h2,h3,h4⟩:=h;rw [List.length_map]at h3 ⊢
 have hl:=qY ps h2.lens;rcases h3.2 with ⟨rfl,e⟩ | ⟨g,cap,cur,rfl,hb,hh,hn,hm,hs,ht⟩
 ·exact⟨none,0,by rw [e],by omega,Nat.zero_le _,by omega,fun k hk=>by omega⟩
 ·refine⟨_,cap,rfl,hn,hm,Nat.le_trans hn hm,fun k hk=> ?_⟩;have hc:∀j u,(ps[k].2)[j]?=some u→w.cell? ⟨g,0+k*4+j,none⟩=some u:=fun j u hu=>by
   have hlj:j<4:=by
    have:=h2.lens _ (List.getElem_mem hk);have h':ps[k].2.length=4:=this;have:=(List.getElem?_eq_some_iff.1 hu).1;omega
   have h5:(cls ps)[k*4+j]?=some u:=(xQ (s:=4) ps k j hk h2.lens hlj).trans hu;have h6:cur.toList[k*4+j]?=some u:=by
    rw [←ht]at h5;rw [List.getElem?_take]at h5;split at h5
    ·exact h5
    ·cases h5
   rw [Nat.zero_add];simpa [World.cell?,hh] using h6
  obtain⟨B,c,e1,hsl⟩:=h2 _ (List.getElem_mem hk);refine⟨g,0,_,B,_,c,rfl,hb,hc 0 _ (by rw [e1];rfl),xp hh _,hc 1 _ (by rw [e1];rfl),SpP.of_sl hsl fun a ha=> ?_⟩;rcases Nat.lt_or_ge a.block base with hlt | hge
  ·exact absurd ⟨a,ps[k].1.parts.length,c,by rw [e1,ha];simp [zw],rfl⟩ (h4 _ (List.getElem_mem hk) a.block (.inr (hN _ hlt)))
  ·exact hge
theorem Spl.of_own {w:World} {base:Nat} {v1 v2:Value} {s:StoP} {N:Nat→Prop} (h:OwSt w base v1 v2 s N) (hN:∀b,b<base→N b):∃A c B d,v1= .slice A s.blobs.length c∧v2= .slice B s.ents.length d∧s.blobs.length≤c∧c≤maxLen∧s.ents.length≤d∧d≤maxLen∧Spl base w A s.blobs.length B s.ents.length:=by
 obtain⟨A,c,e1,a1,a2,a3⟩:=SpR.of_b h.b fun b hb=> .inl (hN b hb);obtain⟨B,d,e2,b1,b2,b3⟩:=SpR.of_e h.e fun b hb=> .inl (hN b hb);exact⟨A,c,B,d,e1,e2,a1,a2,b1,b2,a3,b3⟩
theorem qF (X:Option Addr) (n cX:Nat) (Y:Option Addr) (m dY:Nat) (r k:Int) (base:Nat) (w:World) (h:Spl base w X n Y m) (hb:base≤w.heap.size) :
  Calls Tryz.prog 5 #[.agg #[.slice X n cX,.slice Y m dY,.int .i64 r,.int .i64 k]] w fun e w'=>e= .returned (.tuple #[])∧Kd base w w':=by
 obtain⟨w0,hw0⟩:∃W,W=w.alloc (.cells #[.slice X n cX,.slice Y m dY,.int .i64 r,.int .i64 k] 28):=⟨_,rfl⟩
 obtain⟨g0,hg0⟩:∃g,g=w.heap.size:=⟨_,rfl⟩
 have hR:Arr w0 g0 28 [.slice X n cX,.slice Y m dY,.int .i64 r,.int .i64 k]:=by rw [hw0,hg0];exact Arr.new w 28 _
 have hb0:Below w.heap.size w w0:=by rw [hw0];exact(Below.refl _ _).alloc (Nat.le_refl _) _
 have hk0:Kd base w w0:=Kd.of_below hb0 hb;obtain⟨hX0,hY0⟩:=sqC2 hR;have HX:=sqH (fun W (k:Kd base w0 W)=>k.sl _ _ _ _ hX0);have HY:=sqH (fun W (k:Kd base w0 W)=>k.sl _ _ _ _ hY0);have HB:=sqH (fun W (k:Kd base w0 W)=>(h.kd hk0).b.kd (fun _ _ hd=>hd.kd k) k);have HE:=sqH (fun W (k:Kd base w0 W)=>(h.kd hk0).e.kd (fun _ _ hd=>hd.kd k) k);have HK0:=sqH hk0;have HW0:=sqH hw0;have HG0:=sqH hg0;have hnm:(n:Int)≤9223372036854775807:=by have h1:=h.b.1;unfold maxLen at h1;omega
 have hmm:(m:Int)≤9223372036854775807:=by have h1:=h.e.1;unfold maxLen at h1;omega
 clear hw0 hg0 hk0 hb0 hR hX0 hY0 h hb;go_enter Tryz.func5,Tryz.ntmps5
 repeat' ((fail_if_success (with_reducible refine at_x0reg_ 1 ?_));(fail_if_success (with_reducible refine at_x1reg_ 1 ?_));(fail_if_success (with_reducible refine at_x2reg_ 1 ?_));(fail_if_success (with_reducible refine at_x3reg_ 1 ?_));(fail_if_success (with_reducible refine at_x4reg_ 1 ?_));(fail_if_success (with_reducible refine at_x5reg_ 1 ?_));(fail_if_success at_builtin);(fail_if_success at_make);(first | go_values | go_skip | go_guarded | go_step | go_upon | go_back))
 rw [←HW0.out,←HG0.out];clear HW0 HG0;have x0:=HX.out w0 (Kd.refl _ _);go_wp2_with fail;clear x0;go_loopg [9] n (fun gn u wr=>∃i:Nat,gn=n - i∧u= .int .i64 i∧i≤n∧Kd base w0 wr)
 case atStart=>exact⟨0,rfl,rfl,by omega,Kd.refl _ _⟩
 case round =>
  obtain⟨i,hgk,rfl,hi,hk⟩:=hrel;have HGK:=sqH hgk;clear hgk;by_cases hlt:i<n
  ·have hcc:decide (i<n)=true:=decide_eq_true hlt;have hci:decide ((i:Int)<(n:Int))=true:=decide_eq_true (by omega);have hi0:(0:Int)≤(i:Int):=by omega
   have hi1:(i:Int)<(n:Int):=by omega
   obtain⟨g,o,s,B,q,c,hXe,hgb,hc0,hf0,hc1,hd⟩:=(HB.out wr hk).2 i hlt;subst hXe;have x0:=HX.out wr hk;go_wp2_with fail;clear x0;have hqm:(q:Int)≤9223372036854775807:=by have h1:=hd.1;unfold maxLen at h1;omega
   go_loopg [19] q (fun gn u wv=>∃j:Nat,gn=q - j∧u= .int .i64 j∧j≤q∧Kd base wr wv)
   case atStart=>exact⟨0,rfl,rfl,by omega,Kd.refl _ _⟩
   case round =>
    obtain⟨j,hgj,rfl,hj,hkj⟩:=hrel;have HGJ:=sqH hgj;clear hgj;by_cases hlj:j<q
    ·have hcc:decide (j<q)=true:=decide_eq_true hlj;have hcj:decide ((j:Int)<(q:Int))=true:=decide_eq_true (by omega);have hj0:(0:Int)≤(j:Int):=by omega
     have hj1:(j:Int)<(q:Int):=by omega
     obtain⟨g2,o2,x,hBe,hgb2,hc2,hf2⟩:=(hd.kd hkj).2 j hlj;subst hBe;have x0:=HX.out _ (hk.trans hkj);have x1:=hkj.sl _ _ _ _ hc1;go_wp2_with fail;go_roundg (q - (j+1))
     case measure=>have:=HGJ.out;omega
     case rel=>exact⟨j+1,rfl,by go_num,by omega,hkj.trans (Kd.setU8 hc2 hgb2)⟩
    ·obtain rfl:j=q:=by omega
     have hcc:decide (j<j)=false:=by simp
     obtain⟨s1,hs1⟩:=hkj.str _ _ hc0;have hf1:=(hkj.fz _ (zW hc0)).trans hf0;have x0:=HX.out _ (hk.trans hkj);go_wp2_with fail;go_roundg (n - (i+1))
     case measure=>have:=HGK.out;omega
     case rel=>exact⟨i+1,rfl,by go_num,by omega,(hk.trans hkj).trans (Kd.setStr hs1 hgb)⟩
  ·obtain rfl:i=n:=by omega
   have hcc:decide (i<i)=false:=by simp
   have y0:=HY.out wr hk;go_wp2_with fail;clear y0;have HK1:=sqH hk;clear hk;go_loopg [43] m (fun gn u wv=>∃i:Nat,gn=m - i∧u= .int .i64 i∧i≤m∧Kd base w0 wv)
   case atStart=>exact⟨0,rfl,rfl,by omega,HK1.out⟩
   case round =>
    obtain⟨i2,hgk,rfl,hi,hk⟩:=hrel;have HGK2:=sqH hgk;clear hgk;by_cases hlt:i2<m
    ·have hcc:decide (i2<m)=true:=decide_eq_true hlt;have hci:decide ((i2:Int)<(m:Int))=true:=decide_eq_true (by omega);have hi0:(0:Int)≤(i2:Int):=by omega
     have hi1:(i2:Int)<(m:Int):=by omega
     obtain⟨g,o,s,B,q,c,hYe,hgb,hc0,hf0,hc1,hd⟩:=(HE.out _ hk).2 i2 hlt;subst hYe;have x0:=HY.out _ hk;go_wp2_with fail;clear x0;have hqm:(q:Int)≤9223372036854775807:=by have h1:=hd.1;unfold maxLen at h1;omega
     go_loopg [53] q (fun gn u wv=>∃j:Nat,gn=q - j∧u= .int .i64 j∧j≤q∧Kd base wr wv)
     case atStart=>exact⟨0,rfl,rfl,by omega,Kd.refl _ _⟩
     case round =>
      obtain⟨j,hgj,rfl,hj,hkj⟩:=hrel;have HGJ:=sqH hgj;clear hgj;by_cases hlj:j<q
      ·have hcc:decide (j<q)=true:=decide_eq_true hlj;have hcj:decide ((j:Int)<(q:Int))=true:=decide_eq_true (by omega);have hj0:(0:Int)≤(j:Int):=by omega
       have hj1:(j:Int)<(q:Int):=by omega
       obtain⟨g2,o2,x,hBe,hgb2,hc2,hf2⟩:=(hd.kd hkj).2 j hlj;subst hBe;have x0:=HY.out _ (hk.trans hkj);have x1:=hkj.sl _ _ _ _ hc1;go_wp2_with fail;go_roundg (q - (j+1))
       case measure=>have:=HGJ.out;omega
       case rel=>exact⟨j+1,rfl,by go_num,by omega,hkj.trans (Kd.setStr hc2 hgb2)⟩
      ·obtain rfl:j=q:=by omega
       have hcc:decide (j<j)=false:=by simp
       obtain⟨s1,hs1⟩:=hkj.str _ _ hc0;have hf1:=(hkj.fz _ (zW hc0)).trans hf0;have x0:=HY.out _ (hk.trans hkj);go_wp2_with fail;go_roundg (m - (i2+1))
       case measure=>have:=HGK2.out;omega
       case rel=>exact⟨i2+1,rfl,by go_num,by omega,(hk.trans hkj).trans (Kd.setStr hs1 hgb)⟩
    ·obtain rfl:i2=m:=by omega
     have hcc:decide (i2<i2)=false:=by simp
     go_wp2_with fail;go_end0;exact⟨rfl,HK0.out.trans hk⟩
end Go.Proofs.YtfmnggcfhalfnaaGreat
