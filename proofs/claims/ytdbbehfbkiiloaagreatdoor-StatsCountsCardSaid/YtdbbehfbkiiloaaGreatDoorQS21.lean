/- Lemmas of the proof. Conditions: as stated. -/
import Derived.Test.YtdbbehfbkiiloaaGreatDoorQS16
import Derived.Test.YtdbbehfbkiiloaaGreatDoorQS20
set_option linter.unusedVariables false
set_option linter.unusedSimpArgs false
set_option maxRecDepth 100000
set_option maxHeartbeats 16000000
namespace Go.Proofs.YtdbbehfbkiiloaaGreatDoor
open Go.RowKit
theorem uv (gk:Nat) (d:List UInt8) (l:List EntP) (w:World) (hk:w.cell? ⟨gk,0,none⟩=some (.string ⟨d.toArray⟩)) (hg:gk<w.heap.size):vD w l 60 (.pointer (some ⟨gk,0,none⟩)) (fun b=>b.key==d):=by
 refine⟨fun _ _=>by kernel_rfl,fun b B cb W hb hbel hs=> ?_⟩;have hg1:gk<W.heap.size:=Nat.lt_of_lt_of_le hg hbel.size;have hk0:W.cell? ⟨gk,0,none⟩=some (.string ⟨d.toArray⟩):=(hbel.cell (p:=⟨gk,0,none⟩) hg).trans hk;generalize hs1:(⟨b.key.toArray⟩:ByteArray)=s;generalize hs2:(⟨d.toArray⟩:ByteArray)=t at hk0;have hst:(b.key==d)=(s.toList==t.toList):=by
  rw [←hs1,←hs2,ByteArray.toList_eq,ByteArray.toList_eq]
 dsimp only;rw [hst];have hb1:=(Below.refl W.heap.size W).alloc (Nat.le_refl _) (.cells #[.string s,.slice B b.parts.length cb,.int .i64 b.pins,(.int .i64 b.stamp)] 64);have hk1:(W.alloc (.cells #[.string s,.slice B b.parts.length cb,.int .i64 b.pins,(.int .i64 b.stamp)] 64)).cell? ⟨gk,0,none⟩=some (.string t):=(World.cell?_alloc_lt W _ ⟨gk,0,none⟩ hg1).trans hk0;clear hst hs1 hs2;go_enter Tryz.func60,Tryz.ntmps60;go_wp2_with fail;go_ret;exact⟨rfl,hb1⟩
theorem ZB (A:Option Addr) (c:Nat) (l:List EntP) (d:List UInt8) (w:World) (hl:l.length≤1000000) (hA:Rw EntS w A l) :
  Calls Tryz.prog 31 #[.slice A l.length c,.string ⟨d.toArray⟩] w fun e w'=>e= .returned (Qv (l.findIdx? (fun x=>x.key==d)))∧Below w.heap.size w w':=by
 obtain⟨s,hs⟩:∃s:ByteArray,s=⟨d.toArray⟩:=⟨_,rfl⟩
 rw [←hs];have hA1:=Arr.new w 9 [.string s];have hb1:=(Below.refl w.heap.size w).alloc (Nat.le_refl _) (.cells #[.string s] 9);have hA1':Arr (w.alloc (.cells #[.string s] 9)) w.heap.size 9 [.string s]:=hA1;have hk:=hA1'.cell (k:=0) rfl;have HI:=j6 A c l _ (.pointer (some ⟨w.heap.size,0,none⟩)) (fun x=>x.key==d) (w.alloc (.cells #[.string s] 9)) hl (hA.below hb1) (uv w.heap.size d l _ (by rw [hk,hs]) hA1'.lt);clear hs hA hA1 hA1' hk;cases hf:l.findIdx? (fun x=>x.key==d) with
 | none =>
  rw [hf]at HI;have HI:=sqH HI;go_enter Tryz.func31,Tryz.ntmps31;go_wp2_with fail;refine HI.out.mono ?_;rintro e_ w2 ⟨rfl,hb2⟩;dsimp only;have hb12:=hb1.trans (hb2.mono hb1.size);go_wp2_with fail;go_ret2;exact⟨rfl,hb12⟩
 | some i =>
  rw [hf]at HI;have HI:=sqH HI;have hi:decide ((i:Int)<0)=false:=decide_eq_false (by omega);go_enter Tryz.func31,Tryz.ntmps31;go_wp2_with fail;refine HI.out.mono ?_;rintro e_ w2 ⟨rfl,hb2⟩;dsimp only;have hb12:=hb1.trans (hb2.mono hb1.size);go_wp2_with fail;go_ret2;exact⟨rfl,hb12⟩
theorem uu (gk:Nat) (d:List UInt8) (l:List BlobP) (w:World) (hk:w.cell? ⟨gk,0,none⟩=some (.string ⟨d.toArray⟩)) (hg:gk<w.heap.size):vC w l 136 (.pointer (some ⟨gk,0,none⟩)) (fun b=>b.dig==d):=by
 refine⟨fun _ _=>by kernel_rfl,fun b B cb W hb hbel hs=> ?_⟩;have hg1:gk<W.heap.size:=Nat.lt_of_lt_of_le hg hbel.size;have hk0:W.cell? ⟨gk,0,none⟩=some (.string ⟨d.toArray⟩):=(hbel.cell (p:=⟨gk,0,none⟩) hg).trans hk;generalize hs1:(⟨b.dig.toArray⟩:ByteArray)=s;generalize hs2:(⟨d.toArray⟩:ByteArray)=t at hk0;have hst:(b.dig==d)=(s.toList==t.toList):=by
  rw [←hs1,←hs2,ByteArray.toList_eq,ByteArray.toList_eq]
 dsimp only;rw [hst];have hb1:=(Below.refl W.heap.size W).alloc (Nat.le_refl _) (.cells #[.string s,.slice B b.data.length cb,.int .i64 b.pins,(.bool b.mark)] 52);have hk1:(W.alloc (.cells #[.string s,.slice B b.data.length cb,.int .i64 b.pins,(.bool b.mark)] 52)).cell? ⟨gk,0,none⟩=some (.string t):=(World.cell?_alloc_lt W _ ⟨gk,0,none⟩ hg1).trans hk0;clear hst hs1 hs2;go_enter Tryz.func136,Tryz.ntmps136;go_wp2_with fail;go_ret;exact⟨rfl,hb1⟩
theorem vv (A:Option Addr) (c:Nat) (l:List BlobP) (d:List UInt8) (w:World) (hl:l.length≤1000000) (hA:Rw BlobS w A l) :
  Calls Tryz.prog 117 #[.slice A l.length c,.string ⟨d.toArray⟩] w fun e w'=>e= .returned (Qv (l.findIdx? (fun x=>x.dig==d)))∧Below w.heap.size w w':=by
 obtain⟨s,hs⟩:∃s:ByteArray,s=⟨d.toArray⟩:=⟨_,rfl⟩
 rw [←hs];have hA1:=Arr.new w 9 [.string s];have hb1:=(Below.refl w.heap.size w).alloc (Nat.le_refl _) (.cells #[.string s] 9);have hA1':Arr (w.alloc (.cells #[.string s] 9)) w.heap.size 9 [.string s]:=hA1;have hk:=hA1'.cell (k:=0) rfl;have HI:=j5 A c l _ (.pointer (some ⟨w.heap.size,0,none⟩)) (fun x=>x.dig==d) (w.alloc (.cells #[.string s] 9)) hl (hA.below hb1) (uu w.heap.size d l _ (by rw [hk,hs]) hA1'.lt);clear hs hA hA1 hA1' hk;cases hf:l.findIdx? (fun x=>x.dig==d) with
 | none =>
  rw [hf]at HI;have HI:=sqH HI;go_enter Tryz.func117,Tryz.ntmps117;go_wp2_with fail;refine HI.out.mono ?_;rintro e_ w2 ⟨rfl,hb2⟩;dsimp only;have hb12:=hb1.trans (hb2.mono hb1.size);go_wp2_with fail;go_ret2;exact⟨rfl,hb12⟩
 | some i =>
  rw [hf]at HI;have HI:=sqH HI;have hi:decide ((i:Int)<0)=false:=decide_eq_false (by omega);go_enter Tryz.func117,Tryz.ntmps117;go_wp2_with fail;refine HI.out.mono ?_;rintro e_ w2 ⟨rfl,hb2⟩;dsimp only;have hb12:=hb1.trans (hb2.mono hb1.size);go_wp2_with fail;go_ret2;exact⟨rfl,hb12⟩
theorem QO (A:Option Addr) (c:Nat) (l:List BlobP) (PA:Option Addr) (pc:Nat) (ps:List PartP) (w:World) (hl:l.length≤1000000) (hp:ps.length≤1000000) (hA:Rw BlobS w A l) (hP:Rd w 3 PA ps.length (pcs ps)) :
  Calls Tryz.prog 86 #[.slice A l.length c,.slice PA ps.length pc] w fun e w'=>e= .returned (.int .i64 (zM l ps:Int))∧Below w.heap.size w w':=by
 generalize hR:zM l ps=R;have HR0:=sqH hR;clear hR;go_enter Tryz.func86,Tryz.ntmps86;go_wp2_with fail;go_loopg [11] ps.length (fun gn i wr=>∃j:Nat,gn=ps.length - j∧i= .int .i64 j∧j≤ps.length∧zM l (ps.drop j)=R∧Below w.heap.size w wr)
 case atStart=>exact⟨0,rfl,rfl,by omega,by rw [List.drop_zero];exact HR0.out,Below.refl _ _⟩
 case round =>
  obtain⟨j,hgk,rfl,hj,hrest,hbl⟩:=hrel;have HGK:=sqH hgk;have HRS:=sqH hrest;clear hgk hrest;by_cases hlt:j<ps.length
  ·have hcc:decide (j<ps.length)=true:=decide_eq_true hlt;obtain⟨b,off,rfl,hbb,hcell⟩:=(hP.below hbl).2 (by omega);have hj0:(0:Int)≤(j:Int):=by omega
   have hj1:(j:Int)<(ps.length:Int):=by omega
   have hat:=fun k (hk:k<3)=>kI ps j k hlt hk;have HDR:=sqH (show zM l (ps[j]::ps.drop (j+1))=R by rw [←List.drop_eq_getElem_cons hlt];exact HRS.out);generalize ps[j]=p at *
   have c0:=hcell (j*3+0) _ (hat 0 (by omega));have c1:=hcell (j*3+1) _ (hat 1 (by omega));have c2:=hcell (j*3+2) _ (hat 2 (by omega));rw [Nat.add_zero]at c0;rw [show off+(j*3+1)=off+j*3+1 by omega]at c1;rw [show off+(j*3+2)=off+j*3+2 by omega]at c2
   try dsimp only [qu,List.getElem?_cons_zero,List.getElem?_cons_succ]at c0 c1 c2
   obtain⟨sn,hsn⟩:∃s:ByteArray,s=⟨p.name.toArray⟩:=⟨_,rfl⟩
   obtain⟨sp,hsp⟩:∃s:ByteArray,s=⟨p.dig.toArray⟩:=⟨_,rfl⟩
   rw [←hsn]at c0;rw [←hsp]at c1;have HSP:=sqH hsp;have hX:Arr (wr.alloc (.cells #[.string sn,.string sp,.int .i64 p.size] 77)) wr.heap.size 77 [.string sn,.string sp,.int .i64 p.size]:=Arr.new wr 77 _;have hba:=(Below.refl wr.heap.size wr).alloc (Nat.le_refl _) (.cells #[.string sn,.string sp,.int .i64 p.size] 77);have hb2:=hbl.trans (hba.mono hbl.size);have x1:=hX.cell (k:=1) rfl;clear hat hcell hbl hba hsn hsp;go_wp2_with fail;generalize wr.alloc (.cells #[.string sn,.string sp,.int .i64 p.size] 77)=w2 at *
   generalize wr.heap.size=gx at *
   clear c0 c1 c2 x1;have hA2:=hA.below hb2;have HFN:=vv A c l p.dig w2 hl hA2;rw [←HSP.out]at HFN;cases hf:l.findIdx? (fun x=>x.dig==p.dig) with
   | none =>
    rw [hf,Qv]at HFN;have HFN:=sqH HFN;have HE:=sqH (show R=5 by rw [←HDR.out,zM,hf]);clear hf hA2;refine HFN.out.mono ?_;rintro e_ w3 ⟨rfl,hb3⟩;dsimp only;have hb23:=hb2.trans (hb3.mono hb2.size);go_wp2_with fail;go_ret;rw [HE.out];exact⟨rfl,hb23⟩
   | some i =>
    obtain⟨hi,_,_⟩:=List.findIdx?_eq_some_iff_getElem.1 hf;rw [hf,Qv]at HFN;have HFN:=sqH HFN;have HRR:=sqH (show R=if l[i].data.length=p.size then zM l (ps.drop (j+1)) else 4 by
     rw [←HDR.out,zM,hf];show(if (match l[i]? with | some b=>b.data.length | none=>0)=p.size then _ else _)=_;rw [List.getElem?_eq_getElem hi])
    clear hf;refine HFN.out.mono ?_;rintro e_ w3 ⟨rfl,hb3⟩;dsimp only;have hb23:=hb2.trans (hb3.mono hb2.size);have hX3:=hX.below hb3;obtain⟨b',off',B,cb,rfl,hbb',d0,d1,d2,d3,_⟩:=(hA2.below hb3).blob_at i hi;have hi0:(0:Int)≤(i:Int):=by omega
    have hi1:(i:Int)<(l.length:Int):=by omega
    have x2:=hX3.cell (k:=2) rfl;generalize l[i].data.length=m at *
    clear hA2 hX hb2 hb3 d0 d2 d3;by_cases hm:m=p.size
    ·have hne:((m:Int) != (p.size:Int))=false:=by rw [bne_eq_false_iff_eq];omega
     have HN:=sqH (show zM l (ps.drop (j+1))=R by rw [HRR.out,if_pos hm]);go_wp2_with fail;go_quiet (fail);go_wp2_with fail;go_roundg (ps.length - (j+1))
     case measure=>have:=HGK.out;omega
     case rel=>exact⟨j+1,rfl,by go_num,by omega,HN.out,zp hb23 _⟩
    ·have hne:((m:Int) != (p.size:Int))=true:=by rw [bne_iff_ne];omega
     have HN:=sqH (show R=4 by rw [HRR.out,if_neg hm]);go_wp2_with fail;go_quiet (fail);go_wp2_with fail;go_ret;rw [HN.out];exact⟨rfl,zp hb23 _⟩
  ·obtain rfl:j=ps.length:=by omega
   have hcc:decide (ps.length<ps.length)=false:=by simp
   have HE:=sqH (show R=0 by rw [←HRS.out,List.drop_length,zM]);go_wp2_with fail;go_ret;rw [HE.out];exact⟨rfl,hbl⟩
theorem Y6 (k:Int) (h:k=0∨k=1∨k=2) (w:World):(Instr.index 130 (.agg #[.int .i64 0,.int .i64 0,.int .i64 0]) (.int .i64 k)).run Tryz.prog w= .ok (.int .i64 0) w:=by
 rcases h with rfl | rfl | rfl<;>kernel_rfl
structure OwSt (w:World) (base:Nat) (v1 v2:Value) (s:StoP) (N:Nat→Prop):Prop where
 b:RwX BlobS 52 w base v1 s.blobs (fun g=>N g∨v2.ownBlock=some g)
 e:RwX EntS 64 w base v2 s.ents (fun g=>N g∨v1.ownBlock=some g)
 ne:∀g,v1.ownBlock=some g→v2.ownBlock≠some g
theorem OwSt.below {w w':World} {base:Nat} {v1 v2:Value} {s:StoP} {N:Nat→Prop} (h:OwSt w base v1 v2 s N) (hb:Below w.heap.size w w'):OwSt w' base v1 v2 s N:=⟨h.b.below hb,h.e.below hb,h.ne⟩
theorem OwSt.lower {w:World} {base base':Nat} {v1 v2:Value} {s:StoP} {N:Nat→Prop} (h:OwSt w base v1 v2 s N) (hb:base'≤base):OwSt w base' v1 v2 s N:=⟨h.b.lower hb,h.e.lower hb,h.ne⟩
theorem OwSt.wider {w:World} {base:Nat} {v1 v2:Value} {s:StoP} {N N':Nat→Prop} (h:OwSt w base v1 v2 s N) (hN:∀b,N' b→N b∨w.heap.size≤b):OwSt w base v1 v2 s N' :=
 ⟨h.b.wider fun b hb=>hb.elim (fun h1=>(hN b h1).imp .inl id) (fun h1=> .inl (.inr h1)),h.e.wider fun b hb=>hb.elim (fun h1=>(hN b h1).imp .inl id) (fun h1=> .inl (.inr h1)),h.ne⟩
structure RdSt (w:World) (A:Option Addr) (c:Nat) (B:Option Addr) (d:Nat) (s:StoP):Prop where
 b:Rw BlobS w A s.blobs
 e:Rw EntS w B s.ents
 bc:s.blobs.length≤c
 bm:c≤maxLen
 ec:s.ents.length≤d
 em:d≤maxLen
theorem RdSt.below {w w':World} {A B:Option Addr} {c d:Nat} {s:StoP} (h:RdSt w A c B d s) (hb:Below w.heap.size w w'):RdSt w' A c B d s:=⟨h.b.below hb,h.e.below hb,h.bc,h.bm,h.ec,h.em⟩
theorem OwSt.rows {w:World} {base:Nat} {v1 v2:Value} {s:StoP} {N:Nat→Prop} (h:OwSt w base v1 v2 s N):∃A c B d,v1= .slice A s.blobs.length c∧v2= .slice B s.ents.length d∧RdSt w A c B d s:=by
 obtain⟨A,c,e1,h1,h2,h3⟩:=h.b.rwo.rows;obtain⟨B,d,e2,k1,k2,k3⟩:=h.e.rwo.rows;exact⟨A,c,B,d,e1,e2,h3,k3,h1,h2,k1,k2⟩
theorem kw (A:Option Addr) (c:Nat) (B:Option Addr) (d:Nat) (s:StoP) (w:World) (hg:GoodS s) (hr:RdSt w A c B d s) :
  Calls Tryz.prog 43 #[.agg #[.slice A s.blobs.length c,.slice B s.ents.length d,.int .i64 s.room,.int .i64 s.clock]] w fun e w'=>e= .returned (.int .i64 0)∧Below w.heap.size w w':=by
 have hlb:s.blobs.length≤24:=hg.b.len;have hle:s.ents.length≤10:=hg.e.len;have hus:usd s.blobs≤4000:=Nat.le_trans hg.used hg.room;have hrm:=hg.room;have hck:=hg.clock;obtain⟨w0,hw0⟩:∃w0,w0=w.alloc (.cells #[.slice A s.blobs.length c,.slice B s.ents.length d,.int .i64 s.room,.int .i64 s.clock] 26):=⟨_,rfl⟩
 obtain⟨H,hH⟩:∃H,H=w.heap.size:=⟨_,rfl⟩
 have hS:Arr w0 H 26 [.slice A s.blobs.length c,.slice B s.ents.length d,.int .i64 s.room,.int .i64 s.clock]:=by rw [hw0,hH];exact Arr.new w 26 _
 have hb0:Below w.heap.size w w0:=by rw [hw0];exact(Below.refl _ _).alloc (Nat.le_refl _) _
 have hA0:=hr.b.below hb0;have hE0:=hr.e.below hb0;have HSB:=sqH (show ∀W,Below w0.heap.size w0 W→W.cell? ⟨H,0,none⟩=some (.slice A s.blobs.length c)∧W.cell? ⟨H,1,none⟩=some (.slice B s.ents.length d)∧W.cell? ⟨H,2,none⟩=some (.int .i64 s.room) from fun W h =>
  ⟨(hS.below h).cell (k:=0) rfl,(hS.below h).cell (k:=1) rfl,(hS.below h).cell (k:=2) rfl⟩)
 have HCB:=sqH (fun W (h:Below w0.heap.size w0 W)=>uT A c s.blobs W hg.b (hA0.below h));have HCE:=sqH (fun W (h:Below w0.heap.size w0 W)=>uU B d s.ents W hg.e (hE0.below h));have HCF:=sqH (show ∀W,Below w0.heap.size w0 W→Calls Tryz.prog 85 #[.slice A s.blobs.length c,.int .i64 s.room,.int .i64 0] W fun e w'=>e= .returned (.int .i64 0)∧Below W.heap.size W w' from fun W h=>by
  have:=QM A c s.blobs s.room 0 W (by omega) (by omega) hrm (by omega) (hA0.below h);rw [if_pos (by have:=hg.used;omega)]at this;exact this)
 have HEN:=sqH (show ∀x∈s.ents,x.stamp≤s.clock∧zM s.blobs x.parts=0∧x.parts.length≤8 from fun x hx =>
  ⟨(hg.ent x hx).1,xo hg.b.ris (hg.ent x hx).2,(zC (hg.e.one x hx).2.1).1⟩)
 have ck1:decide ((s.clock:Int)<0)=false:=decide_eq_false (by omega);have ck2:decide ((s.clock:Int)>1099511627776)=false:=decide_eq_false (by omega);have ck3:decide ((1099511627776:Int)<(s.clock:Int))=false:=decide_eq_false (by omega);have ck4:decide (1099511627776<s.clock)=false:=decide_eq_false (by omega);clear hg hr;go_enter Tryz.func43,Tryz.ntmps43;go_wp2_with fail;rw [←hw0];rw [←hH];clear hw0;have HH:=sqH hH;clear hH;refine wp_region_held_drew (S:=(fun w'=>w'.cell? ⟨H,0,none⟩=some (.slice A s.blobs.length c)∧w'.cell? ⟨H,1,none⟩=some (.slice B s.ents.length d)∧w'.cell? ⟨H,2,none⟩=some (.int .i64 s.room))) (by kernel_rfl) ?_ (fun hHeld=> ?_)
 ·exact HSB.out _ (Below.refl _ w0).drew
 have hB:=(Below.refl w0.heap.size w0).drew;generalize w0.drew=wn0 at *
 refine sqTH 0 ?_;try simp only [sqP]
 refine sqTH 1 ?_;try simp only [sqP]
 refine sqTH 3 ?_;try simp only [sqP]
 refine sqTH 4 ?_;try simp only [sqP]
 refine sqTH 6 ?_;try simp only [sqP]
 refine sqTH 7 ?_;try simp only [sqP]
 refine sqTH 8 ?_;try simp only [sqP]
 refine sqTH 9 ?_;try simp only [sqP]
 refine sqTH 12 ?_;try simp only [sqP]
 refine wpAnyH_ready (rs:= [2]) (by kernel_rfl) (by simp) ?_;refine AllReadyH.cons (o:=_) rfl (fun K hK=> ?_) ?_
 ·
  go_simp;refine(HCB.out wn0 hB).mono ?_;rintro e5 w5 ⟨rfl,hb5⟩;dsimp only;refine qi hK ?_ (Below wn0.heap.size wn0) (fun W=>True) ?_ ?_ (fun wn1 hHeld hst hnew=> ?_)
  ·(exact HSB.out _ (hB.trans (hb5.mono hB.size)))
  ·(exact hb5)
  ·(trivial)
  have hB:=hB.trans (hst.mono hB.size);clear hst;clear hK K
  try simp only [sqP]
  refine wpAnyH_ready (rs:= [5]) (by kernel_rfl) (by simp) ?_;refine AllReadyH.cons (o:=_) rfl (fun K hK=> ?_) ?_
  ·
   go_simp;refine(HCE.out wn1 hB).mono ?_;rintro e5 w5 ⟨rfl,hb5⟩;dsimp only;refine qi hK ?_ (Below wn1.heap.size wn1) (fun W=>True) ?_ ?_ (fun wn2 hHeld hst hnew=> ?_)
   ·(exact HSB.out _ (hB.trans (hb5.mono hB.size)))
   ·(exact hb5)
   ·(trivial)
   have hB:=hB.trans (hst.mono hB.size);clear hst;clear hK K
   try simp only [sqP]
   refine wpAnyH_ready (rs:= [10]) (by kernel_rfl) (by simp) ?_;refine AllReadyH.cons (o:=_) rfl (fun K hK=> ?_) ?_
   ·
    go_simp;refine(HCF.out wn2 hB).mono ?_;rintro e5 w5 ⟨rfl,hb5⟩;dsimp only;refine qi hK ?_ (Below wn2.heap.size wn2) (fun W=>True) ?_ ?_ (fun wn3 hHeld hst hnew=> ?_)
    ·(exact HSB.out _ (hB.trans (hb5.mono hB.size)))
    ·(exact hb5)
    ·(trivial)
    have hB:=hB.trans (hst.mono hB.size);clear hst;clear hK K
    try simp only [sqP]
    refine sqTH 11 ?_;try simp only [sqP]
    refine wpAnyH_done (by kernel_rfl) ?_ _;dsimp only [Exit.then];clear hHeld;have hb1:=hb0.trans (hB.mono hb0.size);have hS1:=hS.below hB;have hA1:=hA0.below hB;have hE1:=hE0.below hB;clear hB hS hA0 hE0 hb0;generalize wn3=w1 at *
    go_wp2_with fail;go_loopg [19] 3 (fun gn i wr=>∃j:Int,i= .int .i64 j∧(j=0∨j=1∨j=2∨j=3)∧gn=(3 - j).toNat∧wr=w1)
    case atStart=>exact⟨0,rfl,by omega,rfl,rfl⟩
    case round =>
     obtain⟨j,rfl,hj,hgn,hwr⟩:=hrel;subst hwr;have ix0:=Y6 0 (by omega) wr;have ix1:=Y6 1 (by omega) wr;have ix2:=Y6 2 (by omega) wr;rcases hj with rfl | rfl | rfl | rfl
     ·go_wp2_with fail;go_roundg 2
      case measure=>omega
      case rel=>exact⟨1,rfl,by omega,rfl,rfl⟩
     ·go_wp2_with fail;go_roundg 1
      case measure=>omega
      case rel=>exact⟨2,rfl,by omega,rfl,rfl⟩
     ·go_wp2_with fail;go_roundg 0
      case measure=>omega
      case rel=>exact⟨3,rfl,by omega,rfl,rfl⟩
     ·clear hgn ix0 ix1 ix2;generalize wr=wr0 at *
      have d3:=hS1.cell (k:=3) rfl;have d1:=hS1.cell (k:=1) rfl;go_wp2_with fail;clear d3 d1;go_loopg [37] s.ents.length (fun gn i wr=>∃j:Nat,gn=s.ents.length - j∧i= .int .i64 j∧j≤s.ents.length∧Below wr0.heap.size wr0 wr)
      case atStart=>exact⟨0,rfl,rfl,by omega,Below.refl _ _⟩
      case round =>
       obtain⟨j,hgk,rfl,hj,hbl⟩:=hrel;have HGK:=sqH hgk;clear hgk;by_cases hlt:j<s.ents.length
       ·have hcc:decide (j<s.ents.length)=true:=decide_eq_true hlt;obtain⟨b,off,PB,cb,rfl,hbb,c0,c1,c2,c3,hs⟩:=(hE1.below hbl).ent_at j hlt;have hj0:(0:Int)≤(j:Int):=by omega
        have hj1:(j:Int)<(s.ents.length:Int):=by omega
        obtain⟨g1,g2,g3⟩:=HEN.out s.ents[j] (List.getElem_mem hlt);have HG2:=sqH g2;generalize s.ents[j]=x at *
        obtain⟨sx,hsx⟩:∃s:ByteArray,s=⟨x.key.toArray⟩:=⟨_,rfl⟩
        rw [←hsx]at c0;have st1:decide ((x.stamp:Int)>(s.clock:Int))=false:=decide_eq_false (by omega);have st2:decide ((s.clock:Int)<(x.stamp:Int))=false:=decide_eq_false (by omega);have st3:decide (s.clock<x.stamp)=false:=decide_eq_false (by omega);have hX:Arr (wr.alloc (.cells #[.string sx,.slice PB x.parts.length cb,.int .i64 x.pins,.int .i64 x.stamp] 64)) wr.heap.size 64 [.string sx,.slice PB x.parts.length cb,.int .i64 x.pins,.int .i64 x.stamp]:=Arr.new wr 64 _;have hba:=(Below.refl wr.heap.size wr).alloc (Nat.le_refl _) (.cells #[.string sx,.slice PB x.parts.length cb,.int .i64 x.pins,.int .i64 x.stamp] 64);have hbl2:=hbl.trans (hba.mono hbl.size);have hs2:=hs.below hba;have hS2:=hS1.below hbl2;have hA2:=hA1.below hbl2;have x1:=hX.cell (k:=1) rfl;have x3:=hX.cell (k:=3) rfl;have y0:=hS2.cell (k:=0) rfl;have y3:=hS2.cell (k:=3) rfl;clear hsx hs hba hbl g2;go_wp2_with fail;generalize wr.alloc (.cells #[.string sx,.slice PB x.parts.length cb,.int .i64 x.pins,.int .i64 x.stamp] 64)=w2 at *
        generalize wr.heap.size=gx at *
        clear c0 c1 c2 c3 x1 x3 y0 y3;have HHV:=QO A c s.blobs PB cb x.parts w2 (by omega) (by omega) hA2 hs2.rd;rw [HG2.out]at HHV;have HHV:=sqH HHV;clear hA2 hs2 hS2 hX;refine HHV.out.mono ?_;rintro e_ w3 ⟨rfl,hb3⟩;dsimp only;have hbl3:=hbl2.trans (hb3.mono hbl2.size);go_wp2_with fail;go_roundg (s.ents.length - (j+1))
        case measure=>have:=HGK.out;omega
        case rel=>exact⟨j+1,rfl,by go_num,by omega,hbl3⟩
       ·obtain rfl:j=s.ents.length:=by omega
        have hcc:decide (s.ents.length<s.ents.length)=false:=by simp
        go_wp2_with fail;go_ret;exact⟨rfl,hb1.trans (hbl.mono hb1.size)⟩
   exact AllReadyH.nil
  exact AllReadyH.nil
 exact AllReadyH.nil
theorem OwSt.set {w:World} {base g k:Nat} {v1 v2:Value} {s:StoP} {N:Nat→Prop} (h:OwSt w base v1 v2 s N) (hg:g<base) (hN:N g) (u:Value):OwSt (w.setCell ⟨g,k,none⟩ u) base v1 v2 s N:=⟨h.b.set hg (.inl hN) u,h.e.set hg (.inl hN) u,h.ne⟩
section
variable {w w6 w7 w8:World} {base:Nat} {v1 v1' v2 v2':Value} {s:StoP} {N:Nat→Prop}
theorem OwSt.setX {g k:Nat} (h:OwSt w base v1 v2 s N) (hN:N g) (h1:v1.ownBlock≠some g) (h2:v2.ownBlock≠some g) (u:Value):OwSt (w.setCell ⟨g,k,none⟩ u) base v1 v2 s N:=by
 have hg:=zl w g k u;have e1:∀b,some g=some b→v1.ownBlock≠some b:=fun b e=>by rw [←e];exact h1
 have e2:∀b,some g=some b→v2.ownBlock≠some b:=fun b e=>by rw [←e];exact h2
 have e3:∀b,some g=some b→N b:=fun b e=>by cases e;exact hN
 exact⟨RwX.other h.b hg e1 fun b e=> .inl (e3 b e),RwX.other h.e hg e2 fun b e=> .inl (e3 b e),h.ne⟩
theorem RwX.set1 {α:Type} {S:Shp α} {e:TypeId} {g cap i j:Nat} {u:Value} {y:α} {l:List α} (h:RwX S e w base (.slice (some ⟨g,0,none⟩) l.length cap) l N) (hi:i<l.length) (hj:j<S.size)
  (hR:∀W cs,S.R W l[i] cs→S.R W y (cs.set j u)) (hlead:∀b,¬leads b [u]) :
  (∃v0,w.cell? ⟨g,i*S.size+j,none⟩=some v0)∧w.frozen? ⟨g,i*S.size+j,none⟩=false ∧
   RwX S e (w.setCell ⟨g,i*S.size+j,none⟩ u) base (.slice (some ⟨g,0,none⟩) l.length cap) (l.set i y) N∧w.grownBy (w.setCell ⟨g,i*S.size+j,none⟩ u) (some g):=by
 obtain⟨h1,h2,h3,h4⟩:=RwO.set1 (S:=S.off N) (u:=u) (y:=y) h.off hi hj (fun W cs h=>⟨hR W cs h.1,fun b hb ⟨a,n,c,hm,e2⟩=>by
  rcases List.mem_or_eq_of_mem_set hm with h5 | h5
  ·exact h.2 b hb ⟨a,n,c,h5,e2⟩
  ·exact hlead b ⟨a,n,c,by simp [h5],e2⟩⟩) (fun b hb=>absurd hb (hlead b))
 exact⟨h1,h2,h3.on,h4⟩
end
structure Fits (s:StoP) (D:List UInt8):Prop where
 g:GoodS s
 d:D.length≤300
 l:s.blobs.length<24∨(s.blobs.findIdx? (fun b=>b.dig==shaS D)).isSome=true
 u:usd (putB s.blobs D)≤s.room
theorem Fits.good {s:StoP} {D:List UInt8} (h:Fits s D):GoodS (kY s D):=by
 rcases h.l with h1 | h1
 ·exact uH h.g h.d h1 h.u
 ·obtain⟨i,hi⟩:=Option.isSome_iff_exists.1 h1;have:kY s D=s:=by unfold kY putB;rw [hi]
  rw [this];exact h.g
end Go.Proofs.YtdbbehfbkiiloaaGreatDoor
