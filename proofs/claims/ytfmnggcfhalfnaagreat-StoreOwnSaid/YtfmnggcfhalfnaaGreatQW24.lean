/- Lemmas of the proof. Conditions: as stated. -/
import Derived.Test.YtfmnggcfhalfnaaGreatQW22
import Derived.Test.YtfmnggcfhalfnaaGreatQW23
set_option linter.unusedVariables false
set_option linter.unusedSimpArgs false
set_option maxRecDepth 100000
set_option maxHeartbeats 16000000
namespace Go.Proofs.YtfmnggcfhalfnaaGreat
open Go.RowKit
section
variable {w w6 w7 w8:World} {base:Nat} {v1 v1' v2 v2':Value} {s:StoP} {N:Nat→Prop}
theorem OwSt.mixB {l:List BlobP} (hv:RwX BlobS 32 w6 base v1 l N) (hN:∀b,N b→b<w6.heap.size) (hb:base≤w6.heap.size) (h:OwSt w7 w6.heap.size v1' v2 s (fun b=>b<w6.heap.size)) (hbl:Below w6.heap.size w6 w7):OwSt w7 base v1 v2 { s with blobs:=l } N :=
 ⟨(hv.wider (fun b hb=>hb.imp id (fun e=>(h.e.rwo.blk e).1))).below hbl,(h.e.lower hb).wider (fun b hb=> .inl (.inl (hb.elim (hN b) (fun e=>(hv.rwo.blk e).2)))),fun g e1 e2=>by
  have:=(hv.rwo.blk e1).2;have:=(h.e.rwo.blk e2).1;omega⟩
theorem OwSt.mixE {l:List EntP} (h:OwSt w7 base v1 v2 s N) (hN:∀b,N b→b<w7.heap.size) (hv:RwX EntS 35 w8 w7.heap.size v2' l (fun b=>b<w7.heap.size)) (hbs:base≤w7.heap.size) (hbl:Below w7.heap.size w7 w8):OwSt w8 base v1 v2' { s with ents:=l } N:=by
 have h1:∀g,v2'.ownBlock=some g→w7.heap.size≤g:=fun g e=>(hv.rwo.blk e).1;have h2:∀g,v1.ownBlock=some g→g<w7.heap.size:=fun g e=>(h.b.rwo.blk e).2;refine⟨RwX.below (RwX.wider h.b (N':=fun g=>N g∨v2'.ownBlock=some g) fun b hb=> ?_) hbl,RwX.wider (hv.lower hbs) (N':=fun g=>N g∨v1.ownBlock=some g) fun b hb=> .inl ?_,fun g e1 e2=> ?_⟩
 ·rcases hb with hb | hb
  ·exact .inl (.inl hb)
  ·exact .inr (h1 b hb)
 ·rcases hb with hb | hb
  ·exact hN b hb
  ·exact h2 b hb
 ·have:=h1 g e2;have:=h2 g e1;omega
theorem OwSt.setX {g k:Nat} (h:OwSt w base v1 v2 s N) (hN:N g) (h1:v1.ownBlock≠some g) (h2:v2.ownBlock≠some g) (u:Value):OwSt (w.setCell ⟨g,k,none⟩ u) base v1 v2 s N:=by
 have hg:=zH w g k u;have e1:∀b,some g=some b→v1.ownBlock≠some b:=fun b e=>by rw [←e];exact h1
 have e2:∀b,some g=some b→v2.ownBlock≠some b:=fun b e=>by rw [←e];exact h2
 have e3:∀b,some g=some b→N b:=fun b e=>by cases e;exact hN
 exact⟨RwX.other h.b hg e1 fun b e=> .inl (e3 b e),RwX.other h.e hg e2 fun b e=> .inl (e3 b e),h.ne⟩
theorem OwSt.clk (h:OwSt w base v1 v2 s N) (r k:Nat):OwSt w base v1 v2 { s with room:=r,clock:=k } N:=⟨h.b,h.e,h.ne⟩
theorem RwX.set1 {α:Type} {S:Shp α} {e:TypeId} {g cap i j:Nat} {u:Value} {y:α} {l:List α} (h:RwX S e w base (.slice (some ⟨g,0,none⟩) l.length cap) l N) (hi:i<l.length) (hj:j<S.size)
  (hR:∀W cs,S.R W l[i] cs→S.R W y (cs.set j u)) (hlead:∀b,¬leads b [u]) :
  (∃v0,w.cell? ⟨g,i*S.size+j,none⟩=some v0)∧w.frozen? ⟨g,i*S.size+j,none⟩=false ∧
   RwX S e (w.setCell ⟨g,i*S.size+j,none⟩ u) base (.slice (some ⟨g,0,none⟩) l.length cap) (l.set i y) N∧w.grownBy (w.setCell ⟨g,i*S.size+j,none⟩ u) (some g):=by
 obtain⟨h1,h2,h3,h4⟩:=RwO.set1 (S:=S.off N) (u:=u) (y:=y) h.off hi hj (fun W cs h=>⟨hR W cs h.1,fun b hb ⟨a,n,c,hm,e2⟩=>by
  rcases List.mem_or_eq_of_mem_set hm with h5 | h5
  ·exact h.2 b hb ⟨a,n,c,h5,e2⟩
  ·exact hlead b ⟨a,n,c,by simp [h5],e2⟩⟩) (fun b hb=>absurd hb (hlead b))
 exact⟨h1,h2,h3.on,h4⟩
theorem yt (z:Int) (b:Nat):¬leads b [.int .i64 z]:=fun ⟨a,n,c,hm,_⟩=>by simp at hm
theorem OwSt.setE {g cap i j:Nat} {u:Value} {y:EntP} (h:OwSt w base v1 (.slice (some ⟨g,0,none⟩) s.ents.length cap) s N) (hi:i<s.ents.length) (hj:j<4)
  (hR:∀W cs,EntS.R W s.ents[i] cs→EntS.R W y (cs.set j u)) (hlead:∀b,¬leads b [u]) :
  (∃v0,w.cell? ⟨g,i*4+j,none⟩=some v0)∧w.frozen? ⟨g,i*4+j,none⟩=false ∧
   OwSt (w.setCell ⟨g,i*4+j,none⟩ u) base v1 (.slice (some ⟨g,0,none⟩) s.ents.length cap) { s with ents:=s.ents.set i y } N∧w.grownBy (w.setCell ⟨g,i*4+j,none⟩ u) (some g):=by
 obtain⟨h1,h2,h3,h4⟩:=RwX.set1 (S:=EntS) (u:=u) (y:=y) h.e hi hj hR hlead;refine⟨h1,h2,⟨h.b.other h4 (fun b e1 e2=> ?_) (fun b e=> ?_),h3,h.ne⟩,h4⟩
 ·cases e1;exact h.ne g e2 rfl
 ·cases e;exact .inr rfl
theorem ut (b:EntP) (n:Nat) (W:World) (cs:List Value) (h:EntS.R W b cs):EntS.R W { b with stamp:=n } (cs.set 3 (.int .i64 n)):=by
 obtain⟨A,c,rfl,hs⟩:=h;exact⟨A,c,rfl,hs⟩
end
theorem jl (g:Nat) (x0 x1 x2:Value) (z:Int) (w:World) (h0:0≤z) (hk:z<1099511627776) (hS:Arr w g 28 [x0,x1,x2,.int .i64 z]) :
  Calls Tryz.prog 32 #[.pointer (some ⟨g,0,none⟩)] w fun e w'=>e= .returned (.int .i64 0)∧w'=w.setCell ⟨g,3,none⟩ (.int .i64 (z+1)):=by
 have c3:=hS.cell (k:=3) rfl;have f3:=hS.frozen 3;have hne:(z==1099511627776)=false:=by rw [beq_eq_false_iff_ne];omega
 have hw:IntKind.i64.wrap (z+1)=z+1:=IntWalk.i64_in _ (by omega);clear hS;go_enter Tryz.func32,Tryz.ntmps32;go_wp2_with fail;go_ret;exact⟨rfl,rfl⟩
theorem vZ (g:Nat) (x0 x1 x2:Value) (k:Nat) (w:World) (hk:k<1099511627776) (hS:Arr w g 28 [x0,x1,x2,.int .i64 k]) :
  Calls Tryz.prog 32 #[.pointer (some ⟨g,0,none⟩)] w fun e w'=>e= .returned (.int .i64 0)∧w'=w.setCell ⟨g,3,none⟩ (.int .i64 ((k+1:Nat):Int)):=by
 have hz:((k+1:Nat):Int)=(k:Int)+1:=by omega
 rw [hz];exact jl g x0 x1 x2 (k:Int) w (by omega) (by omega) hS
theorem vr (A:Option Addr) (c:Nat) (B:Option Addr) (d:Nat) (s:StoP) (D:List UInt8) (DA:Option Addr) (dc:Nat) (w:World) (hg:GoodS s) (hr:RdSt w A c B d s) (hd:D.length≤300) (hlen:s.blobs.length<24∨(s.blobs.findIdx? (fun b=>b.dig==shaS D)).isSome=true) (hus:usd (putB s.blobs D)≤s.room) (hD:Sl w 1 DA D.length dc (bys D)) :
  Calls Tryz.prog 6 #[.agg #[.slice A s.blobs.length c,.slice B s.ents.length d,.int .i64 s.room,.int .i64 s.clock],.slice DA D.length dc] w fun e w' =>
   ∃v1 v2,e= .returned (.tuple #[.agg #[v1,v2,.int .i64 s.room,.int .i64 s.clock],.string ⟨(shaS D).toArray⟩,.int .i64 0])∧OwSt w' w.heap.size v1 v2 (zd s D) (fun b=>b<w.heap.size)∧Below w.heap.size w w':=by
 have hlb:s.blobs.length≤24:=hg.b.len;have hle:s.ents.length≤10:=hg.e.len;have hrm:=hg.room;have hpl:=x8 s.blobs D;have HGB:=sqH hg.b;obtain⟨sd,hsd⟩:∃x:ByteArray,x=⟨(shaS D).toArray⟩:=⟨_,rfl⟩
 rw [←hsd];have HSD:=sqH hsd;have HLN:=sqH hlen;have HDD:=sqH (fun W (h:Below w.heap.size w W)=>hD.below h);clear hD hsd hlen;obtain⟨w0,hw0,hS,hR,hb0⟩:=zB w 28 [.slice A s.blobs.length c,.slice B s.ents.length d,.int .i64 s.room,.int .i64 s.clock] [.slice none 0 0,.slice none 0 0,.int .i64 0,.int .i64 0];have hr0:=hr.below hb0;obtain⟨H,hH⟩:∃H,H=w.heap.size:=⟨_,rfl⟩
 have HCK:=sqH (qD A c B d s w0 hg hr0);rw [←hH]at hS hR hb0 ⊢
 have hHl:H<w0.heap.size:=hS.lt;have hHr:H+1<w0.heap.size:=hR.lt;obtain⟨x0,x1,x2,x3⟩:=sqC4 hS;rw [hw0,hH]at x0 x1 x2 x3;have HPL:=sqH (show ∀b∈s.blobs,b.data.length≤1000000 from fun b hb=>by have:=(hg.b.one b hb).2.1;omega);have HQL:=sqH (show ∀x∈s.ents,x.parts.length≤1000000 from fun x hx=>by have:=(zl (hg.e.one x hx).2.1).1;omega);have HG:=sqH hg;clear hg hr;go_enter Tryz.func6,Tryz.ntmps6;go_wp2_with fail;rw [←hw0,←hH];have HH:=sqH hH;clear hw0 hH x0 x1 x2 x3;have hD0:=HDD.out w0 (by rw [←HH.out];exact hb0);refine HCK.out.mono ?_;rintro e_ w1 ⟨rfl,hb1⟩;dsimp only;have hr1:=hr0.below hb1;have hS1:=hS.below hb1;have y0:=hS1.cell (k:=0) rfl;have HPT:=Z8 A c s.blobs D DA dc w1 HGB.out hd HLN.out hr1.b (hD0.below hb1);rw [←HSD.out]at HPT;have HPT:=sqH HPT;clear hr0 hS hD0;go_wp2_with fail;clear y0;refine HPT.out.mono ?_;rintro e_ w2 ⟨v2,rfl,hx2,hb2⟩;dsimp only;have hc2:=hb1.trans (hb2.mono hb1.size);have hr2:=hr1.below hb2;have hS2:=hS1.below hb2;obtain⟨A2,c2,e2,h21,h22,hR2⟩:=hx2.rwo.rows;subst e2;have y2:=hS2.cell (k:=2) rfl;have HFT:=vM A2 c2 (putB s.blobs D) s.room 0 w2 (by omega) (by omega) hrm (by omega) hR2;rw [if_pos (by omega)]at HFT;have HFT:=sqH HFT;clear hr1 hS1 hR2;go_wp2_with fail;clear y2;refine HFT.out.mono ?_;rintro e_ w3 ⟨rfl,hb3⟩;dsimp only;have hc3:=hc2.trans (hb3.mono hc2.size);have hr3:=hr2.below hb3;have hS3:=hS2.below hb3;have hx3:=hx2.below hb3;obtain⟨z0,z1,z2,z3⟩:=sqC4 hS3;have HCP:=sqH (qE A c B d s w3 (by omega) (by omega) HPL.out HQL.out hr3);have q12:=hb2.size;have q23:=hb3.size;clear hr2 hS2 hx2 hb2 hb3 hr3;go_wp2_with fail;clear z0 z1 z2 z3;refine HCP.out.mono ?_;rintro e_ w4 ⟨q1,q2,rfl,ho4',hb4⟩;dsimp only;have hc4:=hc3.trans (hb4.mono hc3.size);have ho4:=((OwSt.mixB hx3 (fun b hb=>Nat.lt_of_lt_of_le hb (Nat.le_trans q12 q23)) (Nat.le_trans q12 q23) ho4' hb4).lower hb1.size).wider (N':=fun b=>b<w0.heap.size) (fun b hb=> .inl (Nat.lt_of_lt_of_le hb hb1.size));clear ho4' hx3 hc3 hb4 hS3 hc2;have h41:∀b,(Value.slice A2 (putB s.blobs D).length c2).ownBlock=some b→b<w4.heap.size:=fun b e=>(ho4.b.rwo.blk e).2;have h42:∀b,(Value.slice (some ⟨q2,0,none⟩) s.ents.length s.ents.length).ownBlock=some b→b<w4.heap.size:=fun b e=>(ho4.e.rwo.blk e).2;have hG:w0.heap.size≤w4.heap.size:=hc4.size;obtain⟨G,hGe⟩:∃G,G=w4.heap.size:=⟨_,rfl⟩
 rw [←hGe]at h41 h42 hG;have hba:=(Below.refl w4.heap.size w4).alloc (Nat.le_refl _) (.cells #[(Value.slice A2 (putB s.blobs D).length c2),(Value.slice (some ⟨q2,0,none⟩) s.ents.length s.ents.length),.int .i64 s.room,.int .i64 s.clock] 28);have hX:Arr (w4.alloc (.cells #[(Value.slice A2 (putB s.blobs D).length c2),(Value.slice (some ⟨q2,0,none⟩) s.ents.length s.ents.length),.int .i64 s.room,.int .i64 s.clock] 28)) G 28 [(Value.slice A2 (putB s.blobs D).length c2),(Value.slice (some ⟨q2,0,none⟩) s.ents.length s.ents.length),.int .i64 s.room,.int .i64 s.clock]:=by rw [hGe];exact Arr.new w4 28 _
 have ho:=(ho4.wider (N':=fun b=>b<w0.heap.size∨b=G) (fun b hb=>hb.imp id (fun e=>by omega))).below hba;have hR5:=(hR.below hc4).below hba;have hb5:=(hb0.trans (hc4.mono (Nat.le_of_lt hHl))).alloc (by omega) (.cells #[(Value.slice A2 (putB s.blobs D).length c2),(Value.slice (some ⟨q2,0,none⟩) s.ents.length s.ents.length),.int .i64 s.room,.int .i64 s.clock] 28);clear hR ho4 hc4 hba hb0;have hR:=hR5;clear hR5;have hb:=hb5;clear hb5;obtain⟨z0,z1,z2,z3⟩:=sqC4 hX;obtain⟨f0,f1,f2,f3⟩:=sqF4 hR;obtain⟨y0,y1,y2,y3⟩:=sqC4 hR;have hfin:=hR.all4 (.slice A2 (putB s.blobs D).length c2) (Value.slice (some ⟨q2,0,none⟩) s.ents.length s.ents.length) (.int .i64 s.room) (.int .i64 s.clock);have hoF:=(((ho.set (g:=H+1) (k:=0) hHr (.inl hHr) (.slice A2 (putB s.blobs D).length c2)).set (g:=H+1) (k:=1) hHr (.inl hHr) (Value.slice (some ⟨q2,0,none⟩) s.ents.length s.ents.length)).set (g:=H+1) (k:=2) hHr (.inl hHr) (.int .i64 s.room)).set (g:=H+1) (k:=3) hHr (.inl hHr) (.int .i64 s.clock);have hbF:=(((hb.setCell (p:=⟨H+1,0,none⟩) (by simp only;omega) (.slice A2 (putB s.blobs D).length c2)).setCell (p:=⟨H+1,1,none⟩) (by simp only;omega) (Value.slice (some ⟨q2,0,none⟩) s.ents.length s.ents.length)).setCell (p:=⟨H+1,2,none⟩) (by simp only;omega) (.int .i64 s.room)).setCell (p:=⟨H+1,3,none⟩) (by simp only;omega) (.int .i64 s.clock);clear hR ho hb hX;subst hGe;go_wp2_with fail;refine bodyPost_ret (zZ rfl _ _ (H+1) _ _ _ _ (by rfl) hfin Tryz.underlying28 rfl (by kernel_rfl)) rfl ?_;exact⟨_,_,rfl,(hoF.lower (base':=H) (by omega)).wider (N':=fun b=>b<H) (fun b hb=> .inl (.inl (by omega))),hbF⟩
theorem Q1 (k:Int) (h:k=0∨k=1∨k=2∨k=3) (w:World):(Instr.index 71 (.agg #[.int .i64 0,.int .i64 0,.int .i64 0,.int .i64 0]) (.int .i64 k)).run Tryz.prog w= .ok (.int .i64 0) w:=by
 rcases h with rfl | rfl | rfl | rfl<;>kernel_rfl
theorem Za (A:Option Addr) (c:Nat) (B:Option Addr) (d:Nat) (s:StoP) (key:List UInt8) (ps:List PartP) (PA:Option Addr) (pc:Nat) (w:World) (hg:GoodS s) (hr:RdSt w A c B d s) (hk:zJ key=0) (hpz:chk ps=0) (hhv:ql s.blobs ps=0) (hclk:s.clock<1099511627776) (hlen:s.ents.length<10) (hP:Sl w 3 PA ps.length pc (pcs ps)) :
  Calls Tryz.prog 8 #[.agg #[.slice A s.blobs.length c,.slice B s.ents.length d,.int .i64 s.room,.int .i64 s.clock],.string ⟨key.toArray⟩,.slice PA ps.length pc] w fun e w' =>
   ∃v1 v2,e= .returned (.tuple #[.agg #[v1,v2,.int .i64 s.room,.int .i64 ((s.clock+1:Nat):Int)],.int .i64 0])∧OwSt w' w.heap.size v1 v2 (Zr s key ps) (fun b=>b<w.heap.size)∧Below w.heap.size w w':=by
 have hlb:s.blobs.length≤24:=hg.b.len;obtain⟨w0,hw0,hS,hR,hb0⟩:=zB w 28 [.slice A s.blobs.length c,.slice B s.ents.length d,.int .i64 s.room,.int .i64 s.clock] [.slice none 0 0,.slice none 0 0,.int .i64 0,.int .i64 0];have hr0:=hr.below hb0;have hP0:=hP.below hb0;obtain⟨H,hH⟩:∃H,H=w.heap.size:=⟨_,rfl⟩
 have HCK:=sqH (fun W (h:Below w0.heap.size w0 W)=>qD A c B d s W hg (hr0.below h));have hkl:=yr hk;have HKX:=sqH (show ∀W,Below w0.heap.size w0 W→Calls Tryz.prog 29 #[.string ⟨key.toArray⟩] W fun e w'=>e= .returned (.int .i64 0)∧Below W.heap.size W w' from fun W _=>by
  have:=qG ⟨key.toArray⟩ W (by show(key.toArray).size≤_;rw [List.size_toArray];omega);rw [show(⟨key.toArray⟩:ByteArray).data.toList=key from rfl,hk]at this;exact this)
 have HPC:=sqH (show ∀W,Below w0.heap.size w0 W→Calls Tryz.prog 30 #[.slice PA ps.length pc] W fun e w'=>e= .returned (.int .i64 0)∧Below W.heap.size W w' from fun W h=>by
  have:=xA PA ps.length pc ps W rfl hP0.cap (by have:=(zl hpz).1;omega) (xV hpz) (hP0.below h).rd
  rwa [hpz]at this)
 have hpl8:=(zl hpz).1;have HHV:=sqH (fun W (h:Below w0.heap.size w0 W)=>vO A c s.blobs PA pc ps W (by omega) (by omega) (hr0.b.below h) (hP0.below h).rd);have HGX:=sqH hg;have HPL:=sqH (show ∀b∈s.blobs,b.data.length≤1000000 from fun b hb=>by have:=(hg.b.one b hb).2.1;omega);have HQL:=sqH (show ∀x∈s.ents,x.parts.length≤1000000 from fun x hx=>by have:=(zl (hg.e.one x hx).2.1).1;omega);have HSB:=sqH (show ∀W,Below w0.heap.size w0 W→W.cell? ⟨H,0,none⟩=some (.slice A s.blobs.length c)∧W.cell? ⟨H,1,none⟩=some (.slice B s.ents.length d)∧W.cell? ⟨H,2,none⟩=some (.int .i64 s.room)∧W.cell? ⟨H,3,none⟩=some (.int .i64 s.clock) from fun W h=>by
  rw [hH];exact⟨(hS.below h).cell (k:=0) rfl,(hS.below h).cell (k:=1) rfl,(hS.below h).cell (k:=2) rfl,(hS.below h).cell (k:=3) rfl⟩)
 have HKK:=sqH hk;have HPZ:=sqH hpz;rw [←hH]at hS hR hb0 ⊢
 have hHl:H<w0.heap.size:=hS.lt;have hHr:H+1<w0.heap.size:=hR.lt;obtain⟨sk,hsk⟩:∃x:ByteArray,x=⟨key.toArray⟩:=⟨_,rfl⟩
 rw [←hsk]at HKX ⊢
 have HSK:=sqH hsk;clear hg hr hk hP hpz hsk;go_enter Tryz.func8,Tryz.ntmps8;go_wp2_with fail;rw [←hw0,←hH];have HH:=sqH hH;clear hw0 hH;rw [hhv]at HHV;refine wp_region_held_drew (S:=(fun w'=>w'.cell? ⟨H,0,none⟩=some (.slice A s.blobs.length c)∧w'.cell? ⟨H,1,none⟩=some (.slice B s.ents.length d)∧w'.cell? ⟨H,2,none⟩=some (.int .i64 s.room)∧w'.cell? ⟨H,3,none⟩=some (.int .i64 s.clock))) (by kernel_rfl) ?_ (fun hHeld=> ?_)
 ·exact HSB.out _ (Below.refl _ w0).drew
 have hB:=(Below.refl w0.heap.size w0).drew;generalize w0.drew=wn0 at *
 refine sqTH 0 ?_;try simp only [sqP]
 refine sqTH 2 ?_;try simp only [sqP]
 refine sqTH 4 ?_;try simp only [sqP]
 refine sqTH 6 ?_;try simp only [sqP]
 refine sqTH 7 ?_;try simp only [sqP]
 refine sqTH 8 ?_;try simp only [sqP]
 refine sqTH 11 ?_;try simp only [sqP]
 refine wpAnyH_ready (rs:= [1]) (by kernel_rfl) (by simp) ?_;refine AllReadyH.cons (o:=_) rfl (fun K hK=> ?_) ?_
 ·
  go_simp;refine(HCK.out wn0 hB).mono ?_;rintro e5 w5 ⟨rfl,hb5⟩;dsimp only;refine zr hK ?_ (Below wn0.heap.size wn0) (fun W=>True) ?_ ?_ (fun wn1 hHeld hst hnew=> ?_)
  ·(exact HSB.out _ (hB.trans (hb5.mono hB.size)))
  ·(exact hb5)
  ·(trivial)
  have hB:=hB.trans (hst.mono hB.size);clear hst;clear hK K
  try simp only [sqP]
  refine wpAnyH_ready (rs:= [3]) (by kernel_rfl) (by simp) ?_;refine AllReadyH.cons (o:=_) rfl (fun K hK=> ?_) ?_
  ·
   go_simp;refine(HKX.out wn1 hB).mono ?_;rintro e5 w5 ⟨rfl,hb5⟩;dsimp only;refine zr hK ?_ (Below wn1.heap.size wn1) (fun W=>True) ?_ ?_ (fun wn2 hHeld hst hnew=> ?_)
   ·(exact HSB.out _ (hB.trans (hb5.mono hB.size)))
   ·(exact hb5)
   ·(trivial)
   have hB:=hB.trans (hst.mono hB.size);clear hst;clear hK K
   try simp only [sqP]
   refine wpAnyH_ready (rs:= [5]) (by kernel_rfl) (by simp) ?_;refine AllReadyH.cons (o:=_) rfl (fun K hK=> ?_) ?_
   ·
    go_simp;refine(HPC.out wn2 hB).mono ?_;rintro e5 w5 ⟨rfl,hb5⟩;dsimp only;refine zr hK ?_ (Below wn2.heap.size wn2) (fun W=>True) ?_ ?_ (fun wn3 hHeld hst hnew=> ?_)
    ·(exact HSB.out _ (hB.trans (hb5.mono hB.size)))
    ·(exact hb5)
    ·(trivial)
    have hB:=hB.trans (hst.mono hB.size);clear hst;clear hK K
    try simp only [sqP]
    refine wpAnyH_ready (rs:= [9]) (by kernel_rfl) (by simp) ?_;refine AllReadyH.cons (o:=_) rfl (fun K hK=> ?_) ?_
    ·
     go_simp;refine(HHV.out wn3 hB).mono ?_;rintro e5 w5 ⟨rfl,hb5⟩;dsimp only;refine zr hK ?_ (Below wn3.heap.size wn3) (fun W=>True) ?_ ?_ (fun wn4 hHeld hst hnew=> ?_)
     ·(exact HSB.out _ (hB.trans (hb5.mono hB.size)))
     ·(exact hb5)
     ·(trivial)
     have hB:=hB.trans (hst.mono hB.size);clear hst;clear hK K
     try simp only [sqP]
     refine sqTH 10 ?_;try simp only [sqP]
     refine wpAnyH_done (by kernel_rfl) ?_ _;dsimp only [Exit.then];clear hHeld;generalize wn4=w1 at *
     go_wp2_with fail;go_loopg [25] 4 (fun gn i wr=>∃j:Int,i= .int .i64 j∧(j=0∨j=1∨j=2∨j=3∨j=4)∧gn=(4 - j).toNat∧wr=w1)
     case atStart=>exact⟨0,rfl,by omega,rfl,rfl⟩
     case round =>
      obtain⟨j,rfl,hj,hgn,hwr⟩:=hrel;subst hwr;have ix0:=Q1 0 (by omega) wr;have ix1:=Q1 1 (by omega) wr;have ix2:=Q1 2 (by omega) wr;have ix3:=Q1 3 (by omega) wr;rcases hj with rfl | rfl | rfl | rfl | rfl
      ·go_wp2_with fail;go_roundg 3
       case measure=>omega
       case rel=>exact⟨1,rfl,by omega,rfl,rfl⟩
      ·go_wp2_with fail;go_roundg 2
       case measure=>omega
       case rel=>exact⟨2,rfl,by omega,rfl,rfl⟩
      ·go_wp2_with fail;go_roundg 1
       case measure=>omega
       case rel=>exact⟨3,rfl,by omega,rfl,rfl⟩
      ·go_wp2_with fail;go_roundg 0
       case measure=>omega
       case rel=>exact⟨4,rfl,by omega,rfl,rfl⟩
      ·clear hgn ix0 ix1 ix2 ix3;generalize wr=wr0 at *
       obtain⟨z0,z1,z2,z3⟩:=HSB.out wr0 hB;have hr1:=hr0.below hB;have HCP:=sqH (qE A c B d s wr0 (by omega) (by omega) HPL.out HQL.out hr1);have hP1:=hP0.below hB;clear hr0 hP0 hS;go_wp2_with fail;clear z0 z1 z2 z3;refine HCP.out.mono ?_;rintro e_ w4 ⟨q1,q2,rfl,ho4',hb4⟩;dsimp only;have hc4:=hB.trans (hb4.mono hB.size);have hP4:=hP1.below hb4;have ho4:=(ho4'.lower hB.size).wider (N':=fun b=>b<w0.heap.size) (fun b hb=> .inl (Nat.lt_of_lt_of_le hb hB.size));have hPl:=hP4.live;clear ho4' hB hb4 hP1;have h41:∀b,(Value.slice (some ⟨q1,0,none⟩) s.blobs.length s.blobs.length).ownBlock=some b→b<w4.heap.size:=fun b e=>(ho4.b.rwo.blk e).2;have h42:∀b,(Value.slice (some ⟨q2,0,none⟩) s.ents.length s.ents.length).ownBlock=some b→b<w4.heap.size:=fun b e=>(ho4.e.rwo.blk e).2;have hG:w0.heap.size≤w4.heap.size:=hc4.size;obtain⟨G,hGe⟩:∃G,G=w4.heap.size:=⟨_,rfl⟩
       rw [←hGe]at h41 h42 hG;have hba:=(Below.refl w4.heap.size w4).alloc (Nat.le_refl _) (.cells #[(Value.slice (some ⟨q1,0,none⟩) s.blobs.length s.blobs.length),(Value.slice (some ⟨q2,0,none⟩) s.ents.length s.ents.length),.int .i64 s.room,.int .i64 s.clock] 28);have hX:Arr (w4.alloc (.cells #[(Value.slice (some ⟨q1,0,none⟩) s.blobs.length s.blobs.length),(Value.slice (some ⟨q2,0,none⟩) s.ents.length s.ents.length),.int .i64 s.room,.int .i64 s.clock] 28)) G 28 [(Value.slice (some ⟨q1,0,none⟩) s.blobs.length s.blobs.length),(Value.slice (some ⟨q2,0,none⟩) s.ents.length s.ents.length),.int .i64 s.room,.int .i64 s.clock]:=by rw [hGe];exact Arr.new w4 28 _
       have ho:=(ho4.wider (N':=fun b=>b<w0.heap.size∨b=G) (fun b hb=>hb.imp id (fun e=>by omega))).below hba;have hR5:=(hR.below hc4).below hba;have hb5:=(hb0.trans (hc4.mono (Nat.le_of_lt hHl))).alloc (by omega) (.cells #[(Value.slice (some ⟨q1,0,none⟩) s.blobs.length s.blobs.length),(Value.slice (some ⟨q2,0,none⟩) s.ents.length s.ents.length),.int .i64 s.room,.int .i64 s.clock] 28);clear hR ho4 hc4 hba hb0;have hR:=hR5;clear hR5;have hb:=hb5;clear hb5;have hP5:=hP4.below ((Below.refl w4.heap.size w4).alloc (Nat.le_refl _) (.cells #[(Value.slice (some ⟨q1,0,none⟩) s.blobs.length s.blobs.length),(Value.slice (some ⟨q2,0,none⟩) s.ents.length s.ents.length),.int .i64 s.room,.int .i64 s.clock] 28));have HTK:=sqH (vZ G (Value.slice (some ⟨q1,0,none⟩) s.blobs.length s.blobs.length) (Value.slice (some ⟨q2,0,none⟩) s.ents.length s.ents.length) (.int .i64 s.room) s.clock _ hclk hX);have hPG:∀a,PA=some a→a.block≠G:=fun a ha=>by have:=hPl a ha;omega
       clear hP4 hPl;go_wp2_with fail;rw [←hGe];clear hGe;generalize w4.alloc (.cells #[(Value.slice (some ⟨q1,0,none⟩) s.blobs.length s.blobs.length),(Value.slice (some ⟨q2,0,none⟩) s.ents.length s.ents.length),.int .i64 s.room,.int .i64 s.clock] 28)=w5 at *
       refine HTK.out.mono ?_;rintro e_ _ ⟨rfl,rfl⟩;dsimp only;have hX6:Arr (w5.setCell ⟨G,3,none⟩ (.int .i64 ((s.clock+1:Nat):Int))) G 28 [(Value.slice (some ⟨q1,0,none⟩) s.blobs.length s.blobs.length),(Value.slice (some ⟨q2,0,none⟩) s.ents.length s.ents.length),.int .i64 s.room,.int .i64 ((s.clock+1:Nat):Int)]:=hX.set (k:=3) (by simp) (.int .i64 ((s.clock+1:Nat):Int));have hR6:=hR.other (g':=G) (k:=3) (by omega) (.int .i64 ((s.clock+1:Nat):Int));have ho6:=ho.setX (g:=G) (k:=3) (.inr rfl) (fun e=>by have:=h41 _ e;omega) (fun e=>by have:=h42 _ e;omega) (.int .i64 ((s.clock+1:Nat):Int));have hb6:=hb.setCell (p:=⟨G,3,none⟩) (by simp only;omega) (.int .i64 ((s.clock+1:Nat):Int));have hP6:=hP5.other (g:=G) (k:=3) hPG (.int .i64 ((s.clock+1:Nat):Int));have hGl:G<(w5.setCell ⟨G,3,none⟩ (.int .i64 ((s.clock+1:Nat):Int))).heap.size:=hX6.lt;clear hX hR ho hb hP5 HTK;generalize w5.setCell ⟨G,3,none⟩ (.int .i64 ((s.clock+1:Nat):Int))=w6 at *
       obtain⟨A',c',e1,_,_,hRe6⟩:=ho6.e.rwo.rows;cases e1
       have hgx:GoodE1 ⟨key,ps,0,s.clock+1⟩:=⟨HKK.out,HPZ.out,by show 0≤5;omega,by show s.clock+1≤_;omega⟩
       have HPT:=Z9 (some ⟨q2,0,none⟩) s.ents.length s.ents ⟨key,ps,0,s.clock+1⟩ PA pc w6 HGX.out.e hgx hlen hRe6 hP6;dsimp only at HPT;rw [←HSK.out]at HPT;have HPT:=sqH HPT;have x1:=hX6.cell (k:=1) rfl;have x3:=hX6.cell (k:=3) rfl;clear hRe6 hP6 hgx;go_wp2_with fail;clear x1 x3;refine HPT.out.mono ?_;rintro e_ w7 ⟨v3,rfl,hx7,hb7⟩;dsimp only;have hN6:∀b,(b<w0.heap.size∨b=G)→b<w6.heap.size:=fun b hb=>by omega
       have ho7:=((OwSt.mixE ho6 hN6 hx7 (by omega) hb7).clk s.room (s.clock+1))
       have hX7:=hX6.below hb7;have hR7:=hR6.below hb7;have hb7':=hb6.trans (hb7.mono (by omega));have h43:∀b,v3.ownBlock=some b→w6.heap.size≤b:=fun b e=>(hx7.rwo.blk e).1;obtain⟨A3,c3,e3,_,_,_⟩:=hx7.rwo.rows;subst e3;clear hX6 hR6 ho6 hb6 hx7 hb7;have f1:=hX7.frozen 1;have x1:=hX7.cell (k:=1) rfl;have hX:Arr (w7.setCell ⟨G,1,none⟩ (.slice A3 (kg s.ents ⟨key,ps,0,s.clock+1⟩).length c3)) G 28 [(Value.slice (some ⟨q1,0,none⟩) s.blobs.length s.blobs.length),.slice A3 (kg s.ents ⟨key,ps,0,s.clock+1⟩).length c3,.int .i64 s.room,.int .i64 ((s.clock+1:Nat):Int)]:=hX7.set (k:=1) (by simp) _;have hR:=hR7.other (g':=G) (k:=1) (by omega) (.slice A3 (kg s.ents ⟨key,ps,0,s.clock+1⟩).length c3);have ho:=ho7.setX (g:=G) (k:=1) (.inr rfl) (fun e=>by have:=h41 _ e;omega) (fun e=>by have:=h43 _ e;omega) (.slice A3 (kg s.ents ⟨key,ps,0,s.clock+1⟩).length c3);have hb:=hb7'.setCell (p:=⟨G,1,none⟩) (by simp only;omega) (.slice A3 (kg s.ents ⟨key,ps,0,s.clock+1⟩).length c3);clear hX7 hR7 ho7 hb7';obtain⟨z0,z1,z2,z3⟩:=sqC4 hX;obtain⟨f0,f1,f2,f3⟩:=sqF4 hR;obtain⟨y0,y1,y2,y3⟩:=sqC4 hR;have hfin:=hR.all4 (Value.slice (some ⟨q1,0,none⟩) s.blobs.length s.blobs.length) (.slice A3 (kg s.ents ⟨key,ps,0,s.clock+1⟩).length c3) (.int .i64 s.room) (.int .i64 ((s.clock+1:Nat):Int));have hoF:=(((ho.set (g:=H+1) (k:=0) hHr (.inl hHr) (Value.slice (some ⟨q1,0,none⟩) s.blobs.length s.blobs.length)).set (g:=H+1) (k:=1) hHr (.inl hHr) (.slice A3 (kg s.ents ⟨key,ps,0,s.clock+1⟩).length c3)).set (g:=H+1) (k:=2) hHr (.inl hHr) (.int .i64 s.room)).set (g:=H+1) (k:=3) hHr (.inl hHr) (.int .i64 ((s.clock+1:Nat):Int));have hbF:=(((hb.setCell (p:=⟨H+1,0,none⟩) (by simp only;omega) (Value.slice (some ⟨q1,0,none⟩) s.blobs.length s.blobs.length)).setCell (p:=⟨H+1,1,none⟩) (by simp only;omega) (.slice A3 (kg s.ents ⟨key,ps,0,s.clock+1⟩).length c3)).setCell (p:=⟨H+1,2,none⟩) (by simp only;omega) (.int .i64 s.room)).setCell (p:=⟨H+1,3,none⟩) (by simp only;omega) (.int .i64 ((s.clock+1:Nat):Int));clear hR ho hb hX;go_wp2_with fail;refine bodyPost_ret (yw rfl _ _ (H+1) _ _ _ _ (by rfl) hfin Tryz.underlying28 rfl (by kernel_rfl)) rfl ?_;exact⟨_,_,rfl,(hoF.lower (base':=H) (by omega)).wider (N':=fun b=>b<H) (fun b hb=> .inl (.inl (by omega))),hbF⟩
    exact AllReadyH.nil
   exact AllReadyH.nil
  exact AllReadyH.nil
 exact AllReadyH.nil
theorem zR {w:World} {g g' k:Nat} (h:g≠g') {a b c d:Value}:((((w.setCell ⟨g',0,none⟩ a).setCell ⟨g',1,none⟩ b).setCell ⟨g',2,none⟩ c).setCell ⟨g',3,none⟩ d).cell? ⟨g,k,none⟩=w.cell? ⟨g,k,none⟩:=by
 refine(World.cell?_of_block (Below.heap_setCell _ _ d g h)).trans ((World.cell?_of_block (Below.heap_setCell _ _ c g h)).trans ((World.cell?_of_block (Below.heap_setCell _ _ b g h)).trans (World.cell?_of_block (Below.heap_setCell _ _ a g h))))
theorem uK {w:World} {base n g:Nat} {e:TypeId} {size:Nat} {v:Value} {xs:List Value} (h:w.ownsRow base e size v n xs) (hg:g<base) (a b c d:Value) :
  ((((w.setCell ⟨g,0,none⟩ a).setCell ⟨g,1,none⟩ b).setCell ⟨g,2,none⟩ c).setCell ⟨g,3,none⟩ d).ownsRow base e size v n xs:=by
 have hne:v.ownBlock≠some g:=fun e=>by have:=(h.lt g e).1;omega
 exact z7 (z7 (z7 (z7 h hne) hne) hne) hne
theorem Q5 {l:List EntP} {i:Nat} {k:List UInt8} (hr:RisesBy (·.key) l) (hi:i<l.length) (hk:l[i].key=k):l.findIdx? (fun x=>x.key==k)=some i:=by
 rw [List.findIdx?_eq_some_iff_getElem];refine⟨hi,by simp [hk],fun j hj=> ?_⟩;have:=List.pairwise_iff_getElem.1 hr j i (by omega) hi hj;rw [←hk];simpa using kJ this
theorem Rw.ent_at' {w:World} {A:Option Addr} {l:List EntP} {k:Nat} {x:EntP} (h:Rw EntS w A l) (hx:l[k]?=some x) :
  ∃b off B c,A=some ⟨b,off,none⟩∧b<w.heap.size∧w.cell? ⟨b,off+k*4,none⟩=some (.string ⟨x.key.toArray⟩)∧w.cell? ⟨b,off+k*4+1,none⟩=some (.slice B x.parts.length c) ∧
   w.cell? ⟨b,off+k*4+2,none⟩=some (.int .i64 x.pins)∧w.cell? ⟨b,off+k*4+3,none⟩=some (.int .i64 x.stamp)∧Sl w 3 B x.parts.length c (pcs x.parts):=by
 obtain⟨hk,rfl⟩:=List.getElem?_eq_some_iff.1 hx;exact h.ent_at k hk
theorem Zl (s:StoP) (i:Nat) (x:EntP) (hi:i<s.ents.length):(jV s i x).ents[i]?=some { x with stamp:=s.clock+1 }:=by
 unfold jV;simp [hi]
theorem Z2 (A:Option Addr) (c:Nat) (B:Option Addr) (d:Nat) (s:StoP) (key:List UInt8) (i:Nat) (w:World) (hg:GoodS s) (hr:RdSt w A c B d s) (hi:i<s.ents.length) (hk:s.ents[i].key=key) (hclk:s.clock<1099511627776) :
  Calls Tryz.prog 11 #[.agg #[.slice A s.blobs.length c,.slice B s.ents.length d,.int .i64 s.room,.int .i64 s.clock],.string ⟨key.toArray⟩] w fun e w' =>
   ∃v1 v2 v3,e= .returned (.tuple #[.agg #[v1,v2,.int .i64 s.room,.int .i64 ((s.clock+1:Nat):Int)],v3,.int .i64 0])∧OwSt w' w.heap.size v1 v2 (jV s i s.ents[i]) (fun b=>b<w.heap.size)∧w'.ownsRow w.heap.size 37 3 v3 s.ents[i].parts.length (pcs s.ents[i].parts)∧Below w.heap.size w w':=by
 obtain⟨z,hz⟩:∃z,z=s.clock+1:=⟨_,rfl⟩
 rw [←hz];have HZ:=sqH hz;clear hz;have hlb:s.blobs.length≤24:=hg.b.len;have hle:s.ents.length≤10:=hg.e.len;have HPN:=sqH (show s.ents[i].parts.length≤8 from(zl (hg.e.one _ (List.getElem_mem hi)).2.1).1);have HFX:=sqH (Q5 hg.e.ris hi hk);obtain⟨sk,hsk⟩:∃x:ByteArray,x=⟨key.toArray⟩:=⟨_,rfl⟩
 rw [←hsk];have HSK:=sqH hsk;clear hk hsk;obtain⟨w0,hw0,hS,hR,hb0⟩:=zB w 28 [.slice A s.blobs.length c,.slice B s.ents.length d,.int .i64 s.room,.int .i64 s.clock] [.slice none 0 0,.slice none 0 0,.int .i64 0,.int .i64 0];have hr0:=hr.below hb0;obtain⟨H,hH⟩:∃H,H=w.heap.size:=⟨_,rfl⟩
 have HCK:=sqH (qD A c B d s w0 hg hr0);rw [←hH]at hS hR hb0 ⊢
 have hHl:H<w0.heap.size:=hS.lt;have hHr:H+1<w0.heap.size:=hR.lt;obtain⟨x0,x1,x2,x3⟩:=sqC4 hS;rw [hw0,hH]at x0 x1 x2 x3;have HPL:=sqH (show ∀b∈s.blobs,b.data.length≤1000000 from fun b hb=>by have:=(hg.b.one b hb).2.1;omega);have HQL:=sqH (show ∀x∈s.ents,x.parts.length≤1000000 from fun x hx=>by have:=(zl (hg.e.one x hx).2.1).1;omega);have HG:=sqH hg;clear hg hr;go_enter Tryz.func11,Tryz.ntmps11;go_wp2_with fail;rw [←hw0,←hH];have HH:=sqH hH;clear hw0 hH x0 x1 x2 x3;refine HCK.out.mono ?_;rintro e_ w1 ⟨rfl,hb1⟩;dsimp only;have hr1:=hr0.below hb1;have hS1:=hS.below hb1;have y0:=hS1.cell (k:=1) rfl;have HFN:=xE B d s.ents key w1 (by omega) hr1.e;rw [HFX.out,ZF,←HSK.out]at HFN;have HFN:=sqH HFN;clear hr0 hS;go_wp2_with fail;clear y0;refine HFN.out.mono ?_;rintro e_ w2 ⟨rfl,hb2⟩;dsimp only;have hc2:=hb1.trans (hb2.mono hb1.size);have hr2:=hr1.below hb2;have hS2:=hS1.below hb2;obtain⟨z0,z1,z2,z3⟩:=sqC4 hS2;have HCP:=sqH (qE A c B d s w2 (by omega) (by omega) HPL.out HQL.out hr2);clear hr1 hS1 hb1 hb2 hr2;go_wp2_with fail;clear z0 z1 z2 z3;refine HCP.out.mono ?_;rintro e_ w4 ⟨q1,q2,rfl,ho4',hb4⟩;dsimp only;have hc4:=hc2.trans (hb4.mono hc2.size);have ho4:=(ho4'.lower hc2.size).wider (N':=fun b=>b<w0.heap.size) (fun b hb=> .inl (Nat.lt_of_lt_of_le hb hc2.size));clear ho4' hc2 hb4 hS2;have h41:∀b,(Value.slice (some ⟨q1,0,none⟩) s.blobs.length s.blobs.length).ownBlock=some b→b<w4.heap.size:=fun b e=>(ho4.b.rwo.blk e).2;have h42:∀b,(Value.slice (some ⟨q2,0,none⟩) s.ents.length s.ents.length).ownBlock=some b→b<w4.heap.size:=fun b e=>(ho4.e.rwo.blk e).2;have hG:w0.heap.size≤w4.heap.size:=hc4.size;obtain⟨G,hGe⟩:∃G,G=w4.heap.size:=⟨_,rfl⟩
 rw [←hGe]at h41 h42 hG;have hba:=(Below.refl w4.heap.size w4).alloc (Nat.le_refl _) (.cells #[(Value.slice (some ⟨q1,0,none⟩) s.blobs.length s.blobs.length),(Value.slice (some ⟨q2,0,none⟩) s.ents.length s.ents.length),.int .i64 s.room,.int .i64 s.clock] 28);have hX:Arr (w4.alloc (.cells #[(Value.slice (some ⟨q1,0,none⟩) s.blobs.length s.blobs.length),(Value.slice (some ⟨q2,0,none⟩) s.ents.length s.ents.length),.int .i64 s.room,.int .i64 s.clock] 28)) G 28 [(Value.slice (some ⟨q1,0,none⟩) s.blobs.length s.blobs.length),(Value.slice (some ⟨q2,0,none⟩) s.ents.length s.ents.length),.int .i64 s.room,.int .i64 s.clock]:=by rw [hGe];exact Arr.new w4 28 _
 have ho:=(ho4.wider (N':=fun b=>b<w0.heap.size∨b=G) (fun b hb=>hb.imp id (fun e=>by omega))).below hba;have hR5:=(hR.below hc4).below hba;have hb5:=(hb0.trans (hc4.mono (Nat.le_of_lt hHl))).alloc (by omega) (.cells #[(Value.slice (some ⟨q1,0,none⟩) s.blobs.length s.blobs.length),(Value.slice (some ⟨q2,0,none⟩) s.ents.length s.ents.length),.int .i64 s.room,.int .i64 s.clock] 28);clear hR ho4 hc4 hba hb0;have hR:=hR5;clear hR5;have hb:=hb5;clear hb5;have htk:=(vZ G (Value.slice (some ⟨q1,0,none⟩) s.blobs.length s.blobs.length) (Value.slice (some ⟨q2,0,none⟩) s.ents.length s.ents.length) (.int .i64 s.room) s.clock _ hclk hX)
 rw [←HZ.out]at htk;have HTK:=sqH htk;clear htk;have hq2:w0.heap.size≤q2:=(ho.e.rwo.blk rfl).1;have hqG:q2<G:=h42 _ rfl;go_wp2_with fail;rw [←hGe];clear hGe;generalize w4.alloc (.cells #[(Value.slice (some ⟨q1,0,none⟩) s.blobs.length s.blobs.length),(Value.slice (some ⟨q2,0,none⟩) s.ents.length s.ents.length),.int .i64 s.room,.int .i64 s.clock] 28)=w5 at *
 refine HTK.out.mono ?_;rintro e_ _ ⟨rfl,rfl⟩;dsimp only;have hX6:Arr (w5.setCell ⟨G,3,none⟩ (.int .i64 z)) G 28 [(Value.slice (some ⟨q1,0,none⟩) s.blobs.length s.blobs.length),(Value.slice (some ⟨q2,0,none⟩) s.ents.length s.ents.length),.int .i64 s.room,.int .i64 z]:=hX.set (k:=3) (by simp) (.int .i64 z);have hR6:=hR.other (g':=G) (k:=3) (by omega) (.int .i64 z);have ho6:=(ho.setX (g:=G) (k:=3) (.inr rfl) (fun e=>by have:=h41 _ e;omega) (fun e=>by have:=h42 _ e;omega) (.int .i64 z))
 have hb6:=hb.setCell (p:=⟨G,3,none⟩) (by simp only;omega) (.int .i64 z);clear hX hR ho hb HTK;generalize w5.setCell ⟨G,3,none⟩ (.int .i64 z)=w6 at *
 obtain⟨⟨v0,k3⟩,f3,ho7',hg7⟩:=ho6.setE (j:=3) (u:= .int .i64 z) (y:= { s.ents[i] with stamp:=s.clock+1 }) hi (by omega) (fun W cs h=>by rw [HZ.out];exact ut _ _ W cs h) (yt _);have x1:=hX6.cell (k:=1) rfl;have x3:=hX6.cell (k:=3) rfl;have hi0:(0:Int)≤(i:Int):=by omega
 have hi1:(i:Int)<(s.ents.length:Int):=by omega
 have hX7:=hX6.other (g':=q2) (k:=i*4+3) (by omega) (.int .i64 z);have hR7:=hR6.other (g':=q2) (k:=i*4+3) (by omega) (.int .i64 z);have hb7:=hb6.setCell (p:=⟨q2,i*4+3,none⟩) (by simp only;omega) (.int .i64 z);have ho7:OwSt (w6.setCell ⟨q2,i*4+3,none⟩ (.int .i64 z)) w0.heap.size (Value.slice (some ⟨q1,0,none⟩) s.blobs.length s.blobs.length) (Value.slice (some ⟨q2,0,none⟩) s.ents.length s.ents.length) (jV s i s.ents[i]) (fun b=>b<w0.heap.size∨b=G):=ho7'.clk s.room (s.clock+1);have hw7:H≤(w6.setCell ⟨q2,i*4+3,none⟩ (.int .i64 z)).heap.size:=by have:=hR7.lt;omega
 clear hX6 hR6 ho6 hb6 ho7' hg7;go_wp2_with fail;clear x1 x3 k3 f3;generalize w6.setCell ⟨q2,i*4+3,none⟩ (.int .i64 z)=w7 at *
 have hX:=hX7;have hR:=hR7;have ho:=ho7;have hb:=hb7;clear hX7 hR7 ho7 hb7;obtain⟨A',c',e1,_,_,hRe7⟩:=ho.e.rwo.rows;obtain⟨b',off',XB,xc,e2,_,_,k1,_,_,hsl⟩:=hRe7.ent_at' (Zl s i s.ents[i] hi);dsimp only at k1 hsl;injection e1 with e11 e12 e13;clear e12 e13;subst e11;cases e2
 rw [Nat.zero_add]at k1;have HSB:=sqH (show ∀W,Below w7.heap.size w7 W→(W.cell? ⟨G,0,none⟩=some (Value.slice (some ⟨q1,0,none⟩) s.blobs.length s.blobs.length)∧W.cell? ⟨G,1,none⟩=some (Value.slice (some ⟨q2,0,none⟩) s.ents.length s.ents.length)∧W.cell? ⟨G,2,none⟩=some (.int .i64 s.room)∧W.cell? ⟨G,3,none⟩=some (.int .i64 z))∧W.cell? ⟨q2,i*4+1,none⟩=some (.slice XB s.ents[i].parts.length xc) from fun W h =>
  ⟨⟨(hX.below h).cell (k:=0) rfl,(hX.below h).cell (k:=1) rfl,(hX.below h).cell (k:=2) rfl,(hX.below h).cell (k:=3) rfl⟩,(h.cell (p:=⟨q2,i*4+1,none⟩) (ho.e.rwo.blk rfl).2).trans k1⟩)
 have HCL:=sqH (show ∀W,Below w7.heap.size w7 W→Calls Tryz.prog 35 #[.slice XB s.ents[i].parts.length xc] W fun e w'=>∃v,e= .returned v∧w'.ownsRow W.heap.size 37 3 v s.ents[i].parts.length (pcs s.ents[i].parts)∧Below W.heap.size W w' from fun W h =>
  qc XB s.ents[i].parts.length xc (pcs s.ents[i].parts) W (by have:=HPN.out;omega) (hsl.below h).rd (xq _))
 have hGH:G≠H+1:=by omega
 have hqH:q2≠H+1:=by omega
 have hH7:H+1<w7.heap.size:=hR.lt;clear hRe7 hsl k1 hX;refine wp_region_held_drew (S:=(fun w'=>(w'.cell? ⟨G,0,none⟩=some (Value.slice (some ⟨q1,0,none⟩) s.blobs.length s.blobs.length)∧w'.cell? ⟨G,1,none⟩=some (Value.slice (some ⟨q2,0,none⟩) s.ents.length s.ents.length)∧w'.cell? ⟨G,2,none⟩=some (.int .i64 s.room)∧w'.cell? ⟨G,3,none⟩=some (.int .i64 z))∧w'.cell? ⟨q2,i*4+1,none⟩=some (.slice XB s.ents[i].parts.length xc))) (by kernel_rfl) ?_ (fun hHeld=> ?_)
 ·exact HSB.out _ (Below.refl _ w7).drew
 have hB:=(Below.refl w7.heap.size w7).drew;generalize w7.drew=wn0 at *
 refine sqTH 0 ?_;try simp only [sqP]
 refine sqTH 1 ?_;try simp only [sqP]
 refine sqTH 2 ?_;try simp only [sqP]
 refine sqTH 3 ?_;try simp only [sqP]
 refine sqTH 4 ?_;try simp only [sqP]
 refine sqTH 5 ?_;try simp only [sqP]
 refine sqTH 6 ?_;try simp only [sqP]
 refine wpAnyH_ready (rs:= [7]) (by kernel_rfl) (by simp) ?_;refine AllReadyH.cons (o:=_) rfl (fun K hK=> ?_) ?_
 ·
  go_simp;refine(HCL.out wn0 hB).mono ?_;rintro e9 w9 ⟨v9,rfl,ho9,hb9⟩;dsimp only;refine zr hK ?_ (Below wn0.heap.size wn0) (fun W=>W.ownsRow w7.heap.size 37 3 v9 s.ents[i].parts.length (pcs s.ents[i].parts)) ?_ ?_ (fun wn1 hHeld hst hnew=> ?_)
  ·(exact HSB.out _ (hB.trans (hb9.mono hB.size)))
  ·(exact hb9)
  ·(exact zu ho9 hB.size)
  have hB:=hB.trans (hst.mono hB.size);have ho9':=hnew;clear hnew;clear hst;clear hK K
  try simp only [sqP]
  refine wpAnyH_ready (rs:= [8]) (by kernel_rfl) (by simp) ?_;refine AllReadyH.cons (o:=_) rfl (fun K hK=> ?_) ?_
  ·
   obtain⟨f0,f1,f2,f3⟩:=sqF4 (hR.below hB);obtain⟨y0,y1,y2,y3⟩:=sqC4 (hR.below hB);go_simp;clear f0 f1 f2 f3 y0 y1 y2 y3;have hB1:=hB;have hfin:=(hR.below hB).all4 (Value.slice (some ⟨q1,0,none⟩) s.blobs.length s.blobs.length) (Value.slice (some ⟨q2,0,none⟩) s.ents.length s.ents.length) (.int .i64 s.room) (.int .i64 z);have ho1:=ho.below hB;have hoF:=(((ho1.set (g:=H+1) (k:=0) hHr (.inl hHr) (Value.slice (some ⟨q1,0,none⟩) s.blobs.length s.blobs.length)).set (g:=H+1) (k:=1) hHr (.inl hHr) (Value.slice (some ⟨q2,0,none⟩) s.ents.length s.ents.length)).set (g:=H+1) (k:=2) hHr (.inl hHr) (.int .i64 s.room)).set (g:=H+1) (k:=3) hHr (.inl hHr) (.int .i64 z);have hb1:=hb.trans (hB.mono hw7);have hbF:=(((hb1.setCell (p:=⟨H+1,0,none⟩) (by simp only;omega) (Value.slice (some ⟨q1,0,none⟩) s.blobs.length s.blobs.length)).setCell (p:=⟨H+1,1,none⟩) (by simp only;omega) (Value.slice (some ⟨q2,0,none⟩) s.ents.length s.ents.length)).setCell (p:=⟨H+1,2,none⟩) (by simp only;omega) (.int .i64 s.room)).setCell (p:=⟨H+1,3,none⟩) (by simp only;omega) (.int .i64 z);have ho9F:=uK ho9' (g:=H+1) (by omega) (Value.slice (some ⟨q1,0,none⟩) s.blobs.length s.blobs.length) (Value.slice (some ⟨q2,0,none⟩) s.ents.length s.ents.length) (.int .i64 s.room) (.int .i64 z);have hne:w7.heap.size≤wn1.heap.size:=hB.size;refine zr hK ?_ (fun W=>Arr W (H+1) 28 [(Value.slice (some ⟨q1,0,none⟩) s.blobs.length s.blobs.length),(Value.slice (some ⟨q2,0,none⟩) s.ents.length s.ents.length),.int .i64 s.room,.int .i64 z]) (fun W=>OwSt W w0.heap.size (Value.slice (some ⟨q1,0,none⟩) s.blobs.length s.blobs.length) (Value.slice (some ⟨q2,0,none⟩) s.ents.length s.ents.length) (jV s i s.ents[i]) (fun b=>b<w0.heap.size∨b=G)∧Below H w W∧W.ownsRow w7.heap.size 37 3 v9 s.ents[i].parts.length (pcs s.ents[i].parts)) ?_ ?_ (fun wn2 hHeld hF hG=> ?_)
   ·have h1:=HSB.out _ hB;rw [zR hGH,zR hGH,zR hGH,zR hGH,zR hqH];exact h1
   ·exact hfin
   ·exact⟨hoF,hbF,ho9F⟩
   clear hB hB1 hfin ho1 hoF hb1 hbF ho9F hne ho9';clear hK K
   try simp only [sqP]
   refine sqTH 9 ?_;try simp only [sqP]
   refine sqTH 10 ?_;try simp only [sqP]
   refine wpAnyH_done (by kernel_rfl) ?_ _;dsimp only [Exit.then];clear hHeld;obtain⟨hoF,hbF,ho9⟩:=hG;go_wp2_with fail;refine bodyPost_ret (zZ rfl _ _ (H+1) _ _ _ _ (by rfl) hF Tryz.underlying28 rfl (by kernel_rfl)) rfl ?_;exact⟨_,_,_,rfl,(hoF.lower (base':=H) (by omega)).wider (N':=fun b=>b<H) (fun b hb=> .inl (.inl (by omega))),zu ho9 (by omega),hbF⟩
  exact AllReadyH.nil
 exact AllReadyH.nil
theorem yv {P:Program} {fn:Func} {p u z:Tmp} {ty:TypeId} (h:fn.results=#[.cell p ty,.tmp u,.tmp z]) (tmps:Array Value) (w:World) (g:Nat) (t:TypeId) (cs:Array Value) (fr:Nat×Nat) (d:TypeDesc)
  (hp:tmps.getD p undef= .pointer (some ⟨g,0,none⟩)) (hg:w.heap[g]?=some (.cells cs t fr))
  (hu:P.underlying ty=some d) (hd:(match d with | .struct _ | .array _ _=>true | _=>false)=true) (hi:(P.info? ty).map (·.size)=some cs.size) :
  (results fn tmps).run P w= .ok (.tuple #[.agg cs,tmps.getD u undef,tmps.getD z undef]) w:=zZ h tmps w g t cs fr d hp hg hu hd hi
theorem vN (A:Option Addr) (c:Nat) (B:Option Addr) (d:Nat) (s:StoP) (key:List UInt8) (w:World) (hg:GoodS s) (hr:RdSt w A c B d s) (hn:∀b∈s.ents,b.key≠key) :
  Calls Tryz.prog 11 #[.agg #[.slice A s.blobs.length c,.slice B s.ents.length d,.int .i64 s.room,.int .i64 s.clock],.string ⟨key.toArray⟩] w fun e w'=>e= .returned (.tuple #[.agg #[.slice none 0 0,.slice none 0 0,.int .i64 0,.int .i64 0],.slice none 0 0,.int .i64 5])∧Below w.heap.size w w':=by
 have hlb:s.blobs.length≤24:=hg.b.len;have hle:s.ents.length≤10:=hg.e.len;have HFX:=sqH (show s.ents.findIdx? (fun x=>x.key==key)=none by rw [List.findIdx?_eq_none_iff];intro x hx;simp [hn x hx]);obtain⟨sk,hsk⟩:∃x:ByteArray,x=⟨key.toArray⟩:=⟨_,rfl⟩
 rw [←hsk];have HSK:=sqH hsk;clear hn hsk;obtain⟨w0,hw0,hS,hR,hb0⟩:=zB w 28 [.slice A s.blobs.length c,.slice B s.ents.length d,.int .i64 s.room,.int .i64 s.clock] [.slice none 0 0,.slice none 0 0,.int .i64 0,.int .i64 0];have hr0:=hr.below hb0;obtain⟨H,hH⟩:∃H,H=w.heap.size:=⟨_,rfl⟩
 have HCK:=sqH (qD A c B d s w0 hg hr0);rw [←hH]at hS hR hb0 ⊢
 have hHl:H<w0.heap.size:=hS.lt;have hHr:H+1<w0.heap.size:=hR.lt;obtain⟨x0,x1,x2,x3⟩:=sqC4 hS;rw [hw0,hH]at x0 x1 x2 x3;have HPL:=sqH (show ∀b∈s.blobs,b.data.length≤1000000 from fun b hb=>by have:=(hg.b.one b hb).2.1;omega);have HQL:=sqH (show ∀x∈s.ents,x.parts.length≤1000000 from fun x hx=>by have:=(zl (hg.e.one x hx).2.1).1;omega);have HG:=sqH hg;clear hg hr;go_enter Tryz.func11,Tryz.ntmps11;go_wp2_with fail;rw [←hw0,←hH];have HH:=sqH hH;clear hw0 hH x0 x1 x2 x3;refine HCK.out.mono ?_;rintro e_ w1 ⟨rfl,hb1⟩;dsimp only;have hr1:=hr0.below hb1;have hS1:=hS.below hb1;have y0:=hS1.cell (k:=1) rfl;have HFN:=xE B d s.ents key w1 (by omega) hr1.e;rw [HFX.out,ZF,←HSK.out]at HFN;have HFN:=sqH HFN;clear hr0 hS;go_wp2_with fail;clear y0;refine HFN.out.mono ?_;rintro e_ w2 ⟨rfl,hb2⟩;dsimp only;have hc2:=hb1.trans (hb2.mono hb1.size);have hb:=hb0.trans (hc2.mono (Nat.le_of_lt hHl));have hR2:=hR.below hc2;clear hR;have hR:=hR2;clear hR2 hr1 hS1 hb1 hb2 hc2;obtain⟨f0,f1,f2,f3⟩:=sqF4 hR;obtain⟨y0,y1,y2,y3⟩:=sqC4 hR;have hfin:=hR.all4 (.slice none 0 0) (.slice none 0 0) (.int .i64 0) (.int .i64 0);have hbF:=(((hb.setCell (p:=⟨H+1,0,none⟩) (by simp only;omega) (.slice none 0 0)).setCell (p:=⟨H+1,1,none⟩) (by simp only;omega) (.slice none 0 0)).setCell (p:=⟨H+1,2,none⟩) (by simp only;omega) (.int .i64 0)).setCell (p:=⟨H+1,3,none⟩) (by simp only;omega) (.int .i64 0);clear hR hb;go_wp2_with fail;refine bodyPost_ret (yv rfl _ _ (H+1) _ _ _ _ (by rfl) hfin Tryz.underlying28 rfl (by kernel_rfl)) rfl ?_;exact⟨rfl,hbF⟩
theorem Zx {P Q:Prop} (h:Hid P→Q) (p:P):Q:=h (Lib.hid p)
structure Fits (s:StoP) (D:List UInt8):Prop where
 g:GoodS s
 d:D.length≤300
 l:s.blobs.length<24∨(s.blobs.findIdx? (fun b=>b.dig==shaS D)).isSome=true
 u:usd (putB s.blobs D)≤s.room
theorem xi (A:Option Addr) (c:Nat) (B:Option Addr) (d:Nat) (s:StoP) (D:List UInt8) (DA:Option Addr) (dc:Nat) (w:World) (hf:Fits s D) (hr:RdSt w A c B d s) (hD:Sl w 1 DA D.length dc (bys D)) :
  Calls Tryz.prog 6 #[.agg #[.slice A s.blobs.length c,.slice B s.ents.length d,.int .i64 s.room,.int .i64 s.clock],.slice DA D.length dc] w fun e w' =>
   ∃A' c' B' d',e= .returned (.tuple #[.agg #[.slice A' (zd s D).blobs.length c',.slice B' (zd s D).ents.length d',.int .i64 s.room,.int .i64 s.clock],.string ⟨(shaS D).toArray⟩,.int .i64 0])∧OwSt w' w.heap.size (.slice A' (zd s D).blobs.length c') (.slice B' (zd s D).ents.length d') (zd s D) (fun b=>b<w.heap.size)∧Below w.heap.size w w' :=
 (vr A c B d s D DA dc w hf.g hr hf.d hf.l hf.u hD).mono fun e w' ⟨v1,v2,h1,h2,h3⟩=>by
  obtain⟨A',c',B',d',e1,e2,_⟩:=h2.rows
  subst e1 e2
  exact⟨A',c',B',d',h1,h2,h3⟩
theorem jI (l:List RawP) {D:List UInt8} (hd:D.length≤600) (h3:D.length≤300):Fits (sto l) D:=by
 have h:=kN l;have pb:((sto l).blobs).Perm (qR l).blobs:=zm _ _;refine⟨yA l,h3,.inl (by rw [pb.length_eq];have:=h.blen;omega),?_⟩;have:=jC (sto l).blobs D;rw [xZ];omega
theorem jD (l:List EntP) (x:EntP):∃y∈kg l x,y.key=x.key∧y.parts=x.parts∧y.stamp=x.stamp:=by
 unfold kg;cases hf:l.findIdx? (fun y=>y.key==x.key) with
 | none=>exact⟨x,(zm _ _).mem_iff.2 (List.mem_cons_self ..),rfl,rfl,rfl⟩
 | some i =>
  obtain⟨hi,he,_⟩:=List.findIdx?_eq_some_iff_getElem.1 hf;exact⟨{ x with pins:=(match l[i]? with | some y=>y.pins | none=>0) },List.mem_iff_getElem.2 ⟨i,by rw [List.length_set];exact hi,List.getElem_set_self ..⟩,rfl,rfl,rfl⟩
theorem Qm (l:List RawP):(sto l).ents.length≤7:=by
 have pe:((sto l).ents).Perm (qR l).ents:=zm _ _;have hk:=kR (kN l).end_ fun k hk=>by
  obtain⟨x,hx,rfl⟩:=List.mem_map.1 hk;exact((kN l).eone x hx).1
 rw [List.length_map]at hk;rw [pe.length_eq];exact hk
theorem Zy (l:List RawP):(sto l).clock≤24:=(kN l).clock
theorem Zz (l:List RawP) (r:RawP):chk (zg (sto l).blobs r)=0∧ql (sto l).blobs (zg (sto l).blobs r)=0:=by
 have hg:=yA l;exact⟨yo (fun b hb=>⟨by rw [(hg.b.one b hb).1];exact qI _,(hg.b.one b hb).2.1⟩) r,ky hg.b.ris (xW _ r)⟩
theorem jf (A:Option Addr) (c:Nat) (B:Option Addr) (d:Nat) (s x:StoP) (key:List UInt8) (ps:List PartP) (PA:Option Addr) (pc:Nat) (w:World) (hg:GoodS s) (hr:RdSt w A c B d s) (hk:zJ key=0) (hpz:chk ps=0) (hhv:ql s.blobs ps=0) (hclk:s.clock<1099511627776) (hlen:s.ents.length<10) (hP:Sl w 3 PA ps.length pc (pcs ps)) (hx:x=Zr s key ps) :
  Calls Tryz.prog 8 #[.agg #[.slice A s.blobs.length c,.slice B s.ents.length d,.int .i64 s.room,.int .i64 s.clock],.string ⟨key.toArray⟩,.slice PA ps.length pc] w fun e w' =>
   ∃A' c' B' d',e= .returned (.tuple #[.agg #[.slice A' x.blobs.length c',.slice B' x.ents.length d',.int .i64 x.room,.int .i64 x.clock],.int .i64 0])∧OwSt w' w.heap.size (.slice A' x.blobs.length c') (.slice B' x.ents.length d') x (fun b=>b<w.heap.size)∧Below w.heap.size w w':=by
 subst hx;refine(Za A c B d s key ps PA pc w hg hr hk hpz hhv hclk hlen hP).mono fun e w' ⟨v1,v2,h1,h2,h3⟩=> ?_;obtain⟨A',c',B',d',e1,e2,_⟩:=h2.rows;subst e1 e2;exact⟨A',c',B',d',h1,h2,h3⟩
theorem jc (A:Option Addr) (c:Nat) (B:Option Addr) (d:Nat) (s y:StoP) (key:List UInt8) (ps:List PartP) (i:Nat) (w:World) (hg:GoodS s) (hr:RdSt w A c B d s) (hi:i<s.ents.length) (hk:s.ents[i].key=key) (hps:s.ents[i].parts=ps) (hclk:s.clock<1099511627776) (hy:y=jV s i s.ents[i]) :
  Calls Tryz.prog 11 #[.agg #[.slice A s.blobs.length c,.slice B s.ents.length d,.int .i64 s.room,.int .i64 s.clock],.string ⟨key.toArray⟩] w fun e w' =>
   ∃A' c' B' d' A5 c5,e= .returned (.tuple #[.agg #[.slice A' y.blobs.length c',.slice B' y.ents.length d',.int .i64 y.room,.int .i64 y.clock],.slice A5 ps.length c5,.int .i64 0])∧OwSt w' w.heap.size (.slice A' y.blobs.length c') (.slice B' y.ents.length d') y (fun b=>b<w.heap.size)∧w'.ownsRow w.heap.size 37 3 (.slice A5 ps.length c5) ps.length (pcs ps)∧Below w.heap.size w w':=by
 subst hy;subst hps;refine(Z2 A c B d s key i w hg hr hi hk hclk).mono fun e w' ⟨v1,v2,v3,h1,h2,h4,h3⟩=> ?_;obtain⟨A',c',B',d',e1,e2,_⟩:=h2.rows;obtain⟨A5,c5,e5,_,_⟩:=yi h4;subst e1 e2 e5;exact⟨A',c',B',d',A5,c5,h1,h2,h4,h3⟩
end Go.Proofs.YtfmnggcfhalfnaaGreat
