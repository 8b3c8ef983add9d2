/- Lemmas of the proof. Conditions: as stated. -/
import Derived.Test.YtfmnggcfhalfnaaGreatQW24
set_option linter.unusedVariables false
set_option linter.unusedSimpArgs false
set_option maxRecDepth 100000
set_option maxHeartbeats 16000000
namespace Go.Proofs.YtfmnggcfhalfnaaGreat
open Go.RowKit
theorem yk (A:Option Addr) (n c:Nat) (l:List RawP) (r:RawP) (w:World) (hl:l.length=n) (hc:n≤c) (hm:c≤maxLen) (hok:∀r∈l,RawOk r) (hr:Rd w 4 A n (rcs l)) (hro:RawOk r) :
  Calls Tryz.prog 3 #[.slice A n c,Zw r] w fun e w'=>e= .returned (.bool true)∧Below w.heap.size w w':=by
 obtain⟨D,hD⟩:∃D,D=js r 60:=⟨_,rfl⟩
 have hDl:D.length≤60:=by rw [hD];exact yq r 60
 have HF1:=sqH (jI l (D:=D) (by omega) (by omega));have HDT:=vL r 60 60 rfl (by omega) hro;rw [←hD]at HDT;have HDT:=sqH HDT;have hsg:=yA l;have hs7:=Qm l;have hsc:=Zy l;obtain⟨hp1,hp2⟩:=Zz l r;have hp3:=kA (sto l).blobs r;obtain⟨ps,hps⟩:∃ps,ps=zg (sto l).blobs r:=⟨_,rfl⟩
 rw [←hps]at hp1 hp2 hp3;have HRO:=sqH hro;obtain⟨w0,hw0⟩:∃w0,w0=w.alloc (.cells #[.int .i64 r.kind,.int .i64 r.a,.int .i64 r.b,.string r.text] 24):=⟨_,rfl⟩
 have hb0:Below w.heap.size w w0:=by rw [hw0];exact(Below.refl _ _).alloc (Nat.le_refl _) _
 obtain⟨gr,hgr⟩:∃g,g=w.heap.size:=⟨_,rfl⟩
 have hRb:Arr w0 gr 24 [.int .i64 r.kind,.int .i64 r.a,.int .i64 r.b,.string r.text]:=by rw [hw0,hgr];exact Arr.new w 24 _
 have HS:=sqH (fun W (h:Below w0.heap.size w0 W)=>jk A n c l W hl hc hm hok ((hr.below hb0).below h));rw [←hgr]at hb0 ⊢
 have hgl:gr<w0.heap.size:=hRb.lt;clear hok hl hr hro hD;generalize hs:sto l=s at *
 have HSG:=sqH hsg;have hlb:s.blobs.length≤24:=hsg.b.len;have HPT:=sqH (fun (Ax:Option Addr) (cx:Nat) (W:World) (h1:s.blobs.length≤cx) (h2:cx≤maxLen) (h3:Rw BlobS W Ax s.blobs)=>yj Ax cx s.blobs r W (by omega) h1 h2 (fun b hb=>by have:=(HSG.out.b.one b hb).2.1;omega) h3 HRO.out);rw [←hps]at HPT;obtain⟨rk,ra,rb,rt⟩:=r;unfold Zw at HDT ⊢
 dsimp only at HPT hRb hw0;have HP1:=sqH hp1;have HP2:=sqH hp2;clear hs hsg hps hp1 hp2;go_enter Tryz.func3,Tryz.ntmps3;go_wp2_with fail;rw [←hw0,←hgr];clear hw0 hgr;refine(HS.out w0 (Below.refl _ _)).mono ?_;rintro e_ w1 ⟨v1,v2,rfl,hb,he,hb1⟩;dsimp only;obtain⟨As,cs,rfl,hc1,hc2,hRs⟩:=hb.rows;obtain⟨Bs,ds,rfl,hd1,hd2,hEs⟩:=he.rows;have hrd1:RdSt w1 As cs Bs ds s:=⟨hRs,hEs,hc1,hc2,hd1,hd2⟩
 clear hb he hRs hEs hc1 hc2 hd1 hd2;go_wp2_with fail;refine(HS.out w1 hb1).mono ?_;rintro e_ w2 ⟨v1,v2,rfl,hb,he,hb2⟩;dsimp only;obtain⟨At,ct,rfl,hc1,hc2,hRs⟩:=hb.rows;obtain⟨Bt,dt,rfl,hd1,hd2,hEs⟩:=he.rows;have hrd2:RdSt w2 At ct Bt dt s:=⟨hRs,hEs,hc1,hc2,hd1,hd2⟩
 clear hb he hRs hEs hc1 hc2 hd1 hd2 HS;obtain⟨w3,hw3,hX,hY,hb23⟩:=zB w2 28 [.slice As s.blobs.length cs,.slice Bs s.ents.length ds,.int .i64 s.room,.int .i64 s.clock] [.slice At s.blobs.length ct,.slice Bt s.ents.length dt,.int .i64 s.room,.int .i64 s.clock];have hrs3:=(hrd1.below hb2).below hb23;have hrt3:=hrd2.below hb23;have hb12:=hb1.trans (hb2.mono hb1.size);have hb13:=hb12.trans (hb23.mono hb12.size);have hRb3:=hRb.below hb13;have HB3:=sqH (hb0.trans (hb13.mono (by omega)));clear hrd1 hrd2 hb0 hb1 hb2 hb12 hb13 hb23 hRb;go_wp2_with fail;have hw3':w3=(w2.alloc (.cells #[.slice As s.blobs.length cs,.slice Bs s.ents.length ds,.int .i64 s.room,.int .i64 s.clock] 28)).alloc (.cells #[.slice At s.blobs.length ct,.slice Bt s.ents.length dt,.int .i64 s.room,.int .i64 s.clock] 28):=hw3;rw [←hw3'];clear hw3 hw3';generalize w2.heap.size=gs at *
 have hgs3:gs<w3.heap.size:=hX.lt;have hgt3:gs+1<w3.heap.size:=hY.lt;have hgr3:gr<w3.heap.size:=hRb3.lt;obtain⟨gt,hgt⟩:∃g,g=gs+1:=⟨_,rfl⟩
 rw [←hgt]at hY hgt3 ⊢
 clear hgt;obtain⟨bz,hbq⟩:∃b,b=w3.heap.size:=⟨_,rfl⟩
 have hbz:bz≤w3.heap.size:=Nat.le_of_eq hbq;have HBZ:=sqH hbq;have HSB:=sqH (show ∀W,Below w3.heap.size w3 W→(W.cell? ⟨gs,0,none⟩=some (.slice As s.blobs.length cs)∧W.cell? ⟨gs,1,none⟩=some (.slice Bs s.ents.length ds)∧W.cell? ⟨gs,2,none⟩=some (.int .i64 s.room)∧W.cell? ⟨gs,3,none⟩=some (.int .i64 s.clock))∧(W.cell? ⟨gr,0,none⟩=some (.int .i64 rk)∧W.cell? ⟨gr,1,none⟩=some (.int .i64 ra)∧W.cell? ⟨gr,2,none⟩=some (.int .i64 rb)∧W.cell? ⟨gr,3,none⟩=some (.string rt)) from fun W h =>
  ⟨⟨(hX.below h).cell (k:=0) rfl,(hX.below h).cell (k:=1) rfl,(hX.below h).cell (k:=2) rfl,(hX.below h).cell (k:=3) rfl⟩,(hRb3.below h).cell (k:=0) rfl,(hRb3.below h).cell (k:=1) rfl,(hRb3.below h).cell (k:=2) rfl,(hRb3.below h).cell (k:=3) rfl⟩)
 have HTB:=sqH (show ∀W,Below w3.heap.size w3 W→(W.cell? ⟨gt,0,none⟩=some (.slice At s.blobs.length ct)∧W.cell? ⟨gt,1,none⟩=some (.slice Bt s.ents.length dt)∧W.cell? ⟨gt,2,none⟩=some (.int .i64 s.room)∧W.cell? ⟨gt,3,none⟩=some (.int .i64 s.clock)) from fun W h =>
  ⟨(hY.below h).cell (k:=0) rfl,(hY.below h).cell (k:=1) rfl,(hY.below h).cell (k:=2) rfl,(hY.below h).cell (k:=3) rfl⟩)
 have hpb:=fun W A2 c2 (h:Below w3.heap.size w3 W) (hz:zV W w3.heap.size A2 c2 D)=>xi As cs Bs ds s D A2 c2 W HF1.out (hrs3.below h) hz.sl.1;obtain⟨sd,hsd⟩:∃x:ByteArray,x=⟨(shaS D).toArray⟩:=⟨_,rfl⟩
 rw [←hsd]at hpb;have HPB:=sqH hpb;have HRS:=sqH hrs3;have HRT:=sqH hrt3;clear hpb hsd hX hY hrs3 hrt3 hRb3 hbq;apply Zx;intro REST;refine wp_region_held_drew (S:=(fun w'=>(w'.cell? ⟨gs,0,none⟩=some (.slice As s.blobs.length cs)∧w'.cell? ⟨gs,1,none⟩=some (.slice Bs s.ents.length ds)∧w'.cell? ⟨gs,2,none⟩=some (.int .i64 s.room)∧w'.cell? ⟨gs,3,none⟩=some (.int .i64 s.clock))∧(w'.cell? ⟨gr,0,none⟩=some (.int .i64 rk)∧w'.cell? ⟨gr,1,none⟩=some (.int .i64 ra)∧w'.cell? ⟨gr,2,none⟩=some (.int .i64 rb)∧w'.cell? ⟨gr,3,none⟩=some (.string rt)))) (by kernel_rfl) ?_ (fun hHeld=> ?_)
 ·exact HSB.out _ (Below.refl _ w3).drew
 have hB:=(Below.refl w3.heap.size w3).drew;generalize w3.drew=wn0 at *
 refine sqTH 0 ?_;try simp only [sqP]
 refine sqTH 1 ?_;try simp only [sqP]
 refine wpAnyH_ready (rs:= [2,8]) (by kernel_rfl) (by simp) ?_;refine AllReadyH.cons (o:=_) rfl (fun K hK=> ?_) ?_
 ·
  go_simp;refine(HDT.out wn0).mono ?_;rintro e5 w5 ⟨A2,c2,rfl,hz5,hb5⟩;dsimp only;refine zr hK ?_ (Below wn0.heap.size wn0) (fun W=>zV W w3.heap.size A2 c2 D) ?_ ?_ (fun wn1 hHeld hst hnew=> ?_)
  ·(exact HSB.out _ (hB.trans (Below.mono (show Below wn0.heap.size wn0 _ from by(first | exact(Below.refl _ _).alloc (Nat.le_refl _) _ | exact hbq | exact hb5 | exact Below.refl _ _)) hB.size)))
  ·(first | exact(Below.refl _ _).alloc (Nat.le_refl _) _ | exact hbq | exact hb5 | exact Below.refl _ _)
  ·(exact hz5.lower hB.size)
  have hB:=hB.trans (hst.mono hB.size);have hD:=hnew;clear hnew;clear hst;clear hK K
  try simp only [sqP]
  refine wpAnyH_ready (rs:= [3,8]) (by kernel_rfl) (by simp) ?_;refine AllReadyH.cons (o:=_) rfl (fun K hK=> ?_) ?_
  ·
   try have hA8:=h8.lt
   have hBs:=hB.size;go_simp;refine(HPB.out wn1 A2 c2 hB hD).mono ?_;rintro e5 w5 ⟨A',c',B',d',rfl,ho5,hb5⟩;dsimp only;refine zr hK ?_ (Below wn1.heap.size wn1) (fun W=>OwSt W wn1.heap.size (Value.slice A' (zd s D).blobs.length c') (Value.slice B' (zd s D).ents.length d') (zd s D) (fun b=>b<wn1.heap.size)) ?_ ?_ (fun wn2 hHeld hst hnew=> ?_)
   ·(exact HSB.out _ (hB.trans (Below.mono (show Below wn1.heap.size wn1 _ from by(first | exact(Below.refl _ _).alloc (Nat.le_refl _) _ | exact hbq | exact hb5 | exact Below.refl _ _)) hB.size)))
   ·(first | exact(Below.refl _ _).alloc (Nat.le_refl _) _ | exact hbq | exact hb5 | exact Below.refl _ _)
   ·(exact ho5)
   have hB:=hB.trans (hst.mono hB.size);have ho:=hnew
   try (have hne1:(Value.slice A' (zd s D).blobs.length c').ownBlock≠some g6:=fun e=>by have:=(ho.b.rwo.blk e).1;omega)
   try (have hne2:(Value.slice B' (zd s D).ents.length d').ownBlock≠some g6:=fun e=>by have:=(ho.e.rwo.blk e).1;omega)
   first | (have ho:=ho.wider (N':=fun b=>b=g6∨b<bz) (fun b hb=> .inl (by omega))) | (have ho:=ho.wider (N':=fun b=>b<bz) (fun b hb=> .inl (by omega)))
   have ho:=ho.lower (base':=bz) (by omega);clear hst;clear hK K
   try simp only [sqP]
   refine sqTH 4 ?_;try simp only [sqP]
   refine sqTH 5 ?_;try simp only [sqP]
   refine sqTH 6 ?_;try simp only [sqP]
   refine sqTH 7 ?_;try simp only [sqP]
   refine wpAnyH_ready (rs:= [8]) (by kernel_rfl) (by simp) ?_;refine AllReadyH.cons (o:=_) rfl (fun K hK=> ?_) ?_
   ·
    try (have hA1:=fun b (e:(Value.slice A' (zd s D).blobs.length c').ownBlock=some b)=>(ho.b.rwo.blk e).2)
    try (have hA2:=fun b (e:(Value.slice B' (zd s D).ents.length d').ownBlock=some b)=>(ho.e.rwo.blk e).2)
    try (have ho:=ho.wider (N':=fun b=>b=wn2.heap.size∨b<bz) (fun b hb=>hb.elim (fun h=> .inr (by omega)) (fun h=> .inl h)))
    go_simp;refine zr hK ?_ (Below wn2.heap.size wn2) (fun W=>Arr W wn2.heap.size 28 [.slice none 0 0,.slice none 0 0,.int .i64 0,.int .i64 0]∧w3.heap.size≤wn2.heap.size) ?_ ?_ (fun wn3 hHeld hst hnew=> ?_)
    ·(exact HSB.out _ (hB.trans (Below.mono (show Below wn2.heap.size wn2 _ from by(first | exact(Below.refl _ _).alloc (Nat.le_refl _) _ | exact hbq | exact hb5 | exact Below.refl _ _)) hB.size)))
    ·(first | exact(Below.refl _ _).alloc (Nat.le_refl _) _ | exact hbq | exact hb5 | exact Below.refl _ _)
    ·(exact⟨Arr.new _ _ _,hB.size⟩)
    have hB:=hB.trans (hst.mono hB.size);have ho:=ho.below hst;obtain⟨h8,hl8⟩:=hnew;obtain⟨g6,hg6⟩:∃g,g=wn2.heap.size:=⟨_,rfl⟩
    rw [←hg6]at h8 hl8 ⊢
    try (rw [←hg6]at ho)
    try (have hne1:(Value.slice A' (zd s D).blobs.length c').ownBlock≠some g6:=fun e=>by have:=hA1 _ e;omega)
    try (have hne2:(Value.slice B' (zd s D).ents.length d').ownBlock≠some g6:=fun e=>by have:=hA2 _ e;omega)
    try clear hA1
    try clear hA2
    clear hg6;clear hst;clear hK K
    try simp only [sqP]
    refine wpAnyH_ready (rs:= [9]) (by kernel_rfl) (by simp) ?_;refine AllReadyH.cons (o:=_) rfl (fun K hK=> ?_) ?_
    ·
     obtain⟨z0,z1,z2,z3⟩:=sqC4 h8;obtain⟨f0,f1,f2,f3⟩:=sqF4 h8;go_simp;clear z0 z1 z2 z3 f0 f1 f2 f3;refine zr hK ?_ (fun W=>Arr W g6 28 [.slice A' (zd s D).blobs.length c',.slice B' (zd s D).ents.length d',.int .i64 s.room,.int .i64 s.clock]) (fun W=>Below w3.heap.size w3 W∧OwSt W bz (Value.slice A' (zd s D).blobs.length c') (Value.slice B' (zd s D).ents.length d') (zd s D) (fun b=>b=g6∨b<bz)) ?_ ?_ (fun wn4 hHeld hF hG=> ?_)
     ·exact HSB.out _ ((((hB.setCell (p:=⟨g6,0,none⟩) hl8 _).setCell (p:=⟨g6,1,none⟩) hl8 _).setCell (p:=⟨g6,2,none⟩) hl8 _).setCell (p:=⟨g6,3,none⟩) hl8 _)
     ·exact h8.all4 _ _ _ _
     ·exact⟨(((hB.setCell (p:=⟨g6,0,none⟩) hl8 _).setCell (p:=⟨g6,1,none⟩) hl8 _).setCell (p:=⟨g6,2,none⟩) hl8 _).setCell (p:=⟨g6,3,none⟩) hl8 _,(((ho.setX (.inl rfl) hne1 hne2 _).setX (.inl rfl) hne1 hne2 _).setX (.inl rfl) hne1 hne2 _).setX (.inl rfl) hne1 hne2 _⟩
     clear hB h8 ho;clear hK K
     try simp only [sqP]
     refine sqTH 10 ?_;try simp only [sqP]
     refine sqTH 11 ?_;try simp only [sqP]
     refine wpAnyH_done (by kernel_rfl) ?_ _;dsimp only [Exit.then];clear hHeld;obtain⟨hBz,hoz⟩:=hG;have hrz:Spl bz wn4 A' (zd s D).blobs.length B' (zd s D).ents.length:=by
      obtain⟨A9,c9,B9,d9,e1,e2, -, -, -, -,h⟩:=Spl.of_own hoz (fun b hb=> .inr hb);cases e1;cases e2;exact h
     have hall:=And.intro hBz (And.intro hrz hF);generalize wn4=wz at hall ⊢
     generalize g6=gz at hall ⊢
     generalize A'=Az at hall ⊢
     generalize c'=cz at hall ⊢
     generalize B'=Bz at hall ⊢
     generalize d'=dz at hall ⊢
     generalize A2=A3;generalize c2=c3;revert wz gz Az cz Bz dz A3 c3;exact REST.out
    exact AllReadyH.nil
   exact AllReadyH.nil
  refine AllReadyH.cons (o:=_) rfl (fun K hK=> ?_) ?_
  ·
   try (have hA1:=fun b (e:(Value.slice A' (zd s D).blobs.length c').ownBlock=some b)=>(ho.b.rwo.blk e).2)
   try (have hA2:=fun b (e:(Value.slice B' (zd s D).ents.length d').ownBlock=some b)=>(ho.e.rwo.blk e).2)
   try (have ho:=ho.wider (N':=fun b=>b=wn1.heap.size∨b<bz) (fun b hb=>hb.elim (fun h=> .inr (by omega)) (fun h=> .inl h)))
   go_simp;refine zr hK ?_ (Below wn1.heap.size wn1) (fun W=>Arr W wn1.heap.size 28 [.slice none 0 0,.slice none 0 0,.int .i64 0,.int .i64 0]∧w3.heap.size≤wn1.heap.size) ?_ ?_ (fun wn5 hHeld hst hnew=> ?_)
   ·(exact HSB.out _ (hB.trans (Below.mono (show Below wn1.heap.size wn1 _ from by(first | exact(Below.refl _ _).alloc (Nat.le_refl _) _ | exact hbq | exact hb5 | exact Below.refl _ _)) hB.size)))
   ·(first | exact(Below.refl _ _).alloc (Nat.le_refl _) _ | exact hbq | exact hb5 | exact Below.refl _ _)
   ·(exact⟨Arr.new _ _ _,hB.size⟩)
   have hB:=hB.trans (hst.mono hB.size);have hD:=hD.below hst;obtain⟨h8,hl8⟩:=hnew;obtain⟨g6,hg6⟩:∃g,g=wn1.heap.size:=⟨_,rfl⟩
   rw [←hg6]at h8 hl8 ⊢
   try (rw [←hg6]at ho)
   try (have hne1:(Value.slice A' (zd s D).blobs.length c').ownBlock≠some g6:=fun e=>by have:=hA1 _ e;omega)
   try (have hne2:(Value.slice B' (zd s D).ents.length d').ownBlock≠some g6:=fun e=>by have:=hA2 _ e;omega)
   try clear hA1
   try clear hA2
   clear hg6;clear hst;clear hK K
   try simp only [sqP]
   refine wpAnyH_ready (rs:= [3]) (by kernel_rfl) (by simp) ?_;refine AllReadyH.cons (o:=_) rfl (fun K hK=> ?_) ?_
   ·
    try have hA8:=h8.lt
    have hBs:=hB.size;go_simp;refine(HPB.out wn5 A2 c2 hB hD).mono ?_;rintro e5 w5 ⟨A',c',B',d',rfl,ho5,hb5⟩;dsimp only;refine zr hK ?_ (Below wn5.heap.size wn5) (fun W=>OwSt W wn5.heap.size (Value.slice A' (zd s D).blobs.length c') (Value.slice B' (zd s D).ents.length d') (zd s D) (fun b=>b<wn5.heap.size)) ?_ ?_ (fun wn6 hHeld hst hnew=> ?_)
    ·(exact HSB.out _ (hB.trans (Below.mono (show Below wn5.heap.size wn5 _ from by(first | exact(Below.refl _ _).alloc (Nat.le_refl _) _ | exact hbq | exact hb5 | exact Below.refl _ _)) hB.size)))
    ·(first | exact(Below.refl _ _).alloc (Nat.le_refl _) _ | exact hbq | exact hb5 | exact Below.refl _ _)
    ·(exact ho5)
    have hB:=hB.trans (hst.mono hB.size);have h8:=h8.below hst;have ho:=hnew
    try (have hne1:(Value.slice A' (zd s D).blobs.length c').ownBlock≠some g6:=fun e=>by have:=(ho.b.rwo.blk e).1;omega)
    try (have hne2:(Value.slice B' (zd s D).ents.length d').ownBlock≠some g6:=fun e=>by have:=(ho.e.rwo.blk e).1;omega)
    first | (have ho:=ho.wider (N':=fun b=>b=g6∨b<bz) (fun b hb=> .inl (by omega))) | (have ho:=ho.wider (N':=fun b=>b<bz) (fun b hb=> .inl (by omega)))
    have ho:=ho.lower (base':=bz) (by omega);clear hst;clear hK K
    try simp only [sqP]
    refine sqTH 4 ?_;try simp only [sqP]
    refine sqTH 5 ?_;try simp only [sqP]
    refine sqTH 6 ?_;try simp only [sqP]
    refine sqTH 7 ?_;try simp only [sqP]
    refine wpAnyH_ready (rs:= [9]) (by kernel_rfl) (by simp) ?_;refine AllReadyH.cons (o:=_) rfl (fun K hK=> ?_) ?_
    ·
     obtain⟨z0,z1,z2,z3⟩:=sqC4 h8;obtain⟨f0,f1,f2,f3⟩:=sqF4 h8;go_simp;clear z0 z1 z2 z3 f0 f1 f2 f3;refine zr hK ?_ (fun W=>Arr W g6 28 [.slice A' (zd s D).blobs.length c',.slice B' (zd s D).ents.length d',.int .i64 s.room,.int .i64 s.clock]) (fun W=>Below w3.heap.size w3 W∧OwSt W bz (Value.slice A' (zd s D).blobs.length c') (Value.slice B' (zd s D).ents.length d') (zd s D) (fun b=>b=g6∨b<bz)) ?_ ?_ (fun wn7 hHeld hF hG=> ?_)
     ·exact HSB.out _ ((((hB.setCell (p:=⟨g6,0,none⟩) hl8 _).setCell (p:=⟨g6,1,none⟩) hl8 _).setCell (p:=⟨g6,2,none⟩) hl8 _).setCell (p:=⟨g6,3,none⟩) hl8 _)
     ·exact h8.all4 _ _ _ _
     ·exact⟨(((hB.setCell (p:=⟨g6,0,none⟩) hl8 _).setCell (p:=⟨g6,1,none⟩) hl8 _).setCell (p:=⟨g6,2,none⟩) hl8 _).setCell (p:=⟨g6,3,none⟩) hl8 _,(((ho.setX (.inl rfl) hne1 hne2 _).setX (.inl rfl) hne1 hne2 _).setX (.inl rfl) hne1 hne2 _).setX (.inl rfl) hne1 hne2 _⟩
     clear hB h8 ho;clear hK K
     try simp only [sqP]
     refine sqTH 10 ?_;try simp only [sqP]
     refine sqTH 11 ?_;try simp only [sqP]
     refine wpAnyH_done (by kernel_rfl) ?_ _;dsimp only [Exit.then];clear hHeld;obtain⟨hBz,hoz⟩:=hG;have hrz:Spl bz wn7 A' (zd s D).blobs.length B' (zd s D).ents.length:=by
      obtain⟨A9,c9,B9,d9,e1,e2, -, -, -, -,h⟩:=Spl.of_own hoz (fun b hb=> .inr hb);cases e1;cases e2;exact h
     have hall:=And.intro hBz (And.intro hrz hF);generalize wn7=wz at hall ⊢
     generalize g6=gz at hall ⊢
     generalize A'=Az at hall ⊢
     generalize c'=cz at hall ⊢
     generalize B'=Bz at hall ⊢
     generalize d'=dz at hall ⊢
     generalize A2=A3;generalize c2=c3;revert wz gz Az cz Bz dz A3 c3;exact REST.out
    exact AllReadyH.nil
   exact AllReadyH.nil
  exact AllReadyH.nil
 refine AllReadyH.cons (o:=_) rfl (fun K hK=> ?_) ?_
 ·
  try (have hA1:=fun b (e:(Value.slice A' (zd s D).blobs.length c').ownBlock=some b)=>(ho.b.rwo.blk e).2)
  try (have hA2:=fun b (e:(Value.slice B' (zd s D).ents.length d').ownBlock=some b)=>(ho.e.rwo.blk e).2)
  try (have ho:=ho.wider (N':=fun b=>b=wn0.heap.size∨b<bz) (fun b hb=>hb.elim (fun h=> .inr (by omega)) (fun h=> .inl h)))
  go_simp;refine zr hK ?_ (Below wn0.heap.size wn0) (fun W=>Arr W wn0.heap.size 28 [.slice none 0 0,.slice none 0 0,.int .i64 0,.int .i64 0]∧w3.heap.size≤wn0.heap.size) ?_ ?_ (fun wn8 hHeld hst hnew=> ?_)
  ·(exact HSB.out _ (hB.trans (Below.mono (show Below wn0.heap.size wn0 _ from by(first | exact(Below.refl _ _).alloc (Nat.le_refl _) _ | exact hbq | exact hb5 | exact Below.refl _ _)) hB.size)))
  ·(first | exact(Below.refl _ _).alloc (Nat.le_refl _) _ | exact hbq | exact hb5 | exact Below.refl _ _)
  ·(exact⟨Arr.new _ _ _,hB.size⟩)
  have hB:=hB.trans (hst.mono hB.size);obtain⟨h8,hl8⟩:=hnew;obtain⟨g6,hg6⟩:∃g,g=wn0.heap.size:=⟨_,rfl⟩
  rw [←hg6]at h8 hl8 ⊢
  try (rw [←hg6]at ho)
  try (have hne1:(Value.slice A' (zd s D).blobs.length c').ownBlock≠some g6:=fun e=>by have:=hA1 _ e;omega)
  try (have hne2:(Value.slice B' (zd s D).ents.length d').ownBlock≠some g6:=fun e=>by have:=hA2 _ e;omega)
  try clear hA1
  try clear hA2
  clear hg6;clear hst;clear hK K
  try simp only [sqP]
  refine wpAnyH_ready (rs:= [2]) (by kernel_rfl) (by simp) ?_;refine AllReadyH.cons (o:=_) rfl (fun K hK=> ?_) ?_
  ·
   go_simp;refine(HDT.out wn8).mono ?_;rintro e5 w5 ⟨A2,c2,rfl,hz5,hb5⟩;dsimp only;refine zr hK ?_ (Below wn8.heap.size wn8) (fun W=>zV W w3.heap.size A2 c2 D) ?_ ?_ (fun wn9 hHeld hst hnew=> ?_)
   ·(exact HSB.out _ (hB.trans (Below.mono (show Below wn8.heap.size wn8 _ from by(first | exact(Below.refl _ _).alloc (Nat.le_refl _) _ | exact hbq | exact hb5 | exact Below.refl _ _)) hB.size)))
   ·(first | exact(Below.refl _ _).alloc (Nat.le_refl _) _ | exact hbq | exact hb5 | exact Below.refl _ _)
   ·(exact hz5.lower hB.size)
   have hB:=hB.trans (hst.mono hB.size);have h8:=h8.below hst;have hD:=hnew;clear hnew;clear hst;clear hK K
   try simp only [sqP]
   refine wpAnyH_ready (rs:= [3]) (by kernel_rfl) (by simp) ?_;refine AllReadyH.cons (o:=_) rfl (fun K hK=> ?_) ?_
   ·
    try have hA8:=h8.lt
    have hBs:=hB.size;go_simp;refine(HPB.out wn9 A2 c2 hB hD).mono ?_;rintro e5 w5 ⟨A',c',B',d',rfl,ho5,hb5⟩;dsimp only;refine zr hK ?_ (Below wn9.heap.size wn9) (fun W=>OwSt W wn9.heap.size (Value.slice A' (zd s D).blobs.length c') (Value.slice B' (zd s D).ents.length d') (zd s D) (fun b=>b<wn9.heap.size)) ?_ ?_ (fun wn10 hHeld hst hnew=> ?_)
    ·(exact HSB.out _ (hB.trans (Below.mono (show Below wn9.heap.size wn9 _ from by(first | exact(Below.refl _ _).alloc (Nat.le_refl _) _ | exact hbq | exact hb5 | exact Below.refl _ _)) hB.size)))
    ·(first | exact(Below.refl _ _).alloc (Nat.le_refl _) _ | exact hbq | exact hb5 | exact Below.refl _ _)
    ·(exact ho5)
    have hB:=hB.trans (hst.mono hB.size);have h8:=h8.below hst;have ho:=hnew
    try (have hne1:(Value.slice A' (zd s D).blobs.length c').ownBlock≠some g6:=fun e=>by have:=(ho.b.rwo.blk e).1;omega)
    try (have hne2:(Value.slice B' (zd s D).ents.length d').ownBlock≠some g6:=fun e=>by have:=(ho.e.rwo.blk e).1;omega)
    first | (have ho:=ho.wider (N':=fun b=>b=g6∨b<bz) (fun b hb=> .inl (by omega))) | (have ho:=ho.wider (N':=fun b=>b<bz) (fun b hb=> .inl (by omega)))
    have ho:=ho.lower (base':=bz) (by omega);clear hst;clear hK K
    try simp only [sqP]
    refine sqTH 4 ?_;try simp only [sqP]
    refine sqTH 5 ?_;try simp only [sqP]
    refine sqTH 6 ?_;try simp only [sqP]
    refine sqTH 7 ?_;try simp only [sqP]
    refine wpAnyH_ready (rs:= [9]) (by kernel_rfl) (by simp) ?_;refine AllReadyH.cons (o:=_) rfl (fun K hK=> ?_) ?_
    ·
     obtain⟨z0,z1,z2,z3⟩:=sqC4 h8;obtain⟨f0,f1,f2,f3⟩:=sqF4 h8;go_simp;clear z0 z1 z2 z3 f0 f1 f2 f3;refine zr hK ?_ (fun W=>Arr W g6 28 [.slice A' (zd s D).blobs.length c',.slice B' (zd s D).ents.length d',.int .i64 s.room,.int .i64 s.clock]) (fun W=>Below w3.heap.size w3 W∧OwSt W bz (Value.slice A' (zd s D).blobs.length c') (Value.slice B' (zd s D).ents.length d') (zd s D) (fun b=>b=g6∨b<bz)) ?_ ?_ (fun wn11 hHeld hF hG=> ?_)
     ·exact HSB.out _ ((((hB.setCell (p:=⟨g6,0,none⟩) hl8 _).setCell (p:=⟨g6,1,none⟩) hl8 _).setCell (p:=⟨g6,2,none⟩) hl8 _).setCell (p:=⟨g6,3,none⟩) hl8 _)
     ·exact h8.all4 _ _ _ _
     ·exact⟨(((hB.setCell (p:=⟨g6,0,none⟩) hl8 _).setCell (p:=⟨g6,1,none⟩) hl8 _).setCell (p:=⟨g6,2,none⟩) hl8 _).setCell (p:=⟨g6,3,none⟩) hl8 _,(((ho.setX (.inl rfl) hne1 hne2 _).setX (.inl rfl) hne1 hne2 _).setX (.inl rfl) hne1 hne2 _).setX (.inl rfl) hne1 hne2 _⟩
     clear hB h8 ho;clear hK K
     try simp only [sqP]
     refine sqTH 10 ?_;try simp only [sqP]
     refine sqTH 11 ?_;try simp only [sqP]
     refine wpAnyH_done (by kernel_rfl) ?_ _;dsimp only [Exit.then];clear hHeld;obtain⟨hBz,hoz⟩:=hG;have hrz:Spl bz wn11 A' (zd s D).blobs.length B' (zd s D).ents.length:=by
      obtain⟨A9,c9,B9,d9,e1,e2, -, -, -, -,h⟩:=Spl.of_own hoz (fun b hb=> .inr hb);cases e1;cases e2;exact h
     have hall:=And.intro hBz (And.intro hrz hF);generalize wn11=wz at hall ⊢
     generalize g6=gz at hall ⊢
     generalize A'=Az at hall ⊢
     generalize c'=cz at hall ⊢
     generalize B'=Bz at hall ⊢
     generalize d'=dz at hall ⊢
     generalize A2=A3;generalize c2=c3;revert wz gz Az cz Bz dz A3 c3;exact REST.out
    exact AllReadyH.nil
   exact AllReadyH.nil
  exact AllReadyH.nil
 exact AllReadyH.nil;intro w4 ga Aa ca Ba da ⟨hB4,hsa,hXa⟩ A3 c3;clear HDT HPB;have hXa':Arr w4 ga 28 [.slice Aa (zd s D).blobs.length ca,.slice Ba (zd s D).ents.length da,.int .i64 s.room,.int .i64 s.clock]:=hXa;have hga4:ga<w4.heap.size:=hXa'.lt;have HXA:=sqH hXa';have HSA:=sqH hsa;have hbz3:=hbz;clear hbz;have hbz:bz≤w4.heap.size:=by have:=hB4.size;omega
 have HB4:=sqH hB4;have HRS4:=sqH (HRS.out.below hB4);have HSB4:=sqH (fun W (h:Below w4.heap.size w4 W)=>HSB.out W (HB4.out.trans (h.mono HB4.out.size)));have HSB0:=HSB;clear HSB;have HSB:=HSB4;clear HSB4 hXa hXa' hsa hB4;have HPT1:=sqH (show ∀W,Below w4.heap.size w4 W→Calls Tryz.prog 10 #[.slice As s.blobs.length cs,.agg #[.int .i64 rk,.int .i64 ra,.int .i64 rb,.string rt]] W fun e w'=>∃PA pc,e= .returned (.slice PA ps.length pc)∧Sl w' 3 PA ps.length pc (pcs ps)∧Below W.heap.size W w' from fun W h=>(HPT.out As cs W (HRS.out.bc) (HRS.out.bm) (HRS4.out.below h).b).mono fun e w' ⟨v,h1,h2,h3⟩=>by
  obtain⟨PA,pc,e1,h4,_⟩:=Sl.of_own h2;subst e1;exact⟨PA,pc,h1,h4,h3⟩)
 obtain⟨K,hK⟩:∃K,K=keyS (pk ra 7):=⟨_,rfl⟩
 obtain⟨sk,hsk⟩:∃x:ByteArray,x=⟨K.toArray⟩:=⟨_,rfl⟩
 have hKh:zJ K=0:=by rw [hK];exact qI _
 have HKY:=sqH (show ∀W,Calls Tryz.prog 9 #[.int .i64 ra] W fun e w'=>e= .returned (.string sk)∧Below W.heap.size W w' from fun W=>by
  rw [hsk,hK];exact vT ra W HRO.out.a0 HRO.out.a1)
 obtain⟨x,hx⟩:∃x,x=Zr s K ps:=⟨_,rfl⟩
 have hpu:=fun W PA pc (h:Below w4.heap.size w4 W) (hP:Sl W 3 PA ps.length pc (pcs ps))=>jf As cs Bs ds s x K ps PA pc W HSG.out (HRS4.out.below h) hKh HP1.out HP2.out (by omega) (by omega) hP hx;rw [←hsk]at hpu;have HPU:=sqH hpu;have HX:=sqH hx;have HKH:=sqH hKh;have HSK:=sqH hsk;have HKE:=sqH hK;clear hpu hK hsk hx hKh;go_wp2_with fail;apply Zx;intro REST2;refine wp_region_held_drew (S:=(fun w'=>(w'.cell? ⟨gs,0,none⟩=some (.slice As s.blobs.length cs)∧w'.cell? ⟨gs,1,none⟩=some (.slice Bs s.ents.length ds)∧w'.cell? ⟨gs,2,none⟩=some (.int .i64 s.room)∧w'.cell? ⟨gs,3,none⟩=some (.int .i64 s.clock))∧(w'.cell? ⟨gr,0,none⟩=some (.int .i64 rk)∧w'.cell? ⟨gr,1,none⟩=some (.int .i64 ra)∧w'.cell? ⟨gr,2,none⟩=some (.int .i64 rb)∧w'.cell? ⟨gr,3,none⟩=some (.string rt)))) (by kernel_rfl) ?_ (fun hHeld=> ?_)
 ·exact HSB.out _ (Below.refl _ w4).drew
 have hB:=(Below.refl w4.heap.size w4).drew;generalize w4.drew=wn0 at *
 refine sqTH 0 ?_;try simp only [sqP]
 refine sqTH 1 ?_;try simp only [sqP]
 refine sqTH 2 ?_;try simp only [sqP]
 refine sqTH 4 ?_;try simp only [sqP]
 refine sqTH 5 ?_;try simp only [sqP]
 refine sqTH 6 ?_;try simp only [sqP]
 refine wpAnyH_ready (rs:= [3,12]) (by kernel_rfl) (by simp) ?_;refine AllReadyH.cons (o:=_) rfl (fun K hK=> ?_) ?_
 ·
  go_simp;refine(HKY.out wn0).mono ?_;rintro e5 w5 ⟨rfl,hb5⟩;dsimp only;refine zr hK ?_ (Below wn0.heap.size wn0) (fun W=>True) ?_ ?_ (fun wn1 hHeld hst hnew=> ?_)
  ·(exact HSB.out _ (hB.trans (Below.mono (show Below wn0.heap.size wn0 _ from by(first | exact(Below.refl _ _).alloc (Nat.le_refl _) _ | exact hbq | exact hb5 | exact Below.refl _ _)) hB.size)))
  ·(first | exact(Below.refl _ _).alloc (Nat.le_refl _) _ | exact hbq | exact hb5 | exact Below.refl _ _)
  ·(trivial)
  have hB:=hB.trans (hst.mono hB.size);clear hst;clear hK K
  try simp only [sqP]
  refine wpAnyH_ready (rs:= [7,12]) (by kernel_rfl) (by simp) ?_;refine AllReadyH.cons (o:=_) rfl (fun K hK=> ?_) ?_
  ·
   go_simp;refine(HPT1.out wn1 hB).mono ?_;rintro e5 w5 ⟨PA,pc,rfl,hp5,hb5⟩;dsimp only;refine zr hK ?_ (Below wn1.heap.size wn1) (fun W=>Sl W 3 PA ps.length pc (pcs ps)) ?_ ?_ (fun wn2 hHeld hst hnew=> ?_)
   ·(exact HSB.out _ (hB.trans (Below.mono (show Below wn1.heap.size wn1 _ from by(first | exact(Below.refl _ _).alloc (Nat.le_refl _) _ | exact hbq | exact hb5 | exact Below.refl _ _)) hB.size)))
   ·(first | exact(Below.refl _ _).alloc (Nat.le_refl _) _ | exact hbq | exact hb5 | exact Below.refl _ _)
   ·(exact hp5)
   have hB:=hB.trans (hst.mono hB.size);have hP:=hnew;clear hnew;clear hst;clear hK K
   try simp only [sqP]
   refine wpAnyH_ready (rs:= [8,12]) (by kernel_rfl) (by simp) ?_;refine AllReadyH.cons (o:=_) rfl (fun K hK=> ?_) ?_
   ·
    try have hA8:=h8.lt
    have hBs:=hB.size;go_simp;refine(HPU.out wn2 PA pc hB hP).mono ?_;rintro e5 w5 ⟨A',c',B',d',rfl,ho5,hb5⟩;dsimp only;refine zr hK ?_ (Below wn2.heap.size wn2) (fun W=>OwSt W wn2.heap.size (Value.slice A' x.blobs.length c') (Value.slice B' x.ents.length d') x (fun b=>b<wn2.heap.size)) ?_ ?_ (fun wn3 hHeld hst hnew=> ?_)
    ·(exact HSB.out _ (hB.trans (Below.mono (show Below wn2.heap.size wn2 _ from by(first | exact(Below.refl _ _).alloc (Nat.le_refl _) _ | exact hbq | exact hb5 | exact Below.refl _ _)) hB.size)))
    ·(first | exact(Below.refl _ _).alloc (Nat.le_refl _) _ | exact hbq | exact hb5 | exact Below.refl _ _)
    ·(exact ho5)
    have hB:=hB.trans (hst.mono hB.size);have ho:=hnew
    try (have hne1:(Value.slice A' x.blobs.length c').ownBlock≠some g6:=fun e=>by have:=(ho.b.rwo.blk e).1;omega)
    try (have hne2:(Value.slice B' x.ents.length d').ownBlock≠some g6:=fun e=>by have:=(ho.e.rwo.blk e).1;omega)
    first | (have ho:=ho.wider (N':=fun b=>b=g6∨b<bz) (fun b hb=> .inl (by omega))) | (have ho:=ho.wider (N':=fun b=>b<bz) (fun b hb=> .inl (by omega)))
    have ho:=ho.lower (base':=bz) (by omega);clear hst;clear hK K
    try simp only [sqP]
    refine sqTH 9 ?_;try simp only [sqP]
    refine sqTH 10 ?_;try simp only [sqP]
    refine sqTH 11 ?_;try simp only [sqP]
    refine wpAnyH_ready (rs:= [12]) (by kernel_rfl) (by simp) ?_;refine AllReadyH.cons (o:=_) rfl (fun K hK=> ?_) ?_
    ·
     try (have hA1:=fun b (e:(Value.slice A' x.blobs.length c').ownBlock=some b)=>(ho.b.rwo.blk e).2)
     try (have hA2:=fun b (e:(Value.slice B' x.ents.length d').ownBlock=some b)=>(ho.e.rwo.blk e).2)
     try (have ho:=ho.wider (N':=fun b=>b=wn3.heap.size∨b<bz) (fun b hb=>hb.elim (fun h=> .inr (by omega)) (fun h=> .inl h)))
     go_simp;refine zr hK ?_ (Below wn3.heap.size wn3) (fun W=>Arr W wn3.heap.size 28 [.slice none 0 0,.slice none 0 0,.int .i64 0,.int .i64 0]∧w4.heap.size≤wn3.heap.size) ?_ ?_ (fun wn4 hHeld hst hnew=> ?_)
     ·(exact HSB.out _ (hB.trans (Below.mono (show Below wn3.heap.size wn3 _ from by(first | exact(Below.refl _ _).alloc (Nat.le_refl _) _ | exact hbq | exact hb5 | exact Below.refl _ _)) hB.size)))
     ·(first | exact(Below.refl _ _).alloc (Nat.le_refl _) _ | exact hbq | exact hb5 | exact Below.refl _ _)
     ·(exact⟨Arr.new _ _ _,hB.size⟩)
     have hB:=hB.trans (hst.mono hB.size);have ho:=ho.below hst;obtain⟨h8,hl8⟩:=hnew;obtain⟨g6,hg6⟩:∃g,g=wn3.heap.size:=⟨_,rfl⟩
     rw [←hg6]at h8 hl8 ⊢
     try (rw [←hg6]at ho)
     try (have hne1:(Value.slice A' x.blobs.length c').ownBlock≠some g6:=fun e=>by have:=hA1 _ e;omega)
     try (have hne2:(Value.slice B' x.ents.length d').ownBlock≠some g6:=fun e=>by have:=hA2 _ e;omega)
     try clear hA1
     try clear hA2
     clear hg6;clear hst;clear hK K
     try simp only [sqP]
     refine wpAnyH_ready (rs:= [13]) (by kernel_rfl) (by simp) ?_;refine AllReadyH.cons (o:=_) rfl (fun K hK=> ?_) ?_
     ·
      obtain⟨z0,z1,z2,z3⟩:=sqC4 h8;obtain⟨f0,f1,f2,f3⟩:=sqF4 h8;go_simp;clear z0 z1 z2 z3 f0 f1 f2 f3;refine zr hK ?_ (fun W=>Arr W g6 28 [.slice A' x.blobs.length c',.slice B' x.ents.length d',.int .i64 x.room,.int .i64 x.clock]) (fun W=>Below w4.heap.size w4 W∧OwSt W bz (Value.slice A' x.blobs.length c') (Value.slice B' x.ents.length d') x (fun b=>b=g6∨b<bz)) ?_ ?_ (fun wn5 hHeld hF hG=> ?_)
      ·exact HSB.out _ ((((hB.setCell (p:=⟨g6,0,none⟩) hl8 _).setCell (p:=⟨g6,1,none⟩) hl8 _).setCell (p:=⟨g6,2,none⟩) hl8 _).setCell (p:=⟨g6,3,none⟩) hl8 _)
      ·exact h8.all4 _ _ _ _
      ·exact⟨(((hB.setCell (p:=⟨g6,0,none⟩) hl8 _).setCell (p:=⟨g6,1,none⟩) hl8 _).setCell (p:=⟨g6,2,none⟩) hl8 _).setCell (p:=⟨g6,3,none⟩) hl8 _,(((ho.setX (.inl rfl) hne1 hne2 _).setX (.inl rfl) hne1 hne2 _).setX (.inl rfl) hne1 hne2 _).setX (.inl rfl) hne1 hne2 _⟩
      clear hB h8 ho;clear hK K
      try simp only [sqP]
      refine sqTH 14 ?_;try simp only [sqP]
      refine wpAnyH_done (by kernel_rfl) ?_ _;dsimp only [Exit.then];clear hHeld;obtain⟨hBz,hoz⟩:=hG;have hrz:Spl bz wn5 A' x.blobs.length B' x.ents.length:=by
       obtain⟨A9,c9,B9,d9,e1,e2, -, -, -, -,h⟩:=Spl.of_own hoz (fun b hb=> .inr hb);cases e1;cases e2;exact h
      have hall:=And.intro hBz (And.intro hrz hF);generalize wn5=wz at hall ⊢
      generalize g6=gz at hall ⊢
      generalize A'=Ab at hall ⊢
      generalize c'=cb at hall ⊢
      generalize B'=Bb at hall ⊢
      generalize d'=db at hall ⊢
      generalize PA=PA3;generalize pc=pc3;revert wz gz Ab cb Bb db PA3 pc3;exact REST2.out
     exact AllReadyH.nil
    exact AllReadyH.nil
   refine AllReadyH.cons (o:=_) rfl (fun K hK=> ?_) ?_
   ·
    try (have hA1:=fun b (e:(Value.slice A' x.blobs.length c').ownBlock=some b)=>(ho.b.rwo.blk e).2)
    try (have hA2:=fun b (e:(Value.slice B' x.ents.length d').ownBlock=some b)=>(ho.e.rwo.blk e).2)
    try (have ho:=ho.wider (N':=fun b=>b=wn2.heap.size∨b<bz) (fun b hb=>hb.elim (fun h=> .inr (by omega)) (fun h=> .inl h)))
    go_simp;refine zr hK ?_ (Below wn2.heap.size wn2) (fun W=>Arr W wn2.heap.size 28 [.slice none 0 0,.slice none 0 0,.int .i64 0,.int .i64 0]∧w4.heap.size≤wn2.heap.size) ?_ ?_ (fun wn6 hHeld hst hnew=> ?_)
    ·(exact HSB.out _ (hB.trans (Below.mono (show Below wn2.heap.size wn2 _ from by(first | exact(Below.refl _ _).alloc (Nat.le_refl _) _ | exact hbq | exact hb5 | exact Below.refl _ _)) hB.size)))
    ·(first | exact(Below.refl _ _).alloc (Nat.le_refl _) _ | exact hbq | exact hb5 | exact Below.refl _ _)
    ·(exact⟨Arr.new _ _ _,hB.size⟩)
    have hB:=hB.trans (hst.mono hB.size);have hP:=hP.below hst;obtain⟨h8,hl8⟩:=hnew;obtain⟨g6,hg6⟩:∃g,g=wn2.heap.size:=⟨_,rfl⟩
    rw [←hg6]at h8 hl8 ⊢
    try (rw [←hg6]at ho)
    try (have hne1:(Value.slice A' x.blobs.length c').ownBlock≠some g6:=fun e=>by have:=hA1 _ e;omega)
    try (have hne2:(Value.slice B' x.ents.length d').ownBlock≠some g6:=fun e=>by have:=hA2 _ e;omega)
    try clear hA1
    try clear hA2
    clear hg6;clear hst;clear hK K
    try simp only [sqP]
    refine wpAnyH_ready (rs:= [8]) (by kernel_rfl) (by simp) ?_;refine AllReadyH.cons (o:=_) rfl (fun K hK=> ?_) ?_
    ·
     try have hA8:=h8.lt
     have hBs:=hB.size;go_simp;refine(HPU.out wn6 PA pc hB hP).mono ?_;rintro e5 w5 ⟨A',c',B',d',rfl,ho5,hb5⟩;dsimp only;refine zr hK ?_ (Below wn6.heap.size wn6) (fun W=>OwSt W wn6.heap.size (Value.slice A' x.blobs.length c') (Value.slice B' x.ents.length d') x (fun b=>b<wn6.heap.size)) ?_ ?_ (fun wn7 hHeld hst hnew=> ?_)
     ·(exact HSB.out _ (hB.trans (Below.mono (show Below wn6.heap.size wn6 _ from by(first | exact(Below.refl _ _).alloc (Nat.le_refl _) _ | exact hbq | exact hb5 | exact Below.refl _ _)) hB.size)))
     ·(first | exact(Below.refl _ _).alloc (Nat.le_refl _) _ | exact hbq | exact hb5 | exact Below.refl _ _)
     ·(exact ho5)
     have hB:=hB.trans (hst.mono hB.size);have h8:=h8.below hst;have ho:=hnew
     try (have hne1:(Value.slice A' x.blobs.length c').ownBlock≠some g6:=fun e=>by have:=(ho.b.rwo.blk e).1;omega)
     try (have hne2:(Value.slice B' x.ents.length d').ownBlock≠some g6:=fun e=>by have:=(ho.e.rwo.blk e).1;omega)
     first | (have ho:=ho.wider (N':=fun b=>b=g6∨b<bz) (fun b hb=> .inl (by omega))) | (have ho:=ho.wider (N':=fun b=>b<bz) (fun b hb=> .inl (by omega)))
     have ho:=ho.lower (base':=bz) (by omega);clear hst;clear hK K
     try simp only [sqP]
     refine sqTH 9 ?_;try simp only [sqP]
     refine sqTH 10 ?_;try simp only [sqP]
     refine sqTH 11 ?_;try simp only [sqP]
     refine wpAnyH_ready (rs:= [13]) (by kernel_rfl) (by simp) ?_;refine AllReadyH.cons (o:=_) rfl (fun K hK=> ?_) ?_
     ·
      obtain⟨z0,z1,z2,z3⟩:=sqC4 h8;obtain⟨f0,f1,f2,f3⟩:=sqF4 h8;go_simp;clear z0 z1 z2 z3 f0 f1 f2 f3;refine zr hK ?_ (fun W=>Arr W g6 28 [.slice A' x.blobs.length c',.slice B' x.ents.length d',.int .i64 x.room,.int .i64 x.clock]) (fun W=>Below w4.heap.size w4 W∧OwSt W bz (Value.slice A' x.blobs.length c') (Value.slice B' x.ents.length d') x (fun b=>b=g6∨b<bz)) ?_ ?_ (fun wn8 hHeld hF hG=> ?_)
      ·exact HSB.out _ ((((hB.setCell (p:=⟨g6,0,none⟩) hl8 _).setCell (p:=⟨g6,1,none⟩) hl8 _).setCell (p:=⟨g6,2,none⟩) hl8 _).setCell (p:=⟨g6,3,none⟩) hl8 _)
      ·exact h8.all4 _ _ _ _
      ·exact⟨(((hB.setCell (p:=⟨g6,0,none⟩) hl8 _).setCell (p:=⟨g6,1,none⟩) hl8 _).setCell (p:=⟨g6,2,none⟩) hl8 _).setCell (p:=⟨g6,3,none⟩) hl8 _,(((ho.setX (.inl rfl) hne1 hne2 _).setX (.inl rfl) hne1 hne2 _).setX (.inl rfl) hne1 hne2 _).setX (.inl rfl) hne1 hne2 _⟩
      clear hB h8 ho;clear hK K
      try simp only [sqP]
      refine sqTH 14 ?_;try simp only [sqP]
      refine wpAnyH_done (by kernel_rfl) ?_ _;dsimp only [Exit.then];clear hHeld;obtain⟨hBz,hoz⟩:=hG;have hrz:Spl bz wn8 A' x.blobs.length B' x.ents.length:=by
       obtain⟨A9,c9,B9,d9,e1,e2, -, -, -, -,h⟩:=Spl.of_own hoz (fun b hb=> .inr hb);cases e1;cases e2;exact h
      have hall:=And.intro hBz (And.intro hrz hF);generalize wn8=wz at hall ⊢
      generalize g6=gz at hall ⊢
      generalize A'=Ab at hall ⊢
      generalize c'=cb at hall ⊢
      generalize B'=Bb at hall ⊢
      generalize d'=db at hall ⊢
      generalize PA=PA3;generalize pc=pc3;revert wz gz Ab cb Bb db PA3 pc3;exact REST2.out
     exact AllReadyH.nil
    exact AllReadyH.nil
   exact AllReadyH.nil
  refine AllReadyH.cons (o:=_) rfl (fun K hK=> ?_) ?_
  ·
   try (have hA1:=fun b (e:(Value.slice A' x.blobs.length c').ownBlock=some b)=>(ho.b.rwo.blk e).2)
   try (have hA2:=fun b (e:(Value.slice B' x.ents.length d').ownBlock=some b)=>(ho.e.rwo.blk e).2)
   try (have ho:=ho.wider (N':=fun b=>b=wn1.heap.size∨b<bz) (fun b hb=>hb.elim (fun h=> .inr (by omega)) (fun h=> .inl h)))
   go_simp;refine zr hK ?_ (Below wn1.heap.size wn1) (fun W=>Arr W wn1.heap.size 28 [.slice none 0 0,.slice none 0 0,.int .i64 0,.int .i64 0]∧w4.heap.size≤wn1.heap.size) ?_ ?_ (fun wn9 hHeld hst hnew=> ?_)
   ·(exact HSB.out _ (hB.trans (Below.mono (show Below wn1.heap.size wn1 _ from by(first | exact(Below.refl _ _).alloc (Nat.le_refl _) _ | exact hbq | exact hb5 | exact Below.refl _ _)) hB.size)))
   ·(first | exact(Below.refl _ _).alloc (Nat.le_refl _) _ | exact hbq | exact hb5 | exact Below.refl _ _)
   ·(exact⟨Arr.new _ _ _,hB.size⟩)
   have hB:=hB.trans (hst.mono hB.size);obtain⟨h8,hl8⟩:=hnew;obtain⟨g6,hg6⟩:∃g,g=wn1.heap.size:=⟨_,rfl⟩
   rw [←hg6]at h8 hl8 ⊢
   try (rw [←hg6]at ho)
   try (have hne1:(Value.slice A' x.blobs.length c').ownBlock≠some g6:=fun e=>by have:=hA1 _ e;omega)
   try (have hne2:(Value.slice B' x.ents.length d').ownBlock≠some g6:=fun e=>by have:=hA2 _ e;omega)
   try clear hA1
   try clear hA2
   clear hg6;clear hst;clear hK K
   try simp only [sqP]
   refine wpAnyH_ready (rs:= [7]) (by kernel_rfl) (by simp) ?_;refine AllReadyH.cons (o:=_) rfl (fun K hK=> ?_) ?_
   ·
    go_simp;refine(HPT1.out wn9 hB).mono ?_;rintro e5 w5 ⟨PA,pc,rfl,hp5,hb5⟩;dsimp only;refine zr hK ?_ (Below wn9.heap.size wn9) (fun W=>Sl W 3 PA ps.length pc (pcs ps)) ?_ ?_ (fun wn10 hHeld hst hnew=> ?_)
    ·(exact HSB.out _ (hB.trans (Below.mono (show Below wn9.heap.size wn9 _ from by(first | exact(Below.refl _ _).alloc (Nat.le_refl _) _ | exact hbq | exact hb5 | exact Below.refl _ _)) hB.size)))
    ·(first | exact(Below.refl _ _).alloc (Nat.le_refl _) _ | exact hbq | exact hb5 | exact Below.refl _ _)
    ·(exact hp5)
    have hB:=hB.trans (hst.mono hB.size);have h8:=h8.below hst;have hP:=hnew;clear hnew;clear hst;clear hK K
    try simp only [sqP]
    refine wpAnyH_ready (rs:= [8]) (by kernel_rfl) (by simp) ?_;refine AllReadyH.cons (o:=_) rfl (fun K hK=> ?_) ?_
    ·
     try have hA8:=h8.lt
     have hBs:=hB.size;go_simp;refine(HPU.out wn10 PA pc hB hP).mono ?_;rintro e5 w5 ⟨A',c',B',d',rfl,ho5,hb5⟩;dsimp only;refine zr hK ?_ (Below wn10.heap.size wn10) (fun W=>OwSt W wn10.heap.size (Value.slice A' x.blobs.length c') (Value.slice B' x.ents.length d') x (fun b=>b<wn10.heap.size)) ?_ ?_ (fun wn11 hHeld hst hnew=> ?_)
     ·(exact HSB.out _ (hB.trans (Below.mono (show Below wn10.heap.size wn10 _ from by(first | exact(Below.refl _ _).alloc (Nat.le_refl _) _ | exact hbq | exact hb5 | exact Below.refl _ _)) hB.size)))
     ·(first | exact(Below.refl _ _).alloc (Nat.le_refl _) _ | exact hbq | exact hb5 | exact Below.refl _ _)
     ·(exact ho5)
     have hB:=hB.trans (hst.mono hB.size);have h8:=h8.below hst;have ho:=hnew
     try (have hne1:(Value.slice A' x.blobs.length c').ownBlock≠some g6:=fun e=>by have:=(ho.b.rwo.blk e).1;omega)
     try (have hne2:(Value.slice B' x.ents.length d').ownBlock≠some g6:=fun e=>by have:=(ho.e.rwo.blk e).1;omega)
     first | (have ho:=ho.wider (N':=fun b=>b=g6∨b<bz) (fun b hb=> .inl (by omega))) | (have ho:=ho.wider (N':=fun b=>b<bz) (fun b hb=> .inl (by omega)))
     have ho:=ho.lower (base':=bz) (by omega);clear hst;clear hK K
     try simp only [sqP]
     refine sqTH 9 ?_;try simp only [sqP]
     refine sqTH 10 ?_;try simp only [sqP]
     refine sqTH 11 ?_;try simp only [sqP]
     refine wpAnyH_ready (rs:= [13]) (by kernel_rfl) (by simp) ?_;refine AllReadyH.cons (o:=_) rfl (fun K hK=> ?_) ?_
     ·
      obtain⟨z0,z1,z2,z3⟩:=sqC4 h8;obtain⟨f0,f1,f2,f3⟩:=sqF4 h8;go_simp;clear z0 z1 z2 z3 f0 f1 f2 f3;refine zr hK ?_ (fun W=>Arr W g6 28 [.slice A' x.blobs.length c',.slice B' x.ents.length d',.int .i64 x.room,.int .i64 x.clock]) (fun W=>Below w4.heap.size w4 W∧OwSt W bz (Value.slice A' x.blobs.length c') (Value.slice B' x.ents.length d') x (fun b=>b=g6∨b<bz)) ?_ ?_ (fun wn12 hHeld hF hG=> ?_)
      ·exact HSB.out _ ((((hB.setCell (p:=⟨g6,0,none⟩) hl8 _).setCell (p:=⟨g6,1,none⟩) hl8 _).setCell (p:=⟨g6,2,none⟩) hl8 _).setCell (p:=⟨g6,3,none⟩) hl8 _)
      ·exact h8.all4 _ _ _ _
      ·exact⟨(((hB.setCell (p:=⟨g6,0,none⟩) hl8 _).setCell (p:=⟨g6,1,none⟩) hl8 _).setCell (p:=⟨g6,2,none⟩) hl8 _).setCell (p:=⟨g6,3,none⟩) hl8 _,(((ho.setX (.inl rfl) hne1 hne2 _).setX (.inl rfl) hne1 hne2 _).setX (.inl rfl) hne1 hne2 _).setX (.inl rfl) hne1 hne2 _⟩
      clear hB h8 ho;clear hK K
      try simp only [sqP]
      refine sqTH 14 ?_;try simp only [sqP]
      refine wpAnyH_done (by kernel_rfl) ?_ _;dsimp only [Exit.then];clear hHeld;obtain⟨hBz,hoz⟩:=hG;have hrz:Spl bz wn12 A' x.blobs.length B' x.ents.length:=by
       obtain⟨A9,c9,B9,d9,e1,e2, -, -, -, -,h⟩:=Spl.of_own hoz (fun b hb=> .inr hb);cases e1;cases e2;exact h
      have hall:=And.intro hBz (And.intro hrz hF);generalize wn12=wz at hall ⊢
      generalize g6=gz at hall ⊢
      generalize A'=Ab at hall ⊢
      generalize c'=cb at hall ⊢
      generalize B'=Bb at hall ⊢
      generalize d'=db at hall ⊢
      generalize PA=PA3;generalize pc=pc3;revert wz gz Ab cb Bb db PA3 pc3;exact REST2.out
     exact AllReadyH.nil
    exact AllReadyH.nil
   exact AllReadyH.nil
  exact AllReadyH.nil
 refine AllReadyH.cons (o:=_) rfl (fun K hK=> ?_) ?_
 ·
  try (have hA1:=fun b (e:(Value.slice A' x.blobs.length c').ownBlock=some b)=>(ho.b.rwo.blk e).2)
  try (have hA2:=fun b (e:(Value.slice B' x.ents.length d').ownBlock=some b)=>(ho.e.rwo.blk e).2)
  try (have ho:=ho.wider (N':=fun b=>b=wn0.heap.size∨b<bz) (fun b hb=>hb.elim (fun h=> .inr (by omega)) (fun h=> .inl h)))
  go_simp;refine zr hK ?_ (Below wn0.heap.size wn0) (fun W=>Arr W wn0.heap.size 28 [.slice none 0 0,.slice none 0 0,.int .i64 0,.int .i64 0]∧w4.heap.size≤wn0.heap.size) ?_ ?_ (fun wn13 hHeld hst hnew=> ?_)
  ·(exact HSB.out _ (hB.trans (Below.mono (show Below wn0.heap.size wn0 _ from by(first | exact(Below.refl _ _).alloc (Nat.le_refl _) _ | exact hbq | exact hb5 | exact Below.refl _ _)) hB.size)))
  ·(first | exact(Below.refl _ _).alloc (Nat.le_refl _) _ | exact hbq | exact hb5 | exact Below.refl _ _)
  ·(exact⟨Arr.new _ _ _,hB.size⟩)
  have hB:=hB.trans (hst.mono hB.size);obtain⟨h8,hl8⟩:=hnew;obtain⟨g6,hg6⟩:∃g,g=wn0.heap.size:=⟨_,rfl⟩
  rw [←hg6]at h8 hl8 ⊢
  try (rw [←hg6]at ho)
  try (have hne1:(Value.slice A' x.blobs.length c').ownBlock≠some g6:=fun e=>by have:=hA1 _ e;omega)
  try (have hne2:(Value.slice B' x.ents.length d').ownBlock≠some g6:=fun e=>by have:=hA2 _ e;omega)
  try clear hA1
  try clear hA2
  clear hg6;clear hst;clear hK K
  try simp only [sqP]
  refine wpAnyH_ready (rs:= [3]) (by kernel_rfl) (by simp) ?_;refine AllReadyH.cons (o:=_) rfl (fun K hK=> ?_) ?_
  ·
   go_simp;refine(HKY.out wn13).mono ?_;rintro e5 w5 ⟨rfl,hb5⟩;dsimp only;refine zr hK ?_ (Below wn13.heap.size wn13) (fun W=>True) ?_ ?_ (fun wn14 hHeld hst hnew=> ?_)
   ·(exact HSB.out _ (hB.trans (Below.mono (show Below wn13.heap.size wn13 _ from by(first | exact(Below.refl _ _).alloc (Nat.le_refl _) _ | exact hbq | exact hb5 | exact Below.refl _ _)) hB.size)))
   ·(first | exact(Below.refl _ _).alloc (Nat.le_refl _) _ | exact hbq | exact hb5 | exact Below.refl _ _)
   ·(trivial)
   have hB:=hB.trans (hst.mono hB.size);have h8:=h8.below hst;clear hst;clear hK K
   try simp only [sqP]
   refine wpAnyH_ready (rs:= [7]) (by kernel_rfl) (by simp) ?_;refine AllReadyH.cons (o:=_) rfl (fun K hK=> ?_) ?_
   ·
    go_simp;refine(HPT1.out wn14 hB).mono ?_;rintro e5 w5 ⟨PA,pc,rfl,hp5,hb5⟩;dsimp only;refine zr hK ?_ (Below wn14.heap.size wn14) (fun W=>Sl W 3 PA ps.length pc (pcs ps)) ?_ ?_ (fun wn15 hHeld hst hnew=> ?_)
    ·(exact HSB.out _ (hB.trans (Below.mono (show Below wn14.heap.size wn14 _ from by(first | exact(Below.refl _ _).alloc (Nat.le_refl _) _ | exact hbq | exact hb5 | exact Below.refl _ _)) hB.size)))
    ·(first | exact(Below.refl _ _).alloc (Nat.le_refl _) _ | exact hbq | exact hb5 | exact Below.refl _ _)
    ·(exact hp5)
    have hB:=hB.trans (hst.mono hB.size);have h8:=h8.below hst;have hP:=hnew;clear hnew;clear hst;clear hK K
    try simp only [sqP]
    refine wpAnyH_ready (rs:= [8]) (by kernel_rfl) (by simp) ?_;refine AllReadyH.cons (o:=_) rfl (fun K hK=> ?_) ?_
    ·
     try have hA8:=h8.lt
     have hBs:=hB.size;go_simp;refine(HPU.out wn15 PA pc hB hP).mono ?_;rintro e5 w5 ⟨A',c',B',d',rfl,ho5,hb5⟩;dsimp only;refine zr hK ?_ (Below wn15.heap.size wn15) (fun W=>OwSt W wn15.heap.size (Value.slice A' x.blobs.length c') (Value.slice B' x.ents.length d') x (fun b=>b<wn15.heap.size)) ?_ ?_ (fun wn16 hHeld hst hnew=> ?_)
     ·(exact HSB.out _ (hB.trans (Below.mono (show Below wn15.heap.size wn15 _ from by(first | exact(Below.refl _ _).alloc (Nat.le_refl _) _ | exact hbq | exact hb5 | exact Below.refl _ _)) hB.size)))
     ·(first | exact(Below.refl _ _).alloc (Nat.le_refl _) _ | exact hbq | exact hb5 | exact Below.refl _ _)
     ·(exact ho5)
     have hB:=hB.trans (hst.mono hB.size);have h8:=h8.below hst;have ho:=hnew
     try (have hne1:(Value.slice A' x.blobs.length c').ownBlock≠some g6:=fun e=>by have:=(ho.b.rwo.blk e).1;omega)
     try (have hne2:(Value.slice B' x.ents.length d').ownBlock≠some g6:=fun e=>by have:=(ho.e.rwo.blk e).1;omega)
     first | (have ho:=ho.wider (N':=fun b=>b=g6∨b<bz) (fun b hb=> .inl (by omega))) | (have ho:=ho.wider (N':=fun b=>b<bz) (fun b hb=> .inl (by omega)))
     have ho:=ho.lower (base':=bz) (by omega);clear hst;clear hK K
     try simp only [sqP]
     refine sqTH 9 ?_;try simp only [sqP]
     refine sqTH 10 ?_;try simp only [sqP]
     refine sqTH 11 ?_;try simp only [sqP]
     refine wpAnyH_ready (rs:= [13]) (by kernel_rfl) (by simp) ?_;refine AllReadyH.cons (o:=_) rfl (fun K hK=> ?_) ?_
     ·
      obtain⟨z0,z1,z2,z3⟩:=sqC4 h8;obtain⟨f0,f1,f2,f3⟩:=sqF4 h8;go_simp;clear z0 z1 z2 z3 f0 f1 f2 f3;refine zr hK ?_ (fun W=>Arr W g6 28 [.slice A' x.blobs.length c',.slice B' x.ents.length d',.int .i64 x.room,.int .i64 x.clock]) (fun W=>Below w4.heap.size w4 W∧OwSt W bz (Value.slice A' x.blobs.length c') (Value.slice B' x.ents.length d') x (fun b=>b=g6∨b<bz)) ?_ ?_ (fun wn17 hHeld hF hG=> ?_)
      ·exact HSB.out _ ((((hB.setCell (p:=⟨g6,0,none⟩) hl8 _).setCell (p:=⟨g6,1,none⟩) hl8 _).setCell (p:=⟨g6,2,none⟩) hl8 _).setCell (p:=⟨g6,3,none⟩) hl8 _)
      ·exact h8.all4 _ _ _ _
      ·exact⟨(((hB.setCell (p:=⟨g6,0,none⟩) hl8 _).setCell (p:=⟨g6,1,none⟩) hl8 _).setCell (p:=⟨g6,2,none⟩) hl8 _).setCell (p:=⟨g6,3,none⟩) hl8 _,(((ho.setX (.inl rfl) hne1 hne2 _).setX (.inl rfl) hne1 hne2 _).setX (.inl rfl) hne1 hne2 _).setX (.inl rfl) hne1 hne2 _⟩
      clear hB h8 ho;clear hK K
      try simp only [sqP]
      refine sqTH 14 ?_;try simp only [sqP]
      refine wpAnyH_done (by kernel_rfl) ?_ _;dsimp only [Exit.then];clear hHeld;obtain⟨hBz,hoz⟩:=hG;have hrz:Spl bz wn17 A' x.blobs.length B' x.ents.length:=by
       obtain⟨A9,c9,B9,d9,e1,e2, -, -, -, -,h⟩:=Spl.of_own hoz (fun b hb=> .inr hb);cases e1;cases e2;exact h
      have hall:=And.intro hBz (And.intro hrz hF);generalize wn17=wz at hall ⊢
      generalize g6=gz at hall ⊢
      generalize A'=Ab at hall ⊢
      generalize c'=cb at hall ⊢
      generalize B'=Bb at hall ⊢
      generalize d'=db at hall ⊢
      generalize PA=PA3;generalize pc=pc3;revert wz gz Ab cb Bb db PA3 pc3;exact REST2.out
     exact AllReadyH.nil
    exact AllReadyH.nil
   exact AllReadyH.nil
  exact AllReadyH.nil
 exact AllReadyH.nil;intro w5 gb Ab cb Bb db ⟨hB5,hsb,hXb⟩ PA3 pc3;clear HKY HPU HPT1 HPT HSB;have hXb':Arr w5 gb 28 [.slice Ab x.blobs.length cb,.slice Bb x.ents.length db,.int .i64 x.room,.int .i64 x.clock]:=hXb;have hXa5:=HXA.out.below hB5;have hsa5:Spl bz w5 Aa (zd s D).blobs.length Ba (zd s D).ents.length:=HSA.out.kd (Kd.of_below (base:=bz) hB5 hbz);have HB35:=sqH (HB4.out.trans (hB5.mono HB4.out.size));have HSA5:=sqH hsa5;have HSB5:=sqH hsb;have hna:0<(zd s D).blobs.length:=by
  obtain⟨b,hb,_⟩:=jB s.blobs D;exact List.length_pos_of_mem (show b∈(zd s D).blobs from hb)
 have hnb:0<x.ents.length:=by
  obtain⟨e,he,_⟩:=jD s.ents ⟨K,ps,0,s.clock+1⟩;exact List.length_pos_of_mem (show e∈x.ents from by rw [HX.out];exact he)
 clear HX hsa5 hsb hXb HSA HXA HB4;generalize (zd s D).blobs.length=na at *
 generalize (zd s D).ents.length=ma at *
 generalize x.ents.length=nb at *
 generalize x.blobs.length=mb at *
 have ca1:decide ((na:Int)=0)=false:=decide_eq_false (by omega);have ca2:decide (na=0)=false:=decide_eq_false (by omega);have cb1:decide ((nb:Int)=0)=false:=decide_eq_false (by omega);have cb2:decide (nb=0)=false:=decide_eq_false (by omega);have ca3:((na:Int)==0)=false:=beq_eq_false_iff_ne.2 (by omega);have cb3:((nb:Int)==0)=false:=beq_eq_false_iff_ne.2 (by omega);have ca4:¬(na=0):=by omega
 have cb4:¬(nb=0):=by omega
 obtain⟨x0,x1,x2,x3⟩:=sqC4 hXa5;obtain⟨y0,y1,y2,y3⟩:=sqC4 hXb';have hbz5:bz≤w5.heap.size:=by have:=hB5.size;omega
 clear hB5 hbz hna hnb;go_wp2_with fail;refine(qF Aa na ca Ba ma da (s.room:Int) (s.clock:Int) bz w5 HSA5.out hbz5).mono ?_;rintro e_ w6 ⟨rfl,hk6⟩;dsimp only;have z0:=hk6.sl _ _ _ _ y0;have z1:=hk6.sl _ _ _ _ y1;have z2:=hk6.i64 _ _ y2;have z3:=hk6.i64 _ _ y3;have HK6:=sqH hk6;have hbz6:bz≤w6.heap.size:=by have:=hk6.bel.size;omega
 clear x0 x1 x2 x3 y0 y1 y2 y3 ca1 ca2 cb1 cb2 hk6 hXa5 hXb';go_wp2_with fail;refine(qF Ab mb cb Bb nb db (x.room:Int) (x.clock:Int) bz w6 (HSB5.out.kd HK6.out) hbz6).mono ?_;rintro e_ w7 ⟨rfl,hk7⟩;dsimp only;have HB37:=sqH (show Below w3.heap.size w3 w7 from HB35.out.trans (by rw [←HBZ.out];exact(HK6.out.trans hk7).bel));have hbz:bz≤w7.heap.size:=by have:=hk7.bel.size;omega
 clear z0 z1 z2 z3 hk7 hbz5 hbz6 HSA5 HSB5 HB35 HK6;have HSB:=sqH (fun W (h:Below w7.heap.size w7 W)=>HSB0.out W (HB37.out.trans (h.mono HB37.out.size)));have HRS7:=sqH (HRS.out.below HB37.out);have HKY:=sqH (show ∀W,Calls Tryz.prog 9 #[.int .i64 ra] W fun e w'=>e= .returned (.string sk)∧Below W.heap.size W w' from fun W=>by
  rw [HSK.out,HKE.out];exact vT ra W HRO.out.a0 HRO.out.a1)
 obtain⟨y,qs,q,hq,HGT⟩:∃(y:StoP) (qs:List PartP) (q:Int),(q=0∨q=5)∧Hid (∀W,Below w7.heap.size w7 W→Calls Tryz.prog 11 #[.agg #[.slice As s.blobs.length cs,.slice Bs s.ents.length ds,.int .i64 s.room,.int .i64 s.clock],.string sk] W fun e w'=>∃(A':Option Addr) (c':Nat) (B':Option Addr) (d':Nat) (A5:Option Addr) (c5:Nat),e= .returned (.tuple #[.agg #[.slice A' y.blobs.length c',.slice B' y.ents.length d',.int .i64 y.room,.int .i64 y.clock],.slice A5 qs.length c5,.int .i64 q])∧OwSt w' W.heap.size (.slice A' y.blobs.length c') (.slice B' y.ents.length d') y (fun b=>b<W.heap.size)∧w'.ownsRow W.heap.size 37 3 (.slice A5 qs.length c5) qs.length (pcs qs)∧Below W.heap.size W w'):=by
  rw [HSK.out];by_cases hx:∃e∈s.ents,e.key=K
  ·obtain⟨e,he,hk⟩:=hx;obtain⟨i,hi,rfl⟩:=List.mem_iff_getElem.1 he;exact⟨jV s i s.ents[i],s.ents[i].parts,0,.inl rfl,Lib.hid (fun W h=>(jc As cs Bs ds s (jV s i s.ents[i]) K s.ents[i].parts i W HSG.out (HRS7.out.below h) hi hk rfl (by omega) rfl).mono (fun e w' ⟨A',c',B',d',A5,c5,e1,h1,h2,h3⟩=>⟨A',c',B',d',A5,c5,e1,h1,h2,h3⟩))⟩
  ·exact⟨⟨[], [],0,0⟩, [],5,.inr rfl,Lib.hid (fun W h=>(vN As cs Bs ds s K W HSG.out (HRS7.out.below h) (fun b hb e=>hx ⟨b,hb,e⟩)).mono (fun e w' ⟨e1,h3⟩=>⟨none,0,none,0,none,0,e1,⟨.nil_ (World.ownsRow_nil _ _ _ _),.nil_ (World.ownsRow_nil _ _ _ _),fun g e=>by cases e⟩,World.ownsRow_nil _ _ _ _,h3⟩))⟩
 have HQ:=sqH hq;clear hq;go_wp2_with fail;apply Zx;intro REST3;refine wp_region_held_drew (S:=(fun w'=>(w'.cell? ⟨gs,0,none⟩=some (.slice As s.blobs.length cs)∧w'.cell? ⟨gs,1,none⟩=some (.slice Bs s.ents.length ds)∧w'.cell? ⟨gs,2,none⟩=some (.int .i64 s.room)∧w'.cell? ⟨gs,3,none⟩=some (.int .i64 s.clock))∧(w'.cell? ⟨gr,0,none⟩=some (.int .i64 rk)∧w'.cell? ⟨gr,1,none⟩=some (.int .i64 ra)∧w'.cell? ⟨gr,2,none⟩=some (.int .i64 rb)∧w'.cell? ⟨gr,3,none⟩=some (.string rt)))) (by kernel_rfl) ?_ (fun hHeld=> ?_)
 ·exact HSB.out _ (Below.refl _ w7).drew
 have hB:=(Below.refl w7.heap.size w7).drew;generalize w7.drew=wn0 at *
 refine sqTH 0 ?_;try simp only [sqP]
 refine sqTH 1 ?_;try simp only [sqP]
 refine sqTH 2 ?_;try simp only [sqP]
 refine wpAnyH_ready (rs:= [3,9]) (by kernel_rfl) (by simp) ?_;refine AllReadyH.cons (o:=_) rfl (fun K hK=> ?_) ?_
 ·
  go_simp;refine(HKY.out wn0).mono ?_;rintro e5 w5 ⟨rfl,hb5⟩;dsimp only;refine zr hK ?_ (Below wn0.heap.size wn0) (fun W=>True) ?_ ?_ (fun wn1 hHeld hst hnew=> ?_)
  ·(exact HSB.out _ (hB.trans (Below.mono (show Below wn0.heap.size wn0 _ from by(first | exact(Below.refl _ _).alloc (Nat.le_refl _) _ | exact hbq | exact hb5 | exact Below.refl _ _)) hB.size)))
  ·(first | exact(Below.refl _ _).alloc (Nat.le_refl _) _ | exact hbq | exact hb5 | exact Below.refl _ _)
  ·(trivial)
  have hB:=hB.trans (hst.mono hB.size);clear hst;clear hK K
  try simp only [sqP]
  refine wpAnyH_ready (rs:= [4,9]) (by kernel_rfl) (by simp) ?_;refine AllReadyH.cons (o:=_) rfl (fun K hK=> ?_) ?_
  ·
   try have hA8:=h8.lt
   have hBs:=hB.size;go_simp;refine(HGT.out wn1 hB).mono ?_;rintro e5 w5 ⟨A',c',B',d',A5,c5,rfl,ho5,hp5,hb5⟩;dsimp only;refine zr hK ?_ (Below wn1.heap.size wn1) (fun W=>OwSt W wn1.heap.size (Value.slice A' y.blobs.length c') (Value.slice B' y.ents.length d') y (fun b=>b<wn1.heap.size)∧W.ownsRow bz 37 3 (.slice A5 qs.length c5) qs.length (pcs qs)) ?_ ?_ (fun wn2 hHeld hst hnew=> ?_)
   ·(exact HSB.out _ (hB.trans (Below.mono (show Below wn1.heap.size wn1 _ from by(first | exact(Below.refl _ _).alloc (Nat.le_refl _) _ | exact hbq | exact hb5 | exact Below.refl _ _)) hB.size)))
   ·(first | exact(Below.refl _ _).alloc (Nat.le_refl _) _ | exact hbq | exact hb5 | exact Below.refl _ _)
   ·(exact⟨ho5,zu hp5 (by omega)⟩)
   have hB:=hB.trans (hst.mono hB.size);obtain⟨hnew,hp⟩:=hnew;have ho:=hnew
   try (have hne1:(Value.slice A' y.blobs.length c').ownBlock≠some g6:=fun e=>by have:=(ho.b.rwo.blk e).1;omega)
   try (have hne2:(Value.slice B' y.ents.length d').ownBlock≠some g6:=fun e=>by have:=(ho.e.rwo.blk e).1;omega)
   first | (have ho:=ho.wider (N':=fun b=>b=g6∨b<bz) (fun b hb=> .inl (by omega))) | (have ho:=ho.wider (N':=fun b=>b<bz) (fun b hb=> .inl (by omega)))
   have ho:=ho.lower (base':=bz) (by omega);clear hst;clear hK K
   try simp only [sqP]
   refine sqTH 5 ?_;try simp only [sqP]
   refine sqTH 6 ?_;try simp only [sqP]
   refine sqTH 7 ?_;try simp only [sqP]
   refine sqTH 8 ?_;try simp only [sqP]
   refine wpAnyH_ready (rs:= [9]) (by kernel_rfl) (by simp) ?_;refine AllReadyH.cons (o:=_) rfl (fun K hK=> ?_) ?_
   ·
    try (have hA1:=fun b (e:(Value.slice A' y.blobs.length c').ownBlock=some b)=>(ho.b.rwo.blk e).2)
    try (have hA2:=fun b (e:(Value.slice B' y.ents.length d').ownBlock=some b)=>(ho.e.rwo.blk e).2)
    try (have ho:=ho.wider (N':=fun b=>b=wn2.heap.size∨b<bz) (fun b hb=>hb.elim (fun h=> .inr (by omega)) (fun h=> .inl h)))
    go_simp;refine zr hK ?_ (Below wn2.heap.size wn2) (fun W=>Arr W wn2.heap.size 28 [.slice none 0 0,.slice none 0 0,.int .i64 0,.int .i64 0]∧w7.heap.size≤wn2.heap.size) ?_ ?_ (fun wn3 hHeld hst hnew=> ?_)
    ·(exact HSB.out _ (hB.trans (Below.mono (show Below wn2.heap.size wn2 _ from by(first | exact(Below.refl _ _).alloc (Nat.le_refl _) _ | exact hbq | exact hb5 | exact Below.refl _ _)) hB.size)))
    ·(first | exact(Below.refl _ _).alloc (Nat.le_refl _) _ | exact hbq | exact hb5 | exact Below.refl _ _)
    ·(exact⟨Arr.new _ _ _,hB.size⟩)
    have hB:=hB.trans (hst.mono hB.size);have ho:=ho.below hst;have hp:=zb hp hst;obtain⟨h8,hl8⟩:=hnew;obtain⟨g6,hg6⟩:∃g,g=wn2.heap.size:=⟨_,rfl⟩
    rw [←hg6]at h8 hl8 ⊢
    try (rw [←hg6]at ho)
    try (have hne1:(Value.slice A' y.blobs.length c').ownBlock≠some g6:=fun e=>by have:=hA1 _ e;omega)
    try (have hne2:(Value.slice B' y.ents.length d').ownBlock≠some g6:=fun e=>by have:=hA2 _ e;omega)
    try clear hA1
    try clear hA2
    clear hg6;clear hst;clear hK K
    try simp only [sqP]
    refine wpAnyH_ready (rs:= [10]) (by kernel_rfl) (by simp) ?_;refine AllReadyH.cons (o:=_) rfl (fun K hK=> ?_) ?_
    ·
     obtain⟨z0,z1,z2,z3⟩:=sqC4 h8;obtain⟨f0,f1,f2,f3⟩:=sqF4 h8;go_simp;clear z0 z1 z2 z3 f0 f1 f2 f3;have hpn:=q8 hp h8 (by decide);refine zr hK ?_ (fun W=>Arr W g6 28 [.slice A' y.blobs.length c',.slice B' y.ents.length d',.int .i64 y.room,.int .i64 y.clock]) (fun W=>Below w7.heap.size w7 W∧OwSt W bz (Value.slice A' y.blobs.length c') (Value.slice B' y.ents.length d') y (fun b=>b=g6∨b<bz)∧W.ownsRow bz 37 3 (.slice A5 qs.length c5) qs.length (pcs qs)) ?_ ?_ (fun wn4 hHeld hF hG=> ?_)
     ·exact HSB.out _ ((((hB.setCell (p:=⟨g6,0,none⟩) hl8 _).setCell (p:=⟨g6,1,none⟩) hl8 _).setCell (p:=⟨g6,2,none⟩) hl8 _).setCell (p:=⟨g6,3,none⟩) hl8 _)
     ·exact h8.all4 _ _ _ _
     ·exact⟨(((hB.setCell (p:=⟨g6,0,none⟩) hl8 _).setCell (p:=⟨g6,1,none⟩) hl8 _).setCell (p:=⟨g6,2,none⟩) hl8 _).setCell (p:=⟨g6,3,none⟩) hl8 _,(((ho.setX (.inl rfl) hne1 hne2 _).setX (.inl rfl) hne1 hne2 _).setX (.inl rfl) hne1 hne2 _).setX (.inl rfl) hne1 hne2 _,z7 (z7 (z7 (z7 hp hpn) hpn) hpn) hpn⟩
     clear hB h8 ho;clear hK K
     try simp only [sqP]
     refine sqTH 11 ?_;try simp only [sqP]
     refine sqTH 12 ?_;try simp only [sqP]
     refine wpAnyH_done (by kernel_rfl) ?_ _;dsimp only [Exit.then];clear hHeld;obtain⟨hBz,hoz,hpz⟩:=hG;have hrz:Spl bz wn4 A' y.blobs.length B' y.ents.length:=by
      obtain⟨A9,c9,B9,d9,e1,e2, -, -, -, -,h⟩:=Spl.of_own hoz (fun b hb=> .inr hb);cases e1;cases e2;exact h
     have hall:=And.intro hBz (And.intro hrz (And.intro hpz hF));generalize wn4=wz at hall ⊢
     generalize g6=gz at hall ⊢
     generalize A'=Ay at hall ⊢
     generalize c'=cy at hall ⊢
     generalize B'=By at hall ⊢
     generalize d'=dy at hall ⊢
     generalize A5=A6 at hall ⊢
     generalize c5=c6 at hall ⊢
     revert wz gz Ay cy By dy A6 c6;exact REST3.out
    exact AllReadyH.nil
   exact AllReadyH.nil
  refine AllReadyH.cons (o:=_) rfl (fun K hK=> ?_) ?_
  ·
   try (have hA1:=fun b (e:(Value.slice A' y.blobs.length c').ownBlock=some b)=>(ho.b.rwo.blk e).2)
   try (have hA2:=fun b (e:(Value.slice B' y.ents.length d').ownBlock=some b)=>(ho.e.rwo.blk e).2)
   try (have ho:=ho.wider (N':=fun b=>b=wn1.heap.size∨b<bz) (fun b hb=>hb.elim (fun h=> .inr (by omega)) (fun h=> .inl h)))
   go_simp;refine zr hK ?_ (Below wn1.heap.size wn1) (fun W=>Arr W wn1.heap.size 28 [.slice none 0 0,.slice none 0 0,.int .i64 0,.int .i64 0]∧w7.heap.size≤wn1.heap.size) ?_ ?_ (fun wn5 hHeld hst hnew=> ?_)
   ·(exact HSB.out _ (hB.trans (Below.mono (show Below wn1.heap.size wn1 _ from by(first | exact(Below.refl _ _).alloc (Nat.le_refl _) _ | exact hbq | exact hb5 | exact Below.refl _ _)) hB.size)))
   ·(first | exact(Below.refl _ _).alloc (Nat.le_refl _) _ | exact hbq | exact hb5 | exact Below.refl _ _)
   ·(exact⟨Arr.new _ _ _,hB.size⟩)
   have hB:=hB.trans (hst.mono hB.size);obtain⟨h8,hl8⟩:=hnew;obtain⟨g6,hg6⟩:∃g,g=wn1.heap.size:=⟨_,rfl⟩
   rw [←hg6]at h8 hl8 ⊢
   try (rw [←hg6]at ho)
   try (have hne1:(Value.slice A' y.blobs.length c').ownBlock≠some g6:=fun e=>by have:=hA1 _ e;omega)
   try (have hne2:(Value.slice B' y.ents.length d').ownBlock≠some g6:=fun e=>by have:=hA2 _ e;omega)
   try clear hA1
   try clear hA2
   clear hg6;clear hst;clear hK K
   try simp only [sqP]
   refine wpAnyH_ready (rs:= [4]) (by kernel_rfl) (by simp) ?_;refine AllReadyH.cons (o:=_) rfl (fun K hK=> ?_) ?_
   ·
    try have hA8:=h8.lt
    have hBs:=hB.size;go_simp;refine(HGT.out wn5 hB).mono ?_;rintro e5 w5 ⟨A',c',B',d',A5,c5,rfl,ho5,hp5,hb5⟩;dsimp only;refine zr hK ?_ (Below wn5.heap.size wn5) (fun W=>OwSt W wn5.heap.size (Value.slice A' y.blobs.length c') (Value.slice B' y.ents.length d') y (fun b=>b<wn5.heap.size)∧W.ownsRow bz 37 3 (.slice A5 qs.length c5) qs.length (pcs qs)) ?_ ?_ (fun wn6 hHeld hst hnew=> ?_)
    ·(exact HSB.out _ (hB.trans (Below.mono (show Below wn5.heap.size wn5 _ from by(first | exact(Below.refl _ _).alloc (Nat.le_refl _) _ | exact hbq | exact hb5 | exact Below.refl _ _)) hB.size)))
    ·(first | exact(Below.refl _ _).alloc (Nat.le_refl _) _ | exact hbq | exact hb5 | exact Below.refl _ _)
    ·(exact⟨ho5,zu hp5 (by omega)⟩)
    have hB:=hB.trans (hst.mono hB.size);have h8:=h8.below hst;obtain⟨hnew,hp⟩:=hnew;have ho:=hnew
    try (have hne1:(Value.slice A' y.blobs.length c').ownBlock≠some g6:=fun e=>by have:=(ho.b.rwo.blk e).1;omega)
    try (have hne2:(Value.slice B' y.ents.length d').ownBlock≠some g6:=fun e=>by have:=(ho.e.rwo.blk e).1;omega)
    first | (have ho:=ho.wider (N':=fun b=>b=g6∨b<bz) (fun b hb=> .inl (by omega))) | (have ho:=ho.wider (N':=fun b=>b<bz) (fun b hb=> .inl (by omega)))
    have ho:=ho.lower (base':=bz) (by omega);clear hst;clear hK K
    try simp only [sqP]
    refine sqTH 5 ?_;try simp only [sqP]
    refine sqTH 6 ?_;try simp only [sqP]
    refine sqTH 7 ?_;try simp only [sqP]
    refine sqTH 8 ?_;try simp only [sqP]
    refine wpAnyH_ready (rs:= [10]) (by kernel_rfl) (by simp) ?_;refine AllReadyH.cons (o:=_) rfl (fun K hK=> ?_) ?_
    ·
     obtain⟨z0,z1,z2,z3⟩:=sqC4 h8;obtain⟨f0,f1,f2,f3⟩:=sqF4 h8;go_simp;clear z0 z1 z2 z3 f0 f1 f2 f3;have hpn:=q8 hp h8 (by decide);refine zr hK ?_ (fun W=>Arr W g6 28 [.slice A' y.blobs.length c',.slice B' y.ents.length d',.int .i64 y.room,.int .i64 y.clock]) (fun W=>Below w7.heap.size w7 W∧OwSt W bz (Value.slice A' y.blobs.length c') (Value.slice B' y.ents.length d') y (fun b=>b=g6∨b<bz)∧W.ownsRow bz 37 3 (.slice A5 qs.length c5) qs.length (pcs qs)) ?_ ?_ (fun wn7 hHeld hF hG=> ?_)
     ·exact HSB.out _ ((((hB.setCell (p:=⟨g6,0,none⟩) hl8 _).setCell (p:=⟨g6,1,none⟩) hl8 _).setCell (p:=⟨g6,2,none⟩) hl8 _).setCell (p:=⟨g6,3,none⟩) hl8 _)
     ·exact h8.all4 _ _ _ _
     ·exact⟨(((hB.setCell (p:=⟨g6,0,none⟩) hl8 _).setCell (p:=⟨g6,1,none⟩) hl8 _).setCell (p:=⟨g6,2,none⟩) hl8 _).setCell (p:=⟨g6,3,none⟩) hl8 _,(((ho.setX (.inl rfl) hne1 hne2 _).setX (.inl rfl) hne1 hne2 _).setX (.inl rfl) hne1 hne2 _).setX (.inl rfl) hne1 hne2 _,z7 (z7 (z7 (z7 hp hpn) hpn) hpn) hpn⟩
     clear hB h8 ho;clear hK K
     try simp only [sqP]
     refine sqTH 11 ?_;try simp only [sqP]
     refine sqTH 12 ?_;try simp only [sqP]
     refine wpAnyH_done (by kernel_rfl) ?_ _;dsimp only [Exit.then];clear hHeld;obtain⟨hBz,hoz,hpz⟩:=hG;have hrz:Spl bz wn7 A' y.blobs.length B' y.ents.length:=by
      obtain⟨A9,c9,B9,d9,e1,e2, -, -, -, -,h⟩:=Spl.of_own hoz (fun b hb=> .inr hb);cases e1;cases e2;exact h
     have hall:=And.intro hBz (And.intro hrz (And.intro hpz hF));generalize wn7=wz at hall ⊢
     generalize g6=gz at hall ⊢
     generalize A'=Ay at hall ⊢
     generalize c'=cy at hall ⊢
     generalize B'=By at hall ⊢
     generalize d'=dy at hall ⊢
     generalize A5=A6 at hall ⊢
     generalize c5=c6 at hall ⊢
     revert wz gz Ay cy By dy A6 c6;exact REST3.out
    exact AllReadyH.nil
   exact AllReadyH.nil
  exact AllReadyH.nil
 refine AllReadyH.cons (o:=_) rfl (fun K hK=> ?_) ?_
 ·
  try (have hA1:=fun b (e:(Value.slice A' y.blobs.length c').ownBlock=some b)=>(ho.b.rwo.blk e).2)
  try (have hA2:=fun b (e:(Value.slice B' y.ents.length d').ownBlock=some b)=>(ho.e.rwo.blk e).2)
  try (have ho:=ho.wider (N':=fun b=>b=wn0.heap.size∨b<bz) (fun b hb=>hb.elim (fun h=> .inr (by omega)) (fun h=> .inl h)))
  go_simp;refine zr hK ?_ (Below wn0.heap.size wn0) (fun W=>Arr W wn0.heap.size 28 [.slice none 0 0,.slice none 0 0,.int .i64 0,.int .i64 0]∧w7.heap.size≤wn0.heap.size) ?_ ?_ (fun wn8 hHeld hst hnew=> ?_)
  ·(exact HSB.out _ (hB.trans (Below.mono (show Below wn0.heap.size wn0 _ from by(first | exact(Below.refl _ _).alloc (Nat.le_refl _) _ | exact hbq | exact hb5 | exact Below.refl _ _)) hB.size)))
  ·(first | exact(Below.refl _ _).alloc (Nat.le_refl _) _ | exact hbq | exact hb5 | exact Below.refl _ _)
  ·(exact⟨Arr.new _ _ _,hB.size⟩)
  have hB:=hB.trans (hst.mono hB.size);obtain⟨h8,hl8⟩:=hnew;obtain⟨g6,hg6⟩:∃g,g=wn0.heap.size:=⟨_,rfl⟩
  rw [←hg6]at h8 hl8 ⊢
  try (rw [←hg6]at ho)
  try (have hne1:(Value.slice A' y.blobs.length c').ownBlock≠some g6:=fun e=>by have:=hA1 _ e;omega)
  try (have hne2:(Value.slice B' y.ents.length d').ownBlock≠some g6:=fun e=>by have:=hA2 _ e;omega)
  try clear hA1
  try clear hA2
  clear hg6;clear hst;clear hK K
  try simp only [sqP]
  refine wpAnyH_ready (rs:= [3]) (by kernel_rfl) (by simp) ?_;refine AllReadyH.cons (o:=_) rfl (fun K hK=> ?_) ?_
  ·
   go_simp;refine(HKY.out wn8).mono ?_;rintro e5 w5 ⟨rfl,hb5⟩;dsimp only;refine zr hK ?_ (Below wn8.heap.size wn8) (fun W=>True) ?_ ?_ (fun wn9 hHeld hst hnew=> ?_)
   ·(exact HSB.out _ (hB.trans (Below.mono (show Below wn8.heap.size wn8 _ from by(first | exact(Below.refl _ _).alloc (Nat.le_refl _) _ | exact hbq | exact hb5 | exact Below.refl _ _)) hB.size)))
   ·(first | exact(Below.refl _ _).alloc (Nat.le_refl _) _ | exact hbq | exact hb5 | exact Below.refl _ _)
   ·(trivial)
   have hB:=hB.trans (hst.mono hB.size);have h8:=h8.below hst;clear hst;clear hK K
   try simp only [sqP]
   refine wpAnyH_ready (rs:= [4]) (by kernel_rfl) (by simp) ?_;refine AllReadyH.cons (o:=_) rfl (fun K hK=> ?_) ?_
   ·
    try have hA8:=h8.lt
    have hBs:=hB.size;go_simp;refine(HGT.out wn9 hB).mono ?_;rintro e5 w5 ⟨A',c',B',d',A5,c5,rfl,ho5,hp5,hb5⟩;dsimp only;refine zr hK ?_ (Below wn9.heap.size wn9) (fun W=>OwSt W wn9.heap.size (Value.slice A' y.blobs.length c') (Value.slice B' y.ents.length d') y (fun b=>b<wn9.heap.size)∧W.ownsRow bz 37 3 (.slice A5 qs.length c5) qs.length (pcs qs)) ?_ ?_ (fun wn10 hHeld hst hnew=> ?_)
    ·(exact HSB.out _ (hB.trans (Below.mono (show Below wn9.heap.size wn9 _ from by(first | exact(Below.refl _ _).alloc (Nat.le_refl _) _ | exact hbq | exact hb5 | exact Below.refl _ _)) hB.size)))
    ·(first | exact(Below.refl _ _).alloc (Nat.le_refl _) _ | exact hbq | exact hb5 | exact Below.refl _ _)
    ·(exact⟨ho5,zu hp5 (by omega)⟩)
    have hB:=hB.trans (hst.mono hB.size);have h8:=h8.below hst;obtain⟨hnew,hp⟩:=hnew;have ho:=hnew
    try (have hne1:(Value.slice A' y.blobs.length c').ownBlock≠some g6:=fun e=>by have:=(ho.b.rwo.blk e).1;omega)
    try (have hne2:(Value.slice B' y.ents.length d').ownBlock≠some g6:=fun e=>by have:=(ho.e.rwo.blk e).1;omega)
    first | (have ho:=ho.wider (N':=fun b=>b=g6∨b<bz) (fun b hb=> .inl (by omega))) | (have ho:=ho.wider (N':=fun b=>b<bz) (fun b hb=> .inl (by omega)))
    have ho:=ho.lower (base':=bz) (by omega);clear hst;clear hK K
    try simp only [sqP]
    refine sqTH 5 ?_;try simp only [sqP]
    refine sqTH 6 ?_;try simp only [sqP]
    refine sqTH 7 ?_;try simp only [sqP]
    refine sqTH 8 ?_;try simp only [sqP]
    refine wpAnyH_ready (rs:= [10]) (by kernel_rfl) (by simp) ?_;refine AllReadyH.cons (o:=_) rfl (fun K hK=> ?_) ?_
    ·
     obtain⟨z0,z1,z2,z3⟩:=sqC4 h8;obtain⟨f0,f1,f2,f3⟩:=sqF4 h8;go_simp;clear z0 z1 z2 z3 f0 f1 f2 f3;have hpn:=q8 hp h8 (by decide);refine zr hK ?_ (fun W=>Arr W g6 28 [.slice A' y.blobs.length c',.slice B' y.ents.length d',.int .i64 y.room,.int .i64 y.clock]) (fun W=>Below w7.heap.size w7 W∧OwSt W bz (Value.slice A' y.blobs.length c') (Value.slice B' y.ents.length d') y (fun b=>b=g6∨b<bz)∧W.ownsRow bz 37 3 (.slice A5 qs.length c5) qs.length (pcs qs)) ?_ ?_ (fun wn11 hHeld hF hG=> ?_)
     ·exact HSB.out _ ((((hB.setCell (p:=⟨g6,0,none⟩) hl8 _).setCell (p:=⟨g6,1,none⟩) hl8 _).setCell (p:=⟨g6,2,none⟩) hl8 _).setCell (p:=⟨g6,3,none⟩) hl8 _)
     ·exact h8.all4 _ _ _ _
     ·exact⟨(((hB.setCell (p:=⟨g6,0,none⟩) hl8 _).setCell (p:=⟨g6,1,none⟩) hl8 _).setCell (p:=⟨g6,2,none⟩) hl8 _).setCell (p:=⟨g6,3,none⟩) hl8 _,(((ho.setX (.inl rfl) hne1 hne2 _).setX (.inl rfl) hne1 hne2 _).setX (.inl rfl) hne1 hne2 _).setX (.inl rfl) hne1 hne2 _,z7 (z7 (z7 (z7 hp hpn) hpn) hpn) hpn⟩
     clear hB h8 ho;clear hK K
     try simp only [sqP]
     refine sqTH 11 ?_;try simp only [sqP]
     refine sqTH 12 ?_;try simp only [sqP]
     refine wpAnyH_done (by kernel_rfl) ?_ _;dsimp only [Exit.then];clear hHeld;obtain⟨hBz,hoz,hpz⟩:=hG;have hrz:Spl bz wn11 A' y.blobs.length B' y.ents.length:=by
      obtain⟨A9,c9,B9,d9,e1,e2, -, -, -, -,h⟩:=Spl.of_own hoz (fun b hb=> .inr hb);cases e1;cases e2;exact h
     have hall:=And.intro hBz (And.intro hrz (And.intro hpz hF));generalize wn11=wz at hall ⊢
     generalize g6=gz at hall ⊢
     generalize A'=Ay at hall ⊢
     generalize c'=cy at hall ⊢
     generalize B'=By at hall ⊢
     generalize d'=dy at hall ⊢
     generalize A5=A6 at hall ⊢
     generalize c5=c6 at hall ⊢
     revert wz gz Ay cy By dy A6 c6;exact REST3.out
    exact AllReadyH.nil
   exact AllReadyH.nil
  exact AllReadyH.nil
 exact AllReadyH.nil;intro w8 gc Ay cy By dy A6 c6 ⟨hB8,hsy,hpy,hXy⟩;have hXy':Arr w8 gc 28 [.slice Ay y.blobs.length cy,.slice By y.ents.length dy,.int .i64 y.room,.int .i64 y.clock]:=hXy;have hpp:SpP bz w8 A6 qs.length:=by
  obtain⟨A9,c9,e1,h1,h2⟩:=Sl.of_own hpy;cases e1
  exact SpP.of_sl h1 h2
 have HPP:=sqH hpp;have HSY:=sqH hsy;have HXY:=sqH hXy';have HB38:=sqH (HB37.out.trans (hB8.mono HB37.out.size));have hbz8:bz≤w8.heap.size:=by have:=hB8.size;omega
 have HBD:=sqH (show ∀b∈s.blobs,b.data.length≤1000000 from fun b hb=>by have:=(HSG.out.b.one b hb).2.1;omega);have HED:=sqH (show ∀x∈s.ents,x.parts.length≤1000000 from fun x hx=>by have:=(zl (HSG.out.e.one x hx).2.1).1;omega);clear hXy hXy' hpp hsy hpy hB8 hbz HSB HGT HKY;obtain rfl | rfl:=HQ.out
 ·have x0:=HXY.out.cell (k:=0) rfl;have x1:=HXY.out.cell (k:=1) rfl;have x2:=HXY.out.cell (k:=2) rfl;have x3:=HXY.out.cell (k:=3) rfl;generalize y.blobs.length=yb at *
  generalize y.ents.length=ye at *
  have hqm:(qs.length:Int)≤9223372036854775807:=by have h1:=HPP.out.1;unfold maxLen at h1;omega
  generalize qs.length=qn at *
  go_wp2_with fail;refine(qF Ay yb cy By ye dy (y.room:Int) (y.clock:Int) bz w8 HSY.out hbz8).mono ?_;rintro e_ w9 ⟨rfl,hk9⟩;dsimp only;clear x0 x1 x2 x3;have HK9:=sqH hk9;clear hk9;go_wp2_with fail;go_loopg [81] qn (fun gn u wr=>∃j:Nat,gn=qn - j∧u= .int .i64 j∧j≤qn∧Kd bz w8 wr)
  case atStart=>exact⟨0,rfl,rfl,by omega,HK9.out⟩
  case round =>
   obtain⟨j,hgk,rfl,hj,hk⟩:=hrel;have HGK:=sqH hgk;clear hgk;by_cases hlt:j<qn
   ·have hcc:decide (j<qn)=true:=decide_eq_true hlt;have hci:decide ((j:Int)<(qn:Int))=true:=decide_eq_true (by omega);have hj0:(0:Int)≤(j:Int):=by omega
    have hj1:(j:Int)<(qn:Int):=by omega
    obtain⟨g2,o2,x2,hBe,hgb2,hc2,hf2⟩:=(HPP.out.kd hk).2 j hlt;subst hBe;go_wp2_with fail;go_roundg (qn - (j+1))
    case measure=>have:=HGK.out;omega
    case rel=>exact⟨j+1,rfl,by go_num,by omega,hk.trans (Kd.setStr hc2 hgb2)⟩
   ·obtain rfl:j=qn:=by omega
    have hcc:decide (j<j)=false:=by simp
    have HBW:=sqH (show Below w3.heap.size w3 wr from HB38.out.trans (by rw [←HBZ.out];exact hk.bel));have a0:=(HSB0.out wr HBW.out).1.1;have a1:=(HSB0.out wr HBW.out).1.2.1;have a2:=(HSB0.out wr HBW.out).1.2.2.1;have a3:=(HSB0.out wr HBW.out).1.2.2.2;go_wp2_with fail;refine(qE As cs Bs ds s wr (by omega) (by omega) HBD.out HED.out (HRS.out.below HBW.out)).mono ?_;rintro e_ w10 ⟨g1,g3,rfl,ho,hb10⟩;dsimp only;have hsp:=Spl.of_own ho (fun b hb=>hb);obtain⟨A9,c9,B9,d9,e1,e2, -, -, -, -,hsp⟩:=hsp;cases e1
    cases e2
    clear a0 a1 a2 a3 ho;go_wp2_with fail;refine(qF _ _ _ _ _ _ _ _ _ w10 hsp hb10.size).mono ?_;rintro e_ w11 ⟨rfl,hk11⟩;dsimp only;have HB11:=sqH (HBW.out.trans ((hb10.trans hk11.bel).mono HBW.out.size));clear hsp hb10 hk11;have a0:=(HSB0.out w11 HB11.out).1.1;have a1:=(HSB0.out w11 HB11.out).1.2.1;have a2:=(HSB0.out w11 HB11.out).1.2.2.1;have a3:=(HSB0.out w11 HB11.out).1.2.2.2;have b0:=(HTB.out w11 HB11.out).1;have b1:=(HTB.out w11 HB11.out).2.1;have b2:=(HTB.out w11 HB11.out).2.2.1;have b3:=(HTB.out w11 HB11.out).2.2.2;go_wp2_with fail;refine(k8 As At Bs Bt cs ct ds dt s.blobs s.blobs s.ents s.ents (s.room:Int) (s.clock:Int) w11 (by omega) (by omega) HBD.out HBD.out (by omega) (by omega) HED.out HED.out (HRS.out.below HB11.out).b (HRT.out.below HB11.out).b (HRS.out.below HB11.out).e (HRT.out.below HB11.out).e).mono ?_;rintro e_ w12 ⟨rfl,hb12⟩;dsimp only;rw [kB,kC];go_wp2_with fail;go_ret;exact⟨rfl,HB3.out.trans ((HB11.out.trans (hb12.mono HB11.out.size)).mono (Nat.le_of_lt hgr3))⟩
 ·
  have a0:=(HSB0.out w8 HB38.out).1.1;have a1:=(HSB0.out w8 HB38.out).1.2.1;have a2:=(HSB0.out w8 HB38.out).1.2.2.1;have a3:=(HSB0.out w8 HB38.out).1.2.2.2;go_wp2_with fail;refine(qE As cs Bs ds s w8 (by omega) (by omega) HBD.out HED.out (HRS.out.below HB38.out)).mono ?_;rintro e_ w10 ⟨g1,g3,rfl,ho,hb10⟩;dsimp only;have hsp:=Spl.of_own ho (fun b hb=>hb);obtain⟨A9,c9,B9,d9,e1,e2, -, -, -, -,hsp⟩:=hsp;cases e1
  cases e2
  clear a0 a1 a2 a3 ho;go_wp2_with fail;refine(qF _ _ _ _ _ _ _ _ _ w10 hsp hb10.size).mono ?_;rintro e_ w11 ⟨rfl,hk11⟩;dsimp only;have HB11:=sqH (HB38.out.trans ((hb10.trans hk11.bel).mono HB38.out.size));clear hsp hb10 hk11;have a0:=(HSB0.out w11 HB11.out).1.1;have a1:=(HSB0.out w11 HB11.out).1.2.1;have a2:=(HSB0.out w11 HB11.out).1.2.2.1;have a3:=(HSB0.out w11 HB11.out).1.2.2.2;have b0:=(HTB.out w11 HB11.out).1;have b1:=(HTB.out w11 HB11.out).2.1;have b2:=(HTB.out w11 HB11.out).2.2.1;have b3:=(HTB.out w11 HB11.out).2.2.2;go_wp2_with fail;refine(k8 As At Bs Bt cs ct ds dt s.blobs s.blobs s.ents s.ents (s.room:Int) (s.clock:Int) w11 (by omega) (by omega) HBD.out HBD.out (by omega) (by omega) HED.out HED.out (HRS.out.below HB11.out).b (HRT.out.below HB11.out).b (HRS.out.below HB11.out).e (HRT.out.below HB11.out).e).mono ?_;rintro e_ w12 ⟨rfl,hb12⟩;dsimp only;rw [kB,kC];go_wp2_with fail;go_ret;exact⟨rfl,HB3.out.trans ((HB11.out.trans (hb12.mono HB11.out.size)).mono (Nat.le_of_lt hgr3))⟩
end Go.Proofs.YtfmnggcfhalfnaaGreat
