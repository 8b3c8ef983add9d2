/- Lemmas of the proof. Conditions: as stated. -/
import Derived.Test.YtnmlbflhnnmoeaaGreatQX54
set_option linter.unusedVariables false
set_option linter.unusedSimpArgs false
set_option maxRecDepth 100000
set_option maxHeartbeats 16000000
namespace Go.Proofs.YtnmlbflhnnmoeaaGreat
open Go.RowKit Go.Maps
theorem k6 {P Q:Prop} (h:Hid P→Q) (p:P):Q:=h (Lib.hid p)
theorem Jv (A:Option Addr) (c:Nat) (B:Option Addr) (d:Nat) (s:StoP) (Ag:Option Addr) (ng:Nat) (cp:ColP) (key:List UInt8) (ps:List PartP) (PA:Option Addr) (pc:Nat) (w:World) (hg:GoodS s) (hr:RdSt w A c B d s) (hgl:cp.grey.length≤1000) (hgc:GoodC s cp) (hc:RdC w Ag ng cp) (hk:hexC key=0) (hpz:chk ps=0) (hhv:qQ s.blobs ps=0) (hclk:s.clock<1099511627776) (hlen:s.ents.length<10) (hP:Sl w 3 PA ps.length pc (pcs ps)) (t:StoP) (ht:t=xd s key ps) (htg0:GoodS t) :
  Calls Tryz.prog 74 #[.agg #[.slice A s.blobs.length c,.slice B s.ents.length d,.int .i64 s.room,.int .i64 s.clock],coV (.slice Ag cp.grey.length ng) cp,.string ⟨key.toArray⟩,.slice PA ps.length pc] w fun e w' =>
   ∃v1 v2 v3,e= .returned (.tuple #[stV v1 v2 t,coV v3 (zw t cp (ps.map (·.dig))).2,.int .i64 0])∧OwSt w' w.heap.size v1 v2 (zw t cp (ps.map (·.dig))).1 (fun b=>b<w.heap.size)∧w'.ownsRow w.heap.size 9 1 v3 (zw t cp (ps.map (·.dig))).2.grey.length (strs (zw t cp (ps.map (·.dig))).2.grey)∧Below w.heap.size w w':=by
 have hp8:=(zj hpz).1;have HPB:=sqH (fun W (h1:RdSt W A c B d s) (h2:Sl W 3 PA ps.length pc (pcs ps))=>U6 A c B d s t key ps PA pc W hg h1 hk hpz hhv hclk hlen h2 ht);have htg:=sqH htg0;have hml:(ps.map (·.dig)).length≤8:=by rw [List.length_map];exact hp8
 clear ht htg0 hk hpz hhv hclk hlen;have hlb:s.blobs.length≤24:=hg.b.len;have hle:s.ents.length≤10:=hg.e.len;obtain⟨phase,grey,at_⟩:=cp;simp only at hgl;obtain⟨w0,hw0,hS,hC,hR,hQ,hbx⟩:=zU w 26 29 [.slice A s.blobs.length c,.slice B s.ents.length d,.int .i64 s.room,.int .i64 s.clock] [.int .i64 phase,.slice Ag grey.length ng,.string ⟨at_.toArray⟩] [.slice none 0 0,.slice none 0 0,.int .i64 0,.int .i64 0] [.int .i64 0,.slice none 0 0,.string ⟨#[]⟩];have hr0:=hr.below hbx;have hc0:=hc.below hbx;obtain⟨H,hH⟩:∃H,H=w.heap.size:=⟨_,rfl⟩
 have HCK:=sqH (ql A c B d s Ag ng ⟨phase,grey,at_⟩ w0 hg hr0 (by show grey.length≤1000;omega) hgc hc0);rw [←hH]at hS hC hR hQ hbx ⊢
 have hHl:H+1+1+1<w0.heap.size:=hQ.lt;have HSX:=sqH (show ∀W,Below w0.heap.size w0 W→Arr W H 26 [.slice A s.blobs.length c,.slice B s.ents.length d,.int .i64 s.room,.int .i64 s.clock]∧Arr W (H+1) 29 [.int .i64 phase,.slice Ag grey.length ng,.string ⟨at_.toArray⟩]∧Arr W (H+2) 26 [.slice none 0 0,.slice none 0 0,.int .i64 0,.int .i64 0]∧Arr W (H+3) 29 [.int .i64 0,.slice none 0 0,.string ⟨#[]⟩]∧RdC W Ag ng ⟨phase,grey,at_⟩ from fun W h=>⟨hS.below h,hC.below h,hR.below h,hQ.below h,hc0.below h⟩);have HBX:=sqH hbx;have HR0:=sqH hr0;have HG:=sqH hg;have HGC:=sqH hgc;obtain⟨x0,x1,x2,x3⟩:=sqC4 hS;obtain⟨y0,y1,y2⟩:=sqC3 hC;rw [hw0,hH]at x0 x1 x2 x3 y0 y1 y2;clear hg hr hgc hc hr0 hc0 hS hC hR hQ hbx;go_enter Tryz.func74,Tryz.ntmps74;go_wp2_with fail;rw [←hw0,←hH];have HH:=sqH hH;clear hH hw0;clear x0 x1 x2 x3 y0 y1 y2;refine HCK.out.mono ?_;rintro e_ w1 ⟨rfl,hb1⟩;dsimp only;obtain⟨x0,x1,x2,x3⟩:=sqC4 ((HSX.out _ hb1).1);clear HCK;have hbw1:=HBX.out.trans (hb1.mono (show H≤w0.heap.size by omega));have HSP:=sqH (show ∀W,Below w1.heap.size w1 W→Sl W 3 PA ps.length pc (pcs ps) from fun W h=>(hP.below (by rw [←HH.out];exact hbw1)).below h);have HPR:=sqH (show ∀W,Below w1.heap.size w1 W→Rd W 3 PA ps.length (pcs ps) from fun W h=>(HSP.out W h).rd);have HPB1:=sqH (HPB.out w1 (HR0.out.below hb1) (HSP.out _ (Below.refl _ _)));clear hP HPB HR0 hbw1;go_wp2_with fail;clear x0 x1 x2 x3;refine HPB1.out.mono ?_;rintro e_ w2 ⟨A2,c2,B2,d2,rfl,ho2,hb2⟩;dsimp only;have hb12:=hb2;have hb02:=hb1.trans (hb2.mono hb1.size);have hs1:=hb1.size;have hs2:=hb2.size;obtain⟨W3,hW3⟩:∃W,W=w2.alloc (.cells #[.slice A2 t.blobs.length c2,.slice B2 t.ents.length d2,.int .i64 t.room,.int .i64 t.clock] 26):=⟨_,rfl⟩
 have hG3:Arr W3 w2.heap.size 26 [.slice A2 t.blobs.length c2,.slice B2 t.ents.length d2,.int .i64 t.room,.int .i64 t.clock]:=by rw [hW3];exact Arr.new w2 26 _
 have hb23:Below w2.heap.size w2 W3:=by rw [hW3];exact(Below.refl w2.heap.size w2).alloc (Nat.le_refl _) _
 have hb13:=hb02.trans (hb23.mono hb02.size);obtain⟨g2,hg2⟩:∃g,g=w2.heap.size:=⟨_,rfl⟩
 rw [←hg2]at hG3;have hg2l:w2.heap.size≤g2:=by omega
 have ho3:=(ho2.wider (N':=fun b=>b<w1.heap.size∨b=g2) (fun b hb=>hb.imp id (fun h=>by omega))).below hb23;obtain⟨DS,hDS⟩:∃D,D=ps.map (·.dig):=⟨_,rfl⟩
 have hdl:DS.length≤8:=by rw [hDS];exact hml
 have HDG:=sqH (fun (W:World) (h:Rd W 3 PA ps.length (pcs ps))=>show Calls Tryz.prog 127 #[.slice PA ps.length pc] W fun e w'=>∃v,e= .returned v∧w'.ownsRow W.heap.size 9 1 v DS.length (strs DS)∧Below W.heap.size W w' from by rw [hDS];exact UB PA pc ps W (by omega) h);have HKE:=sqH (fun (N:Nat→Prop) (W:World) (A7:Option Addr) (c7:Nat) (h1:OwSt W w1.heap.size (.slice A2 t.blobs.length c2) (.slice B2 t.ents.length d2) t N) (h2:RdC W Ag ng ⟨phase,grey,at_⟩) (h3:Rd W 1 A7 DS.length (strs DS)) (h4:DS.length≤c7) (h5:w1.heap.size≤W.heap.size) (h6:∀b,N b→b<W.heap.size)=>ZV A2 c2 B2 d2 t Ag ng ⟨phase,grey,at_⟩ A7 c7 DS w1.heap.size N W htg.out h1 h5 h6 (by show grey.length≤2000;omega) HGC.out.ph h2 h4 (by omega) h3);generalize hkp:zw t ⟨phase,grey,at_⟩ DS=KP at *
 have HDS:=sqH hDS;have HKP:=sqH hkp;have HW3:=sqH hW3;have HG2E:=sqH hg2;clear hkp HPB1 ho2 hW3 hg2 hDS;go_wp2_with fail;rw [←HW3.out,←HG2E.out];apply k6;intro REST;refine zk [9,10] (S:=(fun w'=>(w'.cell? ⟨g2,0,none⟩=some (.slice A2 t.blobs.length c2)∧w'.cell? ⟨g2,1,none⟩=some (.slice B2 t.ents.length d2)∧w'.cell? ⟨g2,2,none⟩=some (.int .i64 t.room)∧w'.cell? ⟨g2,3,none⟩=some (.int .i64 t.clock))∧(w'.cell? ⟨H+1,0,none⟩=some (.int .i64 phase)∧w'.cell? ⟨H+1,1,none⟩=some (.slice Ag grey.length ng)∧w'.cell? ⟨H+1,2,none⟩=some (.string ⟨at_.toArray⟩)))) (by kernel_rfl) ?_ (fun hHeld=> ?_)
 ·exact⟨⟨(hG3.drew).cell (k:=0) rfl,(hG3.drew).cell (k:=1) rfl,(hG3.drew).cell (k:=2) rfl,(hG3.drew).cell (k:=3) rfl⟩,(HSX.out _ (hb13.drew)).2.1.cell (k:=0) rfl,(HSX.out _ (hb13.drew)).2.1.cell (k:=1) rfl,(HSX.out _ (hb13.drew)).2.1.cell (k:=2) rfl⟩
 have hB:=hb23.drew;have hG:=hG3.drew;have ho:=ho3.drewX;generalize W3.drew=wn0 at *
 refine tkU 0 ?_
 try simp only [sqP]
 refine tkU 1 ?_
 try simp only [sqP]
 refine tkP 2 ?_
 try simp only [sqP]
 refine z7 (rs:= [3,8]) (by kernel_rfl) (by simp) ?_;refine z6.cons (o:=_) rfl (fun K hK=> ?_) ?_
 ·
  go_simp;refine(HDG.out wn0 (HPR.out _ (hb12.trans (hB.mono hb12.size)))).mono ?_;rintro e5 w5 ⟨v5,rfl,ho5,hb5⟩;obtain⟨A7,c7,rfl,hc7,hr7⟩:=Rd.of_own' ho5;clear ho5;dsimp only;refine qI hK ?_ (fun W=>Below w2.heap.size w2 W∧Arr W g2 26 [.slice A2 t.blobs.length c2,.slice B2 t.ents.length d2,.int .i64 t.room,.int .i64 t.clock]∧OwSt W w1.heap.size (.slice A2 t.blobs.length c2) (.slice B2 t.ents.length d2) t (fun b=>b<w1.heap.size∨b=g2)∧Rd W 1 A7 DS.length (strs DS)) (fun W=>True) ?_ ?_ (fun wn1 hHeld hF _=> ?_)
  ·exact⟨⟨(hG.below hb5).cell (k:=0) rfl,(hG.below hb5).cell (k:=1) rfl,(hG.below hb5).cell (k:=2) rfl,(hG.below hb5).cell (k:=3) rfl⟩,(HSX.out _ (hb02.trans ((hB.trans (hb5.mono hB.size)).mono hb02.size))).2.1.cell (k:=0) rfl,(HSX.out _ (hb02.trans ((hB.trans (hb5.mono hB.size)).mono hb02.size))).2.1.cell (k:=1) rfl,(HSX.out _ (hb02.trans ((hB.trans (hb5.mono hB.size)).mono hb02.size))).2.1.cell (k:=2) rfl⟩
  ·exact⟨hB.trans (hb5.mono hB.size),hG.below hb5,ho.below hb5,hr7⟩
  ·trivial
  clear ho hG hB;obtain⟨hB,hG,ho,hdg⟩:=hF;clear hb5 hr7;clear hK K
  try simp only [sqP]
  refine z7 (rs:= [4,8]) (by kernel_rfl) (by simp) ?_;refine z6.cons (o:=_) rfl (fun K hK=> ?_) ?_
  ·
   go_simp;refine(HKE.out _ wn1 A7 c7 ho (HSX.out _ (hb02.trans (hB.mono hb02.size))).2.2.2.2 hdg hc7 (Nat.le_trans hs2 hB.size) (fun b hb=>hb.elim (fun h=>Nat.lt_of_lt_of_le h (Nat.le_trans hs2 hB.size)) (fun h=>by rw [h];exact hG.lt))).mono ?_;rintro e5 w5 ⟨v1,v3,rfl,ho5,hl5,hb5⟩;obtain⟨A5,c5,_,_,rfl, -, -⟩:=ho5.rows;obtain⟨A6,c6,rfl, -, -⟩:=Rd.of_own' hl5;dsimp only;refine qI hK ?_ (fun W=>Below w2.heap.size w2 W∧Arr W g2 26 [.slice A2 t.blobs.length c2,.slice B2 t.ents.length d2,.int .i64 t.room,.int .i64 t.clock]∧OwSt W w1.heap.size (.slice A5 KP.1.blobs.length c5) (.slice B2 t.ents.length d2) KP.1 (fun b=>b<w1.heap.size∨b=g2)∧W.ownsRow w1.heap.size 9 1 (.slice A6 KP.2.grey.length c6) KP.2.grey.length (strs KP.2.grey)) (fun W=>True) ?_ ?_ (fun wn2 hHeld hF _=> ?_)
   ·exact⟨⟨(hG.below hb5).cell (k:=0) rfl,(hG.below hb5).cell (k:=1) rfl,(hG.below hb5).cell (k:=2) rfl,(hG.below hb5).cell (k:=3) rfl⟩,(HSX.out _ (hb02.trans ((hB.trans (hb5.mono hB.size)).mono hb02.size))).2.1.cell (k:=0) rfl,(HSX.out _ (hb02.trans ((hB.trans (hb5.mono hB.size)).mono hb02.size))).2.1.cell (k:=1) rfl,(HSX.out _ (hb02.trans ((hB.trans (hb5.mono hB.size)).mono hb02.size))).2.1.cell (k:=2) rfl⟩
   ·exact⟨hB.trans (hb5.mono hB.size),hG.below hb5,ho5,ze hl5 (Nat.le_trans hs2 hB.size)⟩
   ·trivial
   clear hdg ho hG hB;obtain⟨hB,hG,ho,hl⟩:=hF;clear ho5 hl5 hb5;clear hK K
   try simp only [sqP]
   refine tkP 5 ?_
   try simp only [sqP]
   refine tkP 6 ?_
   try simp only [sqP]
   refine tkP 7 ?_
   try simp only [sqP]
   refine z7 (rs:= [8]) (by kernel_rfl) (by simp) ?_;refine z6.cons (o:=_) rfl (fun K hK=> ?_) ?_
   ·
    have hba:=(Below.refl wn2.heap.size wn2).alloc (Nat.le_refl _) (.cells #[.int .i64 0,.slice none 0 0,.string ⟨#[]⟩] 29);have h14n:=Arr.new wn2 29 [.int .i64 0,.slice none 0 0,.string ⟨#[]⟩];have hl14n:w2.heap.size<wn2.heap.size:=Nat.lt_of_le_of_lt hg2l hG.lt;obtain⟨g14,hg14⟩:∃g,g=wn2.heap.size:=⟨_,rfl⟩
    rw [←hg14]at h14n hl14n;go_simp;rw [←hg14];have hN8:∀b,b=g14→wn2.heap.size≤b:=fun b h=>by rw [h,hg14];exact Nat.le_refl _
    clear hg14;refine qI hK ?_ (fun W=>Below w2.heap.size w2 W∧Arr W g2 26 [.slice A2 t.blobs.length c2,.slice B2 t.ents.length d2,.int .i64 t.room,.int .i64 t.clock]∧OwSt W w1.heap.size (.slice A5 KP.1.blobs.length c5) (.slice B2 t.ents.length d2) KP.1 (fun b=>b<w1.heap.size∨b=g2∨b=g14)∧W.ownsRow w1.heap.size 9 1 (.slice A6 KP.2.grey.length c6) KP.2.grey.length (strs KP.2.grey)∧Arr W g14 29 [.int .i64 0,.slice none 0 0,.string ⟨#[]⟩]∧w2.heap.size<g14) (fun W=>True) ?_ ?_ (fun wn3 hHeld hF _=> ?_)
    ·exact⟨⟨(hG.below hba).cell (k:=0) rfl,(hG.below hba).cell (k:=1) rfl,(hG.below hba).cell (k:=2) rfl,(hG.below hba).cell (k:=3) rfl⟩,(HSX.out _ (hb02.trans ((hB.trans (hba.mono hB.size)).mono hb02.size))).2.1.cell (k:=0) rfl,(HSX.out _ (hb02.trans ((hB.trans (hba.mono hB.size)).mono hb02.size))).2.1.cell (k:=1) rfl,(HSX.out _ (hb02.trans ((hB.trans (hba.mono hB.size)).mono hb02.size))).2.1.cell (k:=2) rfl⟩
    ·exact⟨hB.trans (hba.mono hB.size),hG.below hba,(ho.wider (N':=fun b=>b<w1.heap.size∨b=g2∨b=g14) (fun b hb=>hb.elim (fun h=> .inl (.inl h)) (fun h=>h.elim (fun h=> .inl (.inr h)) (fun h=> .inr (hN8 b h))))).below hba,z8 hl hba,h14n,hl14n⟩
    ·trivial
    clear hl ho hG hB;obtain⟨hB,hG,ho,hl,h14,hl14⟩:=hF;clear hba h14n hl14n hN8;clear hK K
    try simp only [sqP]
    refine z7 (rs:= [9]) (by kernel_rfl) (by simp) ?_;refine z6.store (o:=_) rfl (by rfl) (fun K hK=> ?_) ?_
    ·
     have hne:=ho.nb hG (by decide) (by decide);have hng:=zg hl hG (by decide);have hn14:g14≠g2:=by have:=HG2E.out;omega
     obtain⟨z0,z1,z2,z3⟩:=sqC4 hG;obtain⟨f0,f1,f2,f3⟩:=sqF4 hG;go_simp;clear z0 z1 z2 z3 f0 f1 f2 f3;refine vY hK (fun W=>Below w2.heap.size w2 W∧Arr W g2 26 [(.slice A5 KP.1.blobs.length c5),(.slice B2 t.ents.length d2),(.int .i64 t.room),(.int .i64 t.clock)]∧OwSt W w1.heap.size (.slice A5 KP.1.blobs.length c5) (.slice B2 t.ents.length d2) KP.1 (fun b=>b<w1.heap.size∨b=g2∨b=g14)∧W.ownsRow w1.heap.size 9 1 (.slice A6 KP.2.grey.length c6) KP.2.grey.length (strs KP.2.grey)∧Arr W g14 29 [.int .i64 0,.slice none 0 0,.string ⟨#[]⟩]∧w2.heap.size<g14) (fun W=>True) ?_ ?_ (fun wn4 hF _=> ?_)
     ·exact⟨(((hB.setCell (p:=⟨g2,0,none⟩) hg2l _).setCell (p:=⟨g2,1,none⟩) hg2l _).setCell (p:=⟨g2,2,none⟩) hg2l _).setCell (p:=⟨g2,3,none⟩) hg2l _,hG.all4 _ _ _ _,ho.set4N (.inr (.inl rfl)) hne.1 hne.2 _ _ _ _,qc hl hng _ _ _ _,h14.other4 hn14 _ _ _ _,hl14⟩
     ·trivial
     clear hl14 h14 hl ho hG hB;obtain⟨hB,hG,ho,hl,h14,hl14⟩:=hF;clear hne hng hn14;clear hK K
     try simp only [sqP]
     refine z7 (rs:= [10]) (by kernel_rfl) (by simp) ?_;refine z6.store (o:=_) rfl (by rfl) (fun K hK=> ?_) ?_
     ·
      have hne:=ho.nb h14 (by decide) (by decide);have hng:=zg hl h14 (by decide);have hn14:g14≠g2:=by have:=HG2E.out;omega
      obtain⟨z0,z1,z2⟩:=sqC3 h14;obtain⟨f0,f1,f2⟩:=sqF3 h14;go_simp;clear z0 z1 z2 f0 f1 f2;refine vY hK (fun W=>Below w2.heap.size w2 W∧Arr W g2 26 [(.slice A5 KP.1.blobs.length c5),(.slice B2 t.ents.length d2),(.int .i64 t.room),(.int .i64 t.clock)]∧OwSt W w1.heap.size (.slice A5 KP.1.blobs.length c5) (.slice B2 t.ents.length d2) KP.1 (fun b=>b<w1.heap.size∨b=g2∨b=g14)∧W.ownsRow w1.heap.size 9 1 (.slice A6 KP.2.grey.length c6) KP.2.grey.length (strs KP.2.grey)∧Arr W g14 29 [(.int .i64 KP.2.phase),(.slice A6 KP.2.grey.length c6),(.string ⟨KP.2.at_.toArray⟩)]∧w2.heap.size<g14) (fun W=>True) ?_ ?_ (fun wn5 hF _=> ?_)
      ·exact⟨((hB.setCell (p:=⟨g14,0,none⟩) (Nat.le_of_lt hl14) _).setCell (p:=⟨g14,1,none⟩) (Nat.le_of_lt hl14) _).setCell (p:=⟨g14,2,none⟩) (Nat.le_of_lt hl14) _,((hG.other hn14.symm _).other hn14.symm _).other hn14.symm _,ho.set3N (.inr (.inr rfl)) hne.1 hne.2 _ _ _,qx hl hng _ _ _,h14.all3 _ _ _,hl14⟩
      ·trivial
      clear hl14 h14 hl ho hG hB;obtain⟨hB,hG,ho,hl,h14,hl14⟩:=hF;clear hne hng hn14;clear hK K
      try simp only [sqP]
      refine zB (by kernel_rfl) ?_ _;dsimp only [Exit.then];have hall:=And.intro hB (And.intro hG (And.intro ho (And.intro hl (And.intro h14 hl14))));clear hB hG ho hl h14 hl14 hc7;generalize wn5=wz at hall ⊢
      revert hall;revert wz;revert g14;revert c6;revert A6;revert c5;revert A5;revert c7;revert A7;exact REST.out
     exact z6.nil
    exact z6.nil
   exact z6.nil
  refine z6.cons (o:=_) rfl (fun K hK=> ?_) ?_
  ·
   have hba:=(Below.refl wn1.heap.size wn1).alloc (Nat.le_refl _) (.cells #[.int .i64 0,.slice none 0 0,.string ⟨#[]⟩] 29);have h14n:=Arr.new wn1 29 [.int .i64 0,.slice none 0 0,.string ⟨#[]⟩];have hl14n:w2.heap.size<wn1.heap.size:=Nat.lt_of_le_of_lt hg2l hG.lt;obtain⟨g14,hg14⟩:∃g,g=wn1.heap.size:=⟨_,rfl⟩
   rw [←hg14]at h14n hl14n;go_simp;rw [←hg14];have hN8:∀b,b=g14→wn1.heap.size≤b:=fun b h=>by rw [h,hg14];exact Nat.le_refl _
   clear hg14;refine qI hK ?_ (fun W=>Below w2.heap.size w2 W∧Arr W g2 26 [.slice A2 t.blobs.length c2,.slice B2 t.ents.length d2,.int .i64 t.room,.int .i64 t.clock]∧OwSt W w1.heap.size (.slice A2 t.blobs.length c2) (.slice B2 t.ents.length d2) t (fun b=>b<w1.heap.size∨b=g2∨b=g14)∧Rd W 1 A7 DS.length (strs DS)∧Arr W g14 29 [.int .i64 0,.slice none 0 0,.string ⟨#[]⟩]∧w2.heap.size<g14) (fun W=>True) ?_ ?_ (fun wn6 hHeld hF _=> ?_)
   ·exact⟨⟨(hG.below hba).cell (k:=0) rfl,(hG.below hba).cell (k:=1) rfl,(hG.below hba).cell (k:=2) rfl,(hG.below hba).cell (k:=3) rfl⟩,(HSX.out _ (hb02.trans ((hB.trans (hba.mono hB.size)).mono hb02.size))).2.1.cell (k:=0) rfl,(HSX.out _ (hb02.trans ((hB.trans (hba.mono hB.size)).mono hb02.size))).2.1.cell (k:=1) rfl,(HSX.out _ (hb02.trans ((hB.trans (hba.mono hB.size)).mono hb02.size))).2.1.cell (k:=2) rfl⟩
   ·exact⟨hB.trans (hba.mono hB.size),hG.below hba,(ho.wider (N':=fun b=>b<w1.heap.size∨b=g2∨b=g14) (fun b hb=>hb.elim (fun h=> .inl (.inl h)) (fun h=>h.elim (fun h=> .inl (.inr h)) (fun h=> .inr (hN8 b h))))).below hba,hdg.below hba,h14n,hl14n⟩
   ·trivial
   clear hdg ho hG hB;obtain⟨hB,hG,ho,hdg,h14,hl14⟩:=hF;clear hba h14n hl14n hN8;clear hK K
   try simp only [sqP]
   refine z7 (rs:= [4]) (by kernel_rfl) (by simp) ?_;refine z6.cons (o:=_) rfl (fun K hK=> ?_) ?_
   ·
    go_simp;refine(HKE.out _ wn6 A7 c7 ho (HSX.out _ (hb02.trans (hB.mono hb02.size))).2.2.2.2 hdg hc7 (Nat.le_trans hs2 hB.size) (fun b hb=>hb.elim (fun h=>Nat.lt_of_lt_of_le h (Nat.le_trans hs2 hB.size)) (fun h=>h.elim (fun h=>by rw [h];exact hG.lt) (fun h=>by rw [h];exact h14.lt)))).mono ?_;rintro e5 w5 ⟨v1,v3,rfl,ho5,hl5,hb5⟩;obtain⟨A5,c5,_,_,rfl, -, -⟩:=ho5.rows;obtain⟨A6,c6,rfl, -, -⟩:=Rd.of_own' hl5;dsimp only;refine qI hK ?_ (fun W=>Below w2.heap.size w2 W∧Arr W g2 26 [.slice A2 t.blobs.length c2,.slice B2 t.ents.length d2,.int .i64 t.room,.int .i64 t.clock]∧OwSt W w1.heap.size (.slice A5 KP.1.blobs.length c5) (.slice B2 t.ents.length d2) KP.1 (fun b=>b<w1.heap.size∨b=g2∨b=g14)∧W.ownsRow w1.heap.size 9 1 (.slice A6 KP.2.grey.length c6) KP.2.grey.length (strs KP.2.grey)∧Arr W g14 29 [.int .i64 0,.slice none 0 0,.string ⟨#[]⟩]∧w2.heap.size<g14) (fun W=>True) ?_ ?_ (fun wn7 hHeld hF _=> ?_)
    ·exact⟨⟨(hG.below hb5).cell (k:=0) rfl,(hG.below hb5).cell (k:=1) rfl,(hG.below hb5).cell (k:=2) rfl,(hG.below hb5).cell (k:=3) rfl⟩,(HSX.out _ (hb02.trans ((hB.trans (hb5.mono hB.size)).mono hb02.size))).2.1.cell (k:=0) rfl,(HSX.out _ (hb02.trans ((hB.trans (hb5.mono hB.size)).mono hb02.size))).2.1.cell (k:=1) rfl,(HSX.out _ (hb02.trans ((hB.trans (hb5.mono hB.size)).mono hb02.size))).2.1.cell (k:=2) rfl⟩
    ·exact⟨hB.trans (hb5.mono hB.size),hG.below hb5,ho5,ze hl5 (Nat.le_trans hs2 hB.size),h14.below hb5,hl14⟩
    ·trivial
    clear hl14 h14 hdg ho hG hB;obtain⟨hB,hG,ho,hl,h14,hl14⟩:=hF;clear ho5 hl5 hb5;clear hK K
    try simp only [sqP]
    refine tkP 5 ?_
    try simp only [sqP]
    refine tkP 6 ?_
    try simp only [sqP]
    refine tkP 7 ?_
    try simp only [sqP]
    refine z7 (rs:= [9]) (by kernel_rfl) (by simp) ?_;refine z6.store (o:=_) rfl (by rfl) (fun K hK=> ?_) ?_
    ·
     have hne:=ho.nb hG (by decide) (by decide);have hng:=zg hl hG (by decide);have hn14:g14≠g2:=by have:=HG2E.out;omega
     obtain⟨z0,z1,z2,z3⟩:=sqC4 hG;obtain⟨f0,f1,f2,f3⟩:=sqF4 hG;go_simp;clear z0 z1 z2 z3 f0 f1 f2 f3;refine vY hK (fun W=>Below w2.heap.size w2 W∧Arr W g2 26 [(.slice A5 KP.1.blobs.length c5),(.slice B2 t.ents.length d2),(.int .i64 t.room),(.int .i64 t.clock)]∧OwSt W w1.heap.size (.slice A5 KP.1.blobs.length c5) (.slice B2 t.ents.length d2) KP.1 (fun b=>b<w1.heap.size∨b=g2∨b=g14)∧W.ownsRow w1.heap.size 9 1 (.slice A6 KP.2.grey.length c6) KP.2.grey.length (strs KP.2.grey)∧Arr W g14 29 [.int .i64 0,.slice none 0 0,.string ⟨#[]⟩]∧w2.heap.size<g14) (fun W=>True) ?_ ?_ (fun wn8 hF _=> ?_)
     ·exact⟨(((hB.setCell (p:=⟨g2,0,none⟩) hg2l _).setCell (p:=⟨g2,1,none⟩) hg2l _).setCell (p:=⟨g2,2,none⟩) hg2l _).setCell (p:=⟨g2,3,none⟩) hg2l _,hG.all4 _ _ _ _,ho.set4N (.inr (.inl rfl)) hne.1 hne.2 _ _ _ _,qc hl hng _ _ _ _,h14.other4 hn14 _ _ _ _,hl14⟩
     ·trivial
     clear hl14 h14 hl ho hG hB;obtain⟨hB,hG,ho,hl,h14,hl14⟩:=hF;clear hne hng hn14;clear hK K
     try simp only [sqP]
     refine z7 (rs:= [10]) (by kernel_rfl) (by simp) ?_;refine z6.store (o:=_) rfl (by rfl) (fun K hK=> ?_) ?_
     ·
      have hne:=ho.nb h14 (by decide) (by decide);have hng:=zg hl h14 (by decide);have hn14:g14≠g2:=by have:=HG2E.out;omega
      obtain⟨z0,z1,z2⟩:=sqC3 h14;obtain⟨f0,f1,f2⟩:=sqF3 h14;go_simp;clear z0 z1 z2 f0 f1 f2;refine vY hK (fun W=>Below w2.heap.size w2 W∧Arr W g2 26 [(.slice A5 KP.1.blobs.length c5),(.slice B2 t.ents.length d2),(.int .i64 t.room),(.int .i64 t.clock)]∧OwSt W w1.heap.size (.slice A5 KP.1.blobs.length c5) (.slice B2 t.ents.length d2) KP.1 (fun b=>b<w1.heap.size∨b=g2∨b=g14)∧W.ownsRow w1.heap.size 9 1 (.slice A6 KP.2.grey.length c6) KP.2.grey.length (strs KP.2.grey)∧Arr W g14 29 [(.int .i64 KP.2.phase),(.slice A6 KP.2.grey.length c6),(.string ⟨KP.2.at_.toArray⟩)]∧w2.heap.size<g14) (fun W=>True) ?_ ?_ (fun wn9 hF _=> ?_)
      ·exact⟨((hB.setCell (p:=⟨g14,0,none⟩) (Nat.le_of_lt hl14) _).setCell (p:=⟨g14,1,none⟩) (Nat.le_of_lt hl14) _).setCell (p:=⟨g14,2,none⟩) (Nat.le_of_lt hl14) _,((hG.other hn14.symm _).other hn14.symm _).other hn14.symm _,ho.set3N (.inr (.inr rfl)) hne.1 hne.2 _ _ _,qx hl hng _ _ _,h14.all3 _ _ _,hl14⟩
      ·trivial
      clear hl14 h14 hl ho hG hB;obtain⟨hB,hG,ho,hl,h14,hl14⟩:=hF;clear hne hng hn14;clear hK K
      try simp only [sqP]
      refine zB (by kernel_rfl) ?_ _;dsimp only [Exit.then];have hall:=And.intro hB (And.intro hG (And.intro ho (And.intro hl (And.intro h14 hl14))));clear hB hG ho hl h14 hl14 hc7;generalize wn9=wz at hall ⊢
      revert hall;revert wz;revert g14;revert c6;revert A6;revert c5;revert A5;revert c7;revert A7;exact REST.out
     exact z6.nil
    exact z6.nil
   exact z6.nil
  exact z6.nil
 refine z6.cons (o:=_) rfl (fun K hK=> ?_) ?_
 ·
  have hba:=(Below.refl wn0.heap.size wn0).alloc (Nat.le_refl _) (.cells #[.int .i64 0,.slice none 0 0,.string ⟨#[]⟩] 29);have h14n:=Arr.new wn0 29 [.int .i64 0,.slice none 0 0,.string ⟨#[]⟩];have hl14n:w2.heap.size<wn0.heap.size:=Nat.lt_of_le_of_lt hg2l hG.lt;obtain⟨g14,hg14⟩:∃g,g=wn0.heap.size:=⟨_,rfl⟩
  rw [←hg14]at h14n hl14n;go_simp;rw [←hg14];have hN8:∀b,b=g14→wn0.heap.size≤b:=fun b h=>by rw [h,hg14];exact Nat.le_refl _
  clear hg14;refine qI hK ?_ (fun W=>Below w2.heap.size w2 W∧Arr W g2 26 [.slice A2 t.blobs.length c2,.slice B2 t.ents.length d2,.int .i64 t.room,.int .i64 t.clock]∧OwSt W w1.heap.size (.slice A2 t.blobs.length c2) (.slice B2 t.ents.length d2) t (fun b=>b<w1.heap.size∨b=g2∨b=g14)∧Arr W g14 29 [.int .i64 0,.slice none 0 0,.string ⟨#[]⟩]∧w2.heap.size<g14) (fun W=>True) ?_ ?_ (fun wn10 hHeld hF _=> ?_)
  ·exact⟨⟨(hG.below hba).cell (k:=0) rfl,(hG.below hba).cell (k:=1) rfl,(hG.below hba).cell (k:=2) rfl,(hG.below hba).cell (k:=3) rfl⟩,(HSX.out _ (hb02.trans ((hB.trans (hba.mono hB.size)).mono hb02.size))).2.1.cell (k:=0) rfl,(HSX.out _ (hb02.trans ((hB.trans (hba.mono hB.size)).mono hb02.size))).2.1.cell (k:=1) rfl,(HSX.out _ (hb02.trans ((hB.trans (hba.mono hB.size)).mono hb02.size))).2.1.cell (k:=2) rfl⟩
  ·exact⟨hB.trans (hba.mono hB.size),hG.below hba,(ho.wider (N':=fun b=>b<w1.heap.size∨b=g2∨b=g14) (fun b hb=>hb.elim (fun h=> .inl (.inl h)) (fun h=>h.elim (fun h=> .inl (.inr h)) (fun h=> .inr (hN8 b h))))).below hba,h14n,hl14n⟩
  ·trivial
  clear ho hG hB;obtain⟨hB,hG,ho,h14,hl14⟩:=hF;clear hba h14n hl14n hN8;clear hK K
  try simp only [sqP]
  refine z7 (rs:= [3]) (by kernel_rfl) (by simp) ?_;refine z6.cons (o:=_) rfl (fun K hK=> ?_) ?_
  ·
   go_simp;refine(HDG.out wn10 (HPR.out _ (hb12.trans (hB.mono hb12.size)))).mono ?_;rintro e5 w5 ⟨v5,rfl,ho5,hb5⟩;obtain⟨A7,c7,rfl,hc7,hr7⟩:=Rd.of_own' ho5;clear ho5;dsimp only;refine qI hK ?_ (fun W=>Below w2.heap.size w2 W∧Arr W g2 26 [.slice A2 t.blobs.length c2,.slice B2 t.ents.length d2,.int .i64 t.room,.int .i64 t.clock]∧OwSt W w1.heap.size (.slice A2 t.blobs.length c2) (.slice B2 t.ents.length d2) t (fun b=>b<w1.heap.size∨b=g2∨b=g14)∧Rd W 1 A7 DS.length (strs DS)∧Arr W g14 29 [.int .i64 0,.slice none 0 0,.string ⟨#[]⟩]∧w2.heap.size<g14) (fun W=>True) ?_ ?_ (fun wn11 hHeld hF _=> ?_)
   ·exact⟨⟨(hG.below hb5).cell (k:=0) rfl,(hG.below hb5).cell (k:=1) rfl,(hG.below hb5).cell (k:=2) rfl,(hG.below hb5).cell (k:=3) rfl⟩,(HSX.out _ (hb02.trans ((hB.trans (hb5.mono hB.size)).mono hb02.size))).2.1.cell (k:=0) rfl,(HSX.out _ (hb02.trans ((hB.trans (hb5.mono hB.size)).mono hb02.size))).2.1.cell (k:=1) rfl,(HSX.out _ (hb02.trans ((hB.trans (hb5.mono hB.size)).mono hb02.size))).2.1.cell (k:=2) rfl⟩
   ·exact⟨hB.trans (hb5.mono hB.size),hG.below hb5,ho.below hb5,hr7,h14.below hb5,hl14⟩
   ·trivial
   clear hl14 h14 ho hG hB;obtain⟨hB,hG,ho,hdg,h14,hl14⟩:=hF;clear hb5 hr7;clear hK K
   try simp only [sqP]
   refine z7 (rs:= [4]) (by kernel_rfl) (by simp) ?_;refine z6.cons (o:=_) rfl (fun K hK=> ?_) ?_
   ·
    go_simp;refine(HKE.out _ wn11 A7 c7 ho (HSX.out _ (hb02.trans (hB.mono hb02.size))).2.2.2.2 hdg hc7 (Nat.le_trans hs2 hB.size) (fun b hb=>hb.elim (fun h=>Nat.lt_of_lt_of_le h (Nat.le_trans hs2 hB.size)) (fun h=>h.elim (fun h=>by rw [h];exact hG.lt) (fun h=>by rw [h];exact h14.lt)))).mono ?_;rintro e5 w5 ⟨v1,v3,rfl,ho5,hl5,hb5⟩;obtain⟨A5,c5,_,_,rfl, -, -⟩:=ho5.rows;obtain⟨A6,c6,rfl, -, -⟩:=Rd.of_own' hl5;dsimp only;refine qI hK ?_ (fun W=>Below w2.heap.size w2 W∧Arr W g2 26 [.slice A2 t.blobs.length c2,.slice B2 t.ents.length d2,.int .i64 t.room,.int .i64 t.clock]∧OwSt W w1.heap.size (.slice A5 KP.1.blobs.length c5) (.slice B2 t.ents.length d2) KP.1 (fun b=>b<w1.heap.size∨b=g2∨b=g14)∧W.ownsRow w1.heap.size 9 1 (.slice A6 KP.2.grey.length c6) KP.2.grey.length (strs KP.2.grey)∧Arr W g14 29 [.int .i64 0,.slice none 0 0,.string ⟨#[]⟩]∧w2.heap.size<g14) (fun W=>True) ?_ ?_ (fun wn12 hHeld hF _=> ?_)
    ·exact⟨⟨(hG.below hb5).cell (k:=0) rfl,(hG.below hb5).cell (k:=1) rfl,(hG.below hb5).cell (k:=2) rfl,(hG.below hb5).cell (k:=3) rfl⟩,(HSX.out _ (hb02.trans ((hB.trans (hb5.mono hB.size)).mono hb02.size))).2.1.cell (k:=0) rfl,(HSX.out _ (hb02.trans ((hB.trans (hb5.mono hB.size)).mono hb02.size))).2.1.cell (k:=1) rfl,(HSX.out _ (hb02.trans ((hB.trans (hb5.mono hB.size)).mono hb02.size))).2.1.cell (k:=2) rfl⟩
    ·exact⟨hB.trans (hb5.mono hB.size),hG.below hb5,ho5,ze hl5 (Nat.le_trans hs2 hB.size),h14.below hb5,hl14⟩
    ·trivial
    clear hl14 h14 hdg ho hG hB;obtain⟨hB,hG,ho,hl,h14,hl14⟩:=hF;clear ho5 hl5 hb5;clear hK K
    try simp only [sqP]
    refine tkP 5 ?_
    try simp only [sqP]
    refine tkP 6 ?_
    try simp only [sqP]
    refine tkP 7 ?_
    try simp only [sqP]
    refine z7 (rs:= [9]) (by kernel_rfl) (by simp) ?_;refine z6.store (o:=_) rfl (by rfl) (fun K hK=> ?_) ?_
    ·
     have hne:=ho.nb hG (by decide) (by decide);have hng:=zg hl hG (by decide);have hn14:g14≠g2:=by have:=HG2E.out;omega
     obtain⟨z0,z1,z2,z3⟩:=sqC4 hG;obtain⟨f0,f1,f2,f3⟩:=sqF4 hG;go_simp;clear z0 z1 z2 z3 f0 f1 f2 f3;refine vY hK (fun W=>Below w2.heap.size w2 W∧Arr W g2 26 [(.slice A5 KP.1.blobs.length c5),(.slice B2 t.ents.length d2),(.int .i64 t.room),(.int .i64 t.clock)]∧OwSt W w1.heap.size (.slice A5 KP.1.blobs.length c5) (.slice B2 t.ents.length d2) KP.1 (fun b=>b<w1.heap.size∨b=g2∨b=g14)∧W.ownsRow w1.heap.size 9 1 (.slice A6 KP.2.grey.length c6) KP.2.grey.length (strs KP.2.grey)∧Arr W g14 29 [.int .i64 0,.slice none 0 0,.string ⟨#[]⟩]∧w2.heap.size<g14) (fun W=>True) ?_ ?_ (fun wn13 hF _=> ?_)
     ·exact⟨(((hB.setCell (p:=⟨g2,0,none⟩) hg2l _).setCell (p:=⟨g2,1,none⟩) hg2l _).setCell (p:=⟨g2,2,none⟩) hg2l _).setCell (p:=⟨g2,3,none⟩) hg2l _,hG.all4 _ _ _ _,ho.set4N (.inr (.inl rfl)) hne.1 hne.2 _ _ _ _,qc hl hng _ _ _ _,h14.other4 hn14 _ _ _ _,hl14⟩
     ·trivial
     clear hl14 h14 hl ho hG hB;obtain⟨hB,hG,ho,hl,h14,hl14⟩:=hF;clear hne hng hn14;clear hK K
     try simp only [sqP]
     refine z7 (rs:= [10]) (by kernel_rfl) (by simp) ?_;refine z6.store (o:=_) rfl (by rfl) (fun K hK=> ?_) ?_
     ·
      have hne:=ho.nb h14 (by decide) (by decide);have hng:=zg hl h14 (by decide);have hn14:g14≠g2:=by have:=HG2E.out;omega
      obtain⟨z0,z1,z2⟩:=sqC3 h14;obtain⟨f0,f1,f2⟩:=sqF3 h14;go_simp;clear z0 z1 z2 f0 f1 f2;refine vY hK (fun W=>Below w2.heap.size w2 W∧Arr W g2 26 [(.slice A5 KP.1.blobs.length c5),(.slice B2 t.ents.length d2),(.int .i64 t.room),(.int .i64 t.clock)]∧OwSt W w1.heap.size (.slice A5 KP.1.blobs.length c5) (.slice B2 t.ents.length d2) KP.1 (fun b=>b<w1.heap.size∨b=g2∨b=g14)∧W.ownsRow w1.heap.size 9 1 (.slice A6 KP.2.grey.length c6) KP.2.grey.length (strs KP.2.grey)∧Arr W g14 29 [(.int .i64 KP.2.phase),(.slice A6 KP.2.grey.length c6),(.string ⟨KP.2.at_.toArray⟩)]∧w2.heap.size<g14) (fun W=>True) ?_ ?_ (fun wn14 hF _=> ?_)
      ·exact⟨((hB.setCell (p:=⟨g14,0,none⟩) (Nat.le_of_lt hl14) _).setCell (p:=⟨g14,1,none⟩) (Nat.le_of_lt hl14) _).setCell (p:=⟨g14,2,none⟩) (Nat.le_of_lt hl14) _,((hG.other hn14.symm _).other hn14.symm _).other hn14.symm _,ho.set3N (.inr (.inr rfl)) hne.1 hne.2 _ _ _,qx hl hng _ _ _,h14.all3 _ _ _,hl14⟩
      ·trivial
      clear hl14 h14 hl ho hG hB;obtain⟨hB,hG,ho,hl,h14,hl14⟩:=hF;clear hne hng hn14;clear hK K
      try simp only [sqP]
      refine zB (by kernel_rfl) ?_ _;dsimp only [Exit.then];have hall:=And.intro hB (And.intro hG (And.intro ho (And.intro hl (And.intro h14 hl14))));clear hB hG ho hl h14 hl14 hc7;generalize wn14=wz at hall ⊢
      revert hall;revert wz;revert g14;revert c6;revert A6;revert c5;revert A5;revert c7;revert A7;exact REST.out
     exact z6.nil
    exact z6.nil
   exact z6.nil
  exact z6.nil
 exact z6.nil;intro A7 c7 A5 c5 A6 c6 g7 w7 hall;obtain⟨hB,hS,ho,hl,h14,hl14⟩:=hall;have hb27:=hb02.trans (hB.mono hb02.size);have hR:=(HSX.out _ hb27).2.2.1;have hQ:=(HSX.out _ hb27).2.2.2.1;have hB:=HBX.out.trans (hb27.mono (show H≤w0.heap.size by omega));have hz2:=HG2E.out;have hH2:H+3<g2:=by omega
 have hH7:H+3<g7:=by omega
 have hg27:g2≠g7:=by omega
 generalize KP.1.blobs.length=n5 at *
 clear hb02 hb12 hb23 hb13 hb27 hG3 ho3 HKE HDG hz2;have hHg:H+2≠H+3:=by omega
 have ho':=(ho.lower (base':=H) (by omega)).mono (N':=fun b=>b<w1.heap.size) (fun b hb=> .inl hb);have HF1:=sqH (zW (g:=H+2) (h:=H+3) (u0:= .slice A5 n5 c5) (u1:= .slice B2 (t).ents.length d2) (u2:= .int .i64 t.room) (u3:= .int .i64 t.clock) (x0:= .int .i64 KP.2.phase) (x1:= .slice A6 KP.2.grey.length c6) (x2:= .string ⟨KP.2.at_.toArray⟩) hR hHg);have HF2:=sqH (zY (g:=H+2) (h:=H+3) (u0:= .slice A5 n5 c5) (u1:= .slice B2 (t).ents.length d2) (u2:= .int .i64 t.room) (u3:= .int .i64 t.clock) (x0:= .int .i64 KP.2.phase) (x1:= .slice A6 KP.2.grey.length c6) (x2:= .string ⟨KP.2.at_.toArray⟩) hQ hHg);have HF3:=sqH (zT (g:=H+2) (h:=H+3) (u0:= .slice A5 n5 c5) (u1:= .slice B2 (t).ents.length d2) (u2:= .int .i64 t.room) (u3:= .int .i64 t.clock) (x0:= .int .i64 KP.2.phase) (x1:= .slice A6 KP.2.grey.length c6) (x2:= .string ⟨KP.2.at_.toArray⟩) ho' (by omega) (by omega) (ho.nb hR (by decide) (by decide)).1 (ho.nb hR (by decide) (by decide)).2 (ho.nb hQ (by decide) (by decide)).1 (ho.nb hQ (by decide) (by decide)).2);have HF4:=sqH (zN (g:=H+2) (h:=H+3) (u0:= .slice A5 n5 c5) (u1:= .slice B2 (t).ents.length d2) (u2:= .int .i64 t.room) (u3:= .int .i64 t.clock) (x0:= .int .i64 KP.2.phase) (x1:= .slice A6 KP.2.grey.length c6) (x2:= .string ⟨KP.2.at_.toArray⟩) hl (zg hl hR (by decide)) (zg hl hQ (by decide)));have HF5:=sqH (zq (g:=H+2) (h:=H+3) (u0:= .slice A5 n5 c5) (u1:= .slice B2 (t).ents.length d2) (u2:= .int .i64 t.room) (u3:= .int .i64 t.clock) (x0:= .int .i64 KP.2.phase) (x1:= .slice A6 KP.2.grey.length c6) (x2:= .string ⟨KP.2.at_.toArray⟩) hB (by omega) (by omega));obtain⟨f0,f1,f2,f3⟩:=sqF4 hR;obtain⟨y0,y1,y2,y3⟩:=sqC4 hR;obtain⟨e0,e1,e2⟩:=sqF3 hQ;obtain⟨x0,x1,x2⟩:=sqC3 hQ;obtain⟨s0,s1,s2,s3⟩:=sqC4 hS;obtain⟨t0,t1,t2⟩:=sqC3 h14;have n1:¬(g2=H+2):=by omega
 have n2:¬(g7=H+2):=by omega
 have n3:¬(g2=H+3):=by omega
 clear hR hQ ho ho' hl hB hS h14
 repeat' ((fail_if_success (with_reducible refine at_reg_ 8 ?_));(fail_if_success (with_reducible refine at_sreg_ 8 ?_));(fail_if_success (with_reducible refine at_ssreg_ 8 ?_));(fail_if_success at_builtin);(fail_if_success at_make);(first | go_values | go_skip | go_guarded | go_step | go_upon | go_back))
 go_region
 all_goals (try dsimp only [Exit.then])
 go_wp2_with fail;refine bodyPost_ret ((zJ rfl) _ _ (H+2) (H+3) _ _ _ _ _ _ _ _ (by rfl) (Arr.drew HF1.out) Tryz.underlying26 rfl (by kernel_rfl) (by rfl) (Arr.drew HF2.out) Tryz.underlying29 rfl (by kernel_rfl)) rfl ?_;have hh:=HH.out;subst hh;rw [←HDS.out,HKP.out];have hq1:w.heap.size≤w1.heap.size:=by omega
 exact⟨_,_,_,rfl,HF3.out.drewX.mono (fun b hb=>Nat.lt_of_lt_of_le hb hq1),ze HF4.out.drew hq1,HF5.out.drew⟩
end Go.Proofs.YtnmlbflhnnmoeaaGreat
