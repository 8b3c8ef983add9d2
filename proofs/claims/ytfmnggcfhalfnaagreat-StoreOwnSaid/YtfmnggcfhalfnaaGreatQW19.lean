/- Lemmas of the proof. Conditions: as stated. -/
import Derived.Test.YtfmnggcfhalfnaaGreatQW12
import Derived.Test.YtfmnggcfhalfnaaGreatQW14
import Derived.Test.YtfmnggcfhalfnaaGreatQW18
set_option linter.unusedVariables false
set_option linter.unusedSimpArgs false
set_option maxRecDepth 100000
set_option maxHeartbeats 16000000
namespace Go.Proofs.YtfmnggcfhalfnaaGreat
open Go.RowKit
theorem jk (A:Option Addr) (n c:Nat) (l:List RawP) (w:World) (hl:l.length=n) (hc:n≤c) (hm:c≤maxLen) (hok:∀r∈l,RawOk r) (hr:Rd w 4 A n (rcs l)) :
  Calls Tryz.prog 4 #[.slice A n c] w fun e w'=>∃v1 v2,e= .returned (.agg #[v1,v2,.int .i64 ((sto l).room:Int),.int .i64 ((sto l).clock:Int)])∧RwO BlobS 32 w' w.heap.size v1 (sto l).blobs∧RwO EntS 35 w' w.heap.size v2 (sto l).ents∧Below w.heap.size w w':=by
 have hn63:n≤9223372036854775807:=by unfold maxLen at hm;omega
 have HOK:=sqH hok;have HL:=sqH hl;clear hok hl hm;obtain⟨W0,hW0,hA0,hB0,hb0⟩:=zB w 28 [.slice none 0 0,.slice none 0 0,.int .i64 0,.int .i64 0] [.slice none 0 0,.slice none 0 0,.int .i64 0,.int .i64 0];obtain⟨H,hH⟩:∃H,H=w.heap.size:=⟨_,rfl⟩
 rw [←hH]at hA0 hB0;have hsz0:W0.heap.size=H+2:=by rw [hW0,hH,World.size_alloc,World.size_alloc]
 have hst0:StW W0 H (.slice none 0 0) (.slice none 0 0) Q3:=⟨hB0,hA0,RwX.nil_ (World.ownsRow_nil _ _ _ _),RwX.nil_ (World.ownsRow_nil _ _ _ _),fun g h=>by cases h⟩
 go_enter Tryz.func4,Tryz.ntmps4
 repeat' (fail_if_success (first|at_builtin|at_make));first|go_values|go_skip|go_guarded|go_step|go_upon|go_back
 rw [←hW0];rw [←hH];clear hW0 hA0 hB0;have hb0':Below H w W0:=by rw [hH];exact hb0
 have HH:=sqH hH;clear hH hb0;go_loopg [4,14] n (fun gn u i wr=>∃(k:Nat) (vb ve:Value),gn=n - k∧i= .int .i64 k∧k≤n∧k≤12∧u= .int .i64 ((kI l k).used:Int)∧StW wr H vb ve (kI l k)∧Below H w wr)
 case atStart=>exact⟨0,_,_,rfl,rfl,by omega,by omega,rfl,hst0,hb0'⟩
 case round =>
  clear hst0 hb0';obtain⟨k,vb,ve,hgk,rfl,hk,hk12,rfl,hst,hbel⟩:=hrel;have HGK:=sqH hgk;clear hgk;by_cases hlt:k<n
  ·have hlb:decide (k<n)=true:=decide_eq_true hlt;have hk0:(0:Int)≤(k:Int):=by omega
   have hk1:(k:Int)<(n:Int):=by omega
   have hkl:k<l.length:=by have:=HL.out;omega
   have hbel':Below w.heap.size w wr:=by rw [←HH.out];exact hbel
   obtain⟨b,off,rfl,hbw,hcell⟩:=(hr.below hbel').2 (by omega);have hat:=fun j (hj:j<4)=>uO l k j hkl hj;have hrok:=HOK.out l[k] (List.getElem_mem hkl);have HSU:=sqH (uc l k hkl);generalize l[k]=r at *
   have c0:=hcell (k*4+0) _ (hat 0 (by omega));have c1:=hcell (k*4+1) _ (hat 1 (by omega));have c2:=hcell (k*4+2) _ (hat 2 (by omega));have c3:=hcell (k*4+3) _ (hat 3 (by omega));obtain⟨rk,ra,rb,rt⟩:=r;have HR:=sqH hrok;clear hat hcell hrok hkl;rw [Nat.add_zero]at c0;rw [show off+(k*4+1)=off+k*4+1 by omega]at c1;rw [show off+(k*4+2)=off+k*4+2 by omega]at c2;rw [show off+(k*4+3)=off+k*4+3 by omega]at c3;by_cases h12:k<12
   ·have h12b:decide ((k:Int)≥12)=false:=decide_eq_false (by omega);have h12c:decide ((12:Int)≤(k:Int))=false:=decide_eq_false (by omega);have HP6:=sqH (fun w'=>zG rk 6 6 rfl w' HR.out.k0 HR.out.k1 (by omega) (by omega));have hp6:=qM rk (m:=6) (by omega);have HK6:=sqH (show ∃q,q=pk rk 6 from⟨_,rfl⟩);have hR6:=Arr.new wr 24 [.int .i64 rk,.int .i64 ra,.int .i64 rb,.string rt];have hba:=(Below.refl wr.heap.size wr).alloc (Nat.le_refl _) (.cells #[.int .i64 rk,.int .i64 ra,.int .i64 rb,.string rt] 24);have hR6':Arr (wr.alloc (.cells #[.int .i64 rk,.int .i64 ra,.int .i64 rb,.string rt] 24)) wr.heap.size 24 [.int .i64 rk,.int .i64 ra,.int .i64 rb,.string rt]:=hR6;have k0:=hR6'.cell (k:=0) rfl;clear hR6
    repeat' (fail_if_success (first|at_builtin|at_make));first|go_values|go_skip|go_guarded|go_step|go_upon|go_back
    clear c0 c1 c2 c3;have hst1:=hst.below hba;have hbel1:=hbel.trans (hba.mono (by rw [HH.out];exact hbel'.size));generalize wr.alloc (.cells #[.int .i64 rk,.int .i64 ra,.int .i64 rb,.string rt] 24)=w1 at *
    generalize wr.heap.size=g6 at *
    clear k0 hst hba hbel hbel' hbw hr;refine(HP6.out w1).mono ?_;rintro e_ _ ⟨rfl,rfl⟩;dsimp only;have HK:=sqH (xj l k);generalize kI l k=s at *
    obtain⟨Ab,cb,rfl,hcb1,hcb2,hRb⟩:=hst1.b.rwo.rows;obtain⟨Ae,ce,rfl,hce1,hce2,hRe⟩:=hst1.e.rwo.rows;have HRB:=sqH hRb;have HRE:=sqH hRe;have HST:=sqH hst1;have HR6:=sqH hR6';have HBL:=sqH hbel1;have hlb24:s.blobs.length≤12:=by have:=HK.out.blen;omega
    have hle24:s.ents.length≤12:=by have:=HK.out.elen;omega
    generalize hq6:pk rk 6=q6 at *
    have HQ6:=sqH hq6;obtain⟨x0,x1,x2,x3⟩:=sqC4 hR6';clear hq6 hR6' hst1 hbel1 hRb hRe HK6;by_cases h4:q6<4
    ·have h4b:decide ((q6:Int)<4)=true:=decide_eq_true (by omega);have h4c:decide (q6<4)=true:=decide_eq_true h4;have HD:=vL ⟨rk,ra,rb,rt⟩ 40 40 rfl (by omega) HR.out w1;unfold Zw at HD;have HD:=sqH HD;have HDL:=sqH (yq ⟨rk,ra,rb,rt⟩ 40)
     repeat' (fail_if_success (first|at_builtin|at_make));first|go_values|go_skip|go_guarded|go_step|go_upon|go_back
     refine HD.out.mono ?_;rintro e_ w2 ⟨A2,c2,rfl,hz2,hb2⟩;dsimp only;by_cases h3:q6=3
     ·have HDT:=sqH (show qm s.blobs ⟨rk,ra,rb,rt⟩=enc (zg s.blobs ⟨rk,ra,rb,rt⟩) by rw [qm,HQ6.out,if_pos h3]);have h3b:((q6:Int)==3)=true:=by rw [beq_iff_eq];omega
      have hst2:=HST.out.below hb2;have s0:=hst2.box.cell (k:=0) rfl;have hR2:=HR6.out.below hb2;obtain⟨y0,y1,y2,y3⟩:=sqC4 hR2;have HPT:=yj Ab cb s.blobs ⟨rk,ra,rb,rt⟩ w2 (by omega) hcb1 hcb2 (fun b hb=>by have:=(HK.out.bone b hb).2.1;omega) (HRB.out.below hb2) HR.out;dsimp only at HPT;have HPT:=sqH HPT;clear h3 hz2 x0 x1 x2 x3
      repeat' (fail_if_success (first|at_builtin|at_make));first|go_values|go_skip|go_guarded|go_step|go_upon|go_back
      refine HPT.out.mono ?_;rintro e_ w3 ⟨v3,rfl,ho3,hb3⟩;dsimp only;obtain⟨A3,c3,rfl,hs3,_⟩:=yi ho3;have hz:=zl (yo HK.out.hex ⟨rk,ra,rb,rt⟩);have HMN:=sqH (xh A3 (zg s.blobs ⟨rk,ra,rb,rt⟩).length c3 (zg s.blobs ⟨rk,ra,rb,rt⟩) w3 rfl (by have:=kA s.blobs ⟨rk,ra,rb,rt⟩;omega) (fun p hp=>hz.2 p hp) hs3.rd);generalize enc (zg s.blobs ⟨rk,ra,rb,rt⟩)=D at *
      generalize (zg s.blobs ⟨rk,ra,rb,rt⟩).length=n3 at *
      clear ho3 hs3 hz
      repeat' (fail_if_success (first|at_builtin|at_make));first|go_values|go_skip|go_guarded|go_step|go_upon|go_back
      refine HMN.out.mono ?_;rintro e_ w4 ⟨A4,c4,rfl,hz4,hb4⟩;dsimp only;have hb13:=hb2.trans (hb3.mono hb2.size);have hb14:=hb13.trans (hb4.mono hb13.size);have hz44:=hz4.lower hb13.size;clear hz4;have hDl:D.length≤148:=by rw [←HDT.out];exact k6 HK.out _
      have HZ:=sqH hz44;have HBD:=sqH hb14;have HDG:=sqH (kj A4 D.length c4 D w4 rfl hz44.cap.1 (by omega) hz44.rd);clear hz44 hb14
      repeat' (fail_if_success (first|at_builtin|at_make));first|go_values|go_skip|go_guarded|go_step|go_upon|go_back
      refine HDG.out.mono ?_;rintro e_ w5 ⟨rfl,hb5⟩;dsimp only;have hb15:=HBD.out.trans (hb5.mono HBD.out.size);have hz5:=HZ.out.below hb5;obtain⟨sd,hsd⟩:∃sd:ByteArray,sd=⟨(shaS D).toArray⟩:=⟨_,rfl⟩
      rw [←hsd];have HSD:=sqH hsd;clear hsd;have h9:=Arr.new w5 9 [.string sd];have hb6:=(Below.refl w5.heap.size w5).alloc (Nat.le_refl _) (.cells #[.string sd] 9);have h9':Arr (w5.alloc (.cells #[.string sd] 9)) w5.heap.size 9 [.string sd]:=h9;have hb16:=hb15.trans (hb6.mono hb15.size);have hz6:=hz5.below hb6;have hg9:w1.heap.size≤w5.heap.size:=hb15.size;have hst6:=HST.out.below hb16;have s0:=hst6.box.cell (k:=0) rfl;clear h9 HZ hz5 hb5 hb6 hb15
      repeat' (fail_if_success (first|at_builtin|at_make));first|go_values|go_skip|go_guarded|go_step|go_upon|go_back
      generalize w5.alloc (.cells #[.string sd] 9)=w6 at *
      generalize w5.heap.size=g9 at *
      have hd9:=h9'.cell (k:=0) rfl;have HCN:=sqH (vK Ab cb s.blobs _ (.pointer (some ⟨g9,0,none⟩)) (fun b=>b.dig==shaS D) w6 (by omega) (HRB.out.below hb16) (kM g9 (shaS D) s.blobs w6 (by rw [hd9,HSD.out]) h9'.lt));have H9:=sqH h9';have HZ6:=sqH hz6;have HB16:=sqH hb16;have HST6:=sqH hst6;clear h9' hz6 hb16 hst6 s0 hd9;refine HCN.out.mono ?_;rintro e_ w7 ⟨rfl,hb7⟩;dsimp only;cases hany:s.blobs.any (fun b=>b.dig==shaS D) with
      | true =>
       have HSS:=sqH (show kI l (k+1)=s by rw [HSU.out,zO,HQ6.out,if_pos h4,HDT.out,if_pos hany]);have hst7:=HST6.out.below hb7;have hb17:=HB16.out.trans (hb7.mono HB16.out.size);clear hany hb7
       repeat' (fail_if_success (first|at_builtin|at_make));first|go_values|go_skip|go_guarded|go_step|go_upon|go_back
       go_roundg (n - (k+1))
       case measure=>have:=HGK.out;omega
       case rel=>exact⟨k+1,_,_,rfl,by go_num,by omega,by omega,by rw [HSS.out],by rw [HSS.out];exact hst7,HBL.out.trans (hb17.mono (by have:=HST.out.lt;omega))⟩
      | false =>
       have HSS:=sqH (show kI l (k+1)= { s with blobs:=s.blobs++ [kD s.blobs ⟨rk,ra,rb,rt⟩],used:=s.used+D.length } by rw [HSU.out,zO,HQ6.out,if_pos h4,HDT.out,if_neg (by rw [hany];simp)]);have hst7:=HST6.out.below hb7;have hb17:=HB16.out.trans (hb7.mono HB16.out.size);have hz7:=HZ6.out.below hb7;have h97:=H9.out.below hb7;have hR7:=HR6.out.below hb17;clear hany hb7;have HP5:=sqH (fun w'=>zG rb 5 5 rfl w' HR.out.b0 HR.out.b1 (by omega) (by omega));have hp5:=qM rb (m:=5) (by omega);have HS2:=sqH (show kD s.blobs ⟨rk,ra,rb,rt⟩=⟨shaS D,D,pk rb 5 - 3,false⟩ by rw [kD,HDT.out]);generalize pk rb 5=q5 at *
       have hw5:IntKind.i64.wrap ((q5:Int) - 3)=(q5:Int) - 3:=IntWalk.i64_in _ (by omega);have hm5:max (0:Int) ((q5:Int) - 3)=((q5 - 3:Nat):Int):=by omega
       obtain⟨xs,hxs,hop⟩:=HST.out.openB;have hxs7:=zb hxs hb17;have HLT:=sqH (show H+2≤w7.heap.size∧H≤w1.heap.size from⟨by have:=HST.out.lt;have:=hb17.size;omega,by have:=HST.out.lt;omega⟩);have HNE:=sqH (And.intro (q8 hxs7 hst7.box (by decide)) (And.intro (q8 hxs7 h97 (by decide)) (q8 hxs7 hR7 (by decide))));have HBB:=sqH HST.out.bB;have HZ7:=sqH hz7.sl;have HCL:=sqH (show zi ⟨shaS D,D,q5 - 3,false⟩ A4 c4= [.string sd,.slice A4 D.length c4,.int .i64 ((q5 - 3:Nat):Int),.bool false] by rw [HSD.out];rfl);have HSB:=sqH (show ∀w',Below w7.heap.size w7 w'→(w'.cell? ⟨H+1,0,none⟩=some (.slice Ab s.blobs.length cb)∧w'.cell? ⟨g9,0,none⟩=some (.string sd)∧w'.cell? ⟨g6,2,none⟩=some (.int .i64 rb)) from
        fun w' hb=>⟨(hst7.box.below hb).cell (k:=0) rfl,(h97.below hb).cell (k:=0) rfl,(hR7.below hb).cell (k:=2) rfl⟩)
       have HOP:=sqH hop;have HXS:=sqH hxs7;have HB17:=sqH hb17;clear hst7 hb17 hz7 h97 hR7 hxs hxs7 hop
       repeat' (fail_if_success (first|at_builtin|at_make));first|go_values|go_skip|go_guarded|go_step|go_upon|go_back
       refine zj 13 (S:=(fun w'=>w'.cell? ⟨H+1,0,none⟩=some (.slice Ab s.blobs.length cb)∧w'.cell? ⟨g9,0,none⟩=some (.string sd)∧w'.cell? ⟨g6,2,none⟩=some (.int .i64 rb))) (by kernel_rfl) ?_ (fun hHeld=> ?_)
       ·exact HSB.out _ (Below.refl _ w7).drew
       have hB:=(Below.refl w7.heap.size w7).drew;generalize w7.drew=wn0 at *
       refine sqTT 0 ?_;try simp only [sqP]
       refine sqTT 1 ?_;try simp only [sqP]
       refine sqTT 2 ?_;try simp only [sqP]
       refine sqTT 3 ?_;try simp only [sqP]
       refine sqTT 4 ?_;try simp only [sqP]
       refine sqTT 5 ?_;try simp only [sqP]
       refine za (rs:= [6]) (by kernel_rfl) (by simp) ?_;refine z6.cons (o:=_) rfl (fun K hK=> ?_) ?_
       ·
        go_simp;refine(HP5.out wn0).mono ?_;rintro e6 wp6 ⟨rfl,rfl⟩;dsimp only;refine uI hK ?_ (Below wn0.heap.size wn0) (fun W=>True) ?_ ?_ (fun wn1 hHeld hst hnew=> ?_)
        ·(exact HSB.out _ (hB.trans (Below.mono (show Below wn0.heap.size wn0 _ from by(first | exact(Below.refl _ _).alloc (Nat.le_refl _) _ | exact Below.refl _ _)) hB.size)))
        ·(first | exact(Below.refl _ _).alloc (Nat.le_refl _) _ | exact Below.refl _ _)
        ·(trivial)
        have hB:=hB.trans (hst.mono hB.size);clear hst;clear hK K
        try simp only [sqP]
        refine sqTT 7 ?_;try simp only [sqP]
        refine sqTT 8 ?_;try simp only [sqP]
        refine sqTT 9 ?_;try simp only [sqP]
        refine za (rs:= [10]) (by kernel_rfl) (by simp) ?_;refine z6.cons (o:=_) rfl (fun K hK=> ?_) ?_
        ·
         go_simp;refine uI hK ?_ (Below wn1.heap.size wn1) (fun W=>Rd W 4 (some ⟨wn1.heap.size,0,none⟩) 1 (zi ⟨shaS D,D,q5 - 3,false⟩ A4 c4)) ?_ ?_ (fun wn2 hHeld hst hnew=> ?_)
         ·(exact HSB.out _ (hB.trans (Below.mono (show Below wn1.heap.size wn1 _ from by(first | exact(Below.refl _ _).alloc (Nat.le_refl _) _ | exact Below.refl _ _)) hB.size)))
         ·(first | exact(Below.refl _ _).alloc (Nat.le_refl _) _ | exact Below.refl _ _)
         ·(rw [HCL.out];exact Rd.newN [.string sd,.slice A4 D.length c4,.int .i64 ((q5 - 3:Nat):Int),.bool false] rfl)
         have hB:=hB.trans (hst.mono hB.size);have h10:=hnew;clear hst;clear hK K
         try simp only [sqP]
         refine za (rs:= [11]) (by kernel_rfl) (by simp) ?_;refine z6.cons (o:=_) rfl (fun K hK=> ?_) ?_
         ·
          refine yz rfl (.tmp 78) (.tmp 87) rfl kv (by rfl) (zb HXS.out hB) (by rfl) h10 (yn _ _ _) (by omega) (by have:=hB.size;have:=HLT.out;omega) ?_;intro v8 w8 ho8 hg8 hv8;obtain⟨A8,c8,rfl,_,_⟩:=Rd.of_own' ho8;refine uI hK ?_ (fun W=>Arr W (H+1) 28 [.slice Ab s.blobs.length cb,.slice Ae s.ents.length ce,.int .i64 0,.int .i64 s.clock]∧StW (W.setCell ⟨H+1,0,none⟩ (.slice A8 (s.blobs.length+1) c8)) H (.slice A8 (s.blobs.length+1) c8) (.slice Ae s.ents.length ce) { s with blobs:=s.blobs++ [⟨shaS D,D,q5 - 3,false⟩],used:=s.used+D.length }) (Below H w) ?_ ?_ (fun wn3 hHeld hF hG=> ?_)
          ·have h0:=HSB.out _ hB;exact⟨hg8.cell h0.1 (fun e=>HNE.out.1 e.symm),hg8.cell h0.2.1 (fun e=>HNE.out.2.1 e.symm),hg8.cell h0.2.2 (fun e=>HNE.out.2.2 e.symm)⟩
          ·exact HOP.out _ A4 c4 _ wn2 w8 _ (HB17.out.trans (hB.mono HB17.out.size)) (HZ7.out.1.below hB) HZ7.out.2 ho8 hg8 hv8
          ·exact(HBL.out.trans ((HB17.out.trans (hB.mono HB17.out.size)).mono HLT.out.2)).grown hg8 (by have:=hB.size;have:=HLT.out;omega) (fun k hk=>by have:=(HBB.out k hk).1;omega)
          clear hK K
          try simp only [sqP]
          refine sqTT 12 ?_;try simp only [sqP]
          refine za (rs:= [13]) (by kernel_rfl) (by simp) ?_;refine z6.last (o:=_) rfl (fun K hK=> ?_);have q13:=hF.1.frozen 0;go_simp;refine Q2 hK ?_;clear hK K
          try simp only [sqP]
          refine q4 (by kernel_rfl) ?_ _;dsimp only [Exit.then];obtain⟨hF1,hF2⟩:=hF;have hbe:=hG.setCell (p:=⟨H+1,0,none⟩) (by show H≤H+1;omega) (.slice A8 (s.blobs.length+1) c8);clear hHeld hB hG hF1;generalize wn3.setCell ⟨H+1,0,none⟩ (.slice A8 (s.blobs.length+1) c8)=wz at *
          have hub:s.used≤1776:=by have:=HK.out.usedk;omega
          repeat' (fail_if_success (first|at_builtin|at_make));first|go_values|go_skip|go_guarded|go_step|go_upon|go_back
          go_roundg (n - (k+1))
          case measure=>have:=HGK.out;omega
          case rel =>
           refine⟨k+1,(.slice A8 (s.blobs.length+1) c8),(.slice Ae s.ents.length ce),rfl,by go_num,by omega,by omega,?_,?_,hbe⟩
           ·rw [HSS.out];go_num
           ·rw [HSS.out,HS2.out];exact hF2
         exact z6.nil
        exact z6.nil
       exact z6.nil
     ·have HDT:=sqH (show qm s.blobs ⟨rk,ra,rb,rt⟩=js ⟨rk,ra,rb,rt⟩ 40 by rw [qm,HQ6.out,if_neg h3]);have h3b:((q6:Int)==3)=false:=by rw [beq_eq_false_iff_ne];omega
      clear h3 x0 x1 x2 x3;generalize js ⟨rk,ra,rb,rt⟩ 40=D at *
      have hDl:D.length≤148:=by rw [←HDT.out];exact k6 HK.out _
      have HZ:=sqH hz2;have HBD:=sqH hb2;have HDG:=sqH (kj A2 D.length c2 D w2 rfl hz2.cap.1 (by omega) hz2.rd);clear hz2 hb2
      repeat' (fail_if_success (first|at_builtin|at_make));first|go_values|go_skip|go_guarded|go_step|go_upon|go_back
      refine HDG.out.mono ?_;rintro e_ w5 ⟨rfl,hb5⟩;dsimp only;have hb15:=HBD.out.trans (hb5.mono HBD.out.size);have hz5:=HZ.out.below hb5;obtain⟨sd,hsd⟩:∃sd:ByteArray,sd=⟨(shaS D).toArray⟩:=⟨_,rfl⟩
      rw [←hsd];have HSD:=sqH hsd;clear hsd;have h9:=Arr.new w5 9 [.string sd];have hb6:=(Below.refl w5.heap.size w5).alloc (Nat.le_refl _) (.cells #[.string sd] 9);have h9':Arr (w5.alloc (.cells #[.string sd] 9)) w5.heap.size 9 [.string sd]:=h9;have hb16:=hb15.trans (hb6.mono hb15.size);have hz6:=hz5.below hb6;have hg9:w1.heap.size≤w5.heap.size:=hb15.size;have hst6:=HST.out.below hb16;have s0:=hst6.box.cell (k:=0) rfl;clear h9 HZ hz5 hb5 hb6 hb15
      repeat' (fail_if_success (first|at_builtin|at_make));first|go_values|go_skip|go_guarded|go_step|go_upon|go_back
      generalize w5.alloc (.cells #[.string sd] 9)=w6 at *
      generalize w5.heap.size=g9 at *
      have hd9:=h9'.cell (k:=0) rfl;have HCN:=sqH (vK Ab cb s.blobs _ (.pointer (some ⟨g9,0,none⟩)) (fun b=>b.dig==shaS D) w6 (by omega) (HRB.out.below hb16) (kM g9 (shaS D) s.blobs w6 (by rw [hd9,HSD.out]) h9'.lt));have H9:=sqH h9';have HZ6:=sqH hz6;have HB16:=sqH hb16;have HST6:=sqH hst6;clear h9' hz6 hb16 hst6 s0 hd9;refine HCN.out.mono ?_;rintro e_ w7 ⟨rfl,hb7⟩;dsimp only;cases hany:s.blobs.any (fun b=>b.dig==shaS D) with
      | true =>
       have HSS:=sqH (show kI l (k+1)=s by rw [HSU.out,zO,HQ6.out,if_pos h4,HDT.out,if_pos hany]);have hst7:=HST6.out.below hb7;have hb17:=HB16.out.trans (hb7.mono HB16.out.size);clear hany hb7
       repeat' (fail_if_success (first|at_builtin|at_make));first|go_values|go_skip|go_guarded|go_step|go_upon|go_back
       go_roundg (n - (k+1))
       case measure=>have:=HGK.out;omega
       case rel=>exact⟨k+1,_,_,rfl,by go_num,by omega,by omega,by rw [HSS.out],by rw [HSS.out];exact hst7,HBL.out.trans (hb17.mono (by have:=HST.out.lt;omega))⟩
      | false =>
       have HSS:=sqH (show kI l (k+1)= { s with blobs:=s.blobs++ [kD s.blobs ⟨rk,ra,rb,rt⟩],used:=s.used+D.length } by rw [HSU.out,zO,HQ6.out,if_pos h4,HDT.out,if_neg (by rw [hany];simp)]);have hst7:=HST6.out.below hb7;have hb17:=HB16.out.trans (hb7.mono HB16.out.size);have hz7:=HZ6.out.below hb7;have h97:=H9.out.below hb7;have hR7:=HR6.out.below hb17;clear hany hb7;have HP5:=sqH (fun w'=>zG rb 5 5 rfl w' HR.out.b0 HR.out.b1 (by omega) (by omega));have hp5:=qM rb (m:=5) (by omega);have HS2:=sqH (show kD s.blobs ⟨rk,ra,rb,rt⟩=⟨shaS D,D,pk rb 5 - 3,false⟩ by rw [kD,HDT.out]);generalize pk rb 5=q5 at *
       have hw5:IntKind.i64.wrap ((q5:Int) - 3)=(q5:Int) - 3:=IntWalk.i64_in _ (by omega);have hm5:max (0:Int) ((q5:Int) - 3)=((q5 - 3:Nat):Int):=by omega
       obtain⟨xs,hxs,hop⟩:=HST.out.openB;have hxs7:=zb hxs hb17;have HLT:=sqH (show H+2≤w7.heap.size∧H≤w1.heap.size from⟨by have:=HST.out.lt;have:=hb17.size;omega,by have:=HST.out.lt;omega⟩);have HNE:=sqH (And.intro (q8 hxs7 hst7.box (by decide)) (And.intro (q8 hxs7 h97 (by decide)) (q8 hxs7 hR7 (by decide))));have HBB:=sqH HST.out.bB;have HZ7:=sqH hz7.sl;have HCL:=sqH (show zi ⟨shaS D,D,q5 - 3,false⟩ A2 c2= [.string sd,.slice A2 D.length c2,.int .i64 ((q5 - 3:Nat):Int),.bool false] by rw [HSD.out];rfl);have HSB:=sqH (show ∀w',Below w7.heap.size w7 w'→(w'.cell? ⟨H+1,0,none⟩=some (.slice Ab s.blobs.length cb)∧w'.cell? ⟨g9,0,none⟩=some (.string sd)∧w'.cell? ⟨g6,2,none⟩=some (.int .i64 rb)) from
        fun w' hb=>⟨(hst7.box.below hb).cell (k:=0) rfl,(h97.below hb).cell (k:=0) rfl,(hR7.below hb).cell (k:=2) rfl⟩)
       have HOP:=sqH hop;have HXS:=sqH hxs7;have HB17:=sqH hb17;clear hst7 hb17 hz7 h97 hR7 hxs hxs7 hop
       repeat' (fail_if_success (first|at_builtin|at_make));first|go_values|go_skip|go_guarded|go_step|go_upon|go_back
       refine zj 13 (S:=(fun w'=>w'.cell? ⟨H+1,0,none⟩=some (.slice Ab s.blobs.length cb)∧w'.cell? ⟨g9,0,none⟩=some (.string sd)∧w'.cell? ⟨g6,2,none⟩=some (.int .i64 rb))) (by kernel_rfl) ?_ (fun hHeld=> ?_)
       ·exact HSB.out _ (Below.refl _ w7).drew
       have hB:=(Below.refl w7.heap.size w7).drew;generalize w7.drew=wn0 at *
       refine sqTT 0 ?_;try simp only [sqP]
       refine sqTT 1 ?_;try simp only [sqP]
       refine sqTT 2 ?_;try simp only [sqP]
       refine sqTT 3 ?_;try simp only [sqP]
       refine sqTT 4 ?_;try simp only [sqP]
       refine sqTT 5 ?_;try simp only [sqP]
       refine za (rs:= [6]) (by kernel_rfl) (by simp) ?_;refine z6.cons (o:=_) rfl (fun K hK=> ?_) ?_
       ·
        go_simp;refine(HP5.out wn0).mono ?_;rintro e6 wp6 ⟨rfl,rfl⟩;dsimp only;refine uI hK ?_ (Below wn0.heap.size wn0) (fun W=>True) ?_ ?_ (fun wn1 hHeld hst hnew=> ?_)
        ·(exact HSB.out _ (hB.trans (Below.mono (show Below wn0.heap.size wn0 _ from by(first | exact(Below.refl _ _).alloc (Nat.le_refl _) _ | exact Below.refl _ _)) hB.size)))
        ·(first | exact(Below.refl _ _).alloc (Nat.le_refl _) _ | exact Below.refl _ _)
        ·(trivial)
        have hB:=hB.trans (hst.mono hB.size);clear hst;clear hK K
        try simp only [sqP]
        refine sqTT 7 ?_;try simp only [sqP]
        refine sqTT 8 ?_;try simp only [sqP]
        refine sqTT 9 ?_;try simp only [sqP]
        refine za (rs:= [10]) (by kernel_rfl) (by simp) ?_;refine z6.cons (o:=_) rfl (fun K hK=> ?_) ?_
        ·
         go_simp;refine uI hK ?_ (Below wn1.heap.size wn1) (fun W=>Rd W 4 (some ⟨wn1.heap.size,0,none⟩) 1 (zi ⟨shaS D,D,q5 - 3,false⟩ A2 c2)) ?_ ?_ (fun wn2 hHeld hst hnew=> ?_)
         ·(exact HSB.out _ (hB.trans (Below.mono (show Below wn1.heap.size wn1 _ from by(first | exact(Below.refl _ _).alloc (Nat.le_refl _) _ | exact Below.refl _ _)) hB.size)))
         ·(first | exact(Below.refl _ _).alloc (Nat.le_refl _) _ | exact Below.refl _ _)
         ·(rw [HCL.out];exact Rd.newN [.string sd,.slice A2 D.length c2,.int .i64 ((q5 - 3:Nat):Int),.bool false] rfl)
         have hB:=hB.trans (hst.mono hB.size);have h10:=hnew;clear hst;clear hK K
         try simp only [sqP]
         refine za (rs:= [11]) (by kernel_rfl) (by simp) ?_;refine z6.cons (o:=_) rfl (fun K hK=> ?_) ?_
         ·
          refine yz rfl (.tmp 78) (.tmp 87) rfl kv (by rfl) (zb HXS.out hB) (by rfl) h10 (yn _ _ _) (by omega) (by have:=hB.size;have:=HLT.out;omega) ?_;intro v8 w8 ho8 hg8 hv8;obtain⟨A8,c8,rfl,_,_⟩:=Rd.of_own' ho8;refine uI hK ?_ (fun W=>Arr W (H+1) 28 [.slice Ab s.blobs.length cb,.slice Ae s.ents.length ce,.int .i64 0,.int .i64 s.clock]∧StW (W.setCell ⟨H+1,0,none⟩ (.slice A8 (s.blobs.length+1) c8)) H (.slice A8 (s.blobs.length+1) c8) (.slice Ae s.ents.length ce) { s with blobs:=s.blobs++ [⟨shaS D,D,q5 - 3,false⟩],used:=s.used+D.length }) (Below H w) ?_ ?_ (fun wn3 hHeld hF hG=> ?_)
          ·have h0:=HSB.out _ hB;exact⟨hg8.cell h0.1 (fun e=>HNE.out.1 e.symm),hg8.cell h0.2.1 (fun e=>HNE.out.2.1 e.symm),hg8.cell h0.2.2 (fun e=>HNE.out.2.2 e.symm)⟩
          ·exact HOP.out _ A2 c2 _ wn2 w8 _ (HB17.out.trans (hB.mono HB17.out.size)) (HZ7.out.1.below hB) HZ7.out.2 ho8 hg8 hv8
          ·exact(HBL.out.trans ((HB17.out.trans (hB.mono HB17.out.size)).mono HLT.out.2)).grown hg8 (by have:=hB.size;have:=HLT.out;omega) (fun k hk=>by have:=(HBB.out k hk).1;omega)
          clear hK K
          try simp only [sqP]
          refine sqTT 12 ?_;try simp only [sqP]
          refine za (rs:= [13]) (by kernel_rfl) (by simp) ?_;refine z6.last (o:=_) rfl (fun K hK=> ?_);have q13:=hF.1.frozen 0;go_simp;refine Q2 hK ?_;clear hK K
          try simp only [sqP]
          refine q4 (by kernel_rfl) ?_ _;dsimp only [Exit.then];obtain⟨hF1,hF2⟩:=hF;have hbe:=hG.setCell (p:=⟨H+1,0,none⟩) (by show H≤H+1;omega) (.slice A8 (s.blobs.length+1) c8);clear hHeld hB hG hF1;generalize wn3.setCell ⟨H+1,0,none⟩ (.slice A8 (s.blobs.length+1) c8)=wz at *
          have hub:s.used≤1776:=by have:=HK.out.usedk;omega
          repeat' (fail_if_success (first|at_builtin|at_make));first|go_values|go_skip|go_guarded|go_step|go_upon|go_back
          go_roundg (n - (k+1))
          case measure=>have:=HGK.out;omega
          case rel =>
           refine⟨k+1,(.slice A8 (s.blobs.length+1) c8),(.slice Ae s.ents.length ce),rfl,by go_num,by omega,by omega,?_,?_,hbe⟩
           ·rw [HSS.out];go_num
           ·rw [HSS.out,HS2.out];exact hF2
         exact z6.nil
        exact z6.nil
       exact z6.nil
    ·have h4b:decide ((q6:Int)<4)=false:=decide_eq_false (by omega);have h4c:decide (q6<4)=false:=decide_eq_false h4;have HKY:=sqH (vT ra w1 HR.out.a0 HR.out.a1);have hp3:=qM rb (m:=3) (by omega);have HP3:=sqH (fun w'=>zG rb 3 3 rfl w' HR.out.b0 HR.out.b1 (by omega) (by omega));have hck:s.clock≤24:=by have:=HK.out.clock;omega
     have HSN:=sqH (show zO s ⟨rk,ra,rb,rt⟩=if s.ents.any (fun x=>x.key==keyS (pk ra 7)) then { s with clock:=s.clock+pk rb 3 } else { s with clock:=s.clock+pk rb 3,ents:=s.ents++ [jG s.blobs (s.clock+pk rb 3) ⟨rk,ra,rb,rt⟩] } by rw [zO,HQ6.out,if_neg h4]);have HQ3:=sqH (show ∃q,q=pk rb 3 from⟨_,rfl⟩);generalize pk rb 3=q3 at *
     generalize hq7:pk ra 7=q7 at *
     have HQ7:=sqH hq7;clear hq7
     repeat' (fail_if_success (first|at_builtin|at_make));first|go_values|go_skip|go_guarded|go_step|go_upon|go_back
     refine HKY.out.mono ?_;rintro e_ w2 ⟨rfl,hb2⟩;dsimp only;obtain⟨sk,hsk⟩:∃sk:ByteArray,sk=⟨(keyS q7).toArray⟩:=⟨_,rfl⟩
     rw [←hsk];have HSK:=sqH hsk;clear hsk;have h10:=Arr.new w2 9 [.string sk];have hb3:=hb2.alloc hb2.size (.cells #[.string sk] 9);have h10':Arr (w2.alloc (.cells #[.string sk] 9)) w2.heap.size 9 [.string sk]:=h10;have hst3:=HST.out.below hb3;have hR3:=HR6.out.below hb3;clear h10 x0 x1 x2 x3 hb2;have u0:=hst3.box.cell (k:=3) rfl
     repeat' (fail_if_success (first|at_builtin|at_make));first|go_values|go_skip|go_guarded|go_step|go_upon|go_back
     generalize w2.alloc (.cells #[.string sk] 9)=w3 at *
     generalize w2.heap.size=g10 at *
     clear u0;have HNE:=sqH (And.intro (jP h10' hst3.box (by decide)) (jP hR3 hst3.box (by decide)));have HSB9:=sqH (show ∀w',Below w3.heap.size w3 w'→(w'.cell? ⟨H+1,3,none⟩=some (.int .i64 s.clock)∧w'.cell? ⟨g6,2,none⟩=some (.int .i64 rb)) from fun w' hb=>⟨(hst3.box.below hb).cell (k:=3) rfl,(hR3.below hb).cell (k:=2) rfl⟩);have HB13:=sqH (HBL.out.trans (hb3.mono (show H≤w1.heap.size by have:=HST.out.lt;omega)));have HST3:=sqH hst3;have H10:=sqH h10';have HR63:=sqH hR3;clear hst3 h10' hR3 hb3;refine zj 7 (S:=(fun w'=>w'.cell? ⟨H+1,3,none⟩=some (.int .i64 s.clock)∧w'.cell? ⟨g6,2,none⟩=some (.int .i64 rb))) (by kernel_rfl) ?_ (fun hHeld=> ?_)
     ·exact HSB9.out _ (Below.refl _ w3).drew
     have hB:=(Below.refl w3.heap.size w3).drew;generalize w3.drew=wn0 at *
     refine sqTT 0 ?_;try simp only [sqP]
     refine sqTT 1 ?_;try simp only [sqP]
     refine sqTT 2 ?_;try simp only [sqP]
     refine sqTT 3 ?_;try simp only [sqP]
     refine za (rs:= [4]) (by kernel_rfl) (by simp) ?_;refine z6.cons (o:=_) rfl (fun K hK=> ?_) ?_
     ·
      go_simp;refine(HP3.out wn0).mono ?_;rintro e6 wp6 ⟨rfl,rfl⟩;dsimp only;refine uI hK ?_ (Below wn0.heap.size wn0) (fun W=>True) ?_ ?_ (fun wn1 hHeld hst hnew=> ?_)
      ·(exact HSB9.out _ hB)
      ·(exact Below.refl _ _)
      ·(trivial)
      have hB:=hB.trans (hst.mono hB.size);clear hst;clear hK K
      try simp only [sqP]
      refine sqTT 5 ?_;try simp only [sqP]
      refine sqTT 6 ?_;try simp only [sqP]
      refine za (rs:= [7]) (by kernel_rfl) (by simp) ?_;refine z6.last (o:=_) rfl (fun K hK=> ?_);have fz7:=(HST3.out.below hB).box.frozen 3;have cz7:=hHeld.1;go_simp;refine Q2 hK ?_;clear hK K
      try simp only [sqP]
      refine q4 (by kernel_rfl) ?_ _;dsimp only [Exit.then];have hst4:=(HST3.out.below hB).tick (s.clock+q3);have hsum:IntKind.i64.wrap ((s.clock:Int)+(q3:Int))=((s.clock+q3:Nat):Int):=by rw [IntWalk.i64_in _ (by omega)];omega
      rw [hsum];have hb14:=(HB13.out.trans (hB.mono (show H≤w3.heap.size by have:=HST3.out.lt;omega))).setCell (p:=⟨H+1,3,none⟩) (by show H≤H+1;omega) (.int .i64 ((s.clock+q3:Nat):Int));have h10':=(H10.out.below hB).other (g':=H+1) (k:=3) (fun e=>HNE.out.1 e) (.int .i64 ((s.clock+q3:Nat):Int));have hR6':=(HR63.out.below hB).other (g':=H+1) (k:=3) (fun e=>HNE.out.2 e) (.int .i64 ((s.clock+q3:Nat):Int));clear hHeld hB hsum;generalize wn1.setCell ⟨H+1,3,none⟩ (.int .i64 ((s.clock+q3:Nat):Int))=w4 at *
      have hhb4:=hst4.b.rwo;have HSB10:=sqH (show ∀w',Below w4.heap.size w4 w'→((w'.cell? ⟨g10,0,none⟩=some (.string sk)∧w'.cell? ⟨H+1,0,none⟩=some (.slice Ab s.blobs.length cb)∧w'.cell? ⟨H+1,3,none⟩=some (.int .i64 ((s.clock+q3:Nat):Int)))∧(w'.cell? ⟨g6,0,none⟩=some (.int .i64 rk)∧w'.cell? ⟨g6,1,none⟩=some (.int .i64 ra)∧w'.cell? ⟨g6,2,none⟩=some (.int .i64 rb)∧w'.cell? ⟨g6,3,none⟩=some (.string rt))) from
       fun w' hb=>⟨⟨(h10'.below hb).cell (k:=0) rfl,(hst4.box.below hb).cell (k:=0) rfl,(hst4.box.below hb).cell (k:=3) rfl⟩,(hR6'.below hb).cell (k:=0) rfl,(hR6'.below hb).cell (k:=1) rfl,(hR6'.below hb).cell (k:=2) rfl,(hR6'.below hb).cell (k:=3) rfl⟩)
      have HRB4:=sqH (show Rw BlobS w4 Ab s.blobs by
       obtain⟨A',c',e1,_,_,h⟩:=hhb4.rows;cases e1;exact h)
      have HPT:=fun w' (hb:Below w4.heap.size w4 w')=>yj Ab cb s.blobs ⟨rk,ra,rb,rt⟩ w' (by omega) hcb1 hcb2 (fun b hb=>by have:=(HK.out.bone b hb).2.1;omega) (HRB4.out.below hb) HR.out;dsimp only at HPT;have HPT:=sqH HPT;have HP5:=sqH (fun w'=>zG rb 5 5 rfl w' HR.out.b0 HR.out.b1 (by omega) (by omega));have hp5:=qM rb (m:=5) (by omega);have HQ5:=sqH (show ∃q,q=pk rb 5 from⟨_,rfl⟩);have HSE:=sqH (show ∀c,jG s.blobs c ⟨rk,ra,rb,rt⟩=⟨keyS q7,zg s.blobs ⟨rk,ra,rb,rt⟩,pk rb 5 - 3,c⟩ by intro c;rw [jG,HQ7.out]);generalize pk rb 5=q5 at *
      have hw5:IntKind.i64.wrap ((q5:Int) - 3)=(q5:Int) - 3:=IntWalk.i64_in _ (by omega);have hm5:max (0:Int) ((q5:Int) - 3)=((q5 - 3:Nat):Int):=by omega
      have HST4:=sqH hst4;have H104:=sqH h10';have HB14:=sqH hb14;clear hst4 h10' hR6' hb14 hhb4 HQ5;generalize hckk:s.clock+q3=ck at *
      have HCK:=sqH hckk;clear hckk
      repeat' (fail_if_success (first|at_builtin|at_make));first|go_values|go_skip|go_guarded|go_step|go_upon|go_back
      refine wp_region_held_drew (S:=(fun w'=>(w'.cell? ⟨g10,0,none⟩=some (.string sk)∧w'.cell? ⟨H+1,0,none⟩=some (.slice Ab s.blobs.length cb)∧w'.cell? ⟨H+1,3,none⟩=some (.int .i64 ck))∧(w'.cell? ⟨g6,0,none⟩=some (.int .i64 rk)∧w'.cell? ⟨g6,1,none⟩=some (.int .i64 ra)∧w'.cell? ⟨g6,2,none⟩=some (.int .i64 rb)∧w'.cell? ⟨g6,3,none⟩=some (.string rt)))) (by kernel_rfl) ?_ (fun hHeld=> ?_)
      ·exact HSB10.out _ (Below.refl _ w4).drew
      have hB:=(Below.refl w4.heap.size w4).drew;generalize w4.drew=wn0 at *
      refine sqTH 0 ?_;try simp only [sqP]
      refine sqTH 1 ?_;try simp only [sqP]
      refine sqTH 2 ?_;try simp only [sqP]
      refine sqTH 3 ?_;try simp only [sqP]
      refine sqTH 5 ?_;try simp only [sqP]
      refine sqTH 6 ?_;try simp only [sqP]
      refine sqTH 10 ?_;try simp only [sqP]
      refine sqTH 11 ?_;try simp only [sqP]
      refine wpAnyH_ready (rs:= [4,13]) (by kernel_rfl) (by simp) ?_;refine AllReadyH.cons (o:=_) rfl (fun K hK=> ?_) ?_
      ·
       go_simp;refine(HPT.out wn0 hB).mono ?_;rintro e4 wp4 ⟨v4,rfl,ho4,hb4⟩;obtain⟨A4,c4,rfl,_,_⟩:=Rd.of_own' ho4;dsimp only;refine zr hK ?_ (Below wn0.heap.size wn0) (fun W=>W.ownsRow w4.heap.size 37 3 (.slice A4 (zg s.blobs ⟨rk,ra,rb,rt⟩).length c4) (zg s.blobs ⟨rk,ra,rb,rt⟩).length (pcs (zg s.blobs ⟨rk,ra,rb,rt⟩))) ?_ ?_ (fun wn1 hHeld hst hnew=> ?_)
       ·(exact HSB10.out _ (hB.trans (Below.mono (show Below wn0.heap.size wn0 _ from by(first | exact(Below.refl _ _).alloc (Nat.le_refl _) _ | exact hb4 | exact Below.refl _ _)) hB.size)))
       ·(first | exact(Below.refl _ _).alloc (Nat.le_refl _) _ | exact hb4 | exact Below.refl _ _)
       ·(exact zu ho4 hB.size)
       have hB:=hB.trans (hst.mono hB.size);have hs4:=hnew;clear hst;clear hK K
       try simp only [sqP]
       refine wpAnyH_ready (rs:= [7,13]) (by kernel_rfl) (by simp) ?_;refine AllReadyH.cons (o:=_) rfl (fun K hK=> ?_) ?_
       ·
        go_simp;refine(HP5.out wn1).mono ?_;rintro e6 wp6 ⟨rfl,rfl⟩;dsimp only;refine zr hK ?_ (Below wn1.heap.size wn1) (fun W=>True) ?_ ?_ (fun wn2 hHeld hst hnew=> ?_)
        ·(exact HSB10.out _ (hB.trans (Below.mono (show Below wn1.heap.size wn1 _ from by(first | exact(Below.refl _ _).alloc (Nat.le_refl _) _ | exact hb4 | exact Below.refl _ _)) hB.size)))
        ·(first | exact(Below.refl _ _).alloc (Nat.le_refl _) _ | exact hb4 | exact Below.refl _ _)
        ·(trivial)
        have hB:=hB.trans (hst.mono hB.size);have hs4:=zb hs4 hst;clear hst;clear hK K
        try simp only [sqP]
        refine sqTH 8 ?_;try simp only [sqP]
        refine sqTH 9 ?_;try simp only [sqP]
        refine sqTH 12 ?_;try simp only [sqP]
        refine wpAnyH_ready (rs:= [13]) (by kernel_rfl) (by simp) ?_;refine AllReadyH.cons (o:=_) rfl (fun K hK=> ?_) ?_
        ·
         go_simp;refine zr hK ?_ (Below wn2.heap.size wn2) (fun W=>Arr W wn2.heap.size 35 [.string ByteArray.empty,.slice none 0 0,.int .i64 0,.int .i64 0]∧w4.heap.size≤wn2.heap.size) ?_ ?_ (fun wn3 hHeld hst hnew=> ?_)
         ·(exact HSB10.out _ (hB.trans (Below.mono (show Below wn2.heap.size wn2 _ from by(first | exact(Below.refl _ _).alloc (Nat.le_refl _) _ | exact hb4 | exact Below.refl _ _)) hB.size)))
         ·(first | exact(Below.refl _ _).alloc (Nat.le_refl _) _ | exact hb4 | exact Below.refl _ _)
         ·(exact⟨Arr.new _ _ _,hB.size⟩)
         have hB:=hB.trans (hst.mono hB.size);have hs4:=zb hs4 hst;obtain⟨h13,hl13⟩:=hnew;have e13:∃g,g=wn2.heap.size:=⟨_,rfl⟩
         obtain⟨g11,hg11⟩:=e13;rw [←hg11]at h13 hl13 ⊢
         clear hg11;clear hst;clear hK K
         try simp only [sqP]
         refine wpAnyH_ready (rs:= [14]) (by kernel_rfl) (by simp) ?_;refine AllReadyH.cons (o:=_) rfl (fun K hK=> ?_) ?_
         ·
          obtain⟨z0,z1,z2,z3⟩:=sqC4 h13;obtain⟨f0,f1,f2,f3⟩:=sqF4 h13;go_simp;clear z0 z1 z2 z3 f0 f1 f2 f3;have hne4:=q8 hs4 h13 (by decide);refine zr hK ?_ (fun W=>Arr W g11 35 [.string sk,.slice A4 (zg s.blobs ⟨rk,ra,rb,rt⟩).length c4,.int .i64 ((q5 - 3:Nat):Int),.int .i64 ck]) (fun W=>Below w4.heap.size w4 W∧W.ownsRow w4.heap.size 37 3 (.slice A4 (zg s.blobs ⟨rk,ra,rb,rt⟩).length c4) (zg s.blobs ⟨rk,ra,rb,rt⟩).length (pcs (zg s.blobs ⟨rk,ra,rb,rt⟩))) ?_ ?_ (fun wn4 hHeld hF hG=> ?_)
          ·exact HSB10.out _ ((((hB.setCell (p:=⟨g11,0,none⟩) hl13 _).setCell (p:=⟨g11,1,none⟩) hl13 _).setCell (p:=⟨g11,2,none⟩) hl13 _).setCell (p:=⟨g11,3,none⟩) hl13 _)
          ·exact h13.all4 _ _ _ _
          ·exact⟨(((hB.setCell (p:=⟨g11,0,none⟩) hl13 _).setCell (p:=⟨g11,1,none⟩) hl13 _).setCell (p:=⟨g11,2,none⟩) hl13 _).setCell (p:=⟨g11,3,none⟩) hl13 _,z7 (z7 (z7 (z7 hs4 hne4) hne4) hne4) hne4⟩
          obtain⟨hb5,hs5⟩:=hG;have h5:=hF;clear hK K
          try simp only [sqP]
          refine wpAnyH_done (by kernel_rfl) ?_ _;dsimp only [Exit.then];clear hHeld hB h13 hs4 hF hl13 hne4;generalize wn4=w5 at *
          have hst5:=HST4.out.below hb5;have h105:=H104.out.below hb5;have hhe5:=hst5.e.rwo;have HRE5:=sqH (show Rw EntS w5 Ae s.ents by
           obtain⟨A',c',e1,_,_,h⟩:=hhe5.rows;cases e1;exact h)
          have hd10:=h105.cell (k:=0) rfl;have HCN:=sqH (xe Ae ce s.ents _ (.pointer (some ⟨g10,0,none⟩)) (fun b=>b.key==keyS q7) w5 (by omega) HRE5.out (qW g10 (keyS q7) s.ents w5 (by rw [hd10,HSK.out]) h105.lt));have hb15:=HB14.out.trans (hb5.mono (show H≤w4.heap.size by have:=HST4.out.lt;omega));have s1:=hst5.box.cell (k:=1) rfl;have HHE:=sqH h5;have HS5:=sqH hs5;have HB5:=sqH hb5;have HB15:=sqH hb15;clear hst5 h105 hhe5 hd10 h5 hs5 hb5 hb15
          repeat' (fail_if_success (first|at_builtin|at_make));first|go_values|go_skip|go_guarded|go_step|go_upon|go_back
          refine HCN.out.mono ?_;rintro e_ w6 ⟨rfl,hb6⟩;dsimp only;clear s1;have hb46:=HB5.out.trans (hb6.mono HB5.out.size);have hb16:=HB15.out.trans (hb6.mono (show H≤w5.heap.size by have:=HST4.out.lt;have:=HB5.out.size;omega));cases hany:s.ents.any (fun b=>b.key==keyS q7) with
          | true =>
           have HSS:=sqH (show kI l (k+1)= { s with clock:=ck } by rw [HSU.out,HSN.out,if_pos hany]);have hst6:=HST4.out.below hb46;clear hany hb6 hb46
           repeat' (fail_if_success (first|at_builtin|at_make));first|go_values|go_skip|go_guarded|go_step|go_upon|go_back
           go_roundg (n - (k+1))
           case measure=>have:=HGK.out;omega
           case rel=>exact⟨k+1,_,_,rfl,by go_num,by omega,by omega,by rw [HSS.out],by rw [HSS.out];exact hst6,hb16⟩
          | false =>
           have HSS:=sqH (show kI l (k+1)= { s with clock:=ck,ents:=s.ents++ [⟨keyS q7,zg s.blobs ⟨rk,ra,rb,rt⟩,q5 - 3,ck⟩] } by rw [HSU.out,HSN.out,if_neg (by rw [hany];simp),HSE.out]);obtain⟨xs,hxs,hop⟩:=HST4.out.openE;have hxs6:=zb hxs hb46;have hst6:=HST4.out.below hb46;have h56:=HHE.out.below hb6;have hs6:=zb HS5.out hb6;have HCL:=sqH (show [.string sk,.slice A4 (zg s.blobs ⟨rk,ra,rb,rt⟩).length c4,.int .i64 ((q5 - 3:Nat):Int),.int .i64 ck]=zw ⟨keyS q7,zg s.blobs ⟨rk,ra,rb,rt⟩,q5 - 3,ck⟩ A4 c4 by rw [HSK.out];rfl);have HLT:=sqH (show H+2≤w6.heap.size from by have:=HST4.out.lt;have:=hb46.size;omega);have HOP:=sqH hop;have s1:=hst6.box.cell (k:=1) rfl;obtain⟨z0,z1,z2,z3⟩:=sqC4 h56;have HBB:=sqH HST4.out.bE;clear hany hb6 hxs hop h56
           repeat' (fail_if_success (first|at_builtin|at_make));first|go_values|go_skip|go_guarded|go_step|go_upon|go_back
           refine zh rfl (.tmp 53) (.tmp 55) rfl yR (by rfl) hxs6 (us:= [.string sk,.slice A4 (zg s.blobs ⟨rk,ra,rb,rt⟩).length c4,.int .i64 ((q5 - 3:Nat):Int),.int .i64 ck]) (by rfl) rfl (by rw [HCL.out];exact yQ _ _ _) (by show(s.ents.length+1)*56≤140737488355328;omega) (by have:=HLT.out;omega) ?_;intro v8 w8 ho8 hg8 hv8;obtain⟨A8,c8,rfl,_,_⟩:=Rd.of_own' ho8;rw [HCL.out]at ho8;obtain⟨A4',c4',e4,hsl4,hll4⟩:=yi hs6;cases e4
           obtain⟨hbx8,hst8⟩:=HOP.out ⟨keyS q7,zg s.blobs ⟨rk,ra,rb,rt⟩,q5 - 3,ck⟩ A4 c4 w6 w8 _ hb46 hsl4 hll4 ho8 hg8 hv8;have hb18:=(hb16.grown hg8 (by have:=HLT.out;omega) (fun k hk=>by have:=(HBB.out k hk).1;omega)).setCell (p:=⟨H+1,1,none⟩) (by show H≤H+1;omega) (.slice A8 (s.ents.length+1) c8);have q1:=hbx8.cell (k:=1) rfl;have q2:=hbx8.frozen 1;clear hst6 hs6 s1 z0 z1 z2 z3 hxs6 hb46 hb16 ho8 hg8 hv8 hbx8 hsl4 hll4
           repeat' (fail_if_success (first|at_builtin|at_make));first|go_values|go_skip|go_guarded|go_step|go_upon|go_back
           generalize w8.setCell ⟨H+1,1,none⟩ (.slice A8 (s.ents.length+1) c8)=wz at *
           go_roundg (n - (k+1))
           case measure=>have:=HGK.out;omega
           case rel=>exact⟨k+1,_,_,rfl,by go_num,by omega,by omega,by rw [HSS.out],by rw [HSS.out];exact hst8,hb18⟩
         exact AllReadyH.nil
        exact AllReadyH.nil
       refine AllReadyH.cons (o:=_) rfl (fun K hK=> ?_) ?_
       ·
        go_simp;refine zr hK ?_ (Below wn1.heap.size wn1) (fun W=>Arr W wn1.heap.size 35 [.string ByteArray.empty,.slice none 0 0,.int .i64 0,.int .i64 0]∧w4.heap.size≤wn1.heap.size) ?_ ?_ (fun wn5 hHeld hst hnew=> ?_)
        ·(exact HSB10.out _ (hB.trans (Below.mono (show Below wn1.heap.size wn1 _ from by(first | exact(Below.refl _ _).alloc (Nat.le_refl _) _ | exact hb4 | exact Below.refl _ _)) hB.size)))
        ·(first | exact(Below.refl _ _).alloc (Nat.le_refl _) _ | exact hb4 | exact Below.refl _ _)
        ·(exact⟨Arr.new _ _ _,hB.size⟩)
        have hB:=hB.trans (hst.mono hB.size);have hs4:=zb hs4 hst;obtain⟨h13,hl13⟩:=hnew;have e13:∃g,g=wn1.heap.size:=⟨_,rfl⟩
        obtain⟨g11,hg11⟩:=e13;rw [←hg11]at h13 hl13 ⊢
        clear hg11;clear hst;clear hK K
        try simp only [sqP]
        refine wpAnyH_ready (rs:= [7]) (by kernel_rfl) (by simp) ?_;refine AllReadyH.cons (o:=_) rfl (fun K hK=> ?_) ?_
        ·
         go_simp;refine(HP5.out wn5).mono ?_;rintro e6 wp6 ⟨rfl,rfl⟩;dsimp only;refine zr hK ?_ (Below wn5.heap.size wn5) (fun W=>True) ?_ ?_ (fun wn6 hHeld hst hnew=> ?_)
         ·(exact HSB10.out _ (hB.trans (Below.mono (show Below wn5.heap.size wn5 _ from by(first | exact(Below.refl _ _).alloc (Nat.le_refl _) _ | exact hb4 | exact Below.refl _ _)) hB.size)))
         ·(first | exact(Below.refl _ _).alloc (Nat.le_refl _) _ | exact hb4 | exact Below.refl _ _)
         ·(trivial)
         have hB:=hB.trans (hst.mono hB.size);have hs4:=zb hs4 hst;have h13:=h13.below hst;clear hst;clear hK K
         try simp only [sqP]
         refine sqTH 8 ?_;try simp only [sqP]
         refine sqTH 9 ?_;try simp only [sqP]
         refine sqTH 12 ?_;try simp only [sqP]
         refine wpAnyH_ready (rs:= [14]) (by kernel_rfl) (by simp) ?_;refine AllReadyH.cons (o:=_) rfl (fun K hK=> ?_) ?_
         ·
          obtain⟨z0,z1,z2,z3⟩:=sqC4 h13;obtain⟨f0,f1,f2,f3⟩:=sqF4 h13;go_simp;clear z0 z1 z2 z3 f0 f1 f2 f3;have hne4:=q8 hs4 h13 (by decide);refine zr hK ?_ (fun W=>Arr W g11 35 [.string sk,.slice A4 (zg s.blobs ⟨rk,ra,rb,rt⟩).length c4,.int .i64 ((q5 - 3:Nat):Int),.int .i64 ck]) (fun W=>Below w4.heap.size w4 W∧W.ownsRow w4.heap.size 37 3 (.slice A4 (zg s.blobs ⟨rk,ra,rb,rt⟩).length c4) (zg s.blobs ⟨rk,ra,rb,rt⟩).length (pcs (zg s.blobs ⟨rk,ra,rb,rt⟩))) ?_ ?_ (fun wn7 hHeld hF hG=> ?_)
          ·exact HSB10.out _ ((((hB.setCell (p:=⟨g11,0,none⟩) hl13 _).setCell (p:=⟨g11,1,none⟩) hl13 _).setCell (p:=⟨g11,2,none⟩) hl13 _).setCell (p:=⟨g11,3,none⟩) hl13 _)
          ·exact h13.all4 _ _ _ _
          ·exact⟨(((hB.setCell (p:=⟨g11,0,none⟩) hl13 _).setCell (p:=⟨g11,1,none⟩) hl13 _).setCell (p:=⟨g11,2,none⟩) hl13 _).setCell (p:=⟨g11,3,none⟩) hl13 _,z7 (z7 (z7 (z7 hs4 hne4) hne4) hne4) hne4⟩
          obtain⟨hb5,hs5⟩:=hG;have h5:=hF;clear hK K
          try simp only [sqP]
          refine wpAnyH_done (by kernel_rfl) ?_ _;dsimp only [Exit.then];clear hHeld hB h13 hs4 hF hl13 hne4;generalize wn7=w5 at *
          have hst5:=HST4.out.below hb5;have h105:=H104.out.below hb5;have hhe5:=hst5.e.rwo;have HRE5:=sqH (show Rw EntS w5 Ae s.ents by
           obtain⟨A',c',e1,_,_,h⟩:=hhe5.rows;cases e1;exact h)
          have hd10:=h105.cell (k:=0) rfl;have HCN:=sqH (xe Ae ce s.ents _ (.pointer (some ⟨g10,0,none⟩)) (fun b=>b.key==keyS q7) w5 (by omega) HRE5.out (qW g10 (keyS q7) s.ents w5 (by rw [hd10,HSK.out]) h105.lt));have hb15:=HB14.out.trans (hb5.mono (show H≤w4.heap.size by have:=HST4.out.lt;omega));have s1:=hst5.box.cell (k:=1) rfl;have HHE:=sqH h5;have HS5:=sqH hs5;have HB5:=sqH hb5;have HB15:=sqH hb15;clear hst5 h105 hhe5 hd10 h5 hs5 hb5 hb15
          repeat' (fail_if_success (first|at_builtin|at_make));first|go_values|go_skip|go_guarded|go_step|go_upon|go_back
          refine HCN.out.mono ?_;rintro e_ w6 ⟨rfl,hb6⟩;dsimp only;clear s1;have hb46:=HB5.out.trans (hb6.mono HB5.out.size);have hb16:=HB15.out.trans (hb6.mono (show H≤w5.heap.size by have:=HST4.out.lt;have:=HB5.out.size;omega));cases hany:s.ents.any (fun b=>b.key==keyS q7) with
          | true =>
           have HSS:=sqH (show kI l (k+1)= { s with clock:=ck } by rw [HSU.out,HSN.out,if_pos hany]);have hst6:=HST4.out.below hb46;clear hany hb6 hb46
           repeat' (fail_if_success (first|at_builtin|at_make));first|go_values|go_skip|go_guarded|go_step|go_upon|go_back
           go_roundg (n - (k+1))
           case measure=>have:=HGK.out;omega
           case rel=>exact⟨k+1,_,_,rfl,by go_num,by omega,by omega,by rw [HSS.out],by rw [HSS.out];exact hst6,hb16⟩
          | false =>
           have HSS:=sqH (show kI l (k+1)= { s with clock:=ck,ents:=s.ents++ [⟨keyS q7,zg s.blobs ⟨rk,ra,rb,rt⟩,q5 - 3,ck⟩] } by rw [HSU.out,HSN.out,if_neg (by rw [hany];simp),HSE.out]);obtain⟨xs,hxs,hop⟩:=HST4.out.openE;have hxs6:=zb hxs hb46;have hst6:=HST4.out.below hb46;have h56:=HHE.out.below hb6;have hs6:=zb HS5.out hb6;have HCL:=sqH (show [.string sk,.slice A4 (zg s.blobs ⟨rk,ra,rb,rt⟩).length c4,.int .i64 ((q5 - 3:Nat):Int),.int .i64 ck]=zw ⟨keyS q7,zg s.blobs ⟨rk,ra,rb,rt⟩,q5 - 3,ck⟩ A4 c4 by rw [HSK.out];rfl);have HLT:=sqH (show H+2≤w6.heap.size from by have:=HST4.out.lt;have:=hb46.size;omega);have HOP:=sqH hop;have s1:=hst6.box.cell (k:=1) rfl;obtain⟨z0,z1,z2,z3⟩:=sqC4 h56;have HBB:=sqH HST4.out.bE;clear hany hb6 hxs hop h56
           repeat' (fail_if_success (first|at_builtin|at_make));first|go_values|go_skip|go_guarded|go_step|go_upon|go_back
           refine zh rfl (.tmp 53) (.tmp 55) rfl yR (by rfl) hxs6 (us:= [.string sk,.slice A4 (zg s.blobs ⟨rk,ra,rb,rt⟩).length c4,.int .i64 ((q5 - 3:Nat):Int),.int .i64 ck]) (by rfl) rfl (by rw [HCL.out];exact yQ _ _ _) (by show(s.ents.length+1)*56≤140737488355328;omega) (by have:=HLT.out;omega) ?_;intro v8 w8 ho8 hg8 hv8;obtain⟨A8,c8,rfl,_,_⟩:=Rd.of_own' ho8;rw [HCL.out]at ho8;obtain⟨A4',c4',e4,hsl4,hll4⟩:=yi hs6;cases e4
           obtain⟨hbx8,hst8⟩:=HOP.out ⟨keyS q7,zg s.blobs ⟨rk,ra,rb,rt⟩,q5 - 3,ck⟩ A4 c4 w6 w8 _ hb46 hsl4 hll4 ho8 hg8 hv8;have hb18:=(hb16.grown hg8 (by have:=HLT.out;omega) (fun k hk=>by have:=(HBB.out k hk).1;omega)).setCell (p:=⟨H+1,1,none⟩) (by show H≤H+1;omega) (.slice A8 (s.ents.length+1) c8);have q1:=hbx8.cell (k:=1) rfl;have q2:=hbx8.frozen 1;clear hst6 hs6 s1 z0 z1 z2 z3 hxs6 hb46 hb16 ho8 hg8 hv8 hbx8 hsl4 hll4
           repeat' (fail_if_success (first|at_builtin|at_make));first|go_values|go_skip|go_guarded|go_step|go_upon|go_back
           generalize w8.setCell ⟨H+1,1,none⟩ (.slice A8 (s.ents.length+1) c8)=wz at *
           go_roundg (n - (k+1))
           case measure=>have:=HGK.out;omega
           case rel=>exact⟨k+1,_,_,rfl,by go_num,by omega,by omega,by rw [HSS.out],by rw [HSS.out];exact hst8,hb18⟩
         exact AllReadyH.nil
        exact AllReadyH.nil
       exact AllReadyH.nil
      refine AllReadyH.cons (o:=_) rfl (fun K hK=> ?_) ?_
      ·
       go_simp;refine zr hK ?_ (Below wn0.heap.size wn0) (fun W=>Arr W wn0.heap.size 35 [.string ByteArray.empty,.slice none 0 0,.int .i64 0,.int .i64 0]∧w4.heap.size≤wn0.heap.size) ?_ ?_ (fun wn8 hHeld hst hnew=> ?_)
       ·(exact HSB10.out _ (hB.trans (Below.mono (show Below wn0.heap.size wn0 _ from by(first | exact(Below.refl _ _).alloc (Nat.le_refl _) _ | exact hb4 | exact Below.refl _ _)) hB.size)))
       ·(first | exact(Below.refl _ _).alloc (Nat.le_refl _) _ | exact hb4 | exact Below.refl _ _)
       ·(exact⟨Arr.new _ _ _,hB.size⟩)
       have hB:=hB.trans (hst.mono hB.size);obtain⟨h13,hl13⟩:=hnew;have e13:∃g,g=wn0.heap.size:=⟨_,rfl⟩
       obtain⟨g11,hg11⟩:=e13;rw [←hg11]at h13 hl13 ⊢
       clear hg11;clear hst;clear hK K
       try simp only [sqP]
       refine wpAnyH_ready (rs:= [4]) (by kernel_rfl) (by simp) ?_;refine AllReadyH.cons (o:=_) rfl (fun K hK=> ?_) ?_
       ·
        go_simp;refine(HPT.out wn8 hB).mono ?_;rintro e4 wp4 ⟨v4,rfl,ho4,hb4⟩;obtain⟨A4,c4,rfl,_,_⟩:=Rd.of_own' ho4;dsimp only;refine zr hK ?_ (Below wn8.heap.size wn8) (fun W=>W.ownsRow w4.heap.size 37 3 (.slice A4 (zg s.blobs ⟨rk,ra,rb,rt⟩).length c4) (zg s.blobs ⟨rk,ra,rb,rt⟩).length (pcs (zg s.blobs ⟨rk,ra,rb,rt⟩))) ?_ ?_ (fun wn9 hHeld hst hnew=> ?_)
        ·(exact HSB10.out _ (hB.trans (Below.mono (show Below wn8.heap.size wn8 _ from by(first | exact(Below.refl _ _).alloc (Nat.le_refl _) _ | exact hb4 | exact Below.refl _ _)) hB.size)))
        ·(first | exact(Below.refl _ _).alloc (Nat.le_refl _) _ | exact hb4 | exact Below.refl _ _)
        ·(exact zu ho4 hB.size)
        have hB:=hB.trans (hst.mono hB.size);have h13:=h13.below hst;have hs4:=hnew;clear hst;clear hK K
        try simp only [sqP]
        refine wpAnyH_ready (rs:= [7]) (by kernel_rfl) (by simp) ?_;refine AllReadyH.cons (o:=_) rfl (fun K hK=> ?_) ?_
        ·
         go_simp;refine(HP5.out wn9).mono ?_;rintro e6 wp6 ⟨rfl,rfl⟩;dsimp only;refine zr hK ?_ (Below wn9.heap.size wn9) (fun W=>True) ?_ ?_ (fun wn10 hHeld hst hnew=> ?_)
         ·(exact HSB10.out _ (hB.trans (Below.mono (show Below wn9.heap.size wn9 _ from by(first | exact(Below.refl _ _).alloc (Nat.le_refl _) _ | exact hb4 | exact Below.refl _ _)) hB.size)))
         ·(first | exact(Below.refl _ _).alloc (Nat.le_refl _) _ | exact hb4 | exact Below.refl _ _)
         ·(trivial)
         have hB:=hB.trans (hst.mono hB.size);have hs4:=zb hs4 hst;have h13:=h13.below hst;clear hst;clear hK K
         try simp only [sqP]
         refine sqTH 8 ?_;try simp only [sqP]
         refine sqTH 9 ?_;try simp only [sqP]
         refine sqTH 12 ?_;try simp only [sqP]
         refine wpAnyH_ready (rs:= [14]) (by kernel_rfl) (by simp) ?_;refine AllReadyH.cons (o:=_) rfl (fun K hK=> ?_) ?_
         ·
          obtain⟨z0,z1,z2,z3⟩:=sqC4 h13;obtain⟨f0,f1,f2,f3⟩:=sqF4 h13;go_simp;clear z0 z1 z2 z3 f0 f1 f2 f3;have hne4:=q8 hs4 h13 (by decide);refine zr hK ?_ (fun W=>Arr W g11 35 [.string sk,.slice A4 (zg s.blobs ⟨rk,ra,rb,rt⟩).length c4,.int .i64 ((q5 - 3:Nat):Int),.int .i64 ck]) (fun W=>Below w4.heap.size w4 W∧W.ownsRow w4.heap.size 37 3 (.slice A4 (zg s.blobs ⟨rk,ra,rb,rt⟩).length c4) (zg s.blobs ⟨rk,ra,rb,rt⟩).length (pcs (zg s.blobs ⟨rk,ra,rb,rt⟩))) ?_ ?_ (fun wn11 hHeld hF hG=> ?_)
          ·exact HSB10.out _ ((((hB.setCell (p:=⟨g11,0,none⟩) hl13 _).setCell (p:=⟨g11,1,none⟩) hl13 _).setCell (p:=⟨g11,2,none⟩) hl13 _).setCell (p:=⟨g11,3,none⟩) hl13 _)
          ·exact h13.all4 _ _ _ _
          ·exact⟨(((hB.setCell (p:=⟨g11,0,none⟩) hl13 _).setCell (p:=⟨g11,1,none⟩) hl13 _).setCell (p:=⟨g11,2,none⟩) hl13 _).setCell (p:=⟨g11,3,none⟩) hl13 _,z7 (z7 (z7 (z7 hs4 hne4) hne4) hne4) hne4⟩
          obtain⟨hb5,hs5⟩:=hG;have h5:=hF;clear hK K
          try simp only [sqP]
          refine wpAnyH_done (by kernel_rfl) ?_ _;dsimp only [Exit.then];clear hHeld hB h13 hs4 hF hl13 hne4;generalize wn11=w5 at *
          have hst5:=HST4.out.below hb5;have h105:=H104.out.below hb5;have hhe5:=hst5.e.rwo;have HRE5:=sqH (show Rw EntS w5 Ae s.ents by
           obtain⟨A',c',e1,_,_,h⟩:=hhe5.rows;cases e1;exact h)
          have hd10:=h105.cell (k:=0) rfl;have HCN:=sqH (xe Ae ce s.ents _ (.pointer (some ⟨g10,0,none⟩)) (fun b=>b.key==keyS q7) w5 (by omega) HRE5.out (qW g10 (keyS q7) s.ents w5 (by rw [hd10,HSK.out]) h105.lt));have hb15:=HB14.out.trans (hb5.mono (show H≤w4.heap.size by have:=HST4.out.lt;omega));have s1:=hst5.box.cell (k:=1) rfl;have HHE:=sqH h5;have HS5:=sqH hs5;have HB5:=sqH hb5;have HB15:=sqH hb15;clear hst5 h105 hhe5 hd10 h5 hs5 hb5 hb15
          repeat' (fail_if_success (first|at_builtin|at_make));first|go_values|go_skip|go_guarded|go_step|go_upon|go_back
          refine HCN.out.mono ?_;rintro e_ w6 ⟨rfl,hb6⟩;dsimp only;clear s1;have hb46:=HB5.out.trans (hb6.mono HB5.out.size);have hb16:=HB15.out.trans (hb6.mono (show H≤w5.heap.size by have:=HST4.out.lt;have:=HB5.out.size;omega));cases hany:s.ents.any (fun b=>b.key==keyS q7) with
          | true =>
           have HSS:=sqH (show kI l (k+1)= { s with clock:=ck } by rw [HSU.out,HSN.out,if_pos hany]);have hst6:=HST4.out.below hb46;clear hany hb6 hb46
           repeat' (fail_if_success (first|at_builtin|at_make));first|go_values|go_skip|go_guarded|go_step|go_upon|go_back
           go_roundg (n - (k+1))
           case measure=>have:=HGK.out;omega
           case rel=>exact⟨k+1,_,_,rfl,by go_num,by omega,by omega,by rw [HSS.out],by rw [HSS.out];exact hst6,hb16⟩
          | false =>
           have HSS:=sqH (show kI l (k+1)= { s with clock:=ck,ents:=s.ents++ [⟨keyS q7,zg s.blobs ⟨rk,ra,rb,rt⟩,q5 - 3,ck⟩] } by rw [HSU.out,HSN.out,if_neg (by rw [hany];simp),HSE.out]);obtain⟨xs,hxs,hop⟩:=HST4.out.openE;have hxs6:=zb hxs hb46;have hst6:=HST4.out.below hb46;have h56:=HHE.out.below hb6;have hs6:=zb HS5.out hb6;have HCL:=sqH (show [.string sk,.slice A4 (zg s.blobs ⟨rk,ra,rb,rt⟩).length c4,.int .i64 ((q5 - 3:Nat):Int),.int .i64 ck]=zw ⟨keyS q7,zg s.blobs ⟨rk,ra,rb,rt⟩,q5 - 3,ck⟩ A4 c4 by rw [HSK.out];rfl);have HLT:=sqH (show H+2≤w6.heap.size from by have:=HST4.out.lt;have:=hb46.size;omega);have HOP:=sqH hop;have s1:=hst6.box.cell (k:=1) rfl;obtain⟨z0,z1,z2,z3⟩:=sqC4 h56;have HBB:=sqH HST4.out.bE;clear hany hb6 hxs hop h56
           repeat' (fail_if_success (first|at_builtin|at_make));first|go_values|go_skip|go_guarded|go_step|go_upon|go_back
           refine zh rfl (.tmp 53) (.tmp 55) rfl yR (by rfl) hxs6 (us:= [.string sk,.slice A4 (zg s.blobs ⟨rk,ra,rb,rt⟩).length c4,.int .i64 ((q5 - 3:Nat):Int),.int .i64 ck]) (by rfl) rfl (by rw [HCL.out];exact yQ _ _ _) (by show(s.ents.length+1)*56≤140737488355328;omega) (by have:=HLT.out;omega) ?_;intro v8 w8 ho8 hg8 hv8;obtain⟨A8,c8,rfl,_,_⟩:=Rd.of_own' ho8;rw [HCL.out]at ho8;obtain⟨A4',c4',e4,hsl4,hll4⟩:=yi hs6;cases e4
           obtain⟨hbx8,hst8⟩:=HOP.out ⟨keyS q7,zg s.blobs ⟨rk,ra,rb,rt⟩,q5 - 3,ck⟩ A4 c4 w6 w8 _ hb46 hsl4 hll4 ho8 hg8 hv8;have hb18:=(hb16.grown hg8 (by have:=HLT.out;omega) (fun k hk=>by have:=(HBB.out k hk).1;omega)).setCell (p:=⟨H+1,1,none⟩) (by show H≤H+1;omega) (.slice A8 (s.ents.length+1) c8);have q1:=hbx8.cell (k:=1) rfl;have q2:=hbx8.frozen 1;clear hst6 hs6 s1 z0 z1 z2 z3 hxs6 hb46 hb16 ho8 hg8 hv8 hbx8 hsl4 hll4
           repeat' (fail_if_success (first|at_builtin|at_make));first|go_values|go_skip|go_guarded|go_step|go_upon|go_back
           generalize w8.setCell ⟨H+1,1,none⟩ (.slice A8 (s.ents.length+1) c8)=wz at *
           go_roundg (n - (k+1))
           case measure=>have:=HGK.out;omega
           case rel=>exact⟨k+1,_,_,rfl,by go_num,by omega,by omega,by rw [HSS.out],by rw [HSS.out];exact hst8,hb18⟩
         exact AllReadyH.nil
        exact AllReadyH.nil
       exact AllReadyH.nil
      exact AllReadyH.nil
     exact z6.nil
   ·have h12b:decide ((k:Int)≥12)=true:=decide_eq_true (by omega);have h12c:decide ((12:Int)≤(k:Int))=true:=decide_eq_true (by omega);have HACC:=sqH (show qR l=kI l k by rw [show k=12 by omega];rfl);have hba:=(Below.refl wr.heap.size wr).alloc (Nat.le_refl _) (.cells #[.int .i64 rk,.int .i64 ra,.int .i64 rb,.string rt] 24);have hstF:=hst.below hba;have hbelF:=hbel.trans (hba.mono (by rw [HH.out];exact hbel'.size));have HK:=sqH (xj l k);generalize kI l k=s at *
    clear hst hbel hbel' hba;have hc0:=hstF.box.cell (k:=0) rfl;have hc2:=hstF.box.cell (k:=2) rfl;have hf2:=hstF.box.frozen 2;have hu4:s.used≤1776:=by have:=HK.out.usedk;omega
    have c0:=hstF.box.cell (k:=0) rfl;have c2:=hstF.box.cell (k:=2) rfl;have f2:=hstF.box.frozen 2
    repeat' (fail_if_success (first|at_builtin|at_make));first|go_values|go_skip|go_guarded|go_step|go_upon|go_back
    obtain⟨rm,hrm⟩:∃rm:Nat,rm=min 4000 (s.used+600):=⟨_,rfl⟩
    have hmin:min (4000:Int) ((s.used:Int)+600)=(rm:Int):=by omega
    rw [hmin];have HST:=sqH (show sto l=⟨srt (·.dig) s.blobs,srt (·.key) s.ents,rm,s.clock⟩ by rw [sto,HACC.out,hrm]);clear hmin hrm c0 c2 f2;obtain⟨hfb,hfe,hfr⟩:=hstF.rows 2 (.int .i64 rm);have hfx:=hstF.box.set (k:=2) (by simp) (.int .i64 rm);have hfw:=hbelF.setCell (p:=⟨H+1,2,none⟩) (by show H≤H+1;omega) (.int .i64 rm);have HNB:=sqH hstF.bB;have HNX:=sqH hstF.bE;have HNN:=sqH hstF.ne;clear hstF hbelF;generalize (wr.alloc (.cells #[.int .i64 rk,.int .i64 ra,.int .i64 rb,.string rt] 24)).setCell ⟨H+1,2,none⟩ (.int .i64 rm)=w9 at *
    have hfx':Arr w9 (H+1) 28 [vb,ve,.int .i64 rm,.int .i64 s.clock]:=hfx;clear hfx;have HS1:=sqH (yJ _ Qa _ vb s.blobs (H+2) w9 (by have:=HK.out.blen;omega) HK.out.bnd hfb);refine HS1.out.mono ?_;rintro e_ w10 ⟨rfl,hb10,hg10⟩;dsimp only;have he10:=hfe.other hg10 (fun b e1 e2=>HNN.out b e1 e2) (fun b e=> .inr e);have hx10:=hfx'.grown hg10 (fun e=>by have:=(HNB.out _ e).1;omega);have hr10:=hfr.grown hg10 (fun e=>by have:=(HNB.out _ e).1;omega);have hl10:H≤w9.heap.size:=by have:=hfx'.lt;omega
    have hw10:=hfw.grown hg10 hl10 (fun k e=>by have:=(HNB.out _ e).1;omega);have c1:=hx10.cell (k:=1) rfl;clear hfb hfe hfr hfx' hfw hg10 hl10
    repeat' (fail_if_success (first|at_builtin|at_make));first|go_values|go_skip|go_guarded|go_step|go_upon|go_back
    clear c1;have HS2:=sqH (yK _ ve s.ents (H+2) w10 (by have:=HK.out.elen;omega) HK.out.end_ he10);refine HS2.out.mono ?_;rintro e_ w11 ⟨rfl,he11,hg11⟩;dsimp only;have hb11:=hb10.other hg11 (fun b e1 e2=>HNN.out b e2 e1) (fun b e=> .inr e);have hx11:=hx10.grown hg11 (fun e=>by have:=(HNX.out _ e).1;omega);have hr11:=hr10.grown hg11 (fun e=>by have:=(HNX.out _ e).1;omega);have hl11:H≤w10.heap.size:=by have:=hx10.lt;omega
    have hw11:=hw10.grown hg11 hl11 (fun k e=>by have:=(HNX.out _ e).1;omega);clear hb10 he10 hg11 hl11 hx10 hr10 hw10;obtain⟨Ab,cb,rfl,_,_,_⟩:=hb11.rwo.rows;obtain⟨Ae,ce,rfl,_,_,_⟩:=he11.rwo.rows;generalize (srt (fun b:BlobP=>b.dig) s.blobs).length=nb at *
    generalize (srt (fun b:EntP=>b.key) s.ents).length=ne at *
    obtain⟨a0,a1,a2,a3⟩:=sqC4 hx11;obtain⟨r0,r1,r2,r3⟩:=sqC4 hr11;obtain⟨f0,f1,f2,f3⟩:=sqF4 hr11
    repeat' (fail_if_success (first|at_builtin|at_make));first|go_values|go_skip|go_guarded|go_step|go_upon|go_back
    have hA:=hr11.all4 (.slice Ab nb cb) (.slice Ae ne ce) (.int .i64 rm) (.int .i64 s.clock);have hbz:=(((hb11.set (g:=H) (k:=0) (by omega) (.inl (.inl rfl)) (.slice Ab nb cb)).set (g:=H) (k:=1) (by omega) (.inl (.inl rfl)) (.slice Ae ne ce)).set (g:=H) (k:=2) (by omega) (.inl (.inl rfl)) (.int .i64 rm)).set (g:=H) (k:=3) (by omega) (.inl (.inl rfl)) (.int .i64 s.clock);have hez:=(((he11.set (g:=H) (k:=0) (by omega) (.inl (.inl rfl)) (.slice Ab nb cb)).set (g:=H) (k:=1) (by omega) (.inl (.inl rfl)) (.slice Ae ne ce)).set (g:=H) (k:=2) (by omega) (.inl (.inl rfl)) (.int .i64 rm)).set (g:=H) (k:=3) (by omega) (.inl (.inl rfl)) (.int .i64 s.clock);have hwz:=(((hw11.setCell (p:=⟨H,0,none⟩) (Nat.le_refl _) (.slice Ab nb cb)).setCell (p:=⟨H,1,none⟩) (Nat.le_refl _) (.slice Ae ne ce)).setCell (p:=⟨H,2,none⟩) (Nat.le_refl _) (.int .i64 rm)).setCell (p:=⟨H,3,none⟩) (Nat.le_refl _) (.int .i64 s.clock);refine bodyPost_ret (results_cell_row rfl _ _ H _ _ _ _ (by rfl) hA Tryz.underlying28 rfl (by kernel_rfl)) rfl ⟨(.slice Ab nb cb),(.slice Ae ne ce),?_,?_,?_,?_⟩
    ·rw [HST.out]
    ·rw [HST.out,←HH.out];exact hbz.rwo.lower (by omega)
    ·rw [HST.out,←HH.out];exact hez.rwo.lower (by omega)
    ·rw [←HH.out];exact hwz
  ·obtain rfl:k=n:=by omega
   have hlb:decide (k<k)=false:=by simp
   have HACC:=sqH (show qR l=kI l k by unfold qR kI Q3;rw [List.take_of_length_le (by have:=HL.out;omega),List.take_of_length_le (by have:=HL.out;omega)]);have hstF:=hst;have hbelF:=hbel;have HK:=sqH (xj l k);generalize kI l k=s at *
   clear hst hbel;have hu4:s.used≤1776:=by have:=HK.out.usedk;omega
   have c0:=hstF.box.cell (k:=0) rfl;have c2:=hstF.box.cell (k:=2) rfl;have f2:=hstF.box.frozen 2
   repeat' (fail_if_success (first|at_builtin|at_make));first|go_values|go_skip|go_guarded|go_step|go_upon|go_back
   obtain⟨rm,hrm⟩:∃rm:Nat,rm=min 4000 (s.used+600):=⟨_,rfl⟩
   have hmin:min (4000:Int) ((s.used:Int)+600)=(rm:Int):=by omega
   rw [hmin];have HST:=sqH (show sto l=⟨srt (·.dig) s.blobs,srt (·.key) s.ents,rm,s.clock⟩ by rw [sto,HACC.out,hrm]);clear hmin hrm c0 c2 f2;obtain⟨hfb,hfe,hfr⟩:=hstF.rows 2 (.int .i64 rm);have hfx:=hstF.box.set (k:=2) (by simp) (.int .i64 rm);have hfw:=hbelF.setCell (p:=⟨H+1,2,none⟩) (by show H≤H+1;omega) (.int .i64 rm);have HNB:=sqH hstF.bB;have HNX:=sqH hstF.bE;have HNN:=sqH hstF.ne;clear hstF hbelF;generalize wr.setCell ⟨H+1,2,none⟩ (.int .i64 rm)=w9 at *
   have hfx':Arr w9 (H+1) 28 [vb,ve,.int .i64 rm,.int .i64 s.clock]:=hfx;clear hfx;have HS1:=sqH (yJ _ Qa _ vb s.blobs (H+2) w9 (by have:=HK.out.blen;omega) HK.out.bnd hfb);refine HS1.out.mono ?_;rintro e_ w10 ⟨rfl,hb10,hg10⟩;dsimp only;have he10:=hfe.other hg10 (fun b e1 e2=>HNN.out b e1 e2) (fun b e=> .inr e);have hx10:=hfx'.grown hg10 (fun e=>by have:=(HNB.out _ e).1;omega);have hr10:=hfr.grown hg10 (fun e=>by have:=(HNB.out _ e).1;omega);have hl10:H≤w9.heap.size:=by have:=hfx'.lt;omega
   have hw10:=hfw.grown hg10 hl10 (fun k e=>by have:=(HNB.out _ e).1;omega);have c1:=hx10.cell (k:=1) rfl;clear hfb hfe hfr hfx' hfw hg10 hl10
   repeat' (fail_if_success (first|at_builtin|at_make));first|go_values|go_skip|go_guarded|go_step|go_upon|go_back
   clear c1;have HS2:=sqH (yK _ ve s.ents (H+2) w10 (by have:=HK.out.elen;omega) HK.out.end_ he10);refine HS2.out.mono ?_;rintro e_ w11 ⟨rfl,he11,hg11⟩;dsimp only;have hb11:=hb10.other hg11 (fun b e1 e2=>HNN.out b e2 e1) (fun b e=> .inr e);have hx11:=hx10.grown hg11 (fun e=>by have:=(HNX.out _ e).1;omega);have hr11:=hr10.grown hg11 (fun e=>by have:=(HNX.out _ e).1;omega);have hl11:H≤w10.heap.size:=by have:=hx10.lt;omega
   have hw11:=hw10.grown hg11 hl11 (fun k e=>by have:=(HNX.out _ e).1;omega);clear hb10 he10 hg11 hl11 hx10 hr10 hw10;obtain⟨Ab,cb,rfl,_,_,_⟩:=hb11.rwo.rows;obtain⟨Ae,ce,rfl,_,_,_⟩:=he11.rwo.rows;generalize (srt (fun b:BlobP=>b.dig) s.blobs).length=nb at *
   generalize (srt (fun b:EntP=>b.key) s.ents).length=ne at *
   obtain⟨a0,a1,a2,a3⟩:=sqC4 hx11;obtain⟨r0,r1,r2,r3⟩:=sqC4 hr11;obtain⟨f0,f1,f2,f3⟩:=sqF4 hr11
   repeat' (fail_if_success (first|at_builtin|at_make));first|go_values|go_skip|go_guarded|go_step|go_upon|go_back
   have hA:=hr11.all4 (.slice Ab nb cb) (.slice Ae ne ce) (.int .i64 rm) (.int .i64 s.clock);have hbz:=(((hb11.set (g:=H) (k:=0) (by omega) (.inl (.inl rfl)) (.slice Ab nb cb)).set (g:=H) (k:=1) (by omega) (.inl (.inl rfl)) (.slice Ae ne ce)).set (g:=H) (k:=2) (by omega) (.inl (.inl rfl)) (.int .i64 rm)).set (g:=H) (k:=3) (by omega) (.inl (.inl rfl)) (.int .i64 s.clock);have hez:=(((he11.set (g:=H) (k:=0) (by omega) (.inl (.inl rfl)) (.slice Ab nb cb)).set (g:=H) (k:=1) (by omega) (.inl (.inl rfl)) (.slice Ae ne ce)).set (g:=H) (k:=2) (by omega) (.inl (.inl rfl)) (.int .i64 rm)).set (g:=H) (k:=3) (by omega) (.inl (.inl rfl)) (.int .i64 s.clock);have hwz:=(((hw11.setCell (p:=⟨H,0,none⟩) (Nat.le_refl _) (.slice Ab nb cb)).setCell (p:=⟨H,1,none⟩) (Nat.le_refl _) (.slice Ae ne ce)).setCell (p:=⟨H,2,none⟩) (Nat.le_refl _) (.int .i64 rm)).setCell (p:=⟨H,3,none⟩) (Nat.le_refl _) (.int .i64 s.clock);refine bodyPost_ret (results_cell_row rfl _ _ H _ _ _ _ (by rfl) hA Tryz.underlying28 rfl (by kernel_rfl)) rfl ⟨(.slice Ab nb cb),(.slice Ae ne ce),?_,?_,?_,?_⟩
   ·rw [HST.out]
   ·rw [HST.out,←HH.out];exact hbz.rwo.lower (by omega)
   ·rw [HST.out,←HH.out];exact hez.rwo.lower (by omega)
   ·rw [←HH.out];exact hwz
end Go.Proofs.YtfmnggcfhalfnaaGreat
