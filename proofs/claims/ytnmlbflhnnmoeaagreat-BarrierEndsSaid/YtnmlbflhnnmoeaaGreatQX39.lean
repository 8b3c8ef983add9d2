/- Lemmas of the proof. Conditions: as stated. -/
import Derived.Test.YtnmlbflhnnmoeaaGreatQX31
set_option linter.unusedVariables false
set_option linter.unusedSimpArgs false
set_option maxRecDepth 100000
set_option maxHeartbeats 2000000
namespace Go.Proofs.YtnmlbflhnnmoeaaGreat
open Go.RowKit
def zp (A M K:List UInt8):StoP:=⟨srt (·.dig) [⟨shaS A,A,0,false⟩,⟨shaS M,M,0,false⟩], [⟨K, [⟨[109],shaS M,M.length⟩],0,1⟩],200,1⟩
theorem Qj {A M:List UInt8} (hA:A= [97,98,99]) (hM:M=enc [⟨[120],shaS A,3⟩]):shaS A≠shaS M:=by
 subst hA;subst hM;decide +kernel
theorem ZB {A M:List UInt8} (hA:A= [97,98,99]) (hM:M=enc [⟨[120],shaS A,3⟩]):M.length=39:=by
 subst hA;subst hM;decide +kernel
theorem kD (A M K:List UInt8):(zp A M K).blobs.Perm [⟨shaS A,A,0,false⟩,⟨shaS M,M,0,false⟩]:=zz _ _
theorem Qr {A M K:List UInt8} (hA:A.length=3) (hM:M.length=39) (hne:shaS A≠shaS M) (hK:hexC K=0):GoodS (zp A M K):=by
 have hm:∀b∈(zp A M K).blobs,b=⟨shaS A,A,0,false⟩∨b=⟨shaS M,M,0,false⟩:=fun b hb=>by simpa using (kD A M K).mem_iff.1 hb
 have h1:=zu A;have h2:=zu M;refine⟨⟨by rw [(kD A M K).length_eq];show 2≤24;omega,fun b hb=> ?_,km ?_⟩,⟨by show 1≤10;omega,fun x hx=> ?_,List.pairwise_singleton _ _⟩,by show 200≤4000;omega,?_,by show 1≤1099511627776;omega,fun x hx=> ?_⟩
 ·rcases hm b hb with rfl | rfl
  ·exact⟨rfl,by show A.length≤300;omega,by show 0≤5;omega⟩
  ·exact⟨rfl,by show M.length≤300;omega,by show 0≤5;omega⟩
 ·show [shaS A,shaS M].Nodup;rw [List.nodup_cons];exact⟨by simp [hne],by simp⟩
 ·obtain rfl:=List.mem_singleton.1 hx;refine⟨hK,?_,by show 0≤5;omega,by show 1≤1099511627776;omega⟩;show chk [⟨[109],shaS M,M.length⟩]=0;rw [chk,if_neg (by show ¬1>8;omega),yg (show qg [109]=0 by decide) (fun m hm=>by cases hm) h2 (by show M.length≤300;omega)];rfl
 ·show usd (zp A M K).blobs≤200;rw [ju (kD A M K)];show A.length+(M.length+0)≤200;omega
 ·obtain rfl:=List.mem_singleton.1 hx;refine⟨Nat.le_refl _,fun p hp=> ?_⟩;obtain rfl:=List.mem_singleton.1 hp;exact⟨⟨shaS M,M,0,false⟩,(kD A M K).mem_iff.2 (by simp),rfl,rfl⟩
theorem z0r:K1 124:=by
 refine⟨fun _ _=>by kernel_rfl,fun s t v1 v2 v3 u1 u2 u3 w=> ?_⟩;obtain⟨W,hW,hA,hB,hb⟩:=qF w 63 [.string s,v1,v2,v3] [.string t,u1,u2,u3];have a0:=hA.cell (k:=0) rfl;have b0:=hB.cell (k:=0) rfl;rw [hW]at a0 b0;have HC:=sqH (fun W=>Tryz.strings_Compare s t W);go_enter Tryz.func124,Tryz.ntmps124;go_wp2_with fail;rw [←hW]at a0 b0 ⊢
 clear hW;refine(HC.out W).mono ?_;rintro e_ w1 ⟨rfl,rfl⟩;dsimp only;go_wp2_with fail;go_ret;exact⟨rfl,hb⟩
theorem RwX.sets4 {α:Type} {S:Shp α} {w:World} {e:TypeId} {base g:Nat} {v:Value} {l:List α} {N:Nat→Prop} (h:RwX S e w base v l N) (hN:N g) (hv:v.ownBlock≠some g) (a b c d:Value) :
  RwX S e ((((w.setCell ⟨g,0,none⟩ a).setCell ⟨g,1,none⟩ b).setCell ⟨g,2,none⟩ c).setCell ⟨g,3,none⟩ d) base v l N:=by
 have e1:∀x,some g=some x→v.ownBlock≠some x:=fun x e=>by rw [←e];exact hv
 have e2:∀x,some g=some x→N x:=fun x e=>by cases e;exact hN
 exact(((h.other (zv _ g 0 a) e1 e2).other (zv _ g 1 b) e1 e2).other (zv _ g 2 c) e1 e2).other (zv _ g 3 d) e1 e2
theorem QQ (A M KY:List UInt8) (hA:A= [97,98,99]) (hM:M=enc [⟨[120],shaS A,3⟩]) (hK:KY=keyS 0) (w:World) :
  Calls Tryz.prog 71 #[] w fun e w'=>∃X c Y d,e= .returned (.agg #[.slice X (zp A M KY).blobs.length c,.slice Y (zp A M KY).ents.length d,.int .i64 200,.int .i64 1])∧RdSt w' X c Y d (zp A M KY)∧Below w.heap.size w w':=by
 have hne:=Qj hA hM;have hML:=ZB hA hM;have hAL:A.length=3:=by rw [hA];rfl
 have HA:=sqH hA;have HM:=sqH hM;have HK:=sqH hK;obtain⟨w0,hw0⟩:∃w0,w0=w.alloc (.cells #[.slice none 0 0,.slice none 0 0,.int .i64 0,.int .i64 0] 26):=⟨_,rfl⟩
 have hb0:Below w.heap.size w w0:=by rw [hw0];exact(Below.refl _ _).alloc (Nat.le_refl _) _
 obtain⟨H,hH⟩:∃H,H=w.heap.size:=⟨_,rfl⟩
 have hR:Arr w0 H 26 [.slice none 0 0,.slice none 0 0,.int .i64 0,.int .i64 0]:=by rw [hw0,hH];exact Arr.new w 26 _
 rw [←hH]at hb0 ⊢
 have hkc:=fun (w:World) (C:Array Value) (n c:Nat)=>Lib.run_convert_bytes_const (P:=Tryz.prog) w 61 5 C n c Tryz.underlying61 Tryz.underlying5;clear hA hM hK;go_enter Tryz.func71,Tryz.ntmps71
 iterate 5 (first | go_values | go_skip | go_guarded | go_step | go_upon | go_back)
 rw [←hw0,←hH];clear hw0 hH;go_wp2_with fail;clear hkc;have hr1:Rd (w0.alloc (.cells #[.int .u8 97,.int .u8 98,.int .u8 99] 5 (3,4))) 1 (some ⟨w0.heap.size,0,none⟩) 3 (bys A):=by
  have hz:qT (w0.alloc (.cells #[.int .u8 97,.int .u8 98,.int .u8 99] 5 (3,4))) w0.heap.size (some ⟨w0.heap.size,0,none⟩) 3 A:=by
   rw [HA.out];exact⟨w0.heap.size, [],(3,4),rfl,Nat.le_refl _,World.alloc_heap_new w0 _,rfl,by simp [maxLen],.inr (Nat.le_refl _)⟩
  have:=hz.rd
  rwa [hAL]at this
 have hba:=(Below.refl w0.heap.size w0).alloc (Nat.le_refl _) (.cells #[.int .u8 97,.int .u8 98,.int .u8 99] 5 (3,4));have HD:=sqH (kN (some ⟨w0.heap.size,0,none⟩) 3 3 A _ hAL (by omega) (by omega) hr1);have hHl:H<w0.heap.size:=hR.lt;have hkc:=fun (w:World) (C:Array Value) (n c:Nat)=>Lib.run_convert_bytes_const (P:=Tryz.prog) w 61 5 C n c Tryz.underlying61 Tryz.underlying5;obtain⟨sA,hsA⟩:∃x:ByteArray,x=⟨(shaS A).toArray⟩:=⟨_,rfl⟩
 rw [←hsA]at HD;have HSA:=sqH hsA;clear hr1 hsA;refine HD.out.mono ?_;rintro e_ w2 ⟨rfl,hb2⟩;dsimp only;have hc2:=hba.trans (hb2.mono hba.size);obtain⟨wa,hwa⟩:∃W,W=w2.alloc (.cells #[.int .u8 97,.int .u8 98,.int .u8 99] 5 (3,4)):=⟨_,rfl⟩
 obtain⟨wb,hwb⟩:∃W,W=wa.alloc (.cells #[.string sA,.slice (some ⟨w2.heap.size,0,none⟩) 3 3,.int .i64 0,.bool false] 63):=⟨_,rfl⟩
 obtain⟨wc,hwc⟩:∃W,W=wb.alloc (.cells #[.string ⟨#[120]⟩,.string sA,.int .i64 3] 65):=⟨_,rfl⟩
 have hza:qT wa w2.heap.size (some ⟨w2.heap.size,0,none⟩) 3 A:=by
  rw [hwa,HA.out];exact⟨w2.heap.size, [],(3,4),rfl,Nat.le_refl _,World.alloc_heap_new w2 _,rfl,by simp [maxLen],.inr (Nat.le_refl _)⟩
 have hsa:wa.heap.size=w2.heap.size+1:=by rw [hwa];exact World.size_alloc _ _
 have hsb:wb.heap.size=w2.heap.size+1+1:=by rw [hwb,World.size_alloc,hsa]
 have hXb:Arr wb (w2.heap.size+1) 63 [.string sA,.slice (some ⟨w2.heap.size,0,none⟩) 3 3,.int .i64 0,.bool false]:=by
  rw [hwb,←hsa];exact Arr.new wa 63 _
 have hra:Below w2.heap.size w2 wa:=by rw [hwa];exact(Below.refl _ _).alloc (Nat.le_refl _) _
 have hrb:Below wa.heap.size wa wb:=by rw [hwb];exact(Below.refl _ _).alloc (Nat.le_refl _) _
 have hrc:Below wb.heap.size wb wc:=by rw [hwc];exact(Below.refl _ _).alloc (Nat.le_refl _) _
 have hrP:Rd wc 3 (some ⟨w2.heap.size+1+1,0,none⟩) 1 (pcs [⟨[120],shaS A,3⟩]):=by
  rw [hwc,←hsb,HSA.out];exact Rd.newN (pcs [⟨[120],shaS A,3⟩]) rfl
 have hzc:=(hza.below hrb).below hrc;have hXc:=hXb.below hrc;have hac:Below w2.heap.size w2 wc:=(hra.trans (hrb.mono hra.size)).trans (hrc.mono (by have:=hrb.size;have:=hra.size;omega));have hc3:=hc2.trans (hac.mono hc2.size);have hsc:wc.heap.size=w2.heap.size+1+1+1:=by rw [hwc,World.size_alloc,hsb]
 have HMN:=yE (some ⟨w2.heap.size+1+1,0,none⟩) 1 1 [⟨[120],shaS A,3⟩] wc rfl (by omega) (fun p hp=>by
  obtain rfl:=List.mem_singleton.1 hp;exact⟨show qg [120]=0 by decide,zu _,by show 3≤300;omega⟩) hrP
 rw [←HM.out]at HMN;have HMN:=sqH HMN;obtain⟨G,hG⟩:∃G,G=w2.heap.size:=⟨_,rfl⟩
 have hGw:w0.heap.size≤G:=by rw [hG];exact hc2.size
 clear hza hXb hra hrb hrc hrP hac hc2 hsa hsb;have HWA:=sqH hwa;have HWB:=sqH hwb;have HWC:=sqH hwc;have HG:=sqH hG;rw [←hG]at hzc hXc hsc HMN;clear hwa hwb hwc hG;go_wp2_with fail;clear hkc;rw [←HWA.out,←HWB.out,←HWC.out];rw [←HG.out];clear HWA HWB HWC HG;refine HMN.out.mono ?_;rintro e_ w4 ⟨A4,c4,rfl,hz4,hb4⟩;dsimp only;have hz4c:=hz4.cap;have hXd:=hXc.below hb4;have hzd:=hzc.below hb4;have hc4:=hc3.trans (hb4.mono hc3.size);have HDM:=sqH (kN A4 M.length c4 M w4 rfl hz4c.1 (by omega) hz4.rd);obtain⟨sm,hsm⟩:∃x:ByteArray,x=⟨(shaS M).toArray⟩:=⟨_,rfl⟩
 rw [←hsm]at HDM;have HSM:=sqH hsm;have HML:=sqH hML;clear hsm hXc hzc hc3 hML;go_wp2_with fail;refine HDM.out.mono ?_;rintro e_ w5 ⟨rfl,hb5⟩;dsimp only;have hXe:=hXd.below hb5;have hze:=hzd.below hb5;have hzm:=hz4.below hb5;have hz4A:∀a,A4=some a→H<a.block:=fun a ha=>by have:=hz4.sl.2 a ha;omega
 have hc5:=hc4.trans (hb5.mono hc4.size);have hX1:=hXe.alloc (.cells #[.string sm,.slice A4 M.length c4,.int .i64 0,.bool false] 63);obtain⟨x0,x1,x2,x3⟩:=sqC4 hX1;obtain⟨wd,hwd⟩:∃W,W=w5.alloc (.cells #[.string sm,.slice A4 M.length c4,.int .i64 0,.bool false] 63):=⟨_,rfl⟩
 obtain⟨we,hwe⟩:∃W,W=wd.alloc (.cells #[.string sA,.slice (some ⟨G,0,none⟩) 3 3,.int .i64 0,.bool false,.string sm,.slice A4 M.length c4,.int .i64 0,.bool false] 63):=⟨_,rfl⟩
 obtain⟨wf,hwf⟩:∃W,W=we.alloc (.cells #[.slice (some ⟨w5.heap.size+1,0,none⟩) 2 2,.slice none 0 0,.int .i64 200,.int .i64 1] 26):=⟨_,rfl⟩
 have hsd:wd.heap.size=w5.heap.size+1:=by rw [hwd];exact World.size_alloc _ _
 have hse:we.heap.size=w5.heap.size+1+1:=by rw [hwe,World.size_alloc,hsd]
 have hsf:wf.heap.size=w5.heap.size+1+1+1:=by rw [hwf,World.size_alloc,hse]
 have hrd:Below w5.heap.size w5 wd:=by rw [hwd];exact(Below.refl _ _).alloc (Nat.le_refl _) _
 have hre:Below wd.heap.size wd we:=by rw [hwe];exact(Below.refl _ _).alloc (Nat.le_refl _) _
 have hrf:Below we.heap.size we wf:=by rw [hwf];exact(Below.refl _ _).alloc (Nat.le_refl _) _
 have hsl1:=hze.sl;have hsl2:=hzm.sl;rw [hAL]at hsl1;have hrdf:=(hrd.trans (hre.mono hrd.size)).trans (hrf.mono (by omega));have hown:we.heap[w5.heap.size+1]?=some (.cells #[.string sA,.slice (some ⟨G,0,none⟩) 3 3,.int .i64 0,.bool false,.string sm,.slice A4 M.length c4,.int .i64 0,.bool false] 63):=by
  rw [hwe,←hsd];exact World.alloc_heap_new wd _
 have hXs:Arr wf (w5.heap.size+1+1) 26 [.slice (some ⟨w5.heap.size+1,0,none⟩) 2 2,.slice none 0 0,.int .i64 200,.int .i64 1]:=by
  rw [hwf,←hse];exact Arr.new we 26 _
 have hXm:Arr wd w5.heap.size 63 [.string sm,.slice A4 M.length c4,.int .i64 0,.bool false]:=by
  rw [hwd];exact Arr.new w5 63 _
 have hGl:G<w5.heap.size:=hsl1.1.live _ rfl;have hGA:∀a,A4=some a→a.block<w5.heap.size:=fun a ha=>hsl2.1.live a ha;have hHG:H≠G:=by omega
 have hrow:RwX BlobS 63 wf w5.heap.size (.slice (some ⟨w5.heap.size+1,0,none⟩) 2 2) [⟨shaS A,A,0,false⟩,⟨shaS M,M,0,false⟩] (fun b=>b=w5.heap.size+1+1∨b=H):=by
  refine⟨[(⟨shaS A,A,0,false⟩,zE ⟨shaS A,A,0,false⟩ (some ⟨G,0,none⟩) 3),(⟨shaS M,M,0,false⟩,zE ⟨shaS M,M,0,false⟩ A4 c4)],rfl,fun p hp=> ?_,⟨rfl,.inr ⟨w5.heap.size+1,2,_,rfl,by omega,(hrf.block _ (by omega)).trans hown,Nat.le_refl _,by simp [maxLen],rfl,?_⟩⟩,fun p hp b hb hl=> ?_⟩
  ·simp only [List.mem_cons,List.not_mem_nil,or_false]at hp;rcases hp with rfl | rfl
   ·exact⟨some ⟨G,0,none⟩,3,rfl,by show Sl wf 1 _ A.length 3 _;rw [hAL];exact hsl1.1.below hrdf⟩
   ·exact⟨A4,c4,rfl,hsl2.1.below hrdf⟩
  ·show([.string sA,.slice (some ⟨G,0,none⟩) 3 3,.int .i64 0,.bool false,.string sm,.slice A4 M.length c4,.int .i64 0,.bool false]:List Value)=_;rw [HSA.out,HSM.out];show _=zE ⟨shaS A,A,0,false⟩ (some ⟨G,0,none⟩) 3++(zE ⟨shaS M,M,0,false⟩ A4 c4++ [])
   unfold zE;dsimp only;rw [hAL];rfl
  ·simp only [List.mem_cons,List.not_mem_nil,or_false]at hp;have hb':b=w5.heap.size+1∨b=w5.heap.size+1+1∨b=H:=by
    rcases hb with hb | hb | hb
    ·exact .inl (Option.some.inj hb).symm
    ·exact .inr (.inl hb)
    ·exact .inr (.inr hb)
   rcases hp with rfl | rfl
   ·obtain⟨a,e1,e2⟩:=yV hl;cases e1
    have e3:G=b:=e2;omega
   ·obtain⟨a,e1,e2⟩:=yV hl;have e4:=hGA a e1;have e5:=hz4A a e1;omega
 have HST:=sqH (vX _ z0r _ _ _ w5.heap.size wf (by show 2≤12;omega) (by show [shaS A,shaS M].Nodup;rw [List.nodup_cons];exact⟨by simp [hne],by simp⟩) hrow);have hXs2:=hXs;have hXm2:=(hXm.below hre).below hrf;have hR2:=(((hR.below hc5).below hrd).below hre).below hrf;have hcf:=hc5.trans (hrdf.mono hc5.size);have hb7:=hb0.trans (hcf.mono (by omega));have HWD:=sqH hwd;have HWE:=sqH hwe;have HWF:=sqH hwf;clear hwd hwe hwf hXe hze hzm hX1 hown hrow hrd hre hrf hsl1 hsl2 hXs hXm hXd hzd hc5 hrdf hc4 hb0 hR;go_wp2_with fail;clear x0 x1 x2 x3;rw [←HWD.out,←HWE.out,←HWF.out];clear HWD HWE HWF;refine HST.out.mono ?_;rintro e_ w8 ⟨rfl,hrow8,hg8⟩;dsimp only;generalize w5.heap.size=gb at *
 have hX8:=hXs2.grown hg8 (fun e=>by have e':gb+1=gb+1+1:=Option.some.inj e;omega);have hM8:=hXm2.grown hg8 (fun e=>by have e':gb+1=gb:=Option.some.inj e;omega);have hHb:H<gb:=by omega
 have hR8:=hR2.grown hg8 (fun e=>by have e':gb+1=H:=Option.some.inj e;omega);have hsz8:wf.heap.size≤w8.heap.size:=hg8.size;have HB8:=sqH (hb7.grown hg8 (by omega) (fun k hk=>by have e':gb+1=k:=Option.some.inj hk;omega));have HLE:=sqH (show H<w8.heap.size by omega);have HGS:=sqH (show H≤gb+1+1 by omega);have HRN:=sqH (show H≠gb+1+1 by omega);have HR8:=sqH hR8;have HX8:=sqH (fun W (h:Below w8.heap.size w8 W)=>hX8.below h);have HSB:=sqH (show ∀W,Below w8.heap.size w8 W→W.cell? ⟨gb,0,none⟩=some (.string sm) from fun W h=>(hM8.below h).cell (k:=0) rfl);have HV8:=sqH hrow8;have HVN:=sqH (show(Value.slice (some ⟨gb+1,0,none⟩) 2 2).ownBlock≠some (gb+1+1) from fun e=>by have e':gb+1=gb+1+1:=Option.some.inj e;omega);have HVH:=sqH (show(Value.slice (some ⟨gb+1,0,none⟩) 2 2).ownBlock≠some H from fun e=>by have e':gb+1=H:=Option.some.inj e;omega);obtain⟨sk,hsk⟩:∃x:ByteArray,x=⟨KY.toArray⟩:=⟨_,rfl⟩
 have HSK:=sqH hsk;have HKY:=sqH (show ∀W,Calls Tryz.prog 39 #[.int .i64 0] W fun e w'=>e= .returned (.string sk)∧Below W.heap.size W w' from fun W=>by
  have:=XH 0 W (by omega) (by omega);rw [show pk 0 7=0 from rfl,←HK.out,←hsk]at this;exact this)
 clear hX8 hM8 hR8 hsz8 hg8 hrow8 hXs2 hXm2 hR2 hb7 hsk;generalize hgs:gb+1+1=gs at *
 clear hgs;go_wp2_with fail;refine zC 10 (S:=(fun w'=>w'.cell? ⟨gb,0,none⟩=some (.string sm))) (by kernel_rfl) ?_ (fun hHeld=> ?_)
 ·exact HSB.out _ (Below.refl _ w8).drew
 have hB:=(Below.refl w8.heap.size w8).drew;generalize w8.drew=wn0 at *
 refine sqTT 1 ?_;try simp only [sqP]
 refine sqTT 2 ?_;try simp only [sqP]
 refine sqTT 3 ?_;try simp only [sqP]
 refine sqTT 4 ?_;try simp only [sqP]
 refine sqTT 5 ?_;try simp only [sqP]
 refine zh (rs:= [0,6]) (by kernel_rfl) (by simp) ?_;refine zd.cons (o:=_) rfl (fun K hK=> ?_) ?_
 ·
  go_simp;refine(HKY.out wn0).mono ?_;rintro e5 w5 ⟨rfl,hb5⟩;dsimp only;refine jH hK ?_ (Below wn0.heap.size wn0) (fun W=>True) ?_ ?_ (fun wn1 hHeld hst hnew=> ?_)
  ·(exact HSB.out _ (hB.trans (Below.mono (show Below wn0.heap.size wn0 _ from by(first | exact(Below.refl _ _).alloc (Nat.le_refl _) _ | exact hb5 | exact Below.refl _ _)) hB.size)))
  ·(first | exact(Below.refl _ _).alloc (Nat.le_refl _) _ | exact hb5 | exact Below.refl _ _)
  ·(trivial)
  have hB:=hB.trans (hst.mono hB.size);clear hst;clear hK K
  try simp only [sqP]
  refine zh (rs:= [6]) (by kernel_rfl) (by simp) ?_;refine zd.cons (o:=_) rfl (fun K hK=> ?_) ?_
  ·
   go_simp;refine jH hK ?_ (Below wn1.heap.size wn1) (fun W=>Rd W 3 (some ⟨wn1.heap.size,0,none⟩) 1 (pcs [⟨[109],shaS M,M.length⟩])∧w8.heap.size≤wn1.heap.size∧wn1.heap.size<W.heap.size) ?_ ?_ (fun wn2 hHeld hst hnew=> ?_)
   ·(exact HSB.out _ (hB.trans (Below.mono (show Below wn1.heap.size wn1 _ from by(first | exact(Below.refl _ _).alloc (Nat.le_refl _) _ | exact hb5 | exact Below.refl _ _)) hB.size)))
   ·(first | exact(Below.refl _ _).alloc (Nat.le_refl _) _ | exact hb5 | exact Below.refl _ _)
   ·(exact⟨by rw [HSM.out];exact Rd.newN (pcs [⟨[109],shaS M,M.length⟩]) rfl,hB.size,by rw [World.size_alloc];omega⟩)
   have hB:=hB.trans (hst.mono hB.size);obtain⟨h6,hl6,hm6⟩:=hnew;obtain⟨g6,hg6⟩:∃g,g=wn1.heap.size:=⟨_,rfl⟩
   rw [←hg6]at h6 hl6 hm6 ⊢
   clear hg6;clear hst;clear hK K
   try simp only [sqP]
   refine sqTT 7 ?_;try simp only [sqP]
   refine zh (rs:= [8]) (by kernel_rfl) (by simp) ?_;refine zd.cons (o:=_) rfl (fun K hK=> ?_) ?_
   ·
    go_simp;refine jH hK ?_ (Below wn2.heap.size wn2) (fun W=>Arr W wn2.heap.size 49 (q4 ⟨KY, [⟨[109],shaS M,M.length⟩],0,1⟩ (some ⟨g6,0,none⟩) 1)∧w8.heap.size≤wn2.heap.size∧g6<wn2.heap.size) ?_ ?_ (fun wn3 hHeld hst hnew=> ?_)
    ·(exact HSB.out _ (hB.trans (Below.mono (show Below wn2.heap.size wn2 _ from by(first | exact(Below.refl _ _).alloc (Nat.le_refl _) _ | exact hb5 | exact Below.refl _ _)) hB.size)))
    ·(first | exact(Below.refl _ _).alloc (Nat.le_refl _) _ | exact hb5 | exact Below.refl _ _)
    ·(exact⟨by rw [HSK.out];exact Arr.new _ _ _,hB.size,hm6⟩)
    have hB:=hB.trans (hst.mono hB.size);have h6:=h6.below hst;have hm6:=Nat.lt_of_lt_of_le hm6 hst.size;obtain⟨h8,hl8,hlt8⟩:=hnew;obtain⟨g8,hg8⟩:∃g,g=wn2.heap.size:=⟨_,rfl⟩
    have HNG:∀ {b},g6=b→g8=b→False:=fun e1 e2=>by omega
    rw [←hg8]at h8 hl8 ⊢
    clear hg8 hlt8;clear hst;clear hK K
    try simp only [sqP]
    refine sqTT 9 ?_;try simp only [sqP]
    refine zh (rs:= [10]) (by kernel_rfl) (by simp) ?_;refine zd.last (o:=_) rfl (fun K hK=> ?_);have fz:=(HX8.out _ hB).frozen 1;have cz:=(HX8.out _ hB).cell (k:=1) rfl;go_simp;clear fz cz;refine JE hK ?_;clear hK K
    try simp only [sqP]
    refine qG (by kernel_rfl) ?_ _;dsimp only [Exit.then];clear hHeld;have hX9:=(HX8.out _ hB).set (k:=1) (by simp) (.slice (some ⟨g8,0,none⟩) 1 1);have hne8:g8≠gs:=by have:=(HX8.out w8 (Below.refl _ _)).lt;omega
    have hne6:g6≠gs:=by have:=(HX8.out w8 (Below.refl _ _)).lt;omega
    have h8':=h8.other (g':=gs) (k:=1) hne8 (.slice (some ⟨g8,0,none⟩) 1 1);have h6':=h6.other (g:=gs) (k:=1) hne6 (.slice (some ⟨g8,0,none⟩) 1 1);have hb9:=(HB8.out.trans (hB.mono (Nat.le_of_lt HLE.out))).setCell (p:=⟨gs,1,none⟩) HGS.out (.slice (some ⟨g8,0,none⟩) 1 1);have hR9:=(HR8.out.below hB).other (g':=gs) (k:=1) HRN.out (.slice (some ⟨g8,0,none⟩) 1 1);have hv9:=(HV8.out.below hB).other (zv _ gs 1 (.slice (some ⟨g8,0,none⟩) 1 1)) (fun b e=>by cases e;exact HVN.out) (fun b e=>by cases e;exact .inl rfl);have hm9:g6<(wn3.setCell ⟨gs,1,none⟩ (.slice (some ⟨g8,0,none⟩) 1 1)).heap.size:=by rw [show(wn3.setCell ⟨gs,1,none⟩ (.slice (some ⟨g8,0,none⟩) 1 1)).heap.size=wn3.heap.size by simp [World.setCell]];exact hm6
    clear hB h6 h8 hm6;generalize wn3.setCell ⟨gs,1,none⟩ (.slice (some ⟨g8,0,none⟩) 1 1)=w9 at *
    obtain⟨z0,z1,z2,z3⟩:=sqC4 hX9;obtain⟨f0,f1,f2,f3⟩:=sqF4 hR9;obtain⟨y0,y1,y2,y3⟩:=sqC4 hR9;have hfin:=hR9.all4 (.slice (some ⟨gb+1,0,none⟩) 2 2) (.slice (some ⟨g8,0,none⟩) 1 1) (.int .i64 200) (.int .i64 1);have hE9:RwX EntS 49 w9 w8.heap.size (.slice (some ⟨g8,0,none⟩) 1 1) [⟨KY, [⟨[109],shaS M,M.length⟩],0,1⟩] (fun b=>b=H):=by
     have hb8':w9.heap[g8]?=some (.cells (q4 ⟨KY, [⟨[109],shaS M,M.length⟩],0,1⟩ (some ⟨g6,0,none⟩) 1).toArray 49 (0,0)):=h8';refine⟨[(⟨KY, [⟨[109],shaS M,M.length⟩],0,1⟩,q4 ⟨KY, [⟨[109],shaS M,M.length⟩],0,1⟩ (some ⟨g6,0,none⟩) 1)],rfl,fun p hp=> ?_,⟨rfl,.inr ⟨g8,1,_,rfl,hl8,hb8',Nat.le_refl _,by simp [maxLen],rfl,rfl⟩⟩,fun p hp b hb hl=> ?_⟩
     ·obtain rfl:=List.mem_singleton.1 hp;exact⟨some ⟨g6,0,none⟩,1,rfl,h6',Nat.le_refl _,by simp [maxLen],fun a ha=>by cases ha;exact hm9⟩
     ·obtain rfl:=List.mem_singleton.1 hp;obtain⟨a,e1,e2⟩:=vh hl;cases e1
      have e3:g6=b:=e2;rcases hb with hb | hb
      ·have e4:g8=b:=Option.some.inj hb;exact HNG e3 e4
      ·have:=HLE.out;omega
    have hE10:=hE9.sets4 (g:=H) rfl (fun e=>by have e4:g8=H:=Option.some.inj e;have:=HLE.out;omega) (.slice (some ⟨gb+1,0,none⟩) 2 2) (.slice (some ⟨g8,0,none⟩) 1 1) (.int .i64 200) (.int .i64 1);have hv10:=hv9.sets4 (g:=H) (.inr rfl) HVH.out (.slice (some ⟨gb+1,0,none⟩) 2 2) (.slice (some ⟨g8,0,none⟩) 1 1) (.int .i64 200) (.int .i64 1);have hb10:=(((hb9.setCell (p:=⟨H,0,none⟩) (Nat.le_refl _) (.slice (some ⟨gb+1,0,none⟩) 2 2)).setCell (p:=⟨H,1,none⟩) (Nat.le_refl _) (.slice (some ⟨g8,0,none⟩) 1 1)).setCell (p:=⟨H,2,none⟩) (Nat.le_refl _) (.int .i64 200)).setCell (p:=⟨H,3,none⟩) (Nat.le_refl _) (.int .i64 1);clear hX9 hR9 h8' h6' hb9 hv9 hE9;go_wp2_with fail;refine bodyPost_ret (results_cell_row rfl _ _ H _ _ _ _ (by rfl) hfin Tryz.underlying26 rfl (by kernel_rfl)) rfl ?_;obtain⟨X,c,e1,e2,e3,e4⟩:=hv10.rwo.rows;obtain⟨Y,d,k1,k2,k3,k4⟩:=hE10.rwo.rows;refine⟨X,c,Y,d,?_,⟨e4,k4,e2,e3,k2,k3⟩,hb10⟩;rw [show(zp A M KY).blobs=srt (·.dig) [⟨shaS A,A,0,false⟩,⟨shaS M,M,0,false⟩] from rfl,←e1];rw [show(zp A M KY).ents= [⟨KY, [⟨[109],shaS M,M.length⟩],0,1⟩] from rfl,←k1]
   exact zd.nil
  exact zd.nil
 refine zd.cons (o:=_) rfl (fun K hK=> ?_) ?_
 ·
  go_simp;refine jH hK ?_ (Below wn0.heap.size wn0) (fun W=>Rd W 3 (some ⟨wn0.heap.size,0,none⟩) 1 (pcs [⟨[109],shaS M,M.length⟩])∧w8.heap.size≤wn0.heap.size∧wn0.heap.size<W.heap.size) ?_ ?_ (fun wn4 hHeld hst hnew=> ?_)
  ·(exact HSB.out _ (hB.trans (Below.mono (show Below wn0.heap.size wn0 _ from by(first | exact(Below.refl _ _).alloc (Nat.le_refl _) _ | exact hb5 | exact Below.refl _ _)) hB.size)))
  ·(first | exact(Below.refl _ _).alloc (Nat.le_refl _) _ | exact hb5 | exact Below.refl _ _)
  ·(exact⟨by rw [HSM.out];exact Rd.newN (pcs [⟨[109],shaS M,M.length⟩]) rfl,hB.size,by rw [World.size_alloc];omega⟩)
  have hB:=hB.trans (hst.mono hB.size);obtain⟨h6,hl6,hm6⟩:=hnew;obtain⟨g6,hg6⟩:∃g,g=wn0.heap.size:=⟨_,rfl⟩
  rw [←hg6]at h6 hl6 hm6 ⊢
  clear hg6;clear hst;clear hK K
  try simp only [sqP]
  refine zh (rs:= [0]) (by kernel_rfl) (by simp) ?_;refine zd.cons (o:=_) rfl (fun K hK=> ?_) ?_
  ·
   go_simp;refine(HKY.out wn4).mono ?_;rintro e5 w5 ⟨rfl,hb5⟩;dsimp only;refine jH hK ?_ (Below wn4.heap.size wn4) (fun W=>True) ?_ ?_ (fun wn5 hHeld hst hnew=> ?_)
   ·(exact HSB.out _ (hB.trans (Below.mono (show Below wn4.heap.size wn4 _ from by(first | exact(Below.refl _ _).alloc (Nat.le_refl _) _ | exact hb5 | exact Below.refl _ _)) hB.size)))
   ·(first | exact(Below.refl _ _).alloc (Nat.le_refl _) _ | exact hb5 | exact Below.refl _ _)
   ·(trivial)
   have hB:=hB.trans (hst.mono hB.size);have h6:=h6.below hst;have hm6:=Nat.lt_of_lt_of_le hm6 hst.size;clear hst;clear hK K
   try simp only [sqP]
   refine sqTT 7 ?_;try simp only [sqP]
   refine zh (rs:= [8]) (by kernel_rfl) (by simp) ?_;refine zd.cons (o:=_) rfl (fun K hK=> ?_) ?_
   ·
    go_simp;refine jH hK ?_ (Below wn5.heap.size wn5) (fun W=>Arr W wn5.heap.size 49 (q4 ⟨KY, [⟨[109],shaS M,M.length⟩],0,1⟩ (some ⟨g6,0,none⟩) 1)∧w8.heap.size≤wn5.heap.size∧g6<wn5.heap.size) ?_ ?_ (fun wn6 hHeld hst hnew=> ?_)
    ·(exact HSB.out _ (hB.trans (Below.mono (show Below wn5.heap.size wn5 _ from by(first | exact(Below.refl _ _).alloc (Nat.le_refl _) _ | exact hb5 | exact Below.refl _ _)) hB.size)))
    ·(first | exact(Below.refl _ _).alloc (Nat.le_refl _) _ | exact hb5 | exact Below.refl _ _)
    ·(exact⟨by rw [HSK.out];exact Arr.new _ _ _,hB.size,hm6⟩)
    have hB:=hB.trans (hst.mono hB.size);have h6:=h6.below hst;have hm6:=Nat.lt_of_lt_of_le hm6 hst.size;obtain⟨h8,hl8,hlt8⟩:=hnew;obtain⟨g8,hg8⟩:∃g,g=wn5.heap.size:=⟨_,rfl⟩
    have HNG:∀ {b},g6=b→g8=b→False:=fun e1 e2=>by omega
    rw [←hg8]at h8 hl8 ⊢
    clear hg8 hlt8;clear hst;clear hK K
    try simp only [sqP]
    refine sqTT 9 ?_;try simp only [sqP]
    refine zh (rs:= [10]) (by kernel_rfl) (by simp) ?_;refine zd.last (o:=_) rfl (fun K hK=> ?_);have fz:=(HX8.out _ hB).frozen 1;have cz:=(HX8.out _ hB).cell (k:=1) rfl;go_simp;clear fz cz;refine JE hK ?_;clear hK K
    try simp only [sqP]
    refine qG (by kernel_rfl) ?_ _;dsimp only [Exit.then];clear hHeld;have hX9:=(HX8.out _ hB).set (k:=1) (by simp) (.slice (some ⟨g8,0,none⟩) 1 1);have hne8:g8≠gs:=by have:=(HX8.out w8 (Below.refl _ _)).lt;omega
    have hne6:g6≠gs:=by have:=(HX8.out w8 (Below.refl _ _)).lt;omega
    have h8':=h8.other (g':=gs) (k:=1) hne8 (.slice (some ⟨g8,0,none⟩) 1 1);have h6':=h6.other (g:=gs) (k:=1) hne6 (.slice (some ⟨g8,0,none⟩) 1 1);have hb9:=(HB8.out.trans (hB.mono (Nat.le_of_lt HLE.out))).setCell (p:=⟨gs,1,none⟩) HGS.out (.slice (some ⟨g8,0,none⟩) 1 1);have hR9:=(HR8.out.below hB).other (g':=gs) (k:=1) HRN.out (.slice (some ⟨g8,0,none⟩) 1 1);have hv9:=(HV8.out.below hB).other (zv _ gs 1 (.slice (some ⟨g8,0,none⟩) 1 1)) (fun b e=>by cases e;exact HVN.out) (fun b e=>by cases e;exact .inl rfl);have hm9:g6<(wn6.setCell ⟨gs,1,none⟩ (.slice (some ⟨g8,0,none⟩) 1 1)).heap.size:=by rw [show(wn6.setCell ⟨gs,1,none⟩ (.slice (some ⟨g8,0,none⟩) 1 1)).heap.size=wn6.heap.size by simp [World.setCell]];exact hm6
    clear hB h6 h8 hm6;generalize wn6.setCell ⟨gs,1,none⟩ (.slice (some ⟨g8,0,none⟩) 1 1)=w9 at *
    obtain⟨z0,z1,z2,z3⟩:=sqC4 hX9;obtain⟨f0,f1,f2,f3⟩:=sqF4 hR9;obtain⟨y0,y1,y2,y3⟩:=sqC4 hR9;have hfin:=hR9.all4 (.slice (some ⟨gb+1,0,none⟩) 2 2) (.slice (some ⟨g8,0,none⟩) 1 1) (.int .i64 200) (.int .i64 1);have hE9:RwX EntS 49 w9 w8.heap.size (.slice (some ⟨g8,0,none⟩) 1 1) [⟨KY, [⟨[109],shaS M,M.length⟩],0,1⟩] (fun b=>b=H):=by
     have hb8':w9.heap[g8]?=some (.cells (q4 ⟨KY, [⟨[109],shaS M,M.length⟩],0,1⟩ (some ⟨g6,0,none⟩) 1).toArray 49 (0,0)):=h8';refine⟨[(⟨KY, [⟨[109],shaS M,M.length⟩],0,1⟩,q4 ⟨KY, [⟨[109],shaS M,M.length⟩],0,1⟩ (some ⟨g6,0,none⟩) 1)],rfl,fun p hp=> ?_,⟨rfl,.inr ⟨g8,1,_,rfl,hl8,hb8',Nat.le_refl _,by simp [maxLen],rfl,rfl⟩⟩,fun p hp b hb hl=> ?_⟩
     ·obtain rfl:=List.mem_singleton.1 hp;exact⟨some ⟨g6,0,none⟩,1,rfl,h6',Nat.le_refl _,by simp [maxLen],fun a ha=>by cases ha;exact hm9⟩
     ·obtain rfl:=List.mem_singleton.1 hp;obtain⟨a,e1,e2⟩:=vh hl;cases e1
      have e3:g6=b:=e2;rcases hb with hb | hb
      ·have e4:g8=b:=Option.some.inj hb;exact HNG e3 e4
      ·have:=HLE.out;omega
    have hE10:=hE9.sets4 (g:=H) rfl (fun e=>by have e4:g8=H:=Option.some.inj e;have:=HLE.out;omega) (.slice (some ⟨gb+1,0,none⟩) 2 2) (.slice (some ⟨g8,0,none⟩) 1 1) (.int .i64 200) (.int .i64 1);have hv10:=hv9.sets4 (g:=H) (.inr rfl) HVH.out (.slice (some ⟨gb+1,0,none⟩) 2 2) (.slice (some ⟨g8,0,none⟩) 1 1) (.int .i64 200) (.int .i64 1);have hb10:=(((hb9.setCell (p:=⟨H,0,none⟩) (Nat.le_refl _) (.slice (some ⟨gb+1,0,none⟩) 2 2)).setCell (p:=⟨H,1,none⟩) (Nat.le_refl _) (.slice (some ⟨g8,0,none⟩) 1 1)).setCell (p:=⟨H,2,none⟩) (Nat.le_refl _) (.int .i64 200)).setCell (p:=⟨H,3,none⟩) (Nat.le_refl _) (.int .i64 1);clear hX9 hR9 h8' h6' hb9 hv9 hE9;go_wp2_with fail;refine bodyPost_ret (results_cell_row rfl _ _ H _ _ _ _ (by rfl) hfin Tryz.underlying26 rfl (by kernel_rfl)) rfl ?_;obtain⟨X,c,e1,e2,e3,e4⟩:=hv10.rwo.rows;obtain⟨Y,d,k1,k2,k3,k4⟩:=hE10.rwo.rows;refine⟨X,c,Y,d,?_,⟨e4,k4,e2,e3,k2,k3⟩,hb10⟩;rw [show(zp A M KY).blobs=srt (·.dig) [⟨shaS A,A,0,false⟩,⟨shaS M,M,0,false⟩] from rfl,←e1];rw [show(zp A M KY).ents= [⟨KY, [⟨[109],shaS M,M.length⟩],0,1⟩] from rfl,←k1]
   exact zd.nil
  exact zd.nil
 exact zd.nil
end Go.Proofs.YtnmlbflhnnmoeaaGreat
