/- Lemmas of the proof. Conditions: as stated. -/
import Derived.Test.YtnmlbflhnnmoeaaGreatQX38
import Derived.Test.YtnmlbflhnnmoeaaGreatQX40
set_option linter.unusedVariables false
set_option linter.unusedSimpArgs false
set_option maxRecDepth 100000
set_option maxHeartbeats 4000000
namespace Go.Proofs.YtnmlbflhnnmoeaaGreat
open Go.RowKit
end Go.Proofs.YtnmlbflhnnmoeaaGreat
namespace Go.Proofs.YtnmlbflhnnmoeaaGreat
open Go.RowKit Go.Maps
end Go.Proofs.YtnmlbflhnnmoeaaGreat
namespace Go.Proofs.YtnmlbflhnnmoeaaGreat
open Go.RowKit Go.Maps Go.Sort Go.Shelf
end Go.Proofs.YtnmlbflhnnmoeaaGreat
namespace Go.Proofs.YtnmlbflhnnmoeaaGreat
open Go.RowKit Go.Maps
theorem UD {A M K:List UInt8} (hA:A= [97,98,99]) (hM:M=enc [⟨[120],shaS A,3⟩]) (hg:GoodS (zp A M K)):∀x,Rch (zp A M K).blobs (rts (zp A M K)) x↔x∈ [shaS A,shaS M]:=by
 have hp:=kD A M K;have hbA:(⟨shaS A,A,0,false⟩:BlobP)∈(zp A M K).blobs:=hp.mem_iff.2 (by simp);have hbM:(⟨shaS M,M,0,false⟩:BlobP)∈(zp A M K).blobs:=hp.mem_iff.2 (by simp);have kA:kids (zp A M K).blobs (shaS A)= []:=by
  have:=qW hg.b.ris hbA;dsimp only at this;rw [this,hA];decide +kernel
 have kM:kids (zp A M K).blobs (shaS M)= [shaS A]:=by
  have:=qW hg.b.ris hbM;dsimp only at this;have hc:chk [(⟨[120],shaS A,3⟩:PartP)]=0:=by
   rw [chk,if_neg (by show ¬1>8;omega),yg (show qg [120]=0 by decide) (fun m hm=>by cases hm) (zu A) (by show 3≤300;omega)];rfl
  rw [this,hM,Q1 _ hc];rfl
 intro x;constructor
 ·intro h
  induction h with
  | root h1 h2=>rw [(j0 _).1 h1];simp
  | step h1 h2 h3 ih =>
   simp only [List.mem_cons,List.not_mem_nil,or_false]at ih;rcases ih with rfl | rfl
   ·rw [kA]at h2;cases h2
   ·rw [kM]at h2;rw [List.mem_singleton.1 h2];simp
 ·intro h;simp only [List.mem_cons,List.not_mem_nil,or_false]at h;have hm:Rch (zp A M K).blobs (rts (zp A M K)) (shaS M):= .root ((j0 _).2 rfl) ⟨_,hbM,rfl⟩;rcases h with rfl | rfl
  ·exact .step hm (by rw [kM];simp) ⟨_,hbA,rfl⟩
  ·exact hm
theorem Qi (w:World):Calls Tryz.prog 27 #[] w fun e w'=>e= .returned (.bool true)∧Below w.heap.size w w':=by
 obtain⟨A,hA⟩:∃A:List UInt8,A= [97,98,99]:=⟨_,rfl⟩
 obtain⟨M,hM⟩:∃M,M=enc [⟨[120],shaS A,3⟩]:=⟨_,rfl⟩
 obtain⟨K,hK⟩:∃K,K=keyS 0:=⟨_,rfl⟩
 have hAL:A.length=3:=by rw [hA];rfl
 have hg:GoodS (zp A M K):=Qr hAL (ZB hA hM) (Qj hA hM) (by rw [hK];exact zu _);have hall:=UD (K:=K) hA hM hg;have hrts:=j0 (A:=A) (M:=M) (K:=K);have hne:=Qj hA hM;have HSM:=sqH (fun w=>QQ A M K hA hM hK w);have HOK:=sqH hg.rts;have HAL:=sqH (fun (L:List (List UInt8)) (h:StrL L (Rch (zp A M K).blobs (rts (zp A M K))))=>show L.length=2 from h.len (N:= [shaS A,shaS M]) (by rw [List.nodup_cons];exact⟨by simp [hne],by simp⟩) (fun x=>(hall x).symm));have HRL:=sqH (fun (L:List (List UInt8)) (h:StrL L (fun x=>x∈rts (zp A M K)))=>show L.length=1 from h.len (N:= [shaS M]) (by simp) (fun x=>by rw [hrts];simp));clear hA hM hK hAL hg hall hrts hne;generalize zp A M K=s at *
 go_enter Tryz.func27,Tryz.ntmps27;go_wp2_with fail;refine(HSM.out w).mono ?_;rintro e_ w1 ⟨X,c,Y,d,rfl,hr1,hb1⟩;dsimp only;go_wp2_with fail;refine(yr X Y c d s 200 1 w1 HOK.out hr1).mono ?_;rintro e_ w2 ⟨v2,L2,rfl,hL2,_,ho2,hb2⟩;dsimp only;obtain⟨A2,c2,rfl,_,_⟩:=Rd.of_own' ho2;have hl2:=HAL.out L2 hL2;have hb12:=hb1.trans (hb2.mono hb1.size);clear ho2 hr1 hL2;rw [hl2];go_wp2_with fail;refine(HSM.out w2).mono ?_;rintro e_ w3 ⟨X3,c3,Y3,d3,rfl,hr3,hb3⟩;dsimp only;go_wp2_with fail;refine(yd X3 Y3 c3 d3 s 200 1 w3 HOK.out hr3).mono ?_;rintro e_ w4 ⟨v4,L4,rfl,hL4,_,ho4,hb4⟩;dsimp only;obtain⟨A4,c4,rfl,_,_⟩:=Rd.of_own' ho4;have hl4:=HRL.out L4 hL4;have hb13:=hb12.trans (hb3.mono hb12.size);have hb14:=hb13.trans (hb4.mono hb13.size);clear ho4 hr3 hL4;rw [hl4];go_wp2_with fail;go_ret;exact⟨rfl,hb14⟩
end Go.Proofs.YtnmlbflhnnmoeaaGreat
