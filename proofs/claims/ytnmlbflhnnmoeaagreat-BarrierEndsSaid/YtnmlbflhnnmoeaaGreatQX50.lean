/- Lemmas of the proof. Conditions: as stated. -/
import Derived.Test.YtnmlbflhnnmoeaaGreatQX49
set_option linter.unusedVariables false
set_option linter.unusedSimpArgs false
set_option maxRecDepth 100000
set_option maxHeartbeats 16000000
namespace Go.Proofs.YtnmlbflhnnmoeaaGreat
open Go.RowKit
def KU (w:World) (g:Option Nat) (l:List (List UInt8)) (f:FuncId) (x:Value) (p:List UInt8→Bool):Prop :=
 (∀args W,(callFunc f args).run Tryz.prog W= .ok (.enter f args) W)∧∀(b:List UInt8) (W:World),b∈l→w.grownBy W g →
  Calls Tryz.prog f #[.string ⟨b.toArray⟩,x] W fun e w'=>e= .returned (.bool (p b))∧Below W.heap.size W w'
theorem z0p (w:World):(zeroValue 9).run Tryz.prog w= .ok (.string ByteArray.empty) w:=by kernel_rfl
theorem z07 {w:World} {base g cap n:Nat} {xs:List Value} (h:w.ownsRow base 9 1 (.slice (some ⟨g,0,none⟩) n cap) n xs) (i:Nat) (hi:i<n) :
  ∃zs:List Value,zs.length=n - i∧(∀ty c,(Builtin.clear_ #[27] ty #[.slice (some ⟨g,i,none⟩) (n - i) c]).run Tryz.prog w= .ok (.tuple #[]) (w.setCells g i zs)) ∧
   (w.setCells g i zs).ownsRow base 9 1 (.slice (some ⟨g,0,none⟩) i cap) i (xs.take i)∧w.grownBy (w.setCells g i zs) (some g):=by
 have hl:=ky (Value.string ByteArray.empty).cells (n - i);obtain⟨k1,k2,k3,k4⟩:=Z8 h (by omega) hi (zs:=(Builtin.zeroCells (Value.string ByteArray.empty).cells (n - i)).toList) hl;simp only [Nat.mul_one]at k1 k2 k3 k4;exact⟨_,by rw [hl];simp [Value.cells],fun ty c=>yB w _ _ ty _ _ _ (by omega) Tryz.underlying27 z0p rfl (kr _ _ (by simp [Value.cells]) (by intro u hu;simp [Value.cells]at hu;subst hu;rfl)) g _ c k3 k4,k1,k2⟩
theorem UC (base:Nat) (v:Value) (l:List (List UInt8)) (f:FuncId) (x:Value) (p:List UInt8→Bool) (w:World) (hl:l.length≤1000000) (hx:w.ownsRow base 9 1 v l.length (strs l)) (HC:KU w v.ownBlock l f x p) :
  Calls Tryz.prog 81 #[v,.func (.func f) #[] #[x]] w fun e w'=>∃v',e= .returned v'∧w'.ownsRow base 9 1 v' (l.filter (fun b=> !p b)).length (strs (l.filter (fun b=> !p b)))∧w.grownBy w' v.ownBlock:=by
 obtain⟨hce,hcc0⟩:=HC;have HCC:=sqH hcc0;clear hcc0;obtain⟨A,cap,rfl,hlc,hrw⟩:=Rd.of_own' hx;have HI:=sqH (KG A cap l f x p w (by omega) hrw ⟨hce,fun b W hb hbl=>HCC.out b W hb ⟨hbl.os,hbl.tape,hbl.output,hbl.size,fun k hk _=>hbl.block k hk⟩⟩);cases hf:l.findIdx? p with
 | none =>
  rw [hf]at HI;have hall:l.filter (fun b=> !p b)=l:=List.filter_eq_self.2 fun b hb=>by
   have:=List.findIdx?_eq_none_iff.1 hf b hb;rw [this];rfl
  have HALL:=sqH hall;have HX:=sqH hx;clear hall hf hx hrw;go_enter Tryz.func81,Tryz.ntmps81;go_wp2_with fail;refine HI.out.mono ?_;rintro e_ w1 ⟨rfl,hb1⟩;dsimp only;simp only [plc];go_wp2_with fail;go_ret;refine⟨_,rfl,by rw [HALL.out];exact z8 HX.out hb1,⟨hb1.os,hb1.tape,hb1.output,hb1.size,fun k hk _=>hb1.block k hk⟩⟩
 | some i0 =>
  rw [hf]at HI;simp only [plc]at HI;obtain⟨hi0,hpi,hno⟩:=List.findIdx?_eq_some_iff_getElem.1 hf;have hkeep0:(l.take (i0+1)).filter (fun b=> !p b)=l.take i0:=by
   rw [List.take_succ_eq_append_getElem hi0,List.filter_append,List.filter_cons_of_neg (by rw [hpi];simp)];rw [List.filter_nil,List.append_nil];refine List.filter_eq_self.2 fun b hb=> ?_;obtain⟨k,hk,rfl⟩:=List.mem_iff_getElem.1 hb;rw [List.length_take]at hk;have:=hno k (by omega);rw [List.getElem_take];simpa using this
  obtain⟨g,cap',cs,e1,hbg,hA,hnc, -, -, -⟩:=xI hx (by omega);injection e1 with e11 e12 e13;clear e12;subst e11 e13;have hgw:g<w.heap.size:=hA.lt;have HGW:=sqH hgw;have HK0:=sqH hkeep0;clear hkeep0 hno hf hA hrw hgw;have hw1:IntKind.i64.wrap ((i0:Int)+1)=(i0:Int)+1:=IntWalk.i64_in _ (by omega);have hm1:((i0:Int)== -1)=false:=by rw [beq_eq_false_iff_ne];omega
  go_enter Tryz.func81,Tryz.ntmps81;go_wp2_with fail;refine HI.out.mono ?_;rintro e_ w1 ⟨rfl,hb1⟩;dsimp only;have hx1:=z8 hx hb1;have HG1:=sqH (show w.grownBy w1 (some g) from⟨hb1.os,hb1.tape,hb1.output,hb1.size,fun k hk _=>hb1.block k hk⟩);clear hx hb1 HI;go_wp2_with fail;go_loopg [5,6] (l.length - (i0+1)) (fun gn u v wr=>∃(i j:Nat) (M:List (List UInt8)),gn=l.length - j∧u= .int .i64 i∧v= .int .i64 j∧i<j∧j≤l.length∧M.length=l.length∧M.take i=(l.take j).filter (fun b=> !p b)∧M.drop j=l.drop j∧wr.ownsRow base 9 1 (.slice (some ⟨g,0,none⟩) l.length cap) l.length (strs M)∧w.grownBy wr (some g))
  case atStart=>exact⟨i0,i0+1,l,rfl,rfl,by go_num,by omega,by omega,rfl,HK0.out.symm,rfl,hx1,HG1.out⟩
  case round =>
   clear hx1;obtain⟨i,j,M,hgk,rfl,rfl,hij,hj,hM,hMt,hMd,hxr,hgr⟩:=hrel;have HGK:=sqH hgk;have HML:=sqH hM;have HMT:=sqH hMt;have HMD:=sqH hMd;have HGR:=sqH hgr;clear hgk hM hMt hMd hgr;by_cases hlt:j<l.length
   ·have hjj:decide (j<l.length)=true:=decide_eq_true hlt;have hMj:j<M.length:=by have:=HML.out;omega
    have eMj:M[j]=l[j]:=by
     have h1:=HMD.out;rw [List.drop_eq_getElem_cons hMj,List.drop_eq_getElem_cons hlt]at h1;injection h1
    obtain⟨bq,oq,hq, -,d0⟩:=(Rd.of_own hxr).2 (by omega);injection hq with hq;injection hq with hq1 hq2;subst hq1 hq2;have d0:=d0 j _ (qU M j hMj);rw [Nat.zero_add,eMj]at d0;have hmem:l[j]∈l:=List.getElem_mem hlt;have hpt:(l.take (j+1)).filter (fun b=> !p b)=(l.take j).filter (fun b=> !p b)++(if p l[j] then [] else [l[j]]):=by
     rw [List.take_succ_eq_append_getElem hlt,List.filter_append]
     congr 1
     cases hp:p l[j] with
     | true=>rw [List.filter_cons_of_neg (by rw [hp];simp)];rfl
     | false=>rw [List.filter_cons_of_pos (by rw [hp];rfl)];rfl
    have hMset:∀y,(M.set i y).drop (j+1)=l.drop (j+1):=fun y=>by
     rw [List.drop_set,if_pos (by omega)];have h1:=HMD.out;rw [List.drop_eq_getElem_cons hMj,List.drop_eq_getElem_cons hlt]at h1;injection h1
    have hMs0:M.drop (j+1)=l.drop (j+1):=by
     have h1:=HMD.out;rw [List.drop_eq_getElem_cons hMj,List.drop_eq_getElem_cons hlt]at h1;injection h1
    have hMtk:∀y,(M.set i y).take (i+1)=M.take i++ [y]:=fun y=>by
     have hi:i<(M.set i y).length:=by rw [List.length_set];omega
     rw [List.take_succ_eq_append_getElem hi,List.getElem_set_self,List.take_set]
     congr 1
     rw [List.set_eq_of_length_le (by rw [List.length_take];omega)]
    have HPT:=sqH hpt;have HMS:=sqH hMset;have HMS0:=sqH hMs0;have HMK:=sqH hMtk;have hwj:IntKind.i64.wrap ((j:Int)+1)=(j:Int)+1:=IntWalk.i64_in _ (by omega);have hwi:IntKind.i64.wrap ((i:Int)+1)=(i:Int)+1:=IntWalk.i64_in _ (by omega);have hcl:=HCC.out l[j] wr hmem HGR.out;clear hpt hMset hMs0 hMtk hmem eMj;have hj0:(0:Int)≤(j:Int):=by omega
    have hj1:(j:Int)<(l.length:Int):=by omega
    have hi0':(0:Int)≤(i:Int):=by omega
    have hi1':(i:Int)<(l.length:Int):=by omega
    have hiM:i<(strs M).length:=by rw [strs,List.length_map];omega
    generalize l[j]=bl at *
    cases hp:p bl with
    | true =>
     rw [hp]at hcl;have HCL:=sqH hcl;have HPV:=sqH hp;clear hcl hp;go_wp2_with fail;clear d0;refine HCL.out.mono ?_;rintro e_ wB ⟨rfl,hbB⟩;dsimp only;have hxB:=z8 hxr hbB;have HGB:=sqH (HGR.out.trans (show wr.grownBy wB (some g) from⟨hbB.os,hbB.tape,hbB.output,hbB.size,fun k hk _=>hbB.block k hk⟩));clear hxr hbB;go_wp2_with fail;go_roundg (l.length - (j+1))
     case measure=>have:=HGK.out;omega
     case rel=>exact⟨i,j+1,M,rfl,rfl,by go_num,by omega,by omega,HML.out,by rw [HPT.out,HPV.out,if_pos rfl,List.append_nil];exact HMT.out,HMS0.out,hxB,HGB.out⟩
    | false =>
     rw [hp]at hcl;have HCL:=sqH hcl;have HPV:=sqH hp;clear hcl hp;generalize hsd:(⟨bl.toArray⟩:ByteArray)=sd at *
     have HSD:=sqH hsd;clear hsd;go_wp2_with fail;clear d0;refine HCL.out.mono ?_;rintro e_ wB ⟨rfl,hbB⟩;dsimp only;have hxB:=z8 hxr hbB;have hgB:=HGR.out.trans (show wr.grownBy wB (some g) from⟨hbB.os,hbB.tape,hbB.output,hbB.size,fun k hk _=>hbB.block k hk⟩);obtain⟨hx8,hg8,⟨v0,q0⟩,p0⟩:=xy hxB hiM (.string sd);rw [show(strs M).set i (.string sd)=strs (M.set i bl) by rw [strs,strs,List.map_set,←HSD.out]]at hx8;have HG9:=sqH (hgB.trans hg8);clear hxr hxB hgB hbB hg8;go_wp2_with fail;clear q0 p0;generalize (wB.setCell ⟨g,i,none⟩ (.string sd))=w8 at *
     go_roundg (l.length - (j+1))
     case measure=>have:=HGK.out;omega
     case rel=>exact⟨i+1,j+1,M.set i bl,rfl,by go_num,by go_num,by omega,by omega,by rw [List.length_set];exact HML.out,by rw [HPT.out,HPV.out,HMK.out,HMT.out];rfl,HMS.out _,hx8,HG9.out⟩
   ·obtain rfl:j=l.length:=by omega
    have hjj:decide (l.length<l.length)=false:=by simp
    have hMl:M.take i=l.filter (fun b=> !p b):=by rw [HMT.out,List.take_length]
    have hle:(l.filter (fun b=> !p b)).length=i:=by rw [←hMl,List.length_take];have:=HML.out;omega
    obtain⟨zs,hzz,hclr,hx9,hg9⟩:=z07 hxr i (by omega);have hi0':(0:Int)≤(i:Int):=by omega
    have hi1':(i:Int)≤(l.length:Int):=by omega
    have hi2':(i:Int)≤(cap:Int):=by omega
    have hce:¬cap=i:=by omega
    have HX9:=sqH hx9;have HG9:=sqH (HGR.out.trans hg9);have HLE:=sqH hle;have HML2:=sqH hMl;clear hx9 hg9 hxr hle hMl;go_wp2_with fail;go_ret;refine⟨_,rfl,?_,HG9.out⟩;have h1:=HX9.out;rw [show(strs M).take i=strs (l.filter (fun b=> !p b)) by rw [strs,←List.map_take,HML2.out];rfl]at h1;rw [HLE.out];exact h1
end Go.Proofs.YtnmlbflhnnmoeaaGreat
namespace Go.Proofs.YtnmlbflhnnmoeaaGreat
open Go.RowKit Go.Maps
theorem z0v (d:List UInt8) (h:hexC d=0) (W:World):Calls Tryz.prog 98 #[.string ⟨d.toArray⟩] W fun e w'=>e= .returned (.int .i64 0)∧Below W.heap.size W w':=by
 have hl:=qd h;have:=kU ⟨d.toArray⟩ W (by show d.toArray.size≤_;rw [List.size_toArray];omega);rw [show(⟨d.toArray⟩:ByteArray).data.toList=d from rfl,h]at this;exact this
theorem j5 (Ag:Option Addr) (ng:Nat) (cp:ColP) (s:StoP) (w:World) (hgl:cp.grey.length≤1000) (hg:GoodC s cp) (hc:RdC w Ag ng cp) :
  Calls Tryz.prog 77 #[coV (.slice Ag cp.grey.length ng) cp] w fun e w'=>e= .returned (.int .i64 0)∧Below w.heap.size w w':=by
 obtain⟨phase,grey,at_⟩:=cp;have h1:=hg.ph;have h2:=hg.gh;have h3:=hg.ris;have h4:=hg.ah;have h5:=hg.g0;have h6:=hg.a0;clear hg;simp only at h1 h2 h3 h4 h5 h6 hgl;rcases (show phase=0∨phase=1∨phase=2 by omega) with rfl | rfl | rfl
 ·obtain rfl:=h5 (by omega);obtain rfl:=h6 (by omega);clear h1 h2 h3 h4 h5 h6 hgl hc;have hx:Arr (w.alloc (.cells #[.int .i64 0,.slice Ag 0 ng,.string ⟨#[]⟩] 29)) w.heap.size 29 [.int .i64 0,.slice Ag 0 ng,.string ⟨#[]⟩]:=Arr.new w 29 _;have hb:=(Below.refl w.heap.size w).alloc (Nat.le_refl _) (.cells #[.int .i64 0,.slice Ag 0 ng,.string ⟨#[]⟩] 29);obtain⟨x0,x1,x2⟩:=sqC3 hx;go_enter Tryz.func77,Tryz.ntmps77;go_wp2_with fail;go_loopg [46] 1 (fun gn i wr=>gn=1∧i= .int .i64 0∧Below w.heap.size w wr)
  case atStart=>exact⟨rfl,rfl,hb⟩
  case round =>
   obtain⟨hgk,rfl,hbl⟩:=hrel;clear hgk;go_wp2_with fail;go_ret;exact⟨rfl,hbl⟩
 ·obtain rfl:=h6 (by omega);clear h4 h5 h6;have hx:Arr (w.alloc (.cells #[.int .i64 1,.slice Ag grey.length ng,.string ⟨#[]⟩] 29)) w.heap.size 29 [.int .i64 1,.slice Ag grey.length ng,.string ⟨#[]⟩]:=Arr.new w 29 _;have hb:=(Below.refl w.heap.size w).alloc (Nat.le_refl _) (.cells #[.int .i64 1,.slice Ag grey.length ng,.string ⟨#[]⟩] 29);have hrd:=hc.rd.below hb;simp only at hrd;have hg63:(grey.length:Int)≤9223372036854775807:=by omega
  obtain⟨x0,x1,x2⟩:=sqC3 hx;have HX:=sqH hx;have HRD:=sqH hrd;have H2:=sqH h2;have H3:=sqH h3;clear h1 h2 h3 hc hx hrd;go_enter Tryz.func77,Tryz.ntmps77;go_wp2_with fail;generalize (w.alloc (.cells #[.int .i64 1,.slice Ag grey.length ng,.string ⟨#[]⟩] 29))=w0 at *
  clear x0 x1 x2;go_loopg [46] grey.length (fun gn i wr=>∃j:Nat,gn=grey.length - j∧i= .int .i64 j∧j≤grey.length∧Below w0.heap.size w0 wr)
  case atStart=>exact⟨0,rfl,rfl,by omega,Below.refl _ _⟩
  case round =>
   obtain⟨j,hgk,rfl,hj,hbl⟩:=hrel;have HGK:=sqH hgk;clear hgk;by_cases hlt:j<grey.length
   rotate_left
   ·obtain rfl:j=grey.length:=by omega
    have hlb:decide (grey.length<grey.length)=false:=by simp
    go_wp2_with fail;go_ret;exact⟨rfl,hb.trans (hbl.mono hb.size)⟩
   have hlb:decide (j<grey.length)=true:=decide_eq_true hlt;have hj0:(0:Int)≤(j:Int):=by omega
   have hj1:(j:Int)<(grey.length:Int):=by omega
   have hrd2:=HRD.out.below hbl;obtain⟨b,off,hAb,hbb,hcell⟩:=hrd2.2 (by omega);subst hAb;have c0:=hcell j _ (qU grey j hlt);have HHX:=sqH (z0v grey[j] (H2.out _ (List.getElem_mem hlt)) wr);have HKL:=sqH hlt;by_cases hj00:0<j
   ·have hq:=List.pairwise_iff_getElem.1 H3.out (j - 1) j (by omega) hlt (by omega);have c1:=hcell (j - 1) _ (qU grey (j - 1) (by omega));generalize grey[j - 1]=q at *
    generalize grey[j]=p at *
    have hkb:decide (0<(j:Int))=true:=decide_eq_true (by omega);have hkc:decide ((j:Int)>0)=true:=decide_eq_true (by omega);have hkd:decide (0<j)=true:=decide_eq_true hj00;have hm1:IntKind.i64.wrap ((j:Int) - 1)=(j:Int) - 1:=IntWalk.i64_in _ (by omega);have hm2:((j:Int) - 1).toNat=j - 1:=by omega
    have hm3:(0:Int)≤(j:Int) - 1:=by omega
    have hm4:(j:Int) - 1<(grey.length:Int):=by omega
    have hm5:(1:Int)≤(j:Int):=by omega
    obtain⟨sq,hsq⟩:∃s:ByteArray,s=⟨q.toArray⟩:=⟨_,rfl⟩
    obtain⟨sp,hsp⟩:∃s:ByteArray,s=⟨p.toArray⟩:=⟨_,rfl⟩
    rw [←hsq]at c1;rw [←hsp]at c0 HHX;have l1:Op.bytesLess sp.toList sq.toList=false:=by
     rw [hsp,hsq,ByteArray.toList_eq,ByteArray.toList_eq];exact kQ hq
    have l2:(sp.toList==sq.toList)=false:=by
     rw [hsp,hsq,ByteArray.toList_eq,ByteArray.toList_eq,beq_eq_false_iff_ne];exact(xU hq).symm
    have HCL:=sqH (show ∀W,Below w0.heap.size w0 W→W.cell? ⟨w.heap.size,1,none⟩=some (.slice (some ⟨b,off,none⟩) grey.length ng) from fun W h=>(HX.out.below h).cell (k:=1) rfl);have HBB:=sqH hbb;clear hsq hsp hq hcell hrd2 hbb;go_wp2_with fail;clear c0;refine HHX.out.mono ?_;rintro e_ w5 ⟨rfl,hb5⟩;dsimp only;have hb05:=hbl.trans (hb5.mono hbl.size);have c2:=(hb5.cell (p:=⟨b,off+(j - 1),none⟩) HBB.out).trans c1;have x1:=HCL.out _ hb05;clear c1;go_wp2_with fail;go_roundg (grey.length - (j+1))
    case measure=>have:=HGK.out;have:=HKL.out;omega
    case rel=>exact⟨j+1,rfl,by go_num,by have:=HKL.out;omega,hb05⟩
   ·have hkb:decide (0<(j:Int))=false:=decide_eq_false (by omega);have hkc:decide ((j:Int)>0)=false:=decide_eq_false (by omega);have hkd:decide (0<j)=false:=decide_eq_false hj00;clear hcell hrd2 hbb;go_wp2_with fail;refine HHX.out.mono ?_;rintro e_ w5 ⟨rfl,hb5⟩;dsimp only;have hb05:=hbl.trans (hb5.mono hbl.size);go_wp2_with fail;go_roundg (grey.length - (j+1))
    case measure=>have:=HGK.out;have:=HKL.out;omega
    case rel=>exact⟨j+1,rfl,by go_num,by have:=HKL.out;omega,hb05⟩
 ·obtain rfl:=h5 (by omega);rcases h4 with rfl | h4
  ·clear h1 h2 h3 h5 h6 hgl hc;have hx:Arr (w.alloc (.cells #[.int .i64 2,.slice Ag 0 ng,.string ⟨#[]⟩] 29)) w.heap.size 29 [.int .i64 2,.slice Ag 0 ng,.string ⟨#[]⟩]:=Arr.new w 29 _;have hb:=(Below.refl w.heap.size w).alloc (Nat.le_refl _) (.cells #[.int .i64 2,.slice Ag 0 ng,.string ⟨#[]⟩] 29);obtain⟨x0,x1,x2⟩:=sqC3 hx;go_enter Tryz.func77,Tryz.ntmps77;go_wp2_with fail;go_loopg [46] 1 (fun gn i wr=>gn=1∧i= .int .i64 0∧Below w.heap.size w wr)
   case atStart=>exact⟨rfl,rfl,hb⟩
   case round =>
    obtain⟨hgk,rfl,hbl⟩:=hrel;clear hgk;go_wp2_with fail;go_ret;exact⟨rfl,hbl⟩
  ·clear h1 h2 h3 h5 h6 hgl hc;by_cases hem:at_= []
   ·subst hem;exact absurd h4 (by decide)
   have HH:=fun W=>z0v at_ h4 W;have hne:(⟨at_.toArray⟩:ByteArray).toList.isEmpty=false:=by
    rw [ByteArray.toList_eq];cases at_ with
    | nil=>exact absurd rfl hem
    | cons a l=>rfl
   obtain⟨ds,hds⟩:∃s:ByteArray,s=⟨at_.toArray⟩:=⟨_,rfl⟩
   simp only [coV];rw [←hds]at hne HH ⊢
   clear hds h4 hem;have HHX:=sqH HH;clear HH;have hx:Arr (w.alloc (.cells #[.int .i64 2,.slice Ag 0 ng,.string ds] 29)) w.heap.size 29 [.int .i64 2,.slice Ag 0 ng,.string ds]:=Arr.new w 29 _;have hb:=(Below.refl w.heap.size w).alloc (Nat.le_refl _) (.cells #[.int .i64 2,.slice Ag 0 ng,.string ds] 29);obtain⟨x0,x1,x2⟩:=sqC3 hx;go_enter Tryz.func77,Tryz.ntmps77;go_wp2_with fail;refine(HHX.out _).mono ?_;rintro e_ w5 ⟨rfl,hb5⟩;dsimp only;have x0':=(hx.below hb5).cell (k:=0) rfl;have x1':=(hx.below hb5).cell (k:=1) rfl;have x2':=(hx.below hb5).cell (k:=2) rfl;have hb05:=hb.trans (hb5.mono hb.size);go_wp2_with fail;go_loopg [46] 1 (fun gn i wr=>gn=1∧i= .int .i64 0∧Below w.heap.size w wr)
   case atStart=>exact⟨rfl,rfl,hb05⟩
   case round =>
    obtain⟨hgk,rfl,hbl⟩:=hrel;clear hgk;go_wp2_with fail;go_ret;exact⟨rfl,hbl⟩
theorem Kx {bl:List BlobP} {d:List UInt8} {L:List (List UInt8)} (h:StrL L (Rch bl [d])):((L.length:Int)==0)= !(bl.any (fun b=>b.dig==d)):=by
 cases ha:bl.any (fun b=>b.dig==d) with
 | true =>
  obtain⟨b,hb,e⟩:=List.any_eq_true.1 ha;have hm:=(h.mem d).2 (.root (List.mem_singleton.2 rfl) ⟨b,hb,by simpa using e⟩);have:=List.length_pos_of_mem hm;rw [beq_eq_false_iff_ne.2 (by omega)];rfl
 | false =>
  have hn:L= []:=by
   cases L with
   | nil=>rfl
   | cons x L =>
    exfalso;have hx:=(h.mem x).1 (by simp);have key:∀y,Rch bl [d] y→InB bl d:=fun y hy=>by
     induction hy with
     | root h1 h2=>rw [List.mem_singleton]at h1;subst h1;exact h2
     | step _ _ _ ih=>exact ih
    obtain⟨b,hb,e⟩:=key x hx;have:=List.any_eq_false.1 ha b hb;simp [e]at this
  rw [hn];rfl
theorem Jh (gs c:Nat) (A:Option Addr) (bl:List BlobP) (d:List UInt8) (w:World) (hl:bl.length≤1000) (hcap:bl.length≤c) (hcm:c≤maxLen) (hdig:∀x∈bl,x.dig.length≤1000) (hrd:Rw BlobS w A bl) (hx:w.cell? ⟨gs,0,none⟩=some (.slice A bl.length c)) :
  Calls Tryz.prog 82 #[.string ⟨d.toArray⟩,.pointer (some ⟨gs,0,none⟩)] w fun e w'=>e= .returned (.bool (!(bl.any (fun b=>b.dig==d))))∧Below w.heap.size w w':=by
 have hb1:=(Below.refl w.heap.size w).alloc (Nat.le_refl _) (.cells #[.string ⟨d.toArray⟩] 9);have hbx:Arr (w.alloc (.cells #[.string ⟨d.toArray⟩] 9)) w.heap.size 9 (strs [d]):=Arr.new w 9 _;have HFR:=sqH (ZH A (some ⟨w.heap.size,0,none⟩) c 1 bl [d] _ hl hcap hcm hdig (hrd.below hb1) (by simp) (Rd.of_arr hbx rfl rfl));clear hrd hbx;go_enter Tryz.func82,Tryz.ntmps82;go_wp2_with fail;refine HFR.out.mono ?_;rintro e_ w2 ⟨v,L,rfl,hL,hLl,hown,hb2⟩;dsimp only;obtain⟨Av,cv,rfl, -, -⟩:=Rd.of_own' hown;have hfn:=Kx hL;go_wp2_with fail;go_ret;rw [←hfn];exact⟨rfl,hb1.trans (hb2.mono hb1.size)⟩
theorem Ka (w w0:World) (g:Option Nat) (gs c:Nat) (A:Option Addr) (bl:List BlobP) (l:List (List UInt8)) (hl:bl.length≤1000) (hcap:bl.length≤c) (hcm:c≤maxLen) (hdig:∀x∈bl,x.dig.length≤1000) (hrd:Rw BlobS w0 A bl) (hx:w0.cell? ⟨gs,0,none⟩=some (.slice A bl.length c)) (hgs:gs<w0.heap.size) (hB:∀W,w.grownBy W g→Below w0.heap.size w0 W) :
  KU w g l 82 (.pointer (some ⟨gs,0,none⟩)) (fun d=> !(bl.any (fun b=>b.dig==d))):=by
 refine⟨fun _ _=>by kernel_rfl,fun b W _ hbel=> ?_⟩;have h:=hB W hbel;exact Jh gs c A bl b W hl hcap hcm hdig (hrd.below h) ((h.cell (p:=⟨gs,0,none⟩) hgs).trans hx)
def prt (bl:List BlobP):List (List UInt8):=(bl.filter (·.mark)).flatMap fun b=>(qK b.data).1.map (·.dig)
theorem Qz (bl:List BlobP) (k:Nat) (h:k<bl.length):prt (bl.take (k+1))=prt (bl.take k)++(if bl[k].mark then (qK bl[k].data).1.map (·.dig) else []):=by
 unfold prt;rw [List.take_succ_eq_append_getElem h,List.filter_append,List.flatMap_append]
 congr 1
 by_cases hp:bl[k].mark=true
 ·rw [if_pos hp,List.filter_cons_of_pos hp];simp
 ·rw [if_neg hp,List.filter_cons_of_neg hp];rfl
theorem Yg (bl:List BlobP):∀k,k≤bl.length→(prt (bl.take k)).length≤8*k
 | 0,_=>by simp [prt]
 | k+1,h=>by
  have ih:=Yg bl k (by omega)
  rw [Qz bl k (by omega),List.length_append]
  have:=yc (bl[k]'(by omega)).data
  split
  ·rw [List.length_map];omega
  ·simp only [List.length_nil];omega
theorem Uv {s:StoP} {cp:ColP} {R:List (List UInt8)} (hg:GoodS s) (hc:GoodC s cp) (hp:cp.phase=1) (hR:StrL R (fun x=>x∈rts s)):∀x∈(R++prt s.blobs).filter (fun d=> !(!(s.blobs.any (fun b=>b.dig==d)))),x∈mkd s.blobs++cp.grey:=by
 intro x hx;obtain⟨h1,h2⟩:=List.mem_filter.1 hx;rw [Bool.not_not]at h2;obtain⟨b,hb,e⟩:=List.any_eq_true.1 h2;have hin:InB s.blobs x:=⟨b,hb,by simpa using e⟩
 rw [List.mem_append];rcases List.mem_append.1 h1 with h | h
 ·exact hc.mr hp x ((hR.mem x).1 h) hin
 ·obtain⟨y,hy,hyx⟩:=List.mem_flatMap.1 h;obtain⟨hy1,hy2⟩:=List.mem_filter.1 hy;exact hc.mb hp y hy1 (by simpa using hy2) x (by rw [qW hg.b.ris hy1];exact hyx) hin
theorem qf (w:World) (e1 e2:TypeId) (c1 c2:List Value):∃W,W=(w.alloc (.cells c1.toArray e1)).alloc (.cells c2.toArray e2)∧Arr W w.heap.size e1 c1∧Arr W (w.heap.size+1) e2 c2∧Below w.heap.size w W:=by
 have b1:=(Below.refl w.heap.size w).alloc (Nat.le_refl _) (.cells c1.toArray e1);have a2:=Arr.new (w.alloc (.cells c1.toArray e1)) e2 c2;rw [World.size_alloc]at a2;exact⟨_,rfl,(Arr.new w e1 c1).alloc _,a2,b1.alloc b1.size _⟩
theorem ql (A:Option Addr) (c:Nat) (B:Option Addr) (d:Nat) (s:StoP) (Ag:Option Addr) (ng:Nat) (cp:ColP) (w:World) (hg:GoodS s) (hr:RdSt w A c B d s) (hgl:cp.grey.length≤1000) (hgc:GoodC s cp) (hc:RdC w Ag ng cp) :
  Calls Tryz.prog 19 #[.agg #[.slice A s.blobs.length c,.slice B s.ents.length d,.int .i64 s.room,.int .i64 s.clock],coV (.slice Ag cp.grey.length ng) cp] w fun e w'=>e= .returned (.int .i64 0)∧Below w.heap.size w w':=by
 have hlb:s.blobs.length≤24:=hg.b.len;obtain⟨phase,grey,at_⟩:=cp;have h1:=hgc.ph;simp only at h1 hgl;rcases (show phase=0∨phase=1∨phase=2 by omega) with rfl | rfl | rfl
 ·clear h1;obtain⟨w0,hw0,hS,hC,hb0⟩:=qf w 26 29 [.slice A s.blobs.length c,.slice B s.ents.length d,.int .i64 s.room,.int .i64 s.clock] [.int .i64 0,.slice Ag (grey).length ng,.string ⟨(at_).toArray⟩];have hr0:=hr.below hb0;obtain⟨H,hH⟩:∃H,H=w.heap.size:=⟨_,rfl⟩
  have HCK:=sqH (zF A c B d s w0 hg hr0);have HSH:=sqH (fun W (h:Below w0.heap.size w0 W)=>j5 Ag ng ⟨0,grey,at_⟩ s W hgl hgc ((hc.below hb0).below h));have HMK:=sqH (fun W (h:Below w0.heap.size w0 W)=>vN A c s.blobs W (by omega) (hr0.below h).b);have HRT:=sqH (fun W (h:Below w0.heap.size w0 W)=>yd A B c d s (s.room:Int) (s.clock:Int) W hg.rts (hr0.below h));have HAL:=sqH (fun W (h:Below w0.heap.size w0 W)=>yr A B c d s (s.room:Int) (s.clock:Int) W hg.rts (hr0.below h));have HDG:=sqH (show ∀x∈s.blobs,x.dig.length≤1000 from fun x hx=>by rw [(hg.b.one x hx).1];have:=qd (zu x.data);omega);have hcb:=hr0.bc;have hcm:=hr0.bm;have HR0:=sqH hr0.b;have HRC:=sqH (hc.below hb0);have HGD:=sqH hg;have HGC:=sqH hgc;rw [←hH]at hS hC hb0 ⊢
  have hsz:H≤w0.heap.size:=by rw [hH]at hb0 ⊢;exact hb0.size
  have hHl:H+1<w0.heap.size:=hC.lt;obtain⟨x0,x1,x2,x3⟩:=sqC4 hS;rw [hw0,hH]at x0 x1 x2 x3;have HSX:=sqH hS;have HCX:=sqH hC;clear hg hr hgc hc hr0 hS hC;go_enter Tryz.func19,Tryz.ntmps19;go_wp2_with fail;rw [←hw0,←hH];have HH:=sqH hH;clear hw0 hH x0 x1 x2 x3;refine HCK.out.mono ?_;rintro e_ w1 ⟨rfl,hb1⟩;dsimp only;obtain⟨x0,x1,x2⟩:=sqC3 (HCX.out.below hb1);have z0:=(HSX.out.below hb1).cell (k:=0) rfl;go_wp2_with fail;clear x0 x1 x2 z0;refine((HSH.out _ hb1)).mono ?_;rintro e_ w2 ⟨rfl,hb2⟩;dsimp only;have hb12:=hb1.trans (hb2.mono hb1.size);obtain⟨x0,x1,x2⟩:=sqC3 (HCX.out.below hb12);obtain⟨z0,z1,z2,z3⟩:=sqC4 (HSX.out.below hb12);clear hb1 hb2;go_wp2_with fail;clear x0 x1 x2 z0 z1 z2 z3;refine((HMK.out _ hb12)).mono ?_;rintro e_ w3 ⟨v3,rfl,ho3,hb3⟩;dsimp only;have hb13:=hb12.trans (hb3.mono hb12.size);obtain⟨x0,x1,x2⟩:=sqC3 (HCX.out.below hb13);obtain⟨z0,z1,z2,z3⟩:=sqC4 (HSX.out.below hb13);clear hb3;go_wp2_with fail;go_ret;exact⟨rfl,hb0.trans (hb13.mono hsz)⟩
 ·clear h1;obtain⟨w0,hw0,hS,hC,hb0⟩:=qf w 26 29 [.slice A s.blobs.length c,.slice B s.ents.length d,.int .i64 s.room,.int .i64 s.clock] [.int .i64 1,.slice Ag (grey).length ng,.string ⟨(at_).toArray⟩];have hr0:=hr.below hb0;obtain⟨H,hH⟩:∃H,H=w.heap.size:=⟨_,rfl⟩
  have HCK:=sqH (zF A c B d s w0 hg hr0);have HSH:=sqH (fun W (h:Below w0.heap.size w0 W)=>j5 Ag ng ⟨1,grey,at_⟩ s W hgl hgc ((hc.below hb0).below h));have HMK:=sqH (fun W (h:Below w0.heap.size w0 W)=>vN A c s.blobs W (by omega) (hr0.below h).b);have HRT:=sqH (fun W (h:Below w0.heap.size w0 W)=>yd A B c d s (s.room:Int) (s.clock:Int) W hg.rts (hr0.below h));have HAL:=sqH (fun W (h:Below w0.heap.size w0 W)=>yr A B c d s (s.room:Int) (s.clock:Int) W hg.rts (hr0.below h));have HDG:=sqH (show ∀x∈s.blobs,x.dig.length≤1000 from fun x hx=>by rw [(hg.b.one x hx).1];have:=qd (zu x.data);omega);have hcb:=hr0.bc;have hcm:=hr0.bm;have HR0:=sqH hr0.b;have HRC:=sqH (hc.below hb0);have HGD:=sqH hg;have HGC:=sqH hgc;rw [←hH]at hS hC hb0 ⊢
  have hsz:H≤w0.heap.size:=by rw [hH]at hb0 ⊢;exact hb0.size
  have hHl:H+1<w0.heap.size:=hC.lt;obtain⟨x0,x1,x2,x3⟩:=sqC4 hS;rw [hw0,hH]at x0 x1 x2 x3;have HSX:=sqH hS;have HCX:=sqH hC;clear hg hr hgc hc hr0 hS hC;go_enter Tryz.func19,Tryz.ntmps19;go_wp2_with fail;rw [←hw0,←hH];have HH:=sqH hH;clear hw0 hH x0 x1 x2 x3;refine HCK.out.mono ?_;rintro e_ w1 ⟨rfl,hb1⟩;dsimp only;obtain⟨x0,x1,x2⟩:=sqC3 (HCX.out.below hb1);have z0:=(HSX.out.below hb1).cell (k:=0) rfl;go_wp2_with fail;clear x0 x1 x2 z0;refine((HSH.out _ hb1)).mono ?_;rintro e_ w2 ⟨rfl,hb2⟩;dsimp only;have hb12:=hb1.trans (hb2.mono hb1.size);obtain⟨x0,x1,x2⟩:=sqC3 (HCX.out.below hb12);obtain⟨z0,z1,z2,z3⟩:=sqC4 (HSX.out.below hb12);clear hb1 hb2;go_wp2_with fail;clear x0 x1 x2 z0 z1 z2 z3;refine((HMK.out _ hb12)).mono ?_;rintro e_ w3 ⟨v3,rfl,ho3,hb3⟩;dsimp only;have hb13:=hb12.trans (hb3.mono hb12.size);obtain⟨x0,x1,x2⟩:=sqC3 (HCX.out.below hb13);obtain⟨z0,z1,z2,z3⟩:=sqC4 (HSX.out.below hb13);clear hb3;go_wp2_with fail;clear x0 x1 x2 z0 z1 z2 z3;refine((HRT.out _ hb13)).mono ?_;rintro e_ w4 ⟨v4,R4,rfl,hR4,hl4,ho4,hb4⟩;dsimp only;have hb14:=hb13.trans (hb4.mono hb13.size);have ho34:=z8 ho3 hb4;obtain⟨A4,c4,rfl,hc4,hr4⟩:=Rd.of_own' ho4;have HCN:=sqH (kK A4 c4 R4 w4 (by omega) hr4);have HSB:=sqH (Uv HGD.out HGC.out rfl hR4);clear hr4 ho4 ho3 hb4 hR4;go_wp2_with fail;refine HCN.out.mono ?_;rintro e_ w5 ⟨v5,rfl,ho5,hb5⟩;dsimp only;have ho35:=z8 ho34 hb5;have hb15:=hb14.trans (hb5.mono hb14.size);obtain⟨z0,z1,z2,z3⟩:=sqC4 (HSX.out.below hb15);have h04:=hb14.size;have hb63:(s.blobs.length:Int)≤9223372036854775807:=by omega
  have HO34:=sqH ho34;clear ho34 ho35 hb13 hb12 HRT HAL HMK HSH HCK HCN hb15;go_wp2_with fail;clear z0 z1 z2 z3;go_loopg [8,35] s.blobs.length (fun gn u i wr=>∃(k:Nat) (vn:Value),gn=s.blobs.length - k∧vn=u∧i= .int .i64 k∧k≤s.blobs.length∧wr.ownsRow w4.heap.size 9 1 vn (R4++prt (s.blobs.take k)).length (strs (R4++prt (s.blobs.take k)))∧Below w4.heap.size w4 wr)
  case atStart=>exact⟨0,_,rfl,rfl,rfl,by omega,by rw [List.take_zero];simpa [prt] using ho5,hb5⟩
  case round =>
   clear ho5 hb5;obtain⟨k,vn,hgk,rfl,rfl,hk,hown,hbel⟩:=hrel;have HGK:=sqH hgk;clear hgk;have hpl:=Yg s.blobs k hk;have hb0r:=hb14.trans (hbel.mono hb14.size);by_cases hlt:k<s.blobs.length
   rotate_left
   ·obtain rfl:k=s.blobs.length:=by omega
    have hlbb:decide (s.blobs.length<s.blobs.length)=false:=by simp
    rw [List.take_length]at hown hpl;have hmd:=Zs s.blobs;have hRl:(R4++prt s.blobs).length≤1000:=by rw [List.length_append];omega
    have HDL:=sqH (UC w4.heap.size vn (R4++prt s.blobs) _ (.pointer (some ⟨H,0,none⟩)) (fun d=> !(s.blobs.any (fun b=>b.dig==d))) wr (by omega) hown (Ka wr w4 vn.ownBlock H c A s.blobs (R4++prt s.blobs) (by omega) hcb hcm HDG.out (HR0.out.below hb14) ((HSX.out.below hb14).cell (k:=0) rfl) (by omega) (fun W h=>zi hbel hown (Nat.le_refl _) h)));have HOR:=sqH (zi hbel hown (Nat.le_refl _) (w':=wr) (World.grownBy.refl _ _));have HBO:=sqH (fun (W:World) (h:wr.grownBy W vn.ownBlock)=>zi hbel hown (Nat.le_refl _) h);clear hown;go_wp2_with fail;refine HDL.out.mono ?_;rintro e_ w6 ⟨v6,rfl,ho6,hg6⟩;dsimp only;have hb46:=HBO.out w6 hg6;have hb16:=hb14.trans (hb46.mono hb14.size);obtain⟨x0,x1,x2⟩:=sqC3 (HCX.out.below hb16);have hfl:((R4++prt s.blobs).filter (fun d=> !(!(s.blobs.any (fun b=>b.dig==d))))).length≤1000:=Nat.le_trans (List.length_filter_le _ _) hRl;have ho36:=z8 HO34.out hb46;clear hbel hg6 hb0r HDL HOR HBO hpl hRl;generalize hF:((R4++prt s.blobs).filter (fun d=> !(!(s.blobs.any (fun b=>b.dig==d)))))=F at *
    obtain⟨A3,c3,rfl,hc3,hr3⟩:=Rd.of_own' ho36;obtain⟨A6,c6,rfl,hc6,hr6⟩:=Rd.of_own' ho6;have hrc:=HRC.out.below hb16;have hbq:=(Below.refl w6.heap.size w6).alloc (Nat.le_refl _) (.cells #[.slice A3 (mkd s.blobs).length c3,.slice Ag grey.length ng] 27);have hAq:Arr (w6.alloc (.cells #[.slice A3 (mkd s.blobs).length c3,.slice Ag grey.length ng] 27)) w6.heap.size 27 [.slice A3 (mkd s.blobs).length c3,.slice Ag grey.length ng]:=Arr.new w6 27 _;have HCC:=sqH (uR w6.heap.size A3 Ag c3 ng (mkd s.blobs) grey _ hc3 hrc.cap (by omega) (by omega) (hAq.cell (k:=0) rfl) (hAq.cell (k:=1) rfl) (hr3.below hbq) (hrc.rd.below hbq));have HR6:=sqH (hr6.below hbq);have hb1q:=hb16.trans (hbq.mono hb16.size);clear hr3 hr6 hrc hAq ho36 ho6 hbq;go_wp2_with fail;clear x0 x1 x2;generalize (w6.alloc (.cells #[.slice A3 (mkd s.blobs).length c3,.slice Ag grey.length ng] 27))=wq at *
    refine HCC.out.mono ?_;rintro e_ w7 ⟨v7,rfl,ho7,hb7⟩;dsimp only;obtain⟨A7,c7,rfl,hc7,hr7⟩:=Rd.of_own' ho7;have hwt:=jD A6 A7 c6 c7 F (mkd s.blobs++grey) w7 (by omega) (by rw [List.length_append];omega) (HR6.out.below hb7) hr7 HSB.out;rw [List.length_append]at hwt;have HWT:=sqH hwt;clear hwt;have hb17:=hb1q.trans (hb7.mono hb1q.size);clear hr7 ho7 hb7 HR6;go_wp2_with fail;refine HWT.out.mono ?_;rintro e_ w8 ⟨rfl,hb8⟩;dsimp only;have hb18:=hb17.trans (hb8.mono hb17.size);go_wp2_with fail;go_ret;exact⟨rfl,hb0.trans (hb18.mono hsz)⟩
   have hlbb:decide (k<s.blobs.length)=true:=decide_eq_true hlt;have hk0:(0:Int)≤(k:Int):=by omega
   have hk1:(k:Int)<(s.blobs.length:Int):=by omega
   obtain⟨bq,oq,Bq,cq,hA,hbq,d0,d1,d2,d3,hsl⟩:=(HR0.out.below hb0r).blob_at k hlt;subst hA;have HSU:=sqH (Qz s.blobs k hlt);have HKL:=sqH hlt;generalize s.blobs[k]=q at *
   generalize hqm:q.mark=qm at *
   have hbox:Arr (wr.alloc (.cells #[.string ⟨q.dig.toArray⟩,.slice Bq q.data.length cq,.int .i64 q.pins,.bool qm] 63)) wr.heap.size 63 [.string ⟨q.dig.toArray⟩,.slice Bq q.data.length cq,.int .i64 q.pins,.bool qm]:=Arr.new wr 63 _;have hbA:=hbel.alloc hbel.size (.cells #[.string ⟨q.dig.toArray⟩,.slice Bq q.data.length cq,.int .i64 q.pins,.bool qm] 63);have hbn:=(Below.refl wr.heap.size wr).alloc (Nat.le_refl _) (.cells #[.string ⟨q.dig.toArray⟩,.slice Bq q.data.length cq,.int .i64 q.pins,.bool qm] 63);have hownA:=hown.alloc (.cells #[.string ⟨q.dig.toArray⟩,.slice Bq q.data.length cq,.int .i64 q.pins,.bool qm] 63);have hslA:=hsl.below hbn;obtain⟨p0,p1,p2,p3⟩:=sqC4 hbox;clear hsl hown hbox hbn hb0r;cases qm with
   | false =>
    have hsu:=HSU.out;rw [if_neg (by decide),List.append_nil]at hsu;have HSV:=sqH hsu;have HOA:=sqH hownA;clear hsu hownA hslA;go_wp2_with fail;go_roundg (s.blobs.length - (k+1))
    case measure=>have:=HGK.out;have:=HKL.out;omega
    case rel=>exact⟨k+1,_,rfl,rfl,by go_num,by have:=HKL.out;omega,by rw [HSV.out];exact HOA.out,hbA⟩
   | true =>
    have hsu:=HSU.out;rw [if_pos rfl]at hsu;have HPT:=vG ⟨q.dig.toArray⟩ Bq q.data.length cq q.data (q.pins:Int) true _ rfl hslA.cap hslA.max hslA.rd;have hk8:(qK q.data).1.length≤8:=yc _;rw [vo]at HPT;have hkl:(qK q.data).1.length=((qK q.data).1.map (fun p:PartP=>p.dig)).length:=by rw [List.length_map]
    rw [hkl]at HPT hk8;generalize (qK q.data).1.map (fun p:PartP=>p.dig)=ks at *
    have HSV:=sqH hsu;have HPT':=sqH HPT;clear hsu HPT hkl hslA;go_wp2_with fail;clear d0 d1 d2 d3 p0 p1 p2 p3;generalize (wr.alloc (.cells #[.string ⟨q.dig.toArray⟩,.slice Bq q.data.length cq,.int .i64 q.pins,.bool true] 63))=wA at *
    refine(HPT'.out).mono ?_;rintro e_ w8 ⟨v8,rfl,ho8,hb8⟩;dsimp only;obtain⟨A8,c8,rfl,_,hr8⟩:=Rd.of_own' ho8;have hown8:=z8 hownA hb8;have hbA8:=hbA.trans (hb8.mono hbA.size);clear ho8 hb8 hownA hbA HPT';have hrl:(R4++prt (s.blobs.take k)).length≤1000:=by rw [List.length_append];omega
    repeat' (fail_if_success (first|at_builtin|at_make));first|go_values|go_skip|go_guarded|go_step|go_upon|go_back
    refine zI rfl (.tmp 41) (.tmp 43) rfl vu (by rfl) hown8 (by rfl) hr8 (jc _) (by omega) hbA8.size ?_;intro v9 w9 ho9 hg9 hv9;have hb9:=zi hbA8 hown8 (Nat.le_refl _) hg9;have HO9:=sqH ho9;clear ho9 hg9 hv9 hown8 hr8;go_wp2_with fail;go_roundg (s.blobs.length - (k+1))
    case measure=>have:=HGK.out;have:=HKL.out;omega
    case rel=>exact⟨k+1,_,rfl,rfl,by go_num,by have:=HKL.out;omega,by rw [HSV.out,←List.append_assoc,xi (R4++prt (s.blobs.take k)) ks,show((R4++prt (s.blobs.take k))++ks).length=(R4++prt (s.blobs.take k)).length+ks.length from List.length_append];exact HO9.out,hb9⟩
 ·clear h1;obtain⟨w0,hw0,hS,hC,hb0⟩:=qf w 26 29 [.slice A s.blobs.length c,.slice B s.ents.length d,.int .i64 s.room,.int .i64 s.clock] [.int .i64 2,.slice Ag (grey).length ng,.string ⟨(at_).toArray⟩];have hr0:=hr.below hb0;obtain⟨H,hH⟩:∃H,H=w.heap.size:=⟨_,rfl⟩
  have HCK:=sqH (zF A c B d s w0 hg hr0);have HSH:=sqH (fun W (h:Below w0.heap.size w0 W)=>j5 Ag ng ⟨2,grey,at_⟩ s W hgl hgc ((hc.below hb0).below h));have HMK:=sqH (fun W (h:Below w0.heap.size w0 W)=>vN A c s.blobs W (by omega) (hr0.below h).b);have HRT:=sqH (fun W (h:Below w0.heap.size w0 W)=>yd A B c d s (s.room:Int) (s.clock:Int) W hg.rts (hr0.below h));have HAL:=sqH (fun W (h:Below w0.heap.size w0 W)=>yr A B c d s (s.room:Int) (s.clock:Int) W hg.rts (hr0.below h));have HDG:=sqH (show ∀x∈s.blobs,x.dig.length≤1000 from fun x hx=>by rw [(hg.b.one x hx).1];have:=qd (zu x.data);omega);have hcb:=hr0.bc;have hcm:=hr0.bm;have HR0:=sqH hr0.b;have HRC:=sqH (hc.below hb0);have HGD:=sqH hg;have HGC:=sqH hgc;rw [←hH]at hS hC hb0 ⊢
  have hsz:H≤w0.heap.size:=by rw [hH]at hb0 ⊢;exact hb0.size
  have hHl:H+1<w0.heap.size:=hC.lt;obtain⟨x0,x1,x2,x3⟩:=sqC4 hS;rw [hw0,hH]at x0 x1 x2 x3;have HSX:=sqH hS;have HCX:=sqH hC;clear hg hr hgc hc hr0 hS hC;go_enter Tryz.func19,Tryz.ntmps19;go_wp2_with fail;rw [←hw0,←hH];have HH:=sqH hH;clear hw0 hH x0 x1 x2 x3;refine HCK.out.mono ?_;rintro e_ w1 ⟨rfl,hb1⟩;dsimp only;obtain⟨x0,x1,x2⟩:=sqC3 (HCX.out.below hb1);have z0:=(HSX.out.below hb1).cell (k:=0) rfl;go_wp2_with fail;clear x0 x1 x2 z0;refine((HSH.out _ hb1)).mono ?_;rintro e_ w2 ⟨rfl,hb2⟩;dsimp only;have hb12:=hb1.trans (hb2.mono hb1.size);obtain⟨x0,x1,x2⟩:=sqC3 (HCX.out.below hb12);obtain⟨z0,z1,z2,z3⟩:=sqC4 (HSX.out.below hb12);clear hb1 hb2;go_wp2_with fail;clear x0 x1 x2 z0 z1 z2 z3;refine((HMK.out _ hb12)).mono ?_;rintro e_ w3 ⟨v3,rfl,ho3,hb3⟩;dsimp only;have hb13:=hb12.trans (hb3.mono hb12.size);obtain⟨x0,x1,x2⟩:=sqC3 (HCX.out.below hb13);obtain⟨z0,z1,z2,z3⟩:=sqC4 (HSX.out.below hb13);clear hb3;go_wp2_with fail;clear x0 x1 x2 z0 z1 z2 z3;refine((HAL.out _ hb13)).mono ?_;rintro e_ w4 ⟨v4,L4,rfl,hL4,hl4,ho4,hb4⟩;dsimp only;have hb14:=hb13.trans (hb4.mono hb13.size);have hml:=Zs s.blobs;obtain⟨A3,c3,rfl,hc3,hr3⟩:=Rd.of_own' (z8 ho3 hb4);obtain⟨A4,c4,rfl,hc4,hr4⟩:=Rd.of_own' ho4;have hwt:=jD A4 A3 c4 c3 L4 (mkd s.blobs) w4 (by omega) (by omega) hr4 hr3 (fun x hx=>HGC.out.sw rfl x ((hL4.mem x).1 hx));have HWT:=sqH hwt;clear hwt hr3 hr4 ho3 ho4 hb4;go_wp2_with fail;refine HWT.out.mono ?_;rintro e_ w5 ⟨rfl,hb5⟩;dsimp only;have hb15:=hb14.trans (hb5.mono hb14.size);go_wp2_with fail;go_ret;exact⟨rfl,hb0.trans (hb15.mono hsz)⟩
theorem U5 (A:Option Addr) (c:Nat) (B:Option Addr) (d:Nat) (s:StoP) (Ag:Option Addr) (ng:Nat) (cp:ColP) (w:World) (hg:GoodS s) (hr:RdSt w A c B d s) (hp:cp.phase=2) (hgl:cp.grey.length≤1000) (hgc:GoodC s cp) (hc:RdC w Ag ng cp) :
  Calls Tryz.prog 76 #[.agg #[.slice A s.blobs.length c,.slice B s.ents.length d,.int .i64 s.room,.int .i64 s.clock],coV (.slice Ag cp.grey.length ng) cp] w fun e w' =>
   ∃v1 v2,e= .returned (.tuple #[stV v1 v2 s,coV (.slice none 0 0) (zZ s cp).2.1,.string ⟨(zZ s cp).2.2.toArray⟩,.int .i64 0])∧OwSt w' w.heap.size v1 v2 (zZ s cp).1 (fun b=>b<w.heap.size)∧Below w.heap.size w w':=by
 have hlb:s.blobs.length≤24:=hg.b.len;obtain⟨phase,grey,at_⟩:=cp;simp only at hp hgl;subst hp;obtain⟨w0,hw0,hS,hC,hR,hD,hb0⟩:=zU w 26 29 [.slice A s.blobs.length c,.slice B s.ents.length d,.int .i64 s.room,.int .i64 s.clock] [.int .i64 2,.slice Ag grey.length ng,.string ⟨at_.toArray⟩] [.slice none 0 0,.slice none 0 0,.int .i64 0,.int .i64 0] [.int .i64 0,.slice none 0 0,.string ⟨#[]⟩];have hr0:=hr.below hb0;obtain⟨H,hH⟩:∃H,H=w.heap.size:=⟨_,rfl⟩
 have HCK:=sqH (ql A c B d s Ag ng ⟨2,grey,at_⟩ w0 hg hr0 hgl hgc (hc.below hb0));have HST:=sqH (fun W (h:Below w0.heap.size w0 W)=>Vj A c B d s Ag ng ⟨2,grey,at_⟩ W hg (hr0.below h) rfl hgc);rw [←hH]at hS hC hR hD hb0 ⊢
 have hHl:H+1+1+1<w0.heap.size:=hD.lt;obtain⟨x0,x1,x2,x3⟩:=sqC4 hS;obtain⟨y0,y1,y2⟩:=sqC3 hC;rw [hw0,hH]at x0 x1 x2 x3 y0 y1 y2;clear hg hr hgc hc hr0;go_enter Tryz.func76,Tryz.ntmps76;go_wp2_with fail;rw [←hw0,←hH];have HH:=sqH hH;clear hw0 hH x0 x1 x2 x3 y0 y1 y2;refine HCK.out.mono ?_;rintro e_ w1 ⟨rfl,hb1⟩;dsimp only;obtain⟨x0,x1,x2⟩:=sqC3 (hC.below hb1);obtain⟨z0,z1,z2,z3⟩:=sqC4 (hS.below hb1);clear HCK;go_wp2_with fail;clear x0 x1 x2 z0 z1 z2 z3;refine((HST.out _ hb1)).mono ?_;rintro e_ w2 ⟨v1,v2,rfl,ho,hb2⟩;dsimp only;have hb12:=hb1.trans (hb2.mono hb1.size);obtain⟨A5,c5,B5,d5,e5,e6, -⟩:=ho.rows;generalize (zZ s ⟨2,grey,at_⟩).1.blobs.length=n5 at e5;generalize (zZ s ⟨2,grey,at_⟩).1.ents.length=n6 at e6;subst e5 e6;have hR:=hR.below hb12;have hD:=hD.below hb12;have hB:=hb0.trans (hb12.mono (show H≤w0.heap.size by omega));have h01:=hb1.size;generalize hcq:(zZ s ⟨2,grey,at_⟩).2.1=cq at *
 generalize hdq:(zZ s ⟨2,grey,at_⟩).2.2=dq at *
 have hF1:=sqH (zW (g:=H+1+1) (h:=H+1+1+1) (u0:= .slice A5 n5 c5) (u1:= .slice B5 n6 d5) (u2:= .int .i64 s.room) (u3:= .int .i64 s.clock) (x0:= .int .i64 cq.phase) (x1:= .slice none 0 0) (x2:= .string ⟨cq.at_.toArray⟩) hR (by omega));have hF2:=sqH (zY (g:=H+1+1) (h:=H+1+1+1) (u0:= .slice A5 n5 c5) (u1:= .slice B5 n6 d5) (u2:= .int .i64 s.room) (u3:= .int .i64 s.clock) (x0:= .int .i64 cq.phase) (x1:= .slice none 0 0) (x2:= .string ⟨cq.at_.toArray⟩) hD (by omega));have hF3:=sqH (zT (g:=H+1+1) (h:=H+1+1+1) (u0:= .slice A5 n5 c5) (u1:= .slice B5 n6 d5) (u2:= .int .i64 s.room) (u3:= .int .i64 s.clock) (x0:= .int .i64 cq.phase) (x1:= .slice none 0 0) (x2:= .string ⟨cq.at_.toArray⟩) ho (by omega) (by omega) (ho.nb hR (by decide) (by decide)).1 (ho.nb hR (by decide) (by decide)).2 (ho.nb hD (by decide) (by decide)).1 (ho.nb hD (by decide) (by decide)).2);have hF5:=sqH (zq (g:=H+1+1) (h:=H+1+1+1) (u0:= .slice A5 n5 c5) (u1:= .slice B5 n6 d5) (u2:= .int .i64 s.room) (u3:= .int .i64 s.clock) (x0:= .int .i64 cq.phase) (x1:= .slice none 0 0) (x2:= .string ⟨cq.at_.toArray⟩) hB (by omega) (by omega));obtain⟨f0,f1,f2,f3⟩:=sqF4 hR;obtain⟨y0,y1,y2,y3⟩:=sqC4 hR;obtain⟨e0,e1,e2⟩:=sqF3 hD;obtain⟨x0,x1,x2⟩:=sqC3 hD;clear hR hD ho hB hb12 hb2 hb0 hS hC HST;simp only [stV,coV];go_wp2_with fail;refine bodyPost_ret (zK rfl _ _ (H+1+1) (H+1+1+1) _ _ _ _ _ _ _ _ (by rfl) hF1.out Tryz.underlying26 rfl (by kernel_rfl) (by rfl) hF2.out Tryz.underlying29 rfl (by kernel_rfl)) rfl ?_;rw [hcq,hdq];exact⟨_,_,rfl,(hF3.out.lower (by omega)).mono (fun b hb=>by omega),hF5.out⟩
theorem VW (A:Option Addr) (c:Nat) (B:Option Addr) (d:Nat) (s:StoP) (Ag:Option Addr) (ng:Nat) (cp:ColP) (w:World) (hg:GoodS s) (hr:RdSt w A c B d s) (hp:cp.phase=1) (hgl:cp.grey.length≤1000) (hgc:GoodC s cp) (hc:RdC w Ag ng cp) :
  Calls Tryz.prog 76 #[.agg #[.slice A s.blobs.length c,.slice B s.ents.length d,.int .i64 s.room,.int .i64 s.clock],coV (.slice Ag cp.grey.length ng) cp] w fun e w' =>
   ∃v1 v2 v3,e= .returned (.tuple #[stV v1 v2 s,coV v3 (zm s cp).2,.string ⟨#[]⟩,.int .i64 0])∧OwSt w' w.heap.size v1 v2 (zm s cp).1 (fun b=>b<w.heap.size)∧w'.ownsRow w.heap.size 9 1 v3 (zm s cp).2.grey.length (strs (zm s cp).2.grey)∧Below w.heap.size w w':=by
 have hlb:s.blobs.length≤24:=hg.b.len;obtain⟨phase,grey,at_⟩:=cp;simp only at hp hgl;subst hp;obtain⟨w0,hw0,hS,hC,hR,hD,hb0⟩:=zU w 26 29 [.slice A s.blobs.length c,.slice B s.ents.length d,.int .i64 s.room,.int .i64 s.clock] [.int .i64 1,.slice Ag grey.length ng,.string ⟨at_.toArray⟩] [.slice none 0 0,.slice none 0 0,.int .i64 0,.int .i64 0] [.int .i64 0,.slice none 0 0,.string ⟨#[]⟩];have hr0:=hr.below hb0;obtain⟨H,hH⟩:∃H,H=w.heap.size:=⟨_,rfl⟩
 have HCK:=sqH (ql A c B d s Ag ng ⟨1,grey,at_⟩ w0 hg hr0 hgl hgc (hc.below hb0));have HST:=sqH (fun W (h:Below w0.heap.size w0 W)=>QE A c B d s Ag ng ⟨1,grey,at_⟩ W hg (hr0.below h) rfl (hgc.a0 (by show ¬(1=2);omega)) hgl ((hc.below hb0).below h));rw [←hH]at hS hC hR hD hb0 ⊢
 have hHl:H+1+1+1<w0.heap.size:=hD.lt;obtain⟨x0,x1,x2,x3⟩:=sqC4 hS;obtain⟨y0,y1,y2⟩:=sqC3 hC;rw [hw0,hH]at x0 x1 x2 x3 y0 y1 y2;clear hg hr hgc hc hr0;go_enter Tryz.func76,Tryz.ntmps76;go_wp2_with fail;rw [←hw0,←hH];have HH:=sqH hH;clear hw0 hH x0 x1 x2 x3 y0 y1 y2;refine HCK.out.mono ?_;rintro e_ w1 ⟨rfl,hb1⟩;dsimp only;obtain⟨x0,x1,x2⟩:=sqC3 (hC.below hb1);obtain⟨z0,z1,z2,z3⟩:=sqC4 (hS.below hb1);clear HCK;go_wp2_with fail;clear x0 x1 x2 z0 z1 z2 z3;refine((HST.out _ hb1)).mono ?_;rintro e_ w2 ⟨v1,v2,v3,rfl,ho,hl,hb2⟩;dsimp only;have hb12:=hb1.trans (hb2.mono hb1.size);obtain⟨A5,c5,B5,d5,e5,e6, -⟩:=ho.rows;obtain⟨A6,n6,e7, -, -⟩:=Rd.of_own' hl;generalize hcq:(zm s ⟨1,grey,at_⟩).2=cq at *
 generalize hsq:(zm s ⟨1,grey,at_⟩).1=sq at *
 subst e5 e6 e7;have h01:=hb1.size;have h02:=hb12.size;obtain⟨W3,hW3,hX3,hY3,hb3⟩:=qf w2 26 29 [.slice A5 sq.blobs.length c5,.slice B5 sq.ents.length d5,.int .i64 s.room,.int .i64 s.clock] [.int .i64 cq.phase,.slice A6 cq.grey.length n6,.string ⟨cq.at_.toArray⟩];obtain⟨G,hG⟩:∃G,G=w2.heap.size:=⟨_,rfl⟩
 have hb13:=hb12.trans (hb3.mono hb12.size);have ho:=ho.below hb3;have hl:=z8 hl hb3;have hR:=hR.below hb13;have hD:=hD.below hb13;have hB:=hb0.trans (hb13.mono (show H≤w0.heap.size by omega));rw [←hG]at hX3 hY3;have n1:¬(G=H+1+1):=by omega
 have n2:¬(G+1=H+1+1):=by omega
 have HG:=sqH hG;clear hb12 hb2 hb0 hS hC HST hb3 hb13 hG;have o1:=zg hl hR (by decide);have o2:=zg hl hD (by decide);have hF1:=sqH (zW (g:=H+1+1) (h:=H+1+1+1) (u0:= .slice A5 sq.blobs.length c5) (u1:= .slice B5 sq.ents.length d5) (u2:= .int .i64 s.room) (u3:= .int .i64 s.clock) (x0:= .int .i64 cq.phase) (x1:= .slice A6 cq.grey.length n6) (x2:= .string ⟨cq.at_.toArray⟩) hR (by omega));have hF2:=sqH (zY (g:=H+1+1) (h:=H+1+1+1) (u0:= .slice A5 sq.blobs.length c5) (u1:= .slice B5 sq.ents.length d5) (u2:= .int .i64 s.room) (u3:= .int .i64 s.clock) (x0:= .int .i64 cq.phase) (x1:= .slice A6 cq.grey.length n6) (x2:= .string ⟨cq.at_.toArray⟩) hD (by omega));have hF3:=sqH (zT (g:=H+1+1) (h:=H+1+1+1) (u0:= .slice A5 sq.blobs.length c5) (u1:= .slice B5 sq.ents.length d5) (u2:= .int .i64 s.room) (u3:= .int .i64 s.clock) (x0:= .int .i64 cq.phase) (x1:= .slice A6 cq.grey.length n6) (x2:= .string ⟨cq.at_.toArray⟩) ho (by omega) (by omega) (ho.nb hR (by decide) (by decide)).1 (ho.nb hR (by decide) (by decide)).2 (ho.nb hD (by decide) (by decide)).1 (ho.nb hD (by decide) (by decide)).2);have hF4:=sqH (zN (g:=H+1+1) (h:=H+1+1+1) (u0:= .slice A5 sq.blobs.length c5) (u1:= .slice B5 sq.ents.length d5) (u2:= .int .i64 s.room) (u3:= .int .i64 s.clock) (x0:= .int .i64 cq.phase) (x1:= .slice A6 cq.grey.length n6) (x2:= .string ⟨cq.at_.toArray⟩) hl o1 o2);have hF5:=sqH (zq (g:=H+1+1) (h:=H+1+1+1) (u0:= .slice A5 sq.blobs.length c5) (u1:= .slice B5 sq.ents.length d5) (u2:= .int .i64 s.room) (u3:= .int .i64 s.clock) (x0:= .int .i64 cq.phase) (x1:= .slice A6 cq.grey.length n6) (x2:= .string ⟨cq.at_.toArray⟩) hB (by omega) (by omega));have HW:=sqH hW3;clear hW3 o1 o2;go_wp2_with fail;rw [←HW.out,←HG.out];obtain⟨f0,f1,f2,f3⟩:=sqF4 hR;obtain⟨y0,y1,y2,y3⟩:=sqC4 hR;obtain⟨e0,e1,e2⟩:=sqF3 hD;obtain⟨x0,x1,x2⟩:=sqC3 hD;obtain⟨b0,b1,b2,b3⟩:=sqC4 hX3;obtain⟨c0,c1,c2⟩:=sqC3 hY3;clear hR hD ho hB hl hX3 hY3;go_region
 all_goals (try dsimp only [Exit.then])
 go_wp2_with fail;refine bodyPost_ret (zK rfl _ _ (H+1+1) (H+1+1+1) _ _ _ _ _ _ _ _ (by rfl) (Arr.drew hF1.out) Tryz.underlying26 rfl (by kernel_rfl) (by rfl) (Arr.drew hF2.out) Tryz.underlying29 rfl (by kernel_rfl)) rfl ?_;rw [hcq,hsq];exact⟨_,_,_,rfl,(hF3.out.drewX.lower (by omega)).mono (fun b hb=>by omega),ze hF4.out.drew (by omega),hF5.out.drew⟩
theorem uv (s:StoP) (c:ColP):(zZ s c).2.1.grey= []:=by
 rcases zV s c with ⟨_,e⟩ | ⟨_,_,_,_,e⟩ | ⟨_,_,_,_,e⟩<;>rw [e]
theorem Qc (A:Option Addr) (c:Nat) (B:Option Addr) (d:Nat) (s:StoP) (Ag:Option Addr) (ng:Nat) (cp:ColP) (w:World) (hg:GoodS s) (hr:RdSt w A c B d s) (hp:cp.phase=1∨cp.phase=2) (hgl:cp.grey.length≤1000) (hgc:GoodC s cp) (hc:RdC w Ag ng cp) :
  Calls Tryz.prog 76 #[.agg #[.slice A s.blobs.length c,.slice B s.ents.length d,.int .i64 s.room,.int .i64 s.clock],coV (.slice Ag cp.grey.length ng) cp] w fun e w' =>
   ∃v1 v2 v3,e= .returned (.tuple #[stV v1 v2 s,coV v3 (zy s cp).2.1,.string ⟨(zy s cp).2.2.toArray⟩,.int .i64 0])∧OwSt w' w.heap.size v1 v2 (zy s cp).1 (fun b=>b<w.heap.size)∧w'.ownsRow w.heap.size 9 1 v3 (zy s cp).2.1.grey.length (strs (zy s cp).2.1.grey)∧Below w.heap.size w w':=by
 rcases hp with hp | hp
 ·have hT:zy s cp=((zm s cp).1,(zm s cp).2, []):=by unfold zy;rw [if_pos hp]
  rw [hT];refine(VW A c B d s Ag ng cp w hg hr hp hgl hgc hc).mono ?_;rintro e w' ⟨v1,v2,v3,he,h1,h2,h3⟩;exact⟨v1,v2,v3,he,h1,h2,h3⟩
 ·have hT:zy s cp=zZ s cp:=by unfold zy;rw [if_neg (by omega)]
  rw [hT];refine(U5 A c B d s Ag ng cp w hg hr hp hgl hgc hc).mono ?_;rintro e w' ⟨v1,v2,he,h1,h3⟩;refine⟨v1,v2,.slice none 0 0,he,h1,?_,h3⟩;rw [uv];exact World.ownsRow_nil _ _ _ _
theorem Zk (s:StoP) (c:ColP):8*unm (zy s c).1.blobs+(zy s c).2.1.grey.length≤8*unm s.blobs+c.grey.length:=by
 unfold zy;split
 ·rcases vd s c with h | h
  ·have:=uL (y9 s.blobs) h;show 8*unm (zm s c).1.blobs+(zm s c).2.grey.length≤_;omega
  ·rcases qi s c with ⟨_,e⟩ | ⟨_,_,_,_,e⟩ | ⟨_,_,_,_,_,_,_,_,e⟩ | ⟨_,_,_,_,_,_,_,_,e⟩
   ·rw [e];show 8*unm s.blobs+0≤_;omega
   all_goals rw [e]at h;cases h
 ·have h1:unm (zZ s c).1.blobs≤unm s.blobs:=by
   rcases zV s c with ⟨_,e⟩ | ⟨_,_,_,_,e⟩ | ⟨_,_,_,_,e⟩
   ·rw [e];exact Nat.le_refl _
   ·rw [e];exact Nat.le_refl _
   ·rw [e];exact((List.eraseIdx_sublist _ _).filter _).length_le
  rw [uv];show 8*unm (zZ s c).1.blobs+0≤_;omega
theorem YB {w:World} {base base' size size' n n':Nat} {e e':TypeId} {v v':Value} {xs xs':List Value} (h:w.ownsRow base e size v n xs) (h':w.ownsRow base' e' size' v' n' xs') (hne:e≠e'):∀b,v.ownBlock=some b→v'.ownBlock≠some b:=fun b hb hb'=>by
 rcases h.2 with ⟨rfl,_⟩ | ⟨g,cap,cur,rfl,_,h2,_⟩
 ·cases hb
 ·cases hb
  rcases h'.2 with ⟨rfl,_⟩ | ⟨g',cap',cur',rfl,_,h3,_⟩
  ·cases hb'
  ·cases hb'
   have h4:=Eq.trans (Eq.symm h2) h3
   simp only [Option.some.injEq,Obj.cells.injEq]at h4
   exact hne h4.2.1
theorem ji {w:World} {g h k:Nat} {e:TypeId} {xs:List Value} (u0 u1 u2 u3 x0 x1 x2:Value) (hA:Arr w k e xs) (h1:k≠g) (h2:k≠h):Arr (put7 w g h u0 u1 u2 u3 x0 x1 x2) k e xs :=
 ((((((hA.other h1 u0).other h1 u1).other h1 u2).other h1 u3).other h2 x0).other h2 x1).other h2 x2
structure RunC (w:World) (H K gs gc:Nat) (v1 v2 v3:Value) (Ag:Option Addr) (ng:Nat) (t:StoP) (cc:ColP) (g:List (List UInt8)):Prop where
 bs:Arr w gs 26 [v1,v2,.int .i64 t.room,.int .i64 t.clock]
 bc:Arr w gc 29 [.int .i64 cc.phase,.slice Ag cc.grey.length ng,.string ⟨cc.at_.toArray⟩]
 st:OwSt w H v1 v2 t (fun b=>b<K∨b=gs∨v3.ownBlock=some b)
 gr:RdC w Ag ng cc
 gone:w.ownsRow H 9 1 v3 g.length (strs g)
section
variable {w w':World} {H K gs gc:Nat} {v1 v2 v3 v3':Value} {Ag:Option Addr} {ng:Nat} {t:StoP} {cc:ColP} {g:List (List UInt8)}
theorem RunC.below (h:RunC w H K gs gc v1 v2 v3 Ag ng t cc g) (hb:Below w.heap.size w w'):RunC w' H K gs gc v1 v2 v3 Ag ng t cc g:=⟨h.bs.below hb,h.bc.below hb,h.st.below hb,h.gr.below hb,z8 h.gone hb⟩
theorem RunC.key (h:RunC w H K gs gc v1 v2 v3 Ag ng t cc g) {B:Nat} (hgr:∃vg,w.ownsRow B 9 1 vg cc.grey.length (strs cc.grey)∧vg= .slice Ag cc.grey.length ng) (hB:∀b,v3.ownBlock=some b→b<B) {g':List (List UInt8)} (ho:w'.ownsRow H 9 1 v3' g'.length (strs g')) (hg:w.grownBy w' v3.ownBlock) (hv:v3'.ownBlock=v3.ownBlock∨∃b,v3'.ownBlock=some b∧w.heap.size≤b):RunC w' H K gs gc v1 v2 v3' Ag ng t cc g':=by
 obtain⟨xs,hx⟩:=h.st.b.own_m;obtain⟨ys,hy⟩:=h.st.e.own_m;have n1:=YB h.gone hx (by decide);have n2:=YB h.gone hy (by decide);have h1:OwSt w H v1 v2 t (fun b=>b<K∨b=gs∨v3'.ownBlock=some b∨v3.ownBlock=some b):=h.st.wider fun b hb=>by
  rcases hb with hb | hb | hb | hb
  ·exact .inl (.inl hb)
  ·exact .inl (.inr (.inl hb))
  ·rcases hv with e | ⟨b',e,hb'⟩
   ·exact .inl (.inr (.inr (by rw [←e];exact hb)))
   ·rw [e]at hb;cases hb;exact .inr hb'
  ·exact .inl (.inr (.inr hb))
 have h2:OwSt w' H v1 v2 t (fun b=>b<K∨b=gs∨v3'.ownBlock=some b∨v3.ownBlock=some b) :=
  ⟨h1.b.other hg (fun b e=>n1 b e) (fun b e=> .inl (.inr (.inr (.inr e)))),h1.e.other hg (fun b e=>n2 b e) (fun b e=> .inl (.inr (.inr (.inr e)))),h1.ne⟩
 obtain⟨vg,hvg,rfl⟩:=hgr;have hvg':w'.ownsRow B 9 1 (.slice Ag cc.grey.length ng) cc.grey.length (strs cc.grey):=hvg.kept hg (by
  rcases hvg.2 with ⟨e2,_⟩ | ⟨g2,cap,cur,e2,h4,_⟩
  ·exact .inl (by rw [e2];rfl)
  ·refine .inr fun e=> ?_;rw [e2]at e;have h3:g2<B:=hB g2 e.symm;omega)
 obtain⟨_,_,e1,hgr2⟩:=RdC.of_own (c:=cc) hvg';cases e1
 exact⟨h.bs.grown hg (zg h.gone h.bs (by decide)),h.bc.grown hg (zg h.gone h.bc (by decide)),h2.mono (fun b hb=>hb.imp id fun h=>h.imp id .inl),hgr2,ho⟩
end
end Go.Proofs.YtnmlbflhnnmoeaaGreat
