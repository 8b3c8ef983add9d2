/- Lemmas of the proof. Conditions: as stated. -/
import Derived.Test.YtnmlbflhnnmoeaaGreatQX24
set_option linter.unusedVariables false
set_option linter.unusedSimpArgs false
set_option maxRecDepth 100000
set_option maxHeartbeats 4000000
namespace Go.Proofs.YtnmlbflhnnmoeaaGreat
open Go.RowKit
theorem JR (w:World):(zeroValue 49).run Tryz.prog w= .ok (.agg #[.string ByteArray.empty,.slice none 0 0,.int .i64 0,.int .i64 0]) w:=by kernel_rfl
theorem VQ (g i n cap base:Nat) (xs:List Value) (w:World) (h:w.ownsRow base 49 4 (.slice (some ⟨g,0,none⟩) n cap) n xs) (hi:i<n) (hx:∀u∈xs,u.oneCell'=true) :
  Calls Tryz.prog 91 #[.slice (some ⟨g,0,none⟩) n cap,.int .i64 i,.int .i64 ((i:Int)+1)] w fun e w'=>e= .returned (.slice (some ⟨g,0,none⟩) (n - 1) cap) ∧
   w'.ownsRow base 49 4 (.slice (some ⟨g,0,none⟩) (n - 1) cap) (n - 1) (xs.take (i*4)++xs.drop ((i+1)*4))∧w.grownBy w' (some g):=by
 obtain⟨g',cap',cs,e1,hbg,hA,hnc,hcm,hcl,hct⟩:=xI h (by omega);injection e1 with e11 _ e13;injection e11 with e11;injection e11 with e11;subst e11 e13;obtain⟨i0,hi0,hz0,hz1,hz2⟩:=info_parts (show(Tryz.prog.info? 49).map (fun i=>(i.zero,i.size,i.bytes))=some (some (.agg #[.string ByteArray.empty,.slice none 0 0,.int .i64 0,.int .i64 0]),4,56) by kernel_rfl);obtain⟨zs,hzs⟩:∃zs,zs=(Builtin.zeroCells (Value.agg #[.string ByteArray.empty,.slice none 0 0,.int .i64 0,.int .i64 0]).cells 1).toList:=⟨_,rfl⟩
 have hzs':zs= [.string ByteArray.empty,.slice none 0 0,.int .i64 0,.int .i64 0]:=by rw [hzs];kernel_rfl
 have hzl:zs.length=4:=by rw [hzs'];rfl
 have hz1':∀u∈zs,u.oneCell'=true:=by rw [hzs'];intro u hu;simp at hu;rcases hu with rfl | rfl | rfl | rfl<;>rfl
 obtain⟨a1,a2⟩:=Yw (i:=i) (n:=n) (zs:=zs) hA.drew hcl hnc hi hzl;rw [hct]at a1 a2;have hlen:(xs.drop ((i+1)*4)).length=(n - (i+1))*4:=by rw [List.length_drop,h.1,Nat.sub_mul]
 obtain⟨news,hnews⟩:∃news,news=xs.drop ((i+1)*4):=⟨_,rfl⟩
 rw [←hnews]at a1 a2 hlen;obtain⟨W1,hW1⟩:∃W1,W1=w.drew.setCells g (i*4) news:=⟨_,rfl⟩
 rw [←hW1]at a1 a2;have hr:=Rd.of_own h;have HC:=sqH (show ∀k u,xs[k]?=some u→w.drew.cell? ⟨g,k,none⟩=some u from fun k u hu=>by
  refine Arr.cell hA.drew ?_;rw [←hct,List.getElem?_take]at hu;split at hu
  ·exact hu
  ·cases hu)
 obtain⟨A,hAd,hsrc⟩:∃A:Addr,(if cap=i+1 then some (⟨g,0,none⟩:Addr) else some ⟨g,(i+1)*4,none⟩)=some A∧Hid (∀t u,news[t]?=some u→w.drew.cell? (A.add t)=some u):=by
  by_cases hce:cap=i+1
  ·refine⟨⟨g,0,none⟩,by simp [hce],Lib.hid fun t u hu=> ?_⟩;have h0:news.length=0:=by rw [hlen,show n - (i+1)=0 by omega]
   rw [List.length_eq_zero_iff.1 h0]at hu;cases hu
  ·refine⟨⟨g,(i+1)*4,none⟩,by simp [hce],Lib.hid fun t u hu=> ?_⟩;rw [hnews,List.getElem?_drop]at hu;have:=HC.out _ _ hu;rw [Addr.add_lit];exact this
 have s1:=sqH hlen;have s2:=sqH (show ∀u∈news,u.oneCell'=true from fun u hu=>hx u (by rw [hnews]at hu;exact List.mem_of_mem_drop hu));have s3:=sqH (show ∀t,t<news.length→(w.drew.cell? ⟨g,0+i*4+t,none⟩).isSome=true∧w.drew.frozen? ⟨g,0+i*4+t,none⟩=false from fun t ht=>by
  rw [hlen]at ht;have hlt:i*4+t<xs.length:=by rw [h.1];omega
  rw [Nat.zero_add,HC.out _ _ (List.getElem?_eq_getElem hlt)];exact⟨rfl,hA.drew.frozen _⟩)
 have hclr:∀ty,(Builtin.clear_ #[24] ty #[.slice (some ⟨g,(n - 1)*4,none⟩) (n - (n - 1)) (cap - (n - 1))]).run Tryz.prog W1= .ok (.tuple #[]) (W1.setCells g ((n - 1)*4) zs):=fun ty=>by
  rw [show n - (n - 1)=1 by omega];exact yM W1 _ _ ty _ zs Tryz.underlying24 JR hzs.symm hz1' g _ _ (fun j hj=>by
   have hk:(n - 1)*4+j<(cs.take (i*4)++news++cs.drop ((n - 1)*4)).length:=by
    simp only [List.length_append,List.length_take,List.length_drop,hcl,hlen];omega
   rw [a1.cell (List.getElem?_eq_getElem hk)];rfl) (fun j hj=>a1.frozen _)
 have hcapi:i≤cap:=by omega
 have hci1:i+1≤cap:=by omega
 have hwi:((i:Int)+1).toNat=i+1:=by omega
 have hp0:(0:Int)≤(i:Int)+1:=by omega
 have hp1:(i:Int)+1≤(n:Int):=by omega
 have hne:((i:Int)==(i:Int)+1)=false:=by rw [beq_eq_false_iff_ne];omega
 have A2:=sqH a2;have HW1:=sqH hW1;have HG:=sqH (show w.grownBy (W1.setCells g ((n - 1)*4) zs) (some g) from(show w.grownBy w.drew (some g) from⟨rfl,rfl,rfl,Nat.le_refl _,fun _ _ _=>rfl⟩).trans (by rw [hW1];exact(qE _ _ _).trans (qE _ _ _)));have HL:=sqH hlen;have HCL:=sqH hcl;have HN:=sqH hnews;have HT:=sqH hct;have HX:=sqH h.1;clear hW1 a1 a2 hct hnews hlen hzs hzs' hz1' hr hA HC hx hcl;go_enter Tryz.func91,Tryz.ntmps91;go_wp2_with fail;go_region_law (refine step_append_room rfl (.tmp 22) (.tmp 25) 24 rfl 49 i0 4 Tryz.underlying24 hi0 hz1 g 0 i cap (by simp [Act.eval,Act.put]) A (n - (i+1)) (cap - (i+1)) news (by simp [Act.eval,Act.put]) s1.out hsrc.out s2.out (by omega) s3.out ?_;rw [Nat.zero_add,←HW1.out]);rw [show i+(n - (i+1))=n - 1 by omega];go_wp2_with fail;go_ret;refine⟨rfl,⟨?_,.inr ⟨g,cap,_,rfl,hbg,A2.out,by omega,hcm,?_,?_⟩⟩,HG.out⟩
 ·rw [←HN.out,List.length_append,List.length_take,HL.out,HX.out];omega
 ·simp only [List.size_toArray,List.length_append,List.length_take,List.length_drop,HL.out,hzl,HCL.out];omega
 ·have e1:xs.take (i*4)=cs.take (i*4):=by rw [←HT.out,List.take_take,Nat.min_eq_left (by omega)]
  rw [e1,←HN.out,List.append_assoc,List.take_left' (by rw [List.length_append,List.length_take,HL.out,HCL.out];omega)]
theorem UK (g i:Nat) (l:List EntP) (base cap:Nat) (w:World) (N:Nat→Prop) (hi:i<l.length) (h:RwX EntS 49 w base (.slice (some ⟨g,0,none⟩) l.length cap) l N) :
  Calls Tryz.prog 91 #[.slice (some ⟨g,0,none⟩) l.length cap,.int .i64 i,.int .i64 ((i:Int)+1)] w fun e w'=>e= .returned (.slice (some ⟨g,0,none⟩) (l.eraseIdx i).length cap) ∧
   RwX EntS 49 w' base (.slice (some ⟨g,0,none⟩) (l.eraseIdx i).length cap) (l.eraseIdx i) N∧w.grownBy w' (some g):=by
 obtain⟨ps,h1,h2,h3,h4⟩:=h;have hlen:(l.eraseIdx i).length=l.length - 1:=List.length_eraseIdx_of_lt hi;rw [hlen];refine(VQ g i l.length cap base (cls ps) w h3 hi h2.ones).mono ?_;rintro e w' ⟨rfl,ho,hg⟩;refine⟨rfl,⟨ps.eraseIdx i,?_,?_,?_,fun p hp b hb=>h4 p (List.mem_of_mem_eraseIdx hp) b hb⟩,hg⟩
 ·rw [←h1,List.eraseIdx_eq_take_drop_succ,List.eraseIdx_eq_take_drop_succ,List.map_append,List.map_take,List.map_drop]
 ·exact qj.grown (w:=w) (g:=some g) (fun p hp=>h2 p (List.mem_of_mem_eraseIdx hp)) hg (fun p hp b hb=>h4 p (List.mem_of_mem_eraseIdx hp) b (.inl hb))
 ·rw [←vV (s:=4) ps i h2.lens,hlen];exact ho
end Go.Proofs.YtnmlbflhnnmoeaaGreat
