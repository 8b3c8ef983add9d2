/- Lemmas of the proof. Conditions: as stated. -/
import Derived.Test.YtfmnggcfhalfnaaGreatQW11
set_option linter.unusedVariables false
set_option linter.unusedSimpArgs false
set_option maxRecDepth 100000
set_option maxHeartbeats 8000000
namespace Go.Proofs.YtfmnggcfhalfnaaGreat
open Go.RowKit
theorem Arr.setsMid {g:Nat} {e:TypeId}:∀(ys xs zs ts:List Value) (W:World),Arr W g e (zs++(xs++ts))→ys.length=xs.length→Arr (W.setCells g zs.length ys) g e (zs++(ys++ts))
 | [], [],zs,ts,W,h,_=>h
 | y::ys,x::xs,zs,ts,W,h,hl=>by
  have h1:=h.set (k:=zs.length) (by simp) y
  rw [List.set_append_right _ _ (Nat.le_refl _),Nat.sub_self,List.cons_append,List.set_cons_zero]at h1
  have h2:=Arr.setsMid ys xs (zs++ [y]) ts _ (by simpa using h1) (by simpa using hl)
  rw [List.append_assoc]at h2
  simp only [List.length_append,List.length_cons,List.length_nil,Nat.zero_add]at h2
  exact h2
theorem qt (b off j:Nat):(⟨b,off,none⟩:Addr).add j=⟨b,off+j,none⟩:=by unfold Addr.add;split<;>simp_all
theorem qH {g k:Nat} (hne:k≠g):∀(ys:List Value) (o:Nat) (W:World),(W.setCells g o ys).heap[k]?=W.heap[k]?
 | [],_,_=>rfl
 | y::ys,o,W=>(qH hne ys (o+1) _).trans (Below.heap_setCell W _ y k hne)
theorem xo (W:World) (g o:Nat) (ys:List Value):W.grownBy (W.setCells g o ys) (some g) :=
 have h:=Below.sets (B:=0) (g:=g) (Nat.zero_le _) ys o W (Below.refl 0 W)
 ⟨h.os,h.tape,h.output,h.size,fun k hk hne=>qH (fun e=>hne (by rw [e])) ys o W⟩
section
variable {P:Program} {w:World}
theorem Zv {t ty e e':TypeId} {size bytes:Nat} (E:El P t e size bytes) {base g n cap:Nat} {xs us:List Value} {m c:Nat}
  (hown:w.ownsRow base e size (.slice (some ⟨g,0,none⟩) n cap) n xs) (hl:us.length=m*size) (h1:∀u∈us,u.oneCell'=true) (hroom:n+m≤cap) :
  ∃w',(Builtin.append_ #[t,t] ty #[.slice (some ⟨g,0,none⟩) n cap,.slice (some ⟨w.heap.size,0,none⟩) m c]).run P (w.alloc (.cells us.toArray e'))= .ok (.slice (some ⟨g,0,none⟩) (n+m) cap) w' ∧
   w'.ownsRow base e size (.slice (some ⟨g,0,none⟩) (n+m) cap) (n+m) (xs++us)∧w.grownBy w' (some g):=by
 obtain⟨hu,⟨i,z,hi,hz,hs,hby,hzs⟩,hp,hq⟩:=E;subst hs;obtain⟨hxl,h2⟩:=hown;rcases h2 with ⟨h,_⟩ | ⟨g',cap',cur,e1,hb,hg,hn,hm,hsz,ht⟩
 ·cases h
 ·injection e1 with e1 _ e3;injection e1 with e1;injection e1 with e1;subst e1 e3;have hA0:Arr w g e cur.toList:=by simpa [Arr] using hg
  have hA:=hA0.alloc (.cells us.toArray e');have hcl:cur.toList.length=cap*i.size:=by simpa using hsz
  have hmul:(n+m)*i.size≤cap*i.size:=Nat.mul_le_mul_right _ hroom;rw [Nat.add_mul]at hmul;have hsplit:cur.toList=xs++((cur.toList.drop (n*i.size)).take (m*i.size)++cur.toList.drop ((n+m)*i.size)):=by
   have ht':cur.toList.take (n*i.size)=xs:=ht;rw [←ht',Nat.add_mul,←List.drop_drop,List.take_append_drop,List.take_append_drop]
  have hlt:=hA0.lt;have hrun:=run_append_room_cells (P:=P) (w:=w.alloc (.cells us.toArray e')) t ty e i hu hi g 0 n cap ⟨w.heap.size,0,none⟩ m c us hl
   (fun j u hj=>by
    show(w.alloc _).cell? ((⟨w.heap.size,0,none⟩:Addr).add j)=_;rw [qt,Nat.zero_add,World.cell?_alloc_new];simpa using hj) h1 hroom
   (fun j hj=>by
    rw [hA.cell (k:=0+n*i.size+j) (List.getElem?_eq_getElem (by rw [hcl];omega))];rfl)
   (fun j hj=>hA.frozen _)
  refine⟨_,hrun,⟨by rw [List.length_append,hxl,hl,Nat.add_mul],.inr ⟨g,cap,(xs++(us++cur.toList.drop ((n+m)*i.size))).toArray,rfl,hb,?_,hroom,hm,?_,?_⟩⟩,?_⟩
  ·rw [hsplit]at hA;have hA2:=Arr.setsMid us _ xs _ _ hA (by rw [List.length_take,List.length_drop,hcl,hl];omega);rw [Nat.zero_add,←hxl];exact hA2
  ·simp only [List.size_toArray,List.length_append,List.length_drop,hcl,hxl,hl,Nat.add_mul];omega
  ·simp only [List.toList_toArray];rw [←List.append_assoc,List.take_append_of_le_length (by rw [List.length_append,hxl,hl,Nat.add_mul];exact Nat.le_refl _),List.take_of_length_le (by rw [List.length_append,hxl,hl,Nat.add_mul];exact Nat.le_refl _)]
  ·have h5:=xo (w.alloc (.cells us.toArray e')) g (0+n*i.size) us;exact⟨h5.os,h5.tape,h5.output,Nat.le_trans (by rw [World.size_alloc];omega) h5.size,fun k hk hne=>(h5.block k (by simp;omega) hne).trans (Below.heap_alloc _ _ _ hk)⟩
theorem yf {ops:Array Oper} {rest:List Oper} {o:Oper} {a:Act} {Q:Exit→Act→World→Prop} (hgd:o.guard=none) (s x:Operand) {t e e':TypeId} {size bytes:Nat}
  (ho:o.op= .call { callee:= .builtin .append,args:=#[s,x],argTypes:=#[t,t] }) (E:El P t e size bytes)
  {base g n cap:Nat} {xs:List Value} (hs:a.eval s= .slice (some ⟨g,0,none⟩) n cap) (hown:w.ownsRow base e size (.slice (some ⟨g,0,none⟩) n cap) n xs)
  {us:List Value} {m c:Nat} (hx:a.eval x= .slice (some ⟨w.heap.size,0,none⟩) m c) (hl:us.length=m*size) (h1:∀u∈us,u.oneCell'=true) (hroom:n+m≤cap)
  (h:∀w',w'.ownsRow base e size (.slice (some ⟨g,0,none⟩) (n+m) cap) (n+m) (xs++us)→w.grownBy w' (some g)→wpList P ops Q rest (a.put o.dst (.slice (some ⟨g,0,none⟩) (n+m) cap)) w') :
  wpList P ops Q (o::rest) a (w.alloc (.cells us.toArray e')) :=
 wpList_plain hgd fun K hK=>by
  obtain⟨w',hrun,h2,h3⟩:=Zv (P:=P) (ty:=o.type) (e':=e') E hown hl h1 hroom (c:=c)
  unfold Oper.wp execOp
  simp only [ho,resolve,invoke,builtin,Sem.run_bind,Sem.run_pure,Result.andThen_ok,List.map_toArray,List.map_cons,List.map_nil,hs,hx,hrun]
  exact hK _ _ (h w' h2 h3)
end
theorem Sl.other {w:World} {size n c g k:Nat} {A:Option Addr} {xs:List Value} (h:Sl w size A n c xs) (hne:∀a,A=some a→a.block≠g) (u:Value):Sl (w.setCell ⟨g,k,none⟩ u) size A n c xs :=
 h.keep (by simp [World.setCell]) fun b hb hl=>by
  obtain⟨a,ha,rfl⟩:=hl
  exact Below.heap_setCell w _ u _ (hne a ha)
theorem xg (A B:Option Addr) (n c d:Nat) (x:List PartP) (w:World) (hl:x.length=n) (hn:n≤140737488351232) (hr:Rd w 3 A n (pcs x)) (hs:Rd w 3 B n (pcs x)) :
  Calls Tryz.prog 41 #[.slice A n c,.slice B n d] w fun e w'=>e= .returned (.bool true)∧Below w.heap.size w w':=by
 have hnn:((n:Int) != (n:Int))=false:=by simp
 have HL:=sqH hl;clear hl;go_enter Tryz.func41,Tryz.ntmps41;go_wp2_with fail;go_loopg [5,13] n (fun gn u i wr=>∃k:Nat,gn=n - k∧i= .int .i64 k∧k≤n∧Below w.heap.size w wr)
 case atStart=>exact⟨0,rfl,rfl,by omega,Below.refl _ _⟩
 case round =>
  obtain⟨k,hgk,rfl,hk,hbel⟩:=hrel;have HGK:=sqH hgk;clear hgk;by_cases hlt:k<n
  ·have hkl:k<x.length:=by have:=HL.out;omega
   obtain⟨b,off,rfl,_,hcell⟩:=(hr.below hbel).2 (by omega);obtain⟨b',off',rfl,_,hcell'⟩:=(hs.below hbel).2 (by omega);have hat:=fun j (hj:j<3)=>qL x k j hkl hj;generalize x[k]=p at *
   have c0:=hcell (k*3+0) _ (hat 0 (by omega));have c1:=hcell (k*3+1) _ (hat 1 (by omega));have c2:=hcell (k*3+2) _ (hat 2 (by omega));have d0:=hcell' (k*3+0) _ (hat 0 (by omega));have d1:=hcell' (k*3+1) _ (hat 1 (by omega));have d2:=hcell' (k*3+2) _ (hat 2 (by omega));rw [Nat.add_zero]at c0 d0;rw [show off+(k*3+1)=off+k*3+1 by omega]at c1;rw [show off+(k*3+2)=off+k*3+2 by omega]at c2;rw [show off'+(k*3+1)=off'+k*3+1 by omega]at d1;rw [show off'+(k*3+2)=off'+k*3+2 by omega]at d2;obtain⟨pn,pd,psz⟩:=p;dsimp only [qx,List.getElem?_cons_zero,List.getElem?_cons_succ]at c0 c1 c2 d0 d1 d2;generalize (⟨pn.toArray⟩:ByteArray)=s at *
   generalize (⟨pd.toArray⟩:ByteArray)=t at *
   clear hat hcell hcell';have hk0:(0:Int)≤(k:Int):=by omega
   have hk1:(k:Int)<(n:Int):=by omega
   go_wp2_with fail;go_quiet (fail);go_wp2_with fail;go_roundg (n - (k+1))
   case measure=>have:=HGK.out;omega
   case rel=>exact⟨k+1,rfl,by go_num,by omega,zk hbel _⟩
  ·go_wp2_with fail;go_ret;exact⟨rfl,hbel⟩
theorem xO {s t:ByteArray} (h:¬s=t):(s.toList==t.toList)=false:=by
 rw [beq_eq_false_iff_ne,ByteArray.toList_eq,ByteArray.toList_eq];intro e;apply h;cases s;cases t;simp only [ByteArray.mk.injEq];exact Array.toList_inj.1 e
theorem xf (A B:Option Addr) (n m c d:Nat) (x y:List PartP) (w:World) (hl:x.length=n) (hl':y.length=m) (hn:n≤140737488351232) (hm:m≤140737488351232) (hr:Rd w 3 A n (pcs x)) (hs:Rd w 3 B m (pcs y)) (hne:x≠y) :
  Calls Tryz.prog 41 #[.slice A n c,.slice B m d] w fun e w'=>e= .returned (.bool false)∧Below w.heap.size w w':=by
 have HL:=sqH hl;have HL':=sqH hl';have HNE:=sqH hne;clear hl hl' hne;by_cases hnm:n=m
 ·subst hnm;have hnn:((n:Int) != (n:Int))=false:=by simp
  go_enter Tryz.func41,Tryz.ntmps41;go_wp2_with fail;go_loopg [5,13] n (fun gn u i wr=>∃k:Nat,gn=n - k∧i= .int .i64 k∧k≤n∧x.take k=y.take k∧Below w.heap.size w wr)
  case atStart=>exact⟨0,rfl,rfl,by omega,rfl,Below.refl _ _⟩
  case round =>
   obtain⟨k,hgk,rfl,hk,htk,hbel⟩:=hrel;have HGK:=sqH hgk;have HTK:=sqH htk;clear hgk htk;by_cases hlt:k<n
   ·have hkl:k<x.length:=by have:=HL.out;omega
    have hkl':k<y.length:=by have:=HL'.out;omega
    obtain⟨b,off,rfl,_,hcell⟩:=(hr.below hbel).2 (by omega);obtain⟨b',off',rfl,_,hcell'⟩:=(hs.below hbel).2 (by omega);have hat:=fun j (hj:j<3)=>qL x k j hkl hj;have hat':=fun j (hj:j<3)=>qL y k j hkl' hj;have HS:=sqH (fun (h:x[k]=y[k])=>(by rw [List.take_succ_eq_append_getElem hkl,List.take_succ_eq_append_getElem hkl',HTK.out,h]:x.take (k+1)=y.take (k+1)));generalize x[k]=p at *
    generalize y[k]=q at *
    have c0:=hcell (k*3+0) _ (hat 0 (by omega));have c1:=hcell (k*3+1) _ (hat 1 (by omega));have c2:=hcell (k*3+2) _ (hat 2 (by omega));have d0:=hcell' (k*3+0) _ (hat' 0 (by omega));have d1:=hcell' (k*3+1) _ (hat' 1 (by omega));have d2:=hcell' (k*3+2) _ (hat' 2 (by omega));rw [Nat.add_zero]at c0 d0;rw [show off+(k*3+1)=off+k*3+1 by omega]at c1;rw [show off+(k*3+2)=off+k*3+2 by omega]at c2;rw [show off'+(k*3+1)=off'+k*3+1 by omega]at d1;rw [show off'+(k*3+2)=off'+k*3+2 by omega]at d2;obtain⟨pn,pd,psz⟩:=p;obtain⟨qn,qd,qsz⟩:=q;dsimp only [qx,List.getElem?_cons_zero,List.getElem?_cons_succ]at c0 c1 c2 d0 d1 d2;obtain⟨s,hs⟩:∃s:ByteArray,s=⟨pn.toArray⟩:=⟨_,rfl⟩
    obtain⟨t,ht⟩:∃s:ByteArray,s=⟨pd.toArray⟩:=⟨_,rfl⟩
    obtain⟨s',hs'⟩:∃s:ByteArray,s=⟨qn.toArray⟩:=⟨_,rfl⟩
    obtain⟨t',ht'⟩:∃s:ByteArray,s=⟨qd.toArray⟩:=⟨_,rfl⟩
    rw [←hs]at c0;rw [←ht]at c1;rw [←hs']at d0;rw [←ht']at d1;have H4:=sqH (And.intro hs (And.intro ht (And.intro hs' ht')));clear hat hcell hcell' hat' hs ht hs' ht';have hk0:(0:Int)≤(k:Int):=by omega
    have hk1:(k:Int)<(n:Int):=by omega
    by_cases hss:s=s'
    ·subst hss;by_cases htt:t=t'
     ·subst htt;by_cases hzz:psz=qsz
      ·subst hzz;have HS2:=sqH (HS.out (by
        have h1:pn=qn:=by have:=H4.out.1.symm.trans H4.out.2.2.1;simpa using this
        have h2:pd=qd:=by have:=H4.out.2.1.symm.trans H4.out.2.2.2;simpa using this
        rw [h1,h2]))
       go_wp2_with fail;go_quiet (fail);go_wp2_with fail;go_roundg (n - (k+1))
       case measure=>have:=HGK.out;omega
       case rel=>exact⟨k+1,rfl,by go_num,by omega,HS2.out,zk hbel _⟩
      ·have e1:((psz:Int)==(qsz:Int))=false:=by rw [beq_eq_false_iff_ne];omega
       have e2:¬((psz:Int)=(qsz:Int)):=by omega
       have e3:(psz==qsz)=false:=by rw [beq_eq_false_iff_ne];exact hzz
       go_wp2_with fail;go_quiet (fail);go_wp2_with fail;go_ret;exact⟨rfl,zk hbel _⟩
     ·have e1:(t.toList==t'.toList)=false:=xO htt;go_wp2_with fail;go_quiet (fail);go_wp2_with fail;go_ret;exact⟨rfl,zk hbel _⟩
    ·have e1:(s.toList==s'.toList)=false:=xO hss;go_wp2_with fail;go_quiet (fail);go_wp2_with fail;go_ret;exact⟨rfl,zk hbel _⟩
   ·exfalso;apply HNE.out;have h1:=HTK.out
    rwa [List.take_of_length_le (by have:=HL.out;omega),List.take_of_length_le (by have:=HL'.out;omega)]at h1
 ·have hnn:((n:Int) != (m:Int))=true:=by rw [bne_iff_ne];omega
  go_enter Tryz.func41,Tryz.ntmps41;go_wp2_with fail;go_ret;exact⟨rfl,Below.refl _ _⟩
theorem qc (A:Option Addr) (n c:Nat) (xs:List Value) (w:World) (hb:n*40≤140737488355328) (hr:Rd w 3 A n xs) (h1:∀u∈xs,u.oneCell'=true) :
  Calls Tryz.prog 35 #[.slice A n c] w fun e w'=>∃v,e= .returned v∧w'.ownsRow w.heap.size 37 3 v n xs∧Below w.heap.size w w':=by
 have heq:=fun W=>Lib.run_eql_slice_nil (P:=Tryz.prog) W 33 37 A n c 0 0 Tryz.underlying33;cases A with
 | none =>
  obtain rfl:n=0:=by
   rcases Nat.eq_zero_or_pos n with h | h
   ·exact h
   ·obtain⟨_,_,h1,_⟩:=hr.2 h;cases h1
  obtain rfl:xs= []:=List.eq_nil_of_length_eq_zero (by simpa using hr.1);go_enter Tryz.func35,Tryz.ntmps35;go_wp2_with fail;go_ret;exact⟨_,rfl,World.ownsRow_nil _ _ _ _,Below.refl _ _⟩
 | some ad =>
  go_enter Tryz.func35,Tryz.ntmps35
  repeat' (fail_if_success (first|at_builtin|at_make));first|go_values|go_skip|go_guarded|go_step|go_upon|go_back
  refine zq rfl (.tmp 5) (.tmp 6) rfl jU (by rfl) (World.ownsRow_made (size:=3) w #[] 0 (Nat.le_refl _) (by simp [maxLen]) rfl) (by rfl) (hr.alloc _) h1 (by omega) (by simp) ?_;intro v1 w1 hown1 hg1 _;have hb1:=zc ((Below.refl _ _).alloc (Nat.le_refl _) _) (World.ownsRow_made (size:=3) w #[] 0 (Nat.le_refl _) (by simp [maxLen]) rfl) (Nat.le_refl _) hg1;go_wp2_with fail;go_ret;exact⟨_,rfl,by simpa using hown1,hb1⟩
theorem xC (A:Option Addr) (c:Nat) (l:List BlobP) (w:World) (hl:l.length≤100000) (hd:∀b∈l,b.data.length≤1000000) (hA:Rw BlobS w A l) :
  Calls Tryz.prog 36 #[.slice A l.length c] w fun e w'=>∃g,e= .returned (.slice (some ⟨g,0,none⟩) l.length l.length)∧RwX BlobS 32 w' w.heap.size (.slice (some ⟨g,0,none⟩) l.length l.length) l (fun b=>b<w.heap.size)∧Below w.heap.size w w':=by
 have HD:=sqH hd;clear hd
 let S:=BlobS
 go_enter Tryz.func36,Tryz.ntmps36
 repeat' (fail_if_success (first|at_builtin|at_make));first|go_values|go_skip|go_guarded|go_step|go_upon|go_back
 refine qf rfl (.const (.int .i64 0)) (.tmp 7) rfl kv l.length (by rfl) (by rfl) rfl (by omega) ?_;intro w1 g ho1 hb1;have hx1:RwX BlobS 32 w1 w.heap.size (.slice (some ⟨g,0,none⟩) 0 l.length) [] (fun b=>b<w.heap.size):=RwX.nil_ ho1;clear ho1;go_wp2_with fail;go_loopg [3,11] l.length (fun gn v i wr=>∃j:Nat,gn=l.length - j∧i= .int .i64 j∧j≤l.length∧v= .slice (some ⟨g,0,none⟩) j l.length∧RwX BlobS 32 wr w.heap.size (.slice (some ⟨g,0,none⟩) j l.length) (l.take j) (fun b=>b<w.heap.size)∧Below w.heap.size w wr)
 case atStart=>exact⟨0,rfl,rfl,by omega,rfl,hx1,hb1⟩
 case round =>
  clear hx1 hb1;obtain⟨j,hgk,rfl,hj,rfl,hx,hbl⟩:=hrel;have HGK:=sqH hgk;clear hgk;by_cases hlt:j<l.length
  ·have hcc:decide (j<l.length)=true:=decide_eq_true hlt;obtain⟨b,off,B,cb,rfl,hbb,c0,c1,c2,c3,hs⟩:=(hA.below hbl).blob_at j hlt;have hj0:(0:Int)≤(j:Int):=by omega
   have hj1:(j:Int)<(l.length:Int):=by omega
   have HTK:=sqH (show l.take (j+1)=l.take j++ [l[j]] by rw [List.take_succ_eq_append_getElem hlt]);have hjl:(l.take j).length=j:=by rw [List.length_take];omega
   have HBD:=sqH (HD.out l[j] (List.getElem_mem hlt));generalize l[j]=x at *
   obtain⟨sx,hsx⟩:∃s:ByteArray,s=⟨x.dig.toArray⟩:=⟨_,rfl⟩
   rw [←hsx]at c0;have HSX:=sqH hsx;clear hsx;have hX:Arr (wr.alloc (.cells #[.string sx,.slice B x.data.length cb,.int .i64 x.pins,(.bool x.mark)] 32)) wr.heap.size 32 [.string sx,.slice B x.data.length cb,.int .i64 x.pins,(.bool x.mark)]:=Arr.new wr 32 _;have hba:=(Below.refl wr.heap.size wr).alloc (Nat.le_refl _) (.cells #[.string sx,.slice B x.data.length cb,.int .i64 x.pins,(.bool x.mark)] 32);have hs2:=hs.below hba;have hbl2:=hbl.trans (hba.mono hbl.size);have hgw:wr.heap.size<(wr.alloc (.cells #[.string sx,.slice B x.data.length cb,.int .i64 x.pins,(.bool x.mark)] 32)).heap.size:=by simp
   have x1:=hX.cell (k:=1) rfl;have hxw:=hx.wider (N':=fun b=>b<w.heap.size∨b=wr.heap.size) (fun b hb=>hb.elim .inl (fun e=> .inr (by omega)));have hx2:=hxw.below hba;have hsz:w.heap.size≤wr.heap.size:=hbl.size;have hgx:g<wr.heap.size:=(hx.rwo.blk rfl).2;clear hs hba hbl hx hxw;go_wp2_with fail;generalize wr.alloc (.cells #[.string sx,.slice B x.data.length cb,.int .i64 x.pins,(.bool x.mark)] 32)=w2 at *
   generalize wr.heap.size=gx at *
   clear c0 c1 c2 c3 x1;have HCL:=sqH (xB B x.data.length cb x.data w2 rfl hs2.cap (by have:=HBD.out;omega) hs2.rd);refine HCL.out.mono ?_;rintro e_ w3 ⟨v3,rfl,ho3,hb3⟩;dsimp only;obtain⟨A3,c3,rfl,hs3,hl3⟩:=yi ho3;have hX3:=hX.below hb3;have hx3:=hx2.below hb3;have hbl3:=hbl2.trans (hb3.mono hbl2.size);have hx4:=(hx3.other (zH w3 gx 1 (.slice A3 x.data.length c3)) (fun b e1 e2=>by cases e1;have e3:g=gx:=Option.some.inj e2;omega) (fun b e=> .inr (by cases e;rfl))).wider (N':=fun b=>b<w.heap.size) (fun b hb=> .inl (.inl hb));have hX4:=hX3.set (k:=1) (by simp) (.slice A3 x.data.length c3);have hs4:=hs3.other (g:=gx) (k:=1) (fun a ha=>by have:=hl3 a ha;omega) (.slice A3 x.data.length c3);have hbl4:=hbl3.setCell (p:=⟨gx,1,none⟩) hsz (.slice A3 x.data.length c3);have f1:=hX3.frozen 1;have x1:=hX3.cell (k:=1) rfl;obtain⟨z0,z1,z2,z3⟩:=sqC4 hX4;have hge3:∀a,A3=some a→w.heap.size≤a.block∧a.block≠g:=fun a ha=>by have:=hl3 a ha;have:=hb3.size;omega
   clear hX hX3 ho3 hs3 hx2 hx3 hs2 hb3 hbl2 hbl3 hl3;obtain⟨xs,hxo,hop⟩:=hx4.open_;rw [hjl]at hxo hop;have HOP:=sqH hop;clear hop hX4
   repeat' (fail_if_success (first|at_builtin|at_make));first|go_values|go_skip|go_guarded|go_step|go_upon|go_back
   clear x1 f1 z0 z1 z2 z3;have hz34:(w3.setCell ⟨gx,1,none⟩ (.slice A3 x.data.length c3)).heap.size=w3.heap.size:=by simp [World.setCell]
   rw [←hz34];clear hz34;generalize w3.setCell ⟨gx,1,none⟩ (.slice A3 x.data.length c3)=w4 at *
   have hw4:w.heap.size≤w4.heap.size:=hbl4.size;refine yf rfl (.tmp 19) (.tmp 21) rfl kv (by rfl) hxo (us:= [.string sx,.slice A3 x.data.length c3,.int .i64 x.pins,(.bool x.mark)]) (by rfl) rfl (by
    intro u hu;simp only [List.mem_cons,List.not_mem_nil,or_false]at hu;rcases hu with rfl | rfl | rfl | rfl<;>rfl) (by omega) ?_
   intro w5 ho5 hg5;have hcs:S.R w4 x [.string sx,.slice A3 x.data.length c3,.int .i64 x.pins,(.bool x.mark)]:=⟨A3,c3,by rw [HSX.out];rfl,hs4⟩
   have hx5:=HOP.out x _ w4 w5 _ (Below.refl _ _) hcs (fun b hb ⟨a,n',c',hm,e⟩=>by
    simp only [List.mem_cons,List.not_mem_nil,or_false,Value.slice.injEq,reduceCtorEq,false_or]at hm;obtain⟨q1,q2⟩:=hge3 a hm.1.symm;rcases hb with hb | hb
    ·cases hb;exact q2 e
    ·omega) ho5 hg5 (.inl rfl)
   have hbl5:=hbl4.grown hg5 hw4 (fun k hk=>by cases hk;exact(hx5.rwo.blk rfl).1);clear hxo hx4 hs4 hbl4 ho5 hg5 hcs hge3;rw [←HTK.out]at hx5;go_wp2_with fail;go_roundg (l.length - (j+1))
   case measure=>have:=HGK.out;omega
   case rel=>exact⟨j+1,rfl,by go_num,by omega,rfl,hx5,hbl5⟩
  ·obtain rfl:j=l.length:=by omega
   have hcc:decide (l.length<l.length)=false:=by simp
   rw [List.take_length]at hx;go_wp2_with fail;go_ret;exact⟨g,rfl,hx,hbl⟩
theorem xD (A:Option Addr) (c:Nat) (l:List EntP) (w:World) (hl:l.length≤100000) (hd:∀x∈l,x.parts.length≤1000000) (hA:Rw EntS w A l) :
  Calls Tryz.prog 37 #[.slice A l.length c] w fun e w'=>∃g,e= .returned (.slice (some ⟨g,0,none⟩) l.length l.length)∧RwX EntS 35 w' w.heap.size (.slice (some ⟨g,0,none⟩) l.length l.length) l (fun b=>b<w.heap.size)∧Below w.heap.size w w':=by
 have HD:=sqH hd;clear hd
 let S:=EntS
 go_enter Tryz.func37,Tryz.ntmps37
 repeat' (fail_if_success (first|at_builtin|at_make));first|go_values|go_skip|go_guarded|go_step|go_upon|go_back
 refine qf rfl (.const (.int .i64 0)) (.tmp 7) rfl yR l.length (by rfl) (by rfl) rfl (by omega) ?_;intro w1 g ho1 hb1;have hx1:RwX EntS 35 w1 w.heap.size (.slice (some ⟨g,0,none⟩) 0 l.length) [] (fun b=>b<w.heap.size):=RwX.nil_ ho1;clear ho1;go_wp2_with fail;go_loopg [3,11] l.length (fun gn v i wr=>∃j:Nat,gn=l.length - j∧i= .int .i64 j∧j≤l.length∧v= .slice (some ⟨g,0,none⟩) j l.length∧RwX EntS 35 wr w.heap.size (.slice (some ⟨g,0,none⟩) j l.length) (l.take j) (fun b=>b<w.heap.size)∧Below w.heap.size w wr)
 case atStart=>exact⟨0,rfl,rfl,by omega,rfl,hx1,hb1⟩
 case round =>
  clear hx1 hb1;obtain⟨j,hgk,rfl,hj,rfl,hx,hbl⟩:=hrel;have HGK:=sqH hgk;clear hgk;by_cases hlt:j<l.length
  ·have hcc:decide (j<l.length)=true:=decide_eq_true hlt;obtain⟨b,off,B,cb,rfl,hbb,c0,c1,c2,c3,hs⟩:=(hA.below hbl).ent_at j hlt;have hj0:(0:Int)≤(j:Int):=by omega
   have hj1:(j:Int)<(l.length:Int):=by omega
   have HTK:=sqH (show l.take (j+1)=l.take j++ [l[j]] by rw [List.take_succ_eq_append_getElem hlt]);have hjl:(l.take j).length=j:=by rw [List.length_take];omega
   have HBD:=sqH (HD.out l[j] (List.getElem_mem hlt));generalize l[j]=x at *
   obtain⟨sx,hsx⟩:∃s:ByteArray,s=⟨x.key.toArray⟩:=⟨_,rfl⟩
   rw [←hsx]at c0;have HSX:=sqH hsx;clear hsx;have hX:Arr (wr.alloc (.cells #[.string sx,.slice B x.parts.length cb,.int .i64 x.pins,(.int .i64 x.stamp)] 35)) wr.heap.size 35 [.string sx,.slice B x.parts.length cb,.int .i64 x.pins,(.int .i64 x.stamp)]:=Arr.new wr 35 _;have hba:=(Below.refl wr.heap.size wr).alloc (Nat.le_refl _) (.cells #[.string sx,.slice B x.parts.length cb,.int .i64 x.pins,(.int .i64 x.stamp)] 35);have hs2:=hs.below hba;have hbl2:=hbl.trans (hba.mono hbl.size);have hgw:wr.heap.size<(wr.alloc (.cells #[.string sx,.slice B x.parts.length cb,.int .i64 x.pins,(.int .i64 x.stamp)] 35)).heap.size:=by simp
   have x1:=hX.cell (k:=1) rfl;have hxw:=hx.wider (N':=fun b=>b<w.heap.size∨b=wr.heap.size) (fun b hb=>hb.elim .inl (fun e=> .inr (by omega)));have hx2:=hxw.below hba;have hsz:w.heap.size≤wr.heap.size:=hbl.size;have hgx:g<wr.heap.size:=(hx.rwo.blk rfl).2;clear hs hba hbl hx hxw;go_wp2_with fail;generalize wr.alloc (.cells #[.string sx,.slice B x.parts.length cb,.int .i64 x.pins,(.int .i64 x.stamp)] 35)=w2 at *
   generalize wr.heap.size=gx at *
   clear c0 c1 c2 c3 x1;have HCL:=sqH (qc B x.parts.length cb (pcs x.parts) w2 (by have:=HBD.out;omega) hs2.rd (xq _));refine HCL.out.mono ?_;rintro e_ w3 ⟨v3,rfl,ho3,hb3⟩;dsimp only;obtain⟨A3,c3,rfl,hs3,hl3⟩:=yi ho3;have hX3:=hX.below hb3;have hx3:=hx2.below hb3;have hbl3:=hbl2.trans (hb3.mono hbl2.size);have hx4:=(hx3.other (zH w3 gx 1 (.slice A3 x.parts.length c3)) (fun b e1 e2=>by cases e1;have e3:g=gx:=Option.some.inj e2;omega) (fun b e=> .inr (by cases e;rfl))).wider (N':=fun b=>b<w.heap.size) (fun b hb=> .inl (.inl hb));have hX4:=hX3.set (k:=1) (by simp) (.slice A3 x.parts.length c3);have hs4:=hs3.other (g:=gx) (k:=1) (fun a ha=>by have:=hl3 a ha;omega) (.slice A3 x.parts.length c3);have hbl4:=hbl3.setCell (p:=⟨gx,1,none⟩) hsz (.slice A3 x.parts.length c3);have f1:=hX3.frozen 1;have x1:=hX3.cell (k:=1) rfl;obtain⟨z0,z1,z2,z3⟩:=sqC4 hX4;have hge3:∀a,A3=some a→w.heap.size≤a.block∧a.block≠g:=fun a ha=>by have:=hl3 a ha;have:=hb3.size;omega
   clear hX hX3 ho3 hs3 hx2 hx3 hs2 hb3 hbl2 hbl3 hl3;obtain⟨xs,hxo,hop⟩:=hx4.open_;rw [hjl]at hxo hop;have HOP:=sqH hop;clear hop hX4
   repeat' (fail_if_success (first|at_builtin|at_make));first|go_values|go_skip|go_guarded|go_step|go_upon|go_back
   clear x1 f1 z0 z1 z2 z3;have hz34:(w3.setCell ⟨gx,1,none⟩ (.slice A3 x.parts.length c3)).heap.size=w3.heap.size:=by simp [World.setCell]
   rw [←hz34];clear hz34;generalize w3.setCell ⟨gx,1,none⟩ (.slice A3 x.parts.length c3)=w4 at *
   have hw4:w.heap.size≤w4.heap.size:=hbl4.size;refine yf rfl (.tmp 19) (.tmp 21) rfl yR (by rfl) hxo (us:= [.string sx,.slice A3 x.parts.length c3,.int .i64 x.pins,(.int .i64 x.stamp)]) (by rfl) rfl (by
    intro u hu;simp only [List.mem_cons,List.not_mem_nil,or_false]at hu;rcases hu with rfl | rfl | rfl | rfl<;>rfl) (by omega) ?_
   intro w5 ho5 hg5;have hcs:S.R w4 x [.string sx,.slice A3 x.parts.length c3,.int .i64 x.pins,(.int .i64 x.stamp)]:=⟨A3,c3,by rw [HSX.out];rfl,hs4⟩
   have hx5:=HOP.out x _ w4 w5 _ (Below.refl _ _) hcs (fun b hb ⟨a,n',c',hm,e⟩=>by
    simp only [List.mem_cons,List.not_mem_nil,or_false,Value.slice.injEq,reduceCtorEq,false_or]at hm;obtain⟨q1,q2⟩:=hge3 a hm.1.symm;rcases hb with hb | hb
    ·cases hb;exact q2 e
    ·omega) ho5 hg5 (.inl rfl)
   have hbl5:=hbl4.grown hg5 hw4 (fun k hk=>by cases hk;exact(hx5.rwo.blk rfl).1);clear hxo hx4 hs4 hbl4 ho5 hg5 hcs hge3;rw [←HTK.out]at hx5;go_wp2_with fail;go_roundg (l.length - (j+1))
   case measure=>have:=HGK.out;omega
   case rel=>exact⟨j+1,rfl,by go_num,by omega,rfl,hx5,hbl5⟩
  ·obtain rfl:j=l.length:=by omega
   have hcc:decide (l.length<l.length)=false:=by simp
   rw [List.take_length]at hx;go_wp2_with fail;go_ret;exact⟨g,rfl,hx,hbl⟩
section
variable {W W':World} {g c e:Nat} {A:Option Addr} {l:List UInt8}
end
def Qb (p:PartP):Prop:=zF p.name=0∧zJ p.dig=0∧p.size≤300
theorem jJ (s:ByteArray) (r:List UInt8) (q:Nat) (w:World) (hs:s.size≤4000) (hq:s.size=2*q) (hun:qB s.data.toList=some r) :
  Calls Tryz.prog 42 #[.string s] w fun e w'=>∃v,e= .returned v∧w'.ownsRow w.heap.size 5 1 v r.length (bys r)∧Below w.heap.size w w':=by
 have hsz:s.data.toList.length=s.size:=by rw [Array.length_toList];rfl
 have hq1:q*2≤s.size:=by omega
 have hq2:s.size≤q*2:=by omega
 have HZ:=sqH hsz;have HUN:=sqH hun;clear hq hsz hun;go_enter Tryz.func42,Tryz.ntmps42;go_wp2_with fail;go_loopg [3,4] s.size (fun gn v i wr=>∃(k:Nat) (acc:List UInt8),gn=s.size - 2*k∧i= .int .i64 ((2*k:Nat):Int)∧k≤q∧acc.length=k∧qB s.data.toList=(qB (s.data.toList.drop (2*k))).map (acc++ ·) ∧
  wr.ownsRow w.heap.size 5 1 v acc.length (bys acc)∧Below w.heap.size w wr)
 case atStart=>exact⟨0, [],rfl,rfl,by omega,rfl,by simp,World.ownsRow_nil _ _ _ _,Below.refl _ _⟩
 case round =>
  obtain⟨k,acc,hgk,rfl,hk,hacc,hun,hown,hbel⟩:=hrel;have HGK0:=sqH hgk;have HU:=sqH hun;have HA:=sqH hacc;clear hun hacc hgk;have hsw:=hbel.size;generalize hm:2*k=m at *
  have HGK:=HGK0;have HM:=sqH hm;by_cases hlt:k<q
  ·have hm1:m+1<s.size:=by omega
   have hm0:m<s.size:=by omega
   have hi0:(0:Int)≤(m:Int):=by omega
   have hi1:(m:Int)<(s.size:Int):=by omega
   have hi2:(m:Int)+1<(s.size:Int):=by omega
   have hi3:(0:Int)≤(m:Int)+1:=by omega
   have hw1:IntKind.i64.wrap ((m:Int)+1)=(m:Int)+1:=IntWalk.i64_in _ (by omega);have hw2:IntKind.i64.wrap ((m:Int)+2)=(m:Int)+2:=IntWalk.i64_in _ (by omega);have hn1:((m:Int)+1).toNat=m+1:=by omega
   have hd:s.data.toList.drop m=s[m]::s[m+1]::s.data.toList.drop (m+2):=by
    have hz:=HZ.out;rw [List.drop_eq_getElem_cons (by omega),List.drop_eq_getElem_cons (i:=m+1) (by omega)];rfl
   have ra:=zU s[m];have rb:=zU s[m+1];have hbad:¬(val s[m]<0∨val s[m+1]<0):=fun hbad=>by
    have h:=HUN.out;rw [HU.out,hd,qB,if_pos hbad]at h;cases h
   have hstep:qB s.data.toList=(qB (s.data.toList.drop (m+2))).map ((acc++ [UInt8.ofNat (16*(val s[m]).toNat+(val s[m+1]).toNat)])++ ·):=by
    rw [HU.out,hd,qB,if_neg hbad,Option.map_map]
    congr 1;funext x;simp
   have HG:=sqH hstep;have hna:0≤val s[m]:=by omega
   have hnb:0≤val s[m+1]:=by omega
   have hmx1:max (0:Int) (val s[m])=val s[m]:=by omega
   have hmx2:max (0:Int) (val s[m+1])=val s[m+1]:=by omega
   have he1:bys [UInt8.ofNat (16*(val s[m]).toNat+(val s[m+1]).toNat)]= [.int .u8 (16*val s[m]+val s[m+1])]:=by
    simp only [bys,List.map_cons,List.map_nil,UInt8.toNat_ofNat']
    congr 2;omega
   have HE1:=sqH he1;have hw3:IntKind.i64.wrap (16*val s[m])=16*val s[m]:=IntWalk.i64_in _ (by omega);have hw4:IntKind.i64.wrap (16*val s[m]+val s[m+1])=16*val s[m]+val s[m+1]:=IntWalk.i64_in _ (by omega);have hw5:IntKind.u8.wrap (16*val s[m]+val s[m+1])=16*val s[m]+val s[m+1]:=by rw [IntKind.wrap_u8];omega
   have HOWN:=sqH hown;have HBEL:=sqH hbel;have hacl:=HA.out;clear hm hd hbad hstep hown hbel he1;go_wp2_with fail;refine wp_region_held_drew (S:=(fun _=>True)) (by kernel_rfl) ?_ (fun hHeld=> ?_)
   ·trivial
   have hB:=(Below.refl wr.heap.size wr).drew;generalize wr.drew=wn0 at *
   refine wpAnyH_take (i:=0) (oi:=_) (v:= ?_) rfl (by kernel_rfl) (by kernel_rfl) (by kernel_rfl) (fun _ _ _ h=>h) (Or.inl ⟨by rfl,?_⟩) (by assumption) ?_;rotate_left
   ·(intro w hSw;(try dsimp only at hSw);go_simp;try (with_reducible rfl))
   try simp only [sqQ]
   refine wpAnyH_take (i:=1) (oi:=_) (v:= ?_) rfl (by kernel_rfl) (by kernel_rfl) (by kernel_rfl) (fun _ _ _ h=>h) (Or.inl ⟨by rfl,?_⟩) (by assumption) ?_;rotate_left
   ·(intro w hSw;(try dsimp only at hSw);go_simp;try (with_reducible rfl))
   try simp only [sqQ]
   refine wpAnyH_take (i:=2) (oi:=_) (v:= ?_) rfl (by kernel_rfl) (by kernel_rfl) (by kernel_rfl) (fun _ _ _ h=>h) (Or.inl ⟨by rfl,?_⟩) (by assumption) ?_;rotate_left
   ·(intro w hSw;(try dsimp only at hSw);go_simp;try (with_reducible rfl))
   try simp only [sqQ]
   refine wpAnyH_take (i:=3) (oi:=_) (v:= ?_) rfl (by kernel_rfl) (by kernel_rfl) (by kernel_rfl) (fun _ _ _ h=>h) (Or.inl ⟨by rfl,?_⟩) (by assumption) ?_;rotate_left
   ·(intro w hSw;(try dsimp only at hSw);go_simp;try (with_reducible rfl))
   try simp only [sqQ]
   refine wpAnyH_take (i:=7) (oi:=_) (v:= ?_) rfl (by kernel_rfl) (by kernel_rfl) (by kernel_rfl) (fun _ _ _ h=>h) (Or.inl ⟨by rfl,?_⟩) (by assumption) ?_;rotate_left
   ·(intro w hSw;(try dsimp only at hSw);go_simp;try (with_reducible rfl))
   try simp only [sqQ]
   refine wpAnyH_take (i:=8) (oi:=_) (v:= ?_) rfl (by kernel_rfl) (by kernel_rfl) (by kernel_rfl) (fun _ _ _ h=>h) (Or.inl ⟨by rfl,?_⟩) (by assumption) ?_;rotate_left
   ·(intro w hSw;(try dsimp only at hSw);go_simp;try (with_reducible rfl))
   try simp only [sqQ]
   refine wpAnyH_take (i:=9) (oi:=_) (v:= ?_) rfl (by kernel_rfl) (by kernel_rfl) (by kernel_rfl) (fun _ _ _ h=>h) (Or.inl ⟨by rfl,?_⟩) (by assumption) ?_;rotate_left
   ·(intro w hSw;(try dsimp only at hSw);go_simp;try (with_reducible rfl))
   try simp only [sqQ]
   refine wpAnyH_take (i:=10) (oi:=_) (v:= ?_) rfl (by kernel_rfl) (by kernel_rfl) (by kernel_rfl) (fun _ _ _ h=>h) (Or.inl ⟨by rfl,?_⟩) (by assumption) ?_;rotate_left
   ·(intro w hSw;(try dsimp only at hSw);go_simp;try (with_reducible rfl))
   try simp only [sqQ]
   refine wpAnyH_ready (rs:= [4]) (by kernel_rfl) (by simp) ?_;refine AllReadyH.cons (o:=_) rfl (fun K hK=> ?_) ?_
   ·
    go_simp;refine(jd _ _).mono ?_;rintro e6 w6 ⟨rfl,hw6⟩;replace hw6:=hw6.symm;subst hw6;dsimp only;refine zr hK ?_ (Below wn0.heap.size wn0) (fun W=>True) ?_ ?_ (fun wn1 hHeld hst hnew=> ?_)
    ·(trivial)
    ·(first | exact(Below.refl _ _).alloc (Nat.le_refl _) _ | exact Below.refl _ _)
    ·(trivial)
    have hB:=hB.trans (hst.mono hB.size);clear hst;clear hK K
    try simp only [sqQ]
    refine wpAnyH_take (i:=5) (oi:=_) (v:= ?_) rfl (by kernel_rfl) (by kernel_rfl) (by kernel_rfl) (fun _ _ _ h=>h) (Or.inl ⟨by rfl,?_⟩) (by assumption) ?_;rotate_left
    ·(intro w hSw;(try dsimp only at hSw);go_simp;try (with_reducible rfl))
    try simp only [sqQ]
    refine wpAnyH_take (i:=6) (oi:=_) (v:= ?_) rfl (by kernel_rfl) (by kernel_rfl) (by kernel_rfl) (fun _ _ _ h=>h) (Or.inl ⟨by rfl,?_⟩) (by assumption) ?_;rotate_left
    ·(intro w hSw;(try dsimp only at hSw);go_simp;try (with_reducible rfl))
    try simp only [sqQ]
    refine wpAnyH_ready (rs:= [11]) (by kernel_rfl) (by simp) ?_;refine AllReadyH.cons (o:=_) rfl (fun K hK=> ?_) ?_
    ·
     go_simp;refine(jd _ _).mono ?_;rintro e6 w6 ⟨rfl,hw6⟩;replace hw6:=hw6.symm;subst hw6;dsimp only;refine zr hK ?_ (Below wn1.heap.size wn1) (fun W=>True) ?_ ?_ (fun wn2 hHeld hst hnew=> ?_)
     ·(trivial)
     ·(first | exact(Below.refl _ _).alloc (Nat.le_refl _) _ | exact Below.refl _ _)
     ·(trivial)
     have hB:=hB.trans (hst.mono hB.size);clear hst;clear hK K
     try simp only [sqQ]
     refine wpAnyH_take (i:=12) (oi:=_) (v:= ?_) rfl (by kernel_rfl) (by kernel_rfl) (by kernel_rfl) (fun _ _ _ h=>h) (Or.inl ⟨by rfl,?_⟩) (by assumption) ?_;rotate_left
     ·(intro w hSw;(try dsimp only at hSw);go_simp;try (with_reducible rfl))
     try simp only [sqQ]
     refine wpAnyH_take (i:=13) (oi:=_) (v:= ?_) rfl (by kernel_rfl) (by kernel_rfl) (by kernel_rfl) (fun _ _ _ h=>h) (Or.inl ⟨by rfl,?_⟩) (by assumption) ?_;rotate_left
     ·(intro w hSw;(try dsimp only at hSw);go_simp;try (with_reducible rfl))
     try simp only [sqQ]
     refine wpAnyH_take (i:=14) (oi:=_) (v:= ?_) rfl (by kernel_rfl) (by kernel_rfl) (by kernel_rfl) (fun _ _ _ h=>h) (Or.inl ⟨by rfl,?_⟩) (by assumption) ?_;rotate_left
     ·(intro w hSw;(try dsimp only at hSw);go_simp;try (with_reducible rfl))
     try simp only [sqQ]
     refine wpAnyH_ready (rs:= [15]) (by kernel_rfl) (by simp) ?_;refine AllReadyH.cons (o:=_) rfl (fun K hK=> ?_) ?_
     ·
      go_simp;refine zr hK ?_ (Below wn2.heap.size wn2) (fun W=>Rd W 1 (some ⟨wn2.heap.size,0,none⟩) 1 (bys [UInt8.ofNat (16*(val s[m]).toNat+(val s[m+1]).toNat)])) ?_ ?_ (fun wn3 hHeld hst hnew=> ?_)
      ·(trivial)
      ·(first | exact(Below.refl _ _).alloc (Nat.le_refl _) _ | exact Below.refl _ _)
      ·(rw [HE1.out];exact Rd.new1 _)
      have hB:=hB.trans (hst.mono hB.size);have h15:=hnew;clear hst;clear hK K
      try simp only [sqQ]
      refine wpAnyH_ready (rs:= [16]) (by kernel_rfl) (by simp) ?_;refine AllReadyH.cons (o:=_) rfl (fun K hK=> ?_) ?_
      ·
       refine yz rfl (.tmp 12) (.tmp 27) rfl yE (by rfl) (zb HOWN.out hB) (by rfl) h15 (qX _) (by omega) (Nat.le_trans hsw hB.size) ?_;intro v7 w7 ho7 hg7 _;refine zr hK ?_ (fun W=>W.ownsRow w.heap.size 5 1 v7 (acc.length+1) (bys acc++bys [UInt8.ofNat (16*(val s[m]).toNat+(val s[m+1]).toNat)])) (Below w.heap.size w) ?_ ?_ (fun wn4 hHeld hF hG=> ?_)
       ·trivial
       ·exact ho7
       ·exact zc (HBEL.out.trans (hB.mono hsw)) (zb HOWN.out hB) (Nat.le_refl _) hg7
       clear hK K
       try simp only [sqQ]
       refine wpAnyH_take (i:=17) (oi:=_) (v:= ?_) rfl (by kernel_rfl) (by kernel_rfl) (by kernel_rfl) (fun _ _ _ h=>h) (Or.inl ⟨by rfl,?_⟩) (by assumption) ?_;rotate_left
       ·(intro w hSw;(try dsimp only at hSw);go_simp;try (with_reducible rfl))
       try simp only [sqQ]
       refine wpAnyH_done (by kernel_rfl) ?_ _;clear hHeld hB;go_wp2_with fail;go_roundg (s.size - (m+2))
       case measure=>have:=HGK.out;omega
       case rel =>
        refine⟨k+1,acc++ [UInt8.ofNat (16*(val s[m]).toNat+(val s[m+1]).toNat)],by rw [show 2*(k+1)=m+2 by have:=HM.out;omega],by have:=HM.out;go_num,by omega,by rw [List.length_append];simp only [List.length_cons,List.length_nil];omega,by rw [show 2*(k+1)=m+2 by have:=HM.out;omega];exact HG.out,?_,hG⟩;rw [zD,List.length_append];exact hF
      exact AllReadyH.nil
     exact AllReadyH.nil
    exact AllReadyH.nil
   exact AllReadyH.nil
  ·have hkq:k=q:=by omega
   have hfin:acc=r:=by
    have h:=HUN.out;rw [HU.out,List.drop_of_length_le (by have:=HZ.out;omega),qB]at h;simpa using h
   have hmm:s.size≤m:=by omega
   have hmb:m≤5000:=by omega
   subst hfin;clear hkq hm;have hcc:decide ((m:Int)+1<(s.size:Int))=false:=decide_eq_false (by omega);have hw1:IntKind.i64.wrap ((m:Int)+1)=(m:Int)+1:=IntWalk.i64_in _ (by omega);go_wp2_with fail;go_ret;exact⟨_,rfl,hown,hbel⟩
theorem uq (x:List PartP) (k:Nat) (h:k<x.length):(x.take (k+1)).flatMap kw=(x.take k).flatMap kw++kw x[k]:=by
 rw [List.take_succ_eq_append_getElem h,List.flatMap_append,List.flatMap_cons,List.flatMap_nil,List.append_nil]
theorem ju (x:List PartP) (h:∀p∈x,Qb p) (k:Nat) (hx:x.length≤100):((x.take k).flatMap kw).length≤4800:=by
 have h1:=xT (x.take k) (fun p hp=>h p (List.mem_of_mem_take hp));rw [List.length_take]at h1;omega
theorem ZB {d:List UInt8} (h:zJ d=0):qB d=some (kf d).1∧d.length=64:=by
 unfold zJ at h;by_cases h64:d.length=64
 ·rw [if_neg (by omega)]at h;refine⟨?_,h64⟩;unfold kf at h ⊢
  rw [if_neg (by omega),if_neg (by omega)]at h ⊢
  cases hu:qB d with
  | none=>rw [hu]at h;cases h
  | some r=>rfl
 ·rw [if_pos h64]at h;cases h
theorem ZR (z:Nat):bits .or .u8 ((z:Int) % 128) 128=((UInt8.ofNat (z % 128+128)).toNat:Int):=by
 have key:∀a:Fin 128,bits .or .u8 (a.val:Int) 128=((UInt8.ofNat (a.val+128)).toNat:Int):=by decide +kernel
 have h:=key ⟨z % 128,by omega⟩;have h2:(z:Int) % 128=((z % 128:Nat):Int):=by omega
 rw [h2];exact h
theorem xh (A0:Option Addr) (n c0:Nat) (x:List PartP) (w:World) (hl:x.length=n) (hn:n≤100) (hf:∀p∈x,Qb p) (hr:Rd w 3 A0 n (pcs x)) :
  Calls Tryz.prog 15 #[.slice A0 n c0] w fun e w'=>∃A c,e= .returned (.slice A (enc x).length c)∧zV w' w.heap.size A c (enc x)∧Below w.heap.size w w':=by
 have HL:=sqH hl;have HF:=sqH hf;obtain⟨bn,hbn⟩:∃bn,bn=UInt8.ofNat n:=⟨_,rfl⟩
 have HEN:=sqH (show enc x= [65,77,49]++ [bn]++x.flatMap kw from by rw [enc,hl,zN (by omega),hbn]);have hkc:=fun (w:World) (C:Array Value) (n c:Nat)=>Lib.run_convert_bytes_const (P:=Tryz.prog) w 30 5 C n c Tryz.underlying30 Tryz.underlying5;have hw8:IntKind.u8.wrap (n:Int)=(bn.toNat:Int):=by rw [hbn,IntKind.wrap_u8,UInt8.toNat_ofNat'];omega
 clear hl hf hbn;go_enter Tryz.func15,Tryz.ntmps15
 repeat' (fail_if_success (first|at_builtin|at_make));first|go_values|go_skip|go_guarded|go_step|go_upon|go_back
 have hz1:zV (w.alloc (.cells #[.int .u8 65,.int .u8 77,.int .u8 49] 5 (3,4))) w.heap.size (some ⟨w.heap.size,0,none⟩) 3 [65,77,49] :=
  ⟨w.heap.size, [],(3,4),rfl,Nat.le_refl _,World.alloc_heap_new w _,rfl,by simp [maxLen],.inr (Nat.le_refl _)⟩
 have hb1:=(Below.refl w.heap.size w).alloc (Nat.le_refl _) (.cells #[.int .u8 65,.int .u8 77,.int .u8 49] 5 (3,4));have hr1:=hr.alloc (.cells #[.int .u8 65,.int .u8 77,.int .u8 49] 5 (3,4));have hs1:(w.alloc (.cells #[.int .u8 65,.int .u8 77,.int .u8 49] 5 (3,4))).heap.size=w.heap.size+1:=World.size_alloc _ _;generalize w.alloc (.cells #[.int .u8 65,.int .u8 77,.int .u8 49] 5 (3,4))=w1 at *
 have hz1':zV (w1.alloc (.cells #[.int .u8 (bn.toNat:Int)] 5)) w.heap.size (some ⟨w.heap.size,0,none⟩) 3 [65,77,49]:=hz1.below ((Below.refl _ _).alloc (Nat.le_refl _) _);have hb1':=hb1.alloc hb1.size (.cells #[.int .u8 (bn.toNat:Int)] 5);have hsrc:Src Tryz.prog (w1.alloc (.cells #[.int .u8 (bn.toNat:Int)] 5)) 30 (.slice (some ⟨w1.heap.size,0,none⟩) 1 1) 1 [bn]:=Src.sl Tryz.underlying30 1 (Rd.new1 _);rw [←hs1];refine k7 rfl (.tmp 7) (.tmp 11) rfl (by rfl) hz1' rfl hsrc (by simp) hb1'.size ?_;intro A2 c2 w2 hz2 hb2;have hb12:=hb1'.trans (hb2.mono (Nat.le_refl _));have hr2:Rd w2 3 A0 n (pcs x):=(hr.below hb12)
 have HR0:=sqH hr;clear hz1' hb1' hsrc hz1 hb1 hr1 hs1 hb2 hr2 hr hkc hw8;go_wp2_with fail;go_loopg [3,15,5] n (fun gn v i u wr=>∃(k:Nat) (A:Option Addr) (c:Nat),gn=n - k∧i= .int .i64 k∧k≤n∧v= .slice A ([65,77,49]++ [bn]++(x.take k).flatMap kw).length c∧zV wr w.heap.size A c ([65,77,49]++ [bn]++(x.take k).flatMap kw)∧Below w.heap.size w wr)
 case atStart=>exact⟨0,A2,c2,rfl,rfl,by omega,rfl,hz2,hb12⟩
 case round =>
  clear hz2 hb12;obtain⟨k,A,c,hgk,rfl,hk,rfl,hZ,hbel⟩:=hrel;have HGK:=sqH hgk;clear hgk;by_cases hlt:k<n
  ·have hkl:k<x.length:=by have:=HL.out;omega
   have hstep:=uq x k hkl;have hfine:=HF.out x[k] (List.getElem_mem hkl);have hel:=ju x HF.out k (by have:=HL.out;omega);have hat:=fun j (hj:j<3)=>qL x k j hkl hj;obtain⟨b,off,rfl,hbw',hcell⟩:=(HR0.out.below hbel).2 (by omega);generalize x[k]=p at *
   have c0:=hcell (k*3+0) _ (hat 0 (by omega));have c1:=hcell (k*3+1) _ (hat 1 (by omega));have c2:=hcell (k*3+2) _ (hat 2 (by omega));rw [Nat.add_zero]at c0;rw [show off+(k*3+1)=off+k*3+1 by omega]at c1;rw [show off+(k*3+2)=off+k*3+2 by omega]at c2;obtain⟨pn,pd,z⟩:=p;dsimp only [qx,List.getElem?_cons_zero,List.getElem?_cons_succ]at c0 c1 c2;obtain⟨s,hs⟩:∃s:ByteArray,s=⟨pn.toArray⟩:=⟨_,rfl⟩
   obtain⟨t,ht⟩:∃s:ByteArray,s=⟨pd.toArray⟩:=⟨_,rfl⟩
   rw [←hs]at c0;rw [←ht]at c1;have hsd:s.data.toList=pn:=by rw [hs]
   have htd:t.data.toList=pd:=by rw [ht]
   have hss:s.size=pn.length:=by rw [←hsd,Array.length_toList];rfl
   have hts:t.size=pd.length:=by rw [←htd,Array.length_toList];rfl
   have hn12:=qZ hfine.1;have hux:=ZB hfine.2.1;have hz300:=hfine.2.2;have HDLL:=(yT hfine.2.1).2;dsimp only at hn12 hux hz300 HDLL;obtain⟨bs,hbs⟩:∃bs,bs=UInt8.ofNat s.size:=⟨_,rfl⟩
   have hwb:IntKind.u8.wrap (s.size:Int)=(bs.toNat:Int):=by rw [hbs,IntKind.wrap_u8,UInt8.toNat_ofNat'];omega
   have HSTEP:=sqH (show(x.take (k+1)).flatMap kw=(x.take k).flatMap kw++([bs]++s.data.toList++(kf pd).1++num z) from by
    rw [hstep,kw,txt,hsd,hbs,hss,zN (n:=pn.length) (by omega)])
   have HUX:=sqH (show qB t.data.toList=some (kf pd).1 from by rw [htd];exact hux.1);have hs12:s.size≤12:=by omega
   have ht64:t.size=64:=by omega
   have hk0:(0:Int)≤(k:Int):=by omega
   have hk1:(k:Int)<(n:Int):=by omega
   have hcc:decide (k<n)=true:=decide_eq_true hlt;have hal:([65,77,49]++ [bn]++(x.take k).flatMap kw).length≤4900:=by
    simp only [List.length_append,List.length_cons,List.length_nil];omega
   obtain⟨acc,hacc⟩:∃acc,acc= [65,77,49]++ [bn]++(x.take k).flatMap kw:=⟨_,rfl⟩
   rw [←hacc]at hZ hal ⊢
   have HACC:=sqH hacc;have hH0:=hux.1;have HDL:=sqH (show(kf pd).1.length=32 from HDLL);generalize (kf pd).1=dg at *
   clear hstep hfine hel hat hcell hs ht hsd htd hss hts hbs hacc hux hH0 HDLL;go_wp2_with fail;have hZ':zV (wr.alloc (.cells #[.string s,.string t,.int .i64 z] 37)) w.heap.size A c acc:=hZ.below ((Below.refl _ _).alloc (Nat.le_refl _) _);have hP:=Arr.new wr 37 [.string s,.string t,.int .i64 z];have hbw:=hbel.alloc hbel.size (.cells #[.string s,.string t,.int .i64 z] 37);have hne:A≠some ⟨wr.heap.size,0,none⟩:=fun e=>by
    obtain⟨g,_,_,e',_,hg,_⟩:=hZ;rw [e]at e';cases e'
    have:=(Array.getElem?_eq_some_iff.1 hg).1;omega
   have hgw:w.heap.size≤wr.heap.size:=hbel.size;clear hZ hbel;have hZ:=hZ';clear hZ';have hP:Arr (wr.alloc (.cells #[.string s,.string t,.int .i64 z] 37)) wr.heap.size 37 [.string s,.string t,.int .i64 z]:=hP;generalize wr.alloc (.cells #[.string s,.string t,.int .i64 z] 37)=wa at *
   generalize wr.heap.size=gp at *
   clear c0 c1 c2;refine wp_region_held_drew (S:=(fun w'=>w'.cell? ⟨gp,0,none⟩=some (.string s))) (by kernel_rfl) ?_ (fun hHeld=> ?_)
   ·exact(hP.drew).cell (k:=0) rfl
   have hB:=(Below.refl wa.heap.size wa).drew;have hPn:=hP.drew;have hZn:zV wa.drew w.heap.size A c acc:=hZ;have hbn:=hbw.drew;clear hP hZ hbw;generalize wa.drew=wn0 at *
   refine wpAnyH_take (i:=0) (oi:=_) (v:= ?_) rfl (by kernel_rfl) (by kernel_rfl) (by kernel_rfl) (fun _ _ _ h=>h) (Or.inl ⟨by rfl,?_⟩) (by assumption) ?_;rotate_left
   ·(intro w hSw;(try dsimp only at hSw);go_simp;try (with_reducible rfl))
   try simp only [sqQ]
   refine wpAnyH_take (i:=1) (oi:=_) (v:= ?_) rfl (by kernel_rfl) (by kernel_rfl) (by kernel_rfl) (fun _ _ _ h=>h) (Or.inl ⟨by rfl,?_⟩) (by assumption) ?_;rotate_left
   ·(intro w hSw;(try dsimp only at hSw);go_simp;try (with_reducible rfl))
   try simp only [sqQ]
   refine wpAnyH_take (i:=2) (oi:=_) (v:= ?_) rfl (by kernel_rfl) (by kernel_rfl) (by kernel_rfl) (fun _ _ _ h=>h) (Or.inl ⟨by rfl,?_⟩) (by assumption) ?_;rotate_left
   ·(intro w hSw;(try dsimp only at hSw);go_simp;try (with_reducible rfl))
   try simp only [sqQ]
   refine wpAnyH_take (i:=3) (oi:=_) (v:= ?_) rfl (by kernel_rfl) (by kernel_rfl) (by kernel_rfl) (fun _ _ _ h=>h) (Or.inl ⟨by rfl,?_⟩) (by assumption) ?_;rotate_left
   ·(intro w hSw;(try dsimp only at hSw);go_simp;try (with_reducible rfl))
   try simp only [sqQ]
   refine wpAnyH_take (i:=4) (oi:=_) (v:= ?_) rfl (by kernel_rfl) (by kernel_rfl) (by kernel_rfl) (fun _ _ _ h=>h) (Or.inl ⟨by rfl,?_⟩) (by assumption) ?_;rotate_left
   ·(intro w hSw;(try dsimp only at hSw);go_simp;try (with_reducible rfl))
   try simp only [sqQ]
   refine wpAnyH_take (i:=7) (oi:=_) (v:= ?_) rfl (by kernel_rfl) (by kernel_rfl) (by kernel_rfl) (fun _ _ _ h=>h) (Or.inl ⟨by rfl,?_⟩) (by assumption) ?_;rotate_left
   ·(intro w hSw;(try dsimp only at hSw);go_simp;try (with_reducible rfl))
   try simp only [sqQ]
   refine wpAnyH_take (i:=8) (oi:=_) (v:= ?_) rfl (by kernel_rfl) (by kernel_rfl) (by kernel_rfl) (fun _ _ _ h=>h) (Or.inl ⟨by rfl,?_⟩) (by assumption) ?_;rotate_left
   ·(intro w hSw;(try dsimp only at hSw);go_simp;try (with_reducible rfl))
   try simp only [sqQ]
   refine wpAnyH_ready (rs:= [5]) (by kernel_rfl) (by simp) ?_;refine AllReadyH.cons (o:=_) rfl (fun K hK=> ?_) ?_
   ·
    go_simp;refine zr hK ?_ (Below wn0.heap.size wn0) (fun W=>Arr W gp 37 [.string s,.string t,.int .i64 z]∧zV W w.heap.size A c acc∧Below w.heap.size w W∧Rd W 1 (some ⟨wn0.heap.size,0,none⟩) 1 (bys [bs])) ?_ ?_ (fun wn1 hHeld hst hnew=> ?_)
    ·(exact(hPn.alloc _).cell (k:=0) rfl)
    ·(first | exact(Below.refl _ _).alloc (Nat.le_refl _) _ | exact Below.refl _ _)
    ·(exact⟨hPn.alloc _,hZn.below ((Below.refl _ _).alloc (Nat.le_refl _) _),hbn.alloc hbn.size _,Rd.new1 _⟩)
    have hB:=hB.trans (hst.mono hB.size);clear hPn hZn hbn;obtain⟨hPn,hZn,hbn,h5⟩:=hnew;clear hst;clear hK K
    try simp only [sqQ]
    refine wpAnyH_ready (rs:= [6]) (by kernel_rfl) (by simp) ?_;refine AllReadyH.cons (o:=_) rfl (fun K hK=> ?_) ?_
    ·
     refine xY rfl (.tmp 19) (.tmp 24) rfl (by rfl) hZn rfl (Src.sl Tryz.underlying30 1 h5) (by omega) hbn.size ?_;intro A6 c6 w6 hz6 hb6 hg6 ha6;refine zr hK ?_ (fun W=>Arr W gp 37 [.string s,.string t,.int .i64 z]∧zV W w.heap.size A6 c6 (acc++ [bs])∧A6≠some ⟨gp,0,none⟩) (Below w.heap.size w) ?_ ?_ (fun wn2 hHeld hF hG=> ?_)
     ·exact(hPn.beside hg6 hne hZn.addr).cell (k:=0) rfl
     ·refine⟨hPn.beside hg6 hne hZn.addr,hz6,fun e=> ?_⟩;rcases ha6 gp e with h | h
      ·exact hne h
      ·have:=hPn.lt;omega
     ·exact hbn.trans (hb6.mono (Nat.le_refl _))
     clear hPn hZn hbn hne hB;obtain⟨hPn,hZn,hne⟩:=hF;have hbn:=hG;clear hG;clear hK K
     try simp only [sqQ]
     refine wpAnyH_ready (rs:= [9]) (by kernel_rfl) (by simp) ?_;refine AllReadyH.cons (o:=_) rfl (fun K hK=> ?_) ?_
     ·
      refine xY rfl (.tmp 25) (.tmp 27) rfl (by rfl) hZn rfl (Src.str Tryz.underlying9 s) (by rw [List.length_append];simp only [List.length_cons,List.length_nil];omega) hbn.size ?_;intro A9 c9 w9 hz9 hb9 hg9 ha9;refine zr hK ?_ (fun W=>Arr W gp 37 [.string s,.string t,.int .i64 z]∧zV W w.heap.size A9 c9 (acc++ [bs]++s.data.toList)∧A9≠some ⟨gp,0,none⟩) (Below w.heap.size w) ?_ ?_ (fun wn3 hHeld hF hG=> ?_)
      ·exact(hPn.beside hg9 hne hZn.addr).cell (k:=0) rfl
      ·refine⟨hPn.beside hg9 hne hZn.addr,hz9,fun e=> ?_⟩;rcases ha9 gp e with h | h
       ·exact hne h
       ·have:=hPn.lt;omega
      ·exact hbn.trans (hb9.mono (Nat.le_refl _))
      clear hPn hZn hbn hne;obtain⟨hPn,hZn,hne⟩:=hF;have hbn:=hG;clear hG;generalize hacc2:acc++ [bs]++s.data.toList=acc2 at *
      have HA2:=sqH hacc2;clear hacc2;clear hK K
      try simp only [sqQ]
      refine wpAnyH_take (i:=10) (oi:=_) (v:= ?_) rfl (by kernel_rfl) (by kernel_rfl) (by kernel_rfl) (fun _ _ _ h=>h) (Or.inl ⟨by rfl,?_⟩) (by assumption) ?_;rotate_left
      ·(intro w hSw;(try dsimp only at hSw);go_simp;try (with_reducible rfl))
      try simp only [sqQ]
      refine wpAnyH_done (by kernel_rfl) ?_ _;clear hHeld;have hal2:acc2.length≤5000:=by
       have h:=congrArg List.length HA2.out;have h2:s.data.toList.length=s.size:=by rw [Array.length_toList];rfl
       simp only [List.length_append,List.length_cons,List.length_nil,h2]at h;omega
      have f1:=hPn.cell (k:=1) rfl;go_wp2_with fail;refine(jJ t dg 32 wn3 (by omega) (by omega) HUX.out).mono ?_;rintro e_ w4 ⟨v4,rfl,ho4,hb4⟩;dsimp only;have hb14:=hbn.trans (hb4.mono hbn.size);have hP4:=hPn.below hb4;have hZ4:=hZn.below hb4;obtain⟨A4,c4,rfl,hc4,hr4⟩:=Rd.of_own' ho4;have hdl:dg.length≤5000:=by have:=HDL.out;omega
      clear ho4 hPn hZn hbn hb4 f1
      repeat' (fail_if_success (first|at_builtin|at_make));first|go_values|go_skip|go_guarded|go_step|go_upon|go_back
      refine xz rfl (.tmp 29) (.tmp 32) rfl (by rfl) hZ4 rfl (Src.sl Tryz.underlying30 c4 hr4) (by omega) hb14.size ?_;intro A5 c5 w5 hz5 hb5 hg5 ha5;have hP5:=hP4.beside hg5 hne hZ4.addr;have hne5:A5≠some ⟨gp,0,none⟩:=fun e=>by
       rcases ha5 gp e with h | h
       ·exact hne h
       ·have:=hP4.lt;omega
      have hb15:=hb14.trans (hb5.mono (Nat.le_refl _));have hal3:(acc2++dg).length≤11000:=by rw [List.length_append];omega
      generalize hacc3:acc2++dg=acc3 at *
      have HA3:=sqH hacc3;have f2:=hP5.cell (k:=2) rfl;clear hacc3 hZ4 hP4 hg5 ha5 hr4 hb5 hb14 hne;by_cases hbig:127<z
      ·have e1:decide ((127:Int)<(z:Int))=true:=decide_eq_true (by omega);obtain⟨b0,hb0⟩:∃b,b=UInt8.ofNat (z % 128+128):=⟨_,rfl⟩
       obtain⟨b1,hb1⟩:∃b,b=UInt8.ofNat (z / 128):=⟨_,rfl⟩
       have HNZ:=sqH (show num z= [b0,b1] from by rw [uF (by omega),zN (n:=z / 128) (by omega),hb0,hb1]);have q1:bits .or .u8 ((z:Int) % 128) 128=(b0.toNat:Int):=by
        rw [hb0];exact ZR z
       have q1':IntKind.u8.wrap ((z:Int) % 128)=(z:Int) % 128:=by rw [IntKind.wrap_u8];omega
       have q2:IntKind.u8.wrap ((z:Int) / 128)=(b1.toNat:Int):=by rw [hb1,IntKind.wrap_u8,UInt8.toNat_ofNat'];omega
       clear hb0 hb1 hbig
       repeat' (fail_if_success (first|at_builtin|at_make));first|go_values|go_skip|go_guarded|go_step|go_upon|go_back
       have hz5':zV (w5.alloc (.cells #[.int .u8 (b0.toNat:Int),.int .u8 (b1.toNat:Int)] 5)) w.heap.size A5 c5 acc3:=hz5.below ((Below.refl _ _).alloc (Nat.le_refl _) _);refine k7 rfl (.tmp 37) (.tmp 47) rfl (by rfl) hz5' (k:= [b0,b1]) rfl (Src.sl Tryz.underlying30 2 (Rd.newN (w:=w5) (e:=5) (size:=1) (m:=2) (bys [b0,b1]) rfl)) (by omega) (Nat.le_trans hb15.size (by simp)) ?_;intro A6 c6 w6 hz6 hb6;have hb16:=(hb15.alloc hb15.size (.cells #[.int .u8 (b0.toNat:Int),.int .u8 (b1.toNat:Int)] 5)).trans (hb6.mono (Nat.le_refl _));have hacc4:acc3++ [b0,b1]= [65,77,49]++ [bn]++(x.take (k+1)).flatMap kw:=by
        rw [HSTEP.out,HNZ.out,←HA3.out,←HA2.out,HACC.out];simp only [List.append_assoc]
       rw [hacc4]at hz6 ⊢
       clear hacc4 hz5' hz5 hb15 hb6;generalize hX: [65,77,49]++ [bn]++(x.take (k+1)).flatMap kw=X4 at *
       go_wp2_with fail;go_roundg (n - (k+1))
       case measure=>have:=HGK.out;omega
       case rel=>exact⟨k+1,A6,c6,rfl,by go_num,by omega,by rw [hX],by rw [hX];exact hz6,hb16⟩
      ·have e1:decide ((127:Int)<(z:Int))=false:=decide_eq_false (by omega);obtain⟨bz,hbz⟩:∃b,b=UInt8.ofNat z:=⟨_,rfl⟩
       have HNZ:=sqH (show num z= [bz] from by rw [zN (by omega),hbz]);have q2:IntKind.u8.wrap (z:Int)=(bz.toNat:Int):=by rw [hbz,IntKind.wrap_u8,UInt8.toNat_ofNat'];omega
       clear hbz hbig
       repeat' (fail_if_success (first|at_builtin|at_make));first|go_values|go_skip|go_guarded|go_step|go_upon|go_back
       have hz5':zV (w5.alloc (.cells #[.int .u8 (bz.toNat:Int)] 5)) w.heap.size A5 c5 acc3:=hz5.below ((Below.refl _ _).alloc (Nat.le_refl _) _);refine k7 rfl (.tmp 49) (.tmp 53) rfl (by rfl) hz5' (k:= [bz]) rfl (Src.sl Tryz.underlying30 1 (Rd.new1 _)) (by omega) (Nat.le_trans hb15.size (by simp)) ?_;intro A6 c6 w6 hz6 hb6;have hb16:=(hb15.alloc hb15.size (.cells #[.int .u8 (bz.toNat:Int)] 5)).trans (hb6.mono (Nat.le_refl _));have hacc4:acc3++ [bz]= [65,77,49]++ [bn]++(x.take (k+1)).flatMap kw:=by
        rw [HSTEP.out,HNZ.out,←HA3.out,←HA2.out,HACC.out];simp only [List.append_assoc]
       rw [hacc4]at hz6 ⊢
       clear hacc4 hz5' hz5 hb15 hb6;generalize hX: [65,77,49]++ [bn]++(x.take (k+1)).flatMap kw=X4 at *
       go_wp2_with fail;go_roundg (n - (k+1))
       case measure=>have:=HGK.out;omega
       case rel=>exact⟨k+1,A6,c6,rfl,by go_num,by omega,by rw [hX],by rw [hX];exact hz6,hb16⟩
     exact AllReadyH.nil
    exact AllReadyH.nil
   exact AllReadyH.nil
  ·obtain rfl:k=n:=by omega
   have hcc:decide (k<k)=false:=by simp
   have hfin: [65,77,49]++ [bn]++(x.take k).flatMap kw=enc x:=by
    rw [HEN.out,List.take_of_length_le (by have:=HL.out;omega)]
   rw [hfin]at hZ ⊢
   clear hfin;generalize hX:enc x=X4 at *
   go_wp2_with fail;go_ret;rw [hX];exact⟨A,c,rfl,hZ,hbel⟩
end Go.Proofs.YtfmnggcfhalfnaaGreat
