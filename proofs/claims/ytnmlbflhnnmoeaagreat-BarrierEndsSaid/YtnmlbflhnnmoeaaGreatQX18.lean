/- Lemmas of the proof. Conditions: as stated. -/
import Derived.Test.YtnmlbflhnnmoeaaGreatQX17
set_option linter.unusedVariables false
set_option linter.unusedSimpArgs false
set_option maxRecDepth 100000
set_option maxHeartbeats 8000000
namespace Go.Proofs.YtnmlbflhnnmoeaaGreat
open Go.RowKit
theorem Arr.setsMid {g:Nat} {e:TypeId}:∀(ys xs zs ts:List Value) (W:World),Arr W g e (zs++(xs++ts))→ys.length=xs.length→Arr (W.setCells g zs.length ys) g e (zs++(ys++ts))
 | [], [],zs,ts,W,h,_=>h
 | y::ys,x::xs,zs,ts,W,h,hl=>by
  have h1:=h.set (k:=zs.length) (by simp) y
  rw [List.set_append_right _ _ (Nat.le_refl _),Nat.sub_self,List.cons_append,List.set_cons_zero]at h1
  have h2:=Arr.setsMid ys xs (zs++ [y]) ts _ (by simpa using h1) (by simpa using hl)
  rw [List.append_assoc]at h2
  simp only [List.length_append,List.length_cons,List.length_nil,Nat.zero_add]at h2
  exact h2
theorem yC (b off j:Nat):(⟨b,off,none⟩:Addr).add j=⟨b,off+j,none⟩:=by unfold Addr.add;split<;>simp_all
theorem xl {g k:Nat} (hne:k≠g):∀(ys:List Value) (o:Nat) (W:World),(W.setCells g o ys).heap[k]?=W.heap[k]?
 | [],_,_=>rfl
 | y::ys,o,W=>(xl hne ys (o+1) _).trans (Below.heap_setCell W _ y k hne)
theorem ZU (W:World) (g o:Nat) (ys:List Value):W.grownBy (W.setCells g o ys) (some g) :=
 have h:=Below.sets (B:=0) (g:=g) (Nat.zero_le _) ys o W (Below.refl 0 W)
 ⟨h.os,h.tape,h.output,h.size,fun k hk hne=>xl (fun e=>hne (by rw [e])) ys o W⟩
section
variable {P:Program} {w:World}
theorem Jf {t ty e e':TypeId} {size bytes:Nat} (E:El P t e size bytes) {base g n cap:Nat} {xs us:List Value} {m c:Nat}
  (hown:w.ownsRow base e size (.slice (some ⟨g,0,none⟩) n cap) n xs) (hl:us.length=m*size) (h1:∀u∈us,u.oneCell'=true) (hroom:n+m≤cap) :
  ∃w',(Builtin.append_ #[t,t] ty #[.slice (some ⟨g,0,none⟩) n cap,.slice (some ⟨w.heap.size,0,none⟩) m c]).run P (w.alloc (.cells us.toArray e'))= .ok (.slice (some ⟨g,0,none⟩) (n+m) cap) w' ∧
   w'.ownsRow base e size (.slice (some ⟨g,0,none⟩) (n+m) cap) (n+m) (xs++us)∧w.grownBy w' (some g):=by
 obtain⟨hu,⟨i,z,hi,hz,hs,hby,hzs⟩,hp,hq⟩:=E;subst hs;obtain⟨hxl,h2⟩:=hown;rcases h2 with ⟨h,_⟩ | ⟨g',cap',cur,e1,hb,hg,hn,hm,hsz,ht⟩
 ·cases h
 ·injection e1 with e1 _ e3;injection e1 with e1;injection e1 with e1;subst e1 e3;have hA0:Arr w g e cur.toList:=by simpa [Arr] using hg
  have hA:=hA0.alloc (.cells us.toArray e');have hcl:cur.toList.length=cap*i.size:=by simpa using hsz
  have hmul:(n+m)*i.size≤cap*i.size:=Nat.mul_le_mul_right _ hroom;rw [Nat.add_mul]at hmul;have hsplit:cur.toList=xs++((cur.toList.drop (n*i.size)).take (m*i.size)++cur.toList.drop ((n+m)*i.size)):=by
   have ht':cur.toList.take (n*i.size)=xs:=ht;rw [←ht',Nat.add_mul,←List.drop_drop,List.take_append_drop,List.take_append_drop]
  have hlt:=hA0.lt;have hrun:=run_append_room_cells (P:=P) (w:=w.alloc (.cells us.toArray e')) t ty e i hu hi g 0 n cap ⟨w.heap.size,0,none⟩ m c us hl
   (fun j u hj=>by
    show(w.alloc _).cell? ((⟨w.heap.size,0,none⟩:Addr).add j)=_;rw [yC,Nat.zero_add,World.cell?_alloc_new];simpa using hj) h1 hroom
   (fun j hj=>by
    rw [hA.cell (k:=0+n*i.size+j) (List.getElem?_eq_getElem (by rw [hcl];omega))];rfl)
   (fun j hj=>hA.frozen _)
  refine⟨_,hrun,⟨by rw [List.length_append,hxl,hl,Nat.add_mul],.inr ⟨g,cap,(xs++(us++cur.toList.drop ((n+m)*i.size))).toArray,rfl,hb,?_,hroom,hm,?_,?_⟩⟩,?_⟩
  ·rw [hsplit]at hA;have hA2:=Arr.setsMid us _ xs _ _ hA (by rw [List.length_take,List.length_drop,hcl,hl];omega);rw [Nat.zero_add,←hxl];exact hA2
  ·simp only [List.size_toArray,List.length_append,List.length_drop,hcl,hxl,hl,Nat.add_mul];omega
  ·simp only [List.toList_toArray];rw [←List.append_assoc,List.take_append_of_le_length (by rw [List.length_append,hxl,hl,Nat.add_mul];exact Nat.le_refl _),List.take_of_length_le (by rw [List.length_append,hxl,hl,Nat.add_mul];exact Nat.le_refl _)]
  ·have h5:=ZU (w.alloc (.cells us.toArray e')) g (0+n*i.size) us;exact⟨h5.os,h5.tape,h5.output,Nat.le_trans (by rw [World.size_alloc];omega) h5.size,fun k hk hne=>(h5.block k (by simp;omega) hne).trans (Below.heap_alloc _ _ _ hk)⟩
theorem uU {ops:Array Oper} {rest:List Oper} {o:Oper} {a:Act} {Q:Exit→Act→World→Prop} (hgd:o.guard=none) (s x:Operand) {t e e':TypeId} {size bytes:Nat}
  (ho:o.op= .call { callee:= .builtin .append,args:=#[s,x],argTypes:=#[t,t] }) (E:El P t e size bytes)
  {base g n cap:Nat} {xs:List Value} (hs:a.eval s= .slice (some ⟨g,0,none⟩) n cap) (hown:w.ownsRow base e size (.slice (some ⟨g,0,none⟩) n cap) n xs)
  {us:List Value} {m c:Nat} (hx:a.eval x= .slice (some ⟨w.heap.size,0,none⟩) m c) (hl:us.length=m*size) (h1:∀u∈us,u.oneCell'=true) (hroom:n+m≤cap)
  (h:∀w',w'.ownsRow base e size (.slice (some ⟨g,0,none⟩) (n+m) cap) (n+m) (xs++us)→w.grownBy w' (some g)→wpList P ops Q rest (a.put o.dst (.slice (some ⟨g,0,none⟩) (n+m) cap)) w') :
  wpList P ops Q (o::rest) a (w.alloc (.cells us.toArray e')) :=
 wpList_plain hgd fun K hK=>by
  obtain⟨w',hrun,h2,h3⟩:=Jf (P:=P) (ty:=o.type) (e':=e') E hown hl h1 hroom (c:=c)
  unfold Oper.wp execOp
  simp only [ho,resolve,invoke,builtin,Sem.run_bind,Sem.run_pure,Result.andThen_ok,List.map_toArray,List.map_cons,List.map_nil,hs,hx,hrun]
  exact hK _ _ (h w' h2 h3)
end
theorem Sl.other {w:World} {size n c g k:Nat} {A:Option Addr} {xs:List Value} (h:Sl w size A n c xs) (hne:∀a,A=some a→a.block≠g) (u:Value):Sl (w.setCell ⟨g,k,none⟩ u) size A n c xs :=
 h.keep (by simp [World.setCell]) fun b hb hl=>by
  obtain⟨a,ha,rfl⟩:=hl
  exact Below.heap_setCell w _ u _ (hne a ha)
theorem vm (A:Option Addr) (c:Nat) (l:List BlobP) (w:World) (hl:l.length≤100000) (hd:∀b∈l,b.data.length≤1000000) (hA:Rw BlobS w A l) :
  Calls Tryz.prog 93 #[.slice A l.length c] w fun e w'=>∃g,e= .returned (.slice (some ⟨g,0,none⟩) l.length l.length)∧RwX BlobS 63 w' w.heap.size (.slice (some ⟨g,0,none⟩) l.length l.length) l (fun b=>b<w.heap.size)∧Below w.heap.size w w':=by
 have HD:=sqH hd;clear hd
 let S:=BlobS
 go_enter Tryz.func93,Tryz.ntmps93
 repeat' (fail_if_success (first|at_builtin|at_make));first|go_values|go_skip|go_guarded|go_step|go_upon|go_back
 refine kW rfl (.const (.int .i64 0)) (.tmp 7) rfl vI l.length (by rfl) (by rfl) rfl (by omega) ?_;intro w1 g ho1 hb1;have hx1:RwX BlobS 63 w1 w.heap.size (.slice (some ⟨g,0,none⟩) 0 l.length) [] (fun b=>b<w.heap.size):=RwX.nil_ ho1;clear ho1;go_wp2_with fail;go_loopg [3,11] l.length (fun gn v i wr=>∃j:Nat,gn=l.length - j∧i= .int .i64 j∧j≤l.length∧v= .slice (some ⟨g,0,none⟩) j l.length∧RwX BlobS 63 wr w.heap.size (.slice (some ⟨g,0,none⟩) j l.length) (l.take j) (fun b=>b<w.heap.size)∧Below w.heap.size w wr)
 case atStart=>exact⟨0,rfl,rfl,by omega,rfl,hx1,hb1⟩
 case round =>
  clear hx1 hb1;obtain⟨j,hgk,rfl,hj,rfl,hx,hbl⟩:=hrel;have HGK:=sqH hgk;clear hgk;by_cases hlt:j<l.length
  ·have hcc:decide (j<l.length)=true:=decide_eq_true hlt;obtain⟨b,off,B,cb,rfl,hbb,c0,c1,c2,c3,hs⟩:=(hA.below hbl).blob_at j hlt;have hj0:(0:Int)≤(j:Int):=by omega
   have hj1:(j:Int)<(l.length:Int):=by omega
   have HTK:=sqH (show l.take (j+1)=l.take j++ [l[j]] by rw [List.take_succ_eq_append_getElem hlt]);have hjl:(l.take j).length=j:=by rw [List.length_take];omega
   have HBD:=sqH (HD.out l[j] (List.getElem_mem hlt));generalize l[j]=x at *
   obtain⟨sx,hsx⟩:∃s:ByteArray,s=⟨x.dig.toArray⟩:=⟨_,rfl⟩
   rw [←hsx]at c0;have HSX:=sqH hsx;clear hsx;have hX:Arr (wr.alloc (.cells #[.string sx,.slice B x.data.length cb,.int .i64 x.pins,(.bool x.mark)] 63)) wr.heap.size 63 [.string sx,.slice B x.data.length cb,.int .i64 x.pins,(.bool x.mark)]:=Arr.new wr 63 _;have hba:=(Below.refl wr.heap.size wr).alloc (Nat.le_refl _) (.cells #[.string sx,.slice B x.data.length cb,.int .i64 x.pins,(.bool x.mark)] 63);have hs2:=hs.below hba;have hbl2:=hbl.trans (hba.mono hbl.size);have hgw:wr.heap.size<(wr.alloc (.cells #[.string sx,.slice B x.data.length cb,.int .i64 x.pins,(.bool x.mark)] 63)).heap.size:=by simp
   have x1:=hX.cell (k:=1) rfl;have hxw:=hx.wider (N':=fun b=>b<w.heap.size∨b=wr.heap.size) (fun b hb=>hb.elim .inl (fun e=> .inr (by omega)));have hx2:=hxw.below hba;have hsz:w.heap.size≤wr.heap.size:=hbl.size;have hgx:g<wr.heap.size:=(hx.rwo.blk rfl).2;clear hs hba hbl hx hxw;go_wp2_with fail;generalize wr.alloc (.cells #[.string sx,.slice B x.data.length cb,.int .i64 x.pins,(.bool x.mark)] 63)=w2 at *
   generalize wr.heap.size=gx at *
   clear c0 c1 c2 c3 x1;have HCL:=sqH (yi B x.data.length cb x.data w2 rfl hs2.cap (by have:=HBD.out;omega) hs2.rd);refine HCL.out.mono ?_;rintro e_ w3 ⟨v3,rfl,ho3,hb3⟩;dsimp only;obtain⟨A3,c3,rfl,hs3,hl3⟩:=jb ho3;have hX3:=hX.below hb3;have hx3:=hx2.below hb3;have hbl3:=hbl2.trans (hb3.mono hbl2.size);have hx4:=(hx3.other (zv w3 gx 1 (.slice A3 x.data.length c3)) (fun b e1 e2=>by cases e1;have e3:g=gx:=Option.some.inj e2;omega) (fun b e=> .inr (by cases e;rfl))).wider (N':=fun b=>b<w.heap.size) (fun b hb=> .inl (.inl hb));have hX4:=hX3.set (k:=1) (by simp) (.slice A3 x.data.length c3);have hs4:=hs3.other (g:=gx) (k:=1) (fun a ha=>by have:=hl3 a ha;omega) (.slice A3 x.data.length c3);have hbl4:=hbl3.setCell (p:=⟨gx,1,none⟩) hsz (.slice A3 x.data.length c3);have f1:=hX3.frozen 1;have x1:=hX3.cell (k:=1) rfl;obtain⟨z0,z1,z2,z3⟩:=sqC4 hX4;have hge3:∀a,A3=some a→w.heap.size≤a.block∧a.block≠g:=fun a ha=>by have:=hl3 a ha;have:=hb3.size;omega
   clear hX hX3 ho3 hs3 hx2 hx3 hs2 hb3 hbl2 hbl3 hl3;obtain⟨xs,hxo,hop⟩:=hx4.open_;rw [hjl]at hxo hop;have HOP:=sqH hop;clear hop hX4
   repeat' (fail_if_success (first|at_builtin|at_make));first|go_values|go_skip|go_guarded|go_step|go_upon|go_back
   clear x1 f1 z0 z1 z2 z3;have hz34:(w3.setCell ⟨gx,1,none⟩ (.slice A3 x.data.length c3)).heap.size=w3.heap.size:=by simp [World.setCell]
   rw [←hz34];clear hz34;generalize w3.setCell ⟨gx,1,none⟩ (.slice A3 x.data.length c3)=w4 at *
   have hw4:w.heap.size≤w4.heap.size:=hbl4.size;refine uU rfl (.tmp 19) (.tmp 21) rfl vI (by rfl) hxo (us:= [.string sx,.slice A3 x.data.length c3,.int .i64 x.pins,(.bool x.mark)]) (by rfl) rfl (by
    intro u hu;simp only [List.mem_cons,List.not_mem_nil,or_false]at hu;rcases hu with rfl | rfl | rfl | rfl<;>rfl) (by omega) ?_
   intro w5 ho5 hg5;have hcs:S.R w4 x [.string sx,.slice A3 x.data.length c3,.int .i64 x.pins,(.bool x.mark)]:=⟨A3,c3,by rw [HSX.out];rfl,hs4⟩
   have hx5:=HOP.out x _ w4 w5 _ (Below.refl _ _) hcs (fun b hb ⟨a,n',c',hm,e⟩=>by
    simp only [List.mem_cons,List.not_mem_nil,or_false,Value.slice.injEq,reduceCtorEq,false_or]at hm;obtain⟨q1,q2⟩:=hge3 a hm.1.symm;rcases hb with hb | hb
    ·cases hb;exact q2 e
    ·omega) ho5 hg5 (.inl rfl)
   have hbl5:=hbl4.grown hg5 hw4 (fun k hk=>by cases hk;exact(hx5.rwo.blk rfl).1);clear hxo hx4 hs4 hbl4 ho5 hg5 hcs hge3;rw [←HTK.out]at hx5;go_wp2_with fail;go_roundg (l.length - (j+1))
   case measure=>have:=HGK.out;omega
   case rel=>exact⟨j+1,rfl,by go_num,by omega,rfl,hx5,hbl5⟩
  ·obtain rfl:j=l.length:=by omega
   have hcc:decide (l.length<l.length)=false:=by simp
   rw [List.take_length]at hx;go_wp2_with fail;go_ret;exact⟨g,rfl,hx,hbl⟩
theorem Qv (A:Option Addr) (c:Nat) (l:List EntP) (w:World) (hl:l.length≤100000) (hd:∀x∈l,x.parts.length≤1000000) (hA:Rw EntS w A l) :
  Calls Tryz.prog 94 #[.slice A l.length c] w fun e w'=>∃g,e= .returned (.slice (some ⟨g,0,none⟩) l.length l.length)∧RwX EntS 49 w' w.heap.size (.slice (some ⟨g,0,none⟩) l.length l.length) l (fun b=>b<w.heap.size)∧Below w.heap.size w w':=by
 have HD:=sqH hd;clear hd
 let S:=EntS
 go_enter Tryz.func94,Tryz.ntmps94
 repeat' (fail_if_success (first|at_builtin|at_make));first|go_values|go_skip|go_guarded|go_step|go_upon|go_back
 refine kW rfl (.const (.int .i64 0)) (.tmp 7) rfl Z6 l.length (by rfl) (by rfl) rfl (by omega) ?_;intro w1 g ho1 hb1;have hx1:RwX EntS 49 w1 w.heap.size (.slice (some ⟨g,0,none⟩) 0 l.length) [] (fun b=>b<w.heap.size):=RwX.nil_ ho1;clear ho1;go_wp2_with fail;go_loopg [3,11] l.length (fun gn v i wr=>∃j:Nat,gn=l.length - j∧i= .int .i64 j∧j≤l.length∧v= .slice (some ⟨g,0,none⟩) j l.length∧RwX EntS 49 wr w.heap.size (.slice (some ⟨g,0,none⟩) j l.length) (l.take j) (fun b=>b<w.heap.size)∧Below w.heap.size w wr)
 case atStart=>exact⟨0,rfl,rfl,by omega,rfl,hx1,hb1⟩
 case round =>
  clear hx1 hb1;obtain⟨j,hgk,rfl,hj,rfl,hx,hbl⟩:=hrel;have HGK:=sqH hgk;clear hgk;by_cases hlt:j<l.length
  ·have hcc:decide (j<l.length)=true:=decide_eq_true hlt;obtain⟨b,off,B,cb,rfl,hbb,c0,c1,c2,c3,hs⟩:=(hA.below hbl).ent_at j hlt;have hj0:(0:Int)≤(j:Int):=by omega
   have hj1:(j:Int)<(l.length:Int):=by omega
   have HTK:=sqH (show l.take (j+1)=l.take j++ [l[j]] by rw [List.take_succ_eq_append_getElem hlt]);have hjl:(l.take j).length=j:=by rw [List.length_take];omega
   have HBD:=sqH (HD.out l[j] (List.getElem_mem hlt));generalize l[j]=x at *
   obtain⟨sx,hsx⟩:∃s:ByteArray,s=⟨x.key.toArray⟩:=⟨_,rfl⟩
   rw [←hsx]at c0;have HSX:=sqH hsx;clear hsx;have hX:Arr (wr.alloc (.cells #[.string sx,.slice B x.parts.length cb,.int .i64 x.pins,(.int .i64 x.stamp)] 49)) wr.heap.size 49 [.string sx,.slice B x.parts.length cb,.int .i64 x.pins,(.int .i64 x.stamp)]:=Arr.new wr 49 _;have hba:=(Below.refl wr.heap.size wr).alloc (Nat.le_refl _) (.cells #[.string sx,.slice B x.parts.length cb,.int .i64 x.pins,(.int .i64 x.stamp)] 49);have hs2:=hs.below hba;have hbl2:=hbl.trans (hba.mono hbl.size);have hgw:wr.heap.size<(wr.alloc (.cells #[.string sx,.slice B x.parts.length cb,.int .i64 x.pins,(.int .i64 x.stamp)] 49)).heap.size:=by simp
   have x1:=hX.cell (k:=1) rfl;have hxw:=hx.wider (N':=fun b=>b<w.heap.size∨b=wr.heap.size) (fun b hb=>hb.elim .inl (fun e=> .inr (by omega)));have hx2:=hxw.below hba;have hsz:w.heap.size≤wr.heap.size:=hbl.size;have hgx:g<wr.heap.size:=(hx.rwo.blk rfl).2;clear hs hba hbl hx hxw;go_wp2_with fail;generalize wr.alloc (.cells #[.string sx,.slice B x.parts.length cb,.int .i64 x.pins,(.int .i64 x.stamp)] 49)=w2 at *
   generalize wr.heap.size=gx at *
   clear c0 c1 c2 c3 x1;have HCL:=sqH (xK B x.parts.length cb (pcs x.parts) w2 (by have:=HBD.out;omega) hs2.rd (Zn _));refine HCL.out.mono ?_;rintro e_ w3 ⟨v3,rfl,ho3,hb3⟩;dsimp only;obtain⟨A3,c3,rfl,hs3,hl3⟩:=jb ho3;have hX3:=hX.below hb3;have hx3:=hx2.below hb3;have hbl3:=hbl2.trans (hb3.mono hbl2.size);have hx4:=(hx3.other (zv w3 gx 1 (.slice A3 x.parts.length c3)) (fun b e1 e2=>by cases e1;have e3:g=gx:=Option.some.inj e2;omega) (fun b e=> .inr (by cases e;rfl))).wider (N':=fun b=>b<w.heap.size) (fun b hb=> .inl (.inl hb));have hX4:=hX3.set (k:=1) (by simp) (.slice A3 x.parts.length c3);have hs4:=hs3.other (g:=gx) (k:=1) (fun a ha=>by have:=hl3 a ha;omega) (.slice A3 x.parts.length c3);have hbl4:=hbl3.setCell (p:=⟨gx,1,none⟩) hsz (.slice A3 x.parts.length c3);have f1:=hX3.frozen 1;have x1:=hX3.cell (k:=1) rfl;obtain⟨z0,z1,z2,z3⟩:=sqC4 hX4;have hge3:∀a,A3=some a→w.heap.size≤a.block∧a.block≠g:=fun a ha=>by have:=hl3 a ha;have:=hb3.size;omega
   clear hX hX3 ho3 hs3 hx2 hx3 hs2 hb3 hbl2 hbl3 hl3;obtain⟨xs,hxo,hop⟩:=hx4.open_;rw [hjl]at hxo hop;have HOP:=sqH hop;clear hop hX4
   repeat' (fail_if_success (first|at_builtin|at_make));first|go_values|go_skip|go_guarded|go_step|go_upon|go_back
   clear x1 f1 z0 z1 z2 z3;have hz34:(w3.setCell ⟨gx,1,none⟩ (.slice A3 x.parts.length c3)).heap.size=w3.heap.size:=by simp [World.setCell]
   rw [←hz34];clear hz34;generalize w3.setCell ⟨gx,1,none⟩ (.slice A3 x.parts.length c3)=w4 at *
   have hw4:w.heap.size≤w4.heap.size:=hbl4.size;refine uU rfl (.tmp 19) (.tmp 21) rfl Z6 (by rfl) hxo (us:= [.string sx,.slice A3 x.parts.length c3,.int .i64 x.pins,(.int .i64 x.stamp)]) (by rfl) rfl (by
    intro u hu;simp only [List.mem_cons,List.not_mem_nil,or_false]at hu;rcases hu with rfl | rfl | rfl | rfl<;>rfl) (by omega) ?_
   intro w5 ho5 hg5;have hcs:S.R w4 x [.string sx,.slice A3 x.parts.length c3,.int .i64 x.pins,(.int .i64 x.stamp)]:=⟨A3,c3,by rw [HSX.out];rfl,hs4⟩
   have hx5:=HOP.out x _ w4 w5 _ (Below.refl _ _) hcs (fun b hb ⟨a,n',c',hm,e⟩=>by
    simp only [List.mem_cons,List.not_mem_nil,or_false,Value.slice.injEq,reduceCtorEq,false_or]at hm;obtain⟨q1,q2⟩:=hge3 a hm.1.symm;rcases hb with hb | hb
    ·cases hb;exact q2 e
    ·omega) ho5 hg5 (.inl rfl)
   have hbl5:=hbl4.grown hg5 hw4 (fun k hk=>by cases hk;exact(hx5.rwo.blk rfl).1);clear hxo hx4 hs4 hbl4 ho5 hg5 hcs hge3;rw [←HTK.out]at hx5;go_wp2_with fail;go_roundg (l.length - (j+1))
   case measure=>have:=HGK.out;omega
   case rel=>exact⟨j+1,rfl,by go_num,by omega,rfl,hx5,hbl5⟩
  ·obtain rfl:j=l.length:=by omega
   have hcc:decide (l.length<l.length)=false:=by simp
   rw [List.take_length]at hx;go_wp2_with fail;go_ret;exact⟨g,rfl,hx,hbl⟩
end Go.Proofs.YtnmlbflhnnmoeaaGreat
