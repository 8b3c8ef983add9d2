/- Lemmas, as stated. -/
import Derived.Lib.AppendStr
import Derived.Test.YtcjmjaefcjcomaaGreatQB02
set_option linter.unusedVariables false
set_option linter.unusedSimpArgs false
set_option maxRecDepth 100000
open Go.Proofs.Tryz
open Go.Proofs.Tryz renaming prog->zZZ
open Go.Value renaming slice->aA,int->aB,string->aD
open Go.Obj renaming cells->aE
open Option renaming none->aF,some->aG
namespace Go.Proofs.YtcjmjaefcjcomaaGreat
open Go.RowKit
variable {a:Act} {K:Act->World->Prop} {ops:Array Oper} {rest:List Oper} {b' base c k m n:Nat} {o:Oper} {P:Program} {e u:TypeId} {w:World} {l:ai} {A:aj} {xs:ak} {Q:al}
theorem OwnB.lower (h:OwnB e base w A c l) (hb:b'<=base):OwnB e b' w A c l:=⟨zb h.own hb,h.cap⟩
theorem YC (hgd:o.guard=aF) (sl x:Operand) {t:TypeId}
  (ho:o.op= .call { callee:= .builtin .append,args:=#[sl,x],argTypes:=#[t,u] }) (E:El P t e 1 1) (hz0:(P.info? e).map (·.zero)=aG (aG (aB .u8 0))) (hu:P.underlying u=aG .string)
  {base:Nat} {v:Value} {n:Nat} {xs:ak} (hs:a.eval sl=v) (hown:w.ownsRow base e 1 v n xs) {s:ByteArray} (hx:a.eval x= aD s)
  (hb:n+s.size<=140737488355328) (hbase:base<=w.heap.size)
  (h:∀v' w',w'.ownsRow base e 1 v' (n+s.size) (xs++bys s.data.toList)->w.grownBy w' v.ownBlock->wpList P ops Q rest (a.put o.dst v') w') :
  wpList P ops Q (o::rest) a w:=by
 obtain⟨hut,⟨i,z,hi,hz,hsz,hby,hzs⟩,_,_⟩:=E;have hz':i.zero=aG (aB .u8 0):=by simpa [hi] using hz0
 exact Lib.wpList_append_own_string w hgd sl x t u ho base e i hut hu hi hz' hsz hby v n xs hs hown s hx (by simp only [maxLen];omega) hb hbase (fun v' w' h1 h2 _=>h v' w' h1 h2)
theorem zU8:(zZZ.info? 5).map (·.zero)=aG (aG (aB .u8 0)):=by kernel_rfl
def txt (l:ai):ai:=num l.length++l
theorem QK (l:ai) (h:l.length<=2000):l.length+1<=(txt l).length/\(txt l).length<=l.length+2:=by
 have:=xY l.length 1 wu;simp only [txt,List.length_append];omega
theorem KF (s:ByteArray) (w:World) (hs:s.size<=2000) :
  Calls zZZ 21 #[aD s] w fun e w'=>∃A c,e= .returned (.tuple #[aA A (txt s.data.toList).length c,aB .i64 0])/\OwnB 5 w.heap.size w' A c (txt s.data.toList)/\Below w.heap.size w w':=by
 have hsz:s.data.toList.length=s.size:=by rw [Array.length_toList];rfl
 have hnl:=xY s.size 4 wu;have HZ:=sqH hsz;clear hsz;go_enter func21,ntmps21
 refine wL ?_;intros;refine(kT s.size _ rfl _ wu).mono ?_;rintro e_ w1 ⟨A1,c1,rfl,ho1,hb1⟩;dsimp only
 refine wL ?_;intros;refine YC rfl (.tmp 15) (.tmp 16) rfl vu zU8 underlying9 ac ho1.own rfl wu hb1.size ?_;intro v2 w2 hown2 hg2;have hb2:=zh hb1 ho1.own ag hg2;obtain⟨A2,c2,rfl,hc2,hr2⟩:=Rd.of_own' hown2;refine zG rfl (.const _) (.tmp 17) rfl vu ac (World.ownsRow_nil _ w.heap.size _ _) ac hr2 ?_ wu hb2.size ?_
 ·intro u hu;simp only [List.mem_append]at hu;rcases hu with hu | hu<;>exact kC _ u hu
 intro v3 w3 hown3 hg3 _;have hb3:=zh hb2 (World.ownsRow_nil w2 w.heap.size 5 1) ag hg3;have e1:bys (txt s.data.toList)= []++(bys (num s.size)++bys s.data.toList):=by rw [txt,HZ.o,q6];rfl
 have e2:(txt s.data.toList).length=0+((num s.size).length+s.size):=by rw [txt,HZ.o,List.length_append,HZ.o];omega
 rw [<-e1]at hown3;obtain⟨A3,c3,rfl,ho3⟩:=OwnB.of e2 hown3;clear e1 e2 hown3
 refine wL ?_;intros;go_ret2;exact⟨A3,c3,rfl,ho3,hb3⟩
def kM (b:ai):ai×ai×Nat :=
 match zm b with
 | (n,rest,e)=>if e≠0 then ([], [],e) else if 2000<n then ([], [],1) else if rest.length<n then ([], [],8) else (rest.take n,rest.drop n,0)
theorem vT {t rest:ai} {er:Nat} (E:Int) (hE:er=E) (hrd:kM l=(t,rest,er)) (hl:l.length=n) (hc:n<=c) (hm:n<=140737488353280) (hr:Rd w 1 A n (bys l)) :
  Calls zZZ 27 #[aA A n c] w fun e w'=>∃A' c',e= .returned (.tuple #[aD ⟨t.toArray⟩,aA A' rest.length c',aB .i64 E]) /\
   OwnB 5 w.heap.size w' A' c' rest/\Below w.heap.size w w':=by
 subst hE;obtain⟨m,rs,en,hn⟩:∃m rs en,zm l=(m,rs,en):=⟨_,_,_,rfl⟩
 rw [kM,hn]at hrd;dsimp only at hrd;by_cases h0:en=0
 ·subst h0;rw [if_neg wu]at hrd;have hinv:=xH hn;have hrl:rs.length<=n:=by rw [<-hl,hinv.2];simp
  have hmb:=hinv.1;have HR:=sqH (qM 0 rfl hn hl hc hm hr);clear hn hinv;by_cases h1:2000<m
  ·rw [if_pos h1]at hrd;cases hrd
   go_enter func27,ntmps27
   refine wL ?_;intros;refine HR.o.mono ?_;rintro e_ w1 ⟨A1,c1,rfl,ho1,hb1⟩;dsimp only
   refine wL ?_;intros;go_ret3;exact⟨aF,0,rfl,OwnB.nil_ _ _ _,hb1⟩
  ·rw [if_neg h1]at hrd;by_cases h2:rs.length<m
   ·rw [if_pos h2]at hrd;cases hrd
    go_enter func27,ntmps27
    refine wL ?_;intros;refine HR.o.mono ?_;rintro e_ w1 ⟨A1,c1,rfl,ho1,hb1⟩;dsimp only
    refine wL ?_;intros;go_ret3;exact⟨aF,0,rfl,OwnB.nil_ _ _ _,hb1⟩
   ·rw [if_neg h2]at hrd;simp only [Prod.mk.injEq]at hrd;obtain⟨h11,h12,h13⟩:=hrd;subst h11 h12 h13;have hm0:=we m
    have hm1:(m:Int)<=(rs.length:Int):=wu;have hle:m<=rs.length:=wu;go_enter func27,ntmps27
    refine wL ?_;intros;refine HR.o.mono ?_;rintro e_ w1 ⟨A1,c1,rfl,ho1,hb1⟩;dsimp only;have hc1:=ho1.cap;have hlt:(rs.take m).length=m:=by rw [List.length_take];omega
    have hQ:=fun (w2:World) (hb:Below w1.heap.size w1 w2)=>by
     have h:=(ho1.rd.below hb).pre (k:=m) hle;rw [Nat.mul_one,jJ]at h;exact kK (P:=zZZ) (c:=c1) (src:=25) (dst:=9) underlying25 underlying5 underlying9 hlt h
    have Q:=sqH hQ;clear hQ hlt;have HB:=sqH (Below.refl w1.heap.size w1).drew;have hld:(rs.drop m).length=rs.length - m:=by rw [List.length_drop]
    have HL:=sqH hld;clear hld;rcases ho1.own.2 with ⟨hv,hz⟩ | ⟨g,_,_,hv,_⟩
    ·injection hv with hv1 hv2 hv3;subst hv1 hv3;have hm2:rs.length=0:=wu
     have hm3:m=0:=wu;subst hm3;obtain rfl:=List.length_eq_zero_iff.1 hm2;clear hv2 hz hm2
     refine wL ?_;intros;go_region_held3 (fun w'=>(convert 25 9 (aA aF 0 0)).run zZZ w'= .ok (aD ⟨#[]⟩) w')
      (first | exact Q.o _ (by first | exact HB.o | exact wm HB.o hb5))
      (first | (go_at_call 23;refine(kv aF 0 0 [] _ rfl ag wu Rd.nil_).mono ?_;rintro e5 w5 ⟨v5,rfl,ho5,hb5⟩))
     refine wL ?_;intros;go_ret3;obtain⟨A6,c6,rfl,ho6⟩:=OwnB.of (l:= []) rfl ho5;exact⟨A6,c6,rfl,ho6.lower (Nat.le_trans hb1.size HB.o.size),hb1.trans ((wm HB.o hb5).mono hb1.size)⟩
    ·injection hv with hv1 hv2 hv3;subst hv1;clear hv2 hv3;have hr5:=ho1.rd.cutAt (c:=c1) hle hc1;rw [yM,Nat.zero_add]at hr5;have hm4:(m:Int)<=(c1:Int):=wu
     have HC:=sqH (kv _ _ (c1 - m) _ w1.drew HL.o wu wu (hr5.below HB.o));clear hr5
     refine wL ?_;intros;go_region_held3 (fun w'=>(convert 25 9 (aA (aG ⟨g,0,aF⟩) m c1)).run zZZ w'= .ok (aD ⟨(rs.take m).toArray⟩) w')
      (first | exact Q.o _ (by first | exact HB.o | exact wm HB.o hb5))
      (first | (go_at_call 23;refine(HC.o).mono ?_;rintro e5 w5 ⟨v5,rfl,ho5,hb5⟩;dsimp only))
     dsimp only [Exit.then]
     refine wL ?_;intros;go_ret3;obtain⟨A6,c6,rfl,ho6⟩:=OwnB.of HL.o ho5;exact⟨A6,c6,ab,ho6.lower (Nat.le_trans hb1.size HB.o.size),hb1.trans ((wm HB.o hb5).mono hb1.size)⟩
 ·rw [if_pos wu]at hrd;simp only [Prod.mk.injEq]at hrd;obtain⟨h11,h12,h13⟩:=hrd;subst h11 h12 h13;have HR:=sqH (qM _ rfl hn hl hc hm hr);have he1:((en:Int) != 0)=true:=by rw [bne_iff_ne];omega
  clear hn;go_enter func27,ntmps27
  refine wL ?_;intros;refine HR.o.mono ?_;rintro e_ w1 ⟨A1,c1,rfl,ho1,hb1⟩;dsimp only
  refine wL ?_;intros;go_ret3;exact⟨aF,0,rfl,OwnB.nil_ _ _ _,hb1⟩
theorem KD:∀n,n<16->val (dig n)=n:=by
 have key:∀n:Fin 16,val (dig n.val)=(n.val:Int):=by decide +kernel
 exact fun n h=>key ⟨n,h⟩
theorem vk:∀l:ai,xn (kH l)=aG l
 | []=>rfl
 | x::l=>by
  have hx:=x.toNat_lt
  have h1:=KD (x.toNat / 16) wu
  have h2:=KD (x.toNat % 16) wu
  show xn (dig (x.toNat / 16)::dig (x.toNat % 16)::kH l)=_
  rw [xn,if_neg wu,vk l,h1,h2]
  simp only [Option.map_some,Option.some.injEq,List.cons.injEq,and_true,Int.toNat_natCast]
  rw [Nat.div_add_mod];exact UInt8.ofNat_toNat
theorem Yg (l:ai) (h:l.length<=2000):kr (kH l)=(l,0):=by
 have:=yj l;rw [kr,if_neg wu,if_neg wu,vk]
theorem XT (l:ai):hexC (kH l)=if l.length=32 then 0 else 1:=by
 have:=yj l;unfold hexC;by_cases h:l.length=32
 ·rw [if_neg wu,Yg l wu,if_pos h]
 ·rw [if_pos wu,if_neg h]
theorem zE (l:ai):hexC (shaS l)=0:=by
 have:=ZY l;rw [shaS,XT,if_pos (by rw [Z7,this])]
theorem kF {s:ByteArray} {r:Nat} (E:Int) (hE:r=E) (h:hexC s.data.toList=r) (w:World) (hs:s.size<=140737488351232) :
  Calls zZZ 39 #[aD s] w fun e w'=>e= .returned (aB .i64 E)/\Below w.heap.size w w':=by
 subst hE;have:=kG s w hs;rw [h]at this;exact this
section
variable {W:World} {g:Nat} {e:TypeId} {fz:Nat×Nat}
theorem z3j (h:W.heap[g]?=aG (.cells xs.toArray e fz)) (hk:k<xs.length) (u:Value):(W.setCell ⟨g,k,aF⟩ u).heap[g]?=aG (aE (xs.set k u).toArray e fz):=by
 obtain⟨hlt,hk'⟩:=Array.getElem?_eq_some_iff.1 h;show(W.heap.modify g _)[g]?=_;rw [Array.getElem?_eq_getElem (by rw [Array.size_modify];exact hlt),Array.getElem_modify_self,hk'];simp
theorem XO (rs:ak):∀(ys xs zs:ak) (W:World),W.heap[g]?=aG (aE (zs++(xs++rs)).toArray e fz)->ys.length=xs.length->(W.setCells g zs.length ys).heap[g]?=aG (aE (zs++(ys++rs)).toArray e fz)
 | [], [],zs,W,h,_=>h
 | y::ys,x::xs,zs,W,h,hl=>by
  have h1:=z3j h (k:=zs.length) ab y
  rw [List.set_append_right _ _ ag,Nat.sub_self,List.cons_append,List.set_cons_zero]at h1
  have h2:=XO rs ys xs (zs++ [y]) _ (by simpa using h1) (by simpa using hl)
  rw [List.append_assoc]at h2
  simp only [List.length_append,List.length_cons,List.length_nil,Nat.zero_add]at h2
  exact h2
theorem Qv {v:Value} (h:W.heap[g]?=aG (.cells xs.toArray e fz)) (hk:xs[k]?=aG v):W.cell? ⟨g,k,aF⟩=aG v:=by
 simp [World.cell?,h,hk]
theorem z3i (h:W.heap[g]?=aG (.cells xs.toArray e fz)) (hf:fz.2<=fz.1\/k<fz.1):W.frozen? ⟨g,k,aF⟩=false:=by
 obtain⟨lo,hi⟩:=fz;simp only [World.frozen?,h,Bool.and_eq_false_iff,decide_eq_false_iff_not];simp only at hf;omega
end
def yb (w:World) (base:Nat) (A:aj) (c:Nat) (l:ai):Prop :=
 ∃g rest fz,A=aG ⟨g,0,aF⟩/\base<=g/\w.heap[g]?=aG (aE (bys l++rest).toArray 5 fz)/\l.length+rest.length=c/\c<=maxLen/\(fz.2<=fz.1\/c<=fz.1)
section
variable {w w':World} {base c:Nat} {A:aj} {l:ai}
theorem yb.rd (h:yb w base A c l):Rd w 1 A l.length (bys l):=by
 obtain⟨g,rest,fz,rfl,hb,hg,hl,hm,hf⟩:=h;refine⟨by rw [qt,Nat.mul_one],fun _=>⟨g,0,rfl,(Array.getElem?_eq_some_iff.1 hg).1,fun j u hu=> ?_⟩⟩;rw [Nat.zero_add];refine Qv hg ?_;rw [List.getElem?_append_left (List.getElem?_eq_some_iff.1 hu).1];exact hu
theorem yb.cap (h:yb w base A c l):l.length<=c/\c<=maxLen:=by
 obtain⟨g,rest,fz,rfl,hb,hg,hl,hm,hf⟩:=h;exact⟨wu,hm⟩
theorem yb.below (h:yb w base A c l) (hb:Below w.heap.size w w'):yb w' base A c l:=by
 obtain⟨g,rest,fz,e,h1,hg,h2⟩:=h;exact⟨g,rest,fz,e,h1,(hb.block g (Array.getElem?_eq_some_iff.1 hg).1).trans hg,h2⟩
theorem yb.lower (h:yb w base A c l) (hb:b'<=base):yb w b' A c l:=by
 obtain⟨g,rest,fz,e,h1,h2⟩:=h;exact⟨g,rest,fz,e,Nat.le_trans hb h1,h2⟩
end
theorem JI (s:ByteArray) (w:World) (hs:s.size<=maxLen) :
  ∃w',(convert 9 25 (aD s)).run zZZ w= .ok (aA (aG ⟨w.heap.size,0,aF⟩) s.data.toList.length (grownCap w s.size 0 5)) w'/\yb w' w.heap.size (aG ⟨w.heap.size,0,aF⟩) (grownCap w s.size 0 5) s.data.toList/\Below w.heap.size w w':=by
 have hsz:s.data.toList.length=s.size:=by rw [Array.length_toList];rfl
 have h:=run_bytes_of_string (P:=zZZ) w 9 25 5 s underlying9 underlying25 underlying5;have hge:=grownCap_ge w s.size 0 5;have hle:=grownCap_le_maxLen w s.size 0 5 hs;rw [<-hsz]at h;rw [hsz]at h ⊢
 generalize grownCap w s.size 0 5=c at *
 have hrow:bytesRow s c=(bys s.data.toList++List.replicate (c - s.size) (aB .u8 0)).toArray:=by
  apply Array.toList_inj.1;simp [bytesRow,bys]
 refine⟨_,h,⟨w.heap.size,List.replicate (c - s.size) (aB .u8 0),((bytesRow s c).size,(bytesRow s c).size+1),rfl,Nat.le_refl _,?_,?_,hle,.inr ?_⟩,(Below.refl _ _).drew.alloc ag _⟩
 ·rw [<-hrow];exact World.alloc_heap_new w.drew _
 ·rw [List.length_replicate,hsz];omega
 ·rw [hrow];simp only [List.size_toArray,List.length_append,qt,List.length_replicate,hsz];omega
structure Src (P:Program) (w:World) (u:TypeId) (x:Value) (m:Nat) (k:ai):Prop where
 und:(P.underlying u=aG .string)\/(∃e,P.underlying u=aG (.slice e))
 len:∀w',(Builtin.lenOf x).run P w'= .ok m w'
 fst:(Builtin.firstCells 1 m x).run P w= .ok (bys k).toArray w
 fst':(Builtin.firstCells 1 m x).run P w.drew= .ok (bys k).toArray w.drew
 num:k.length=m
theorem Src.str (hu:P.underlying u=aG .string) (s:ByteArray):Src P w u (aD s) s.size s.data.toList :=
 ⟨.inl hu,fun w'=>by simp [Builtin.lenOf],Lib.run_firstCells_string (P:=P) w 1 s,Lib.run_firstCells_string (P:=P) w.drew 1 s,by rw [Array.length_toList];rfl⟩
theorem Src.sl (hu:P.underlying u=aG (.slice e)) (c:Nat) {k:ai} (hr:Rd w 1 A m (bys k)):Src P w u (aA A m c) m k:=by
 have hk:k.length=m:=by have:=hr.1;rw [qt,Nat.mul_one]at this;exact this
 refine⟨.inr ⟨e,hu⟩,fun w'=>by simp [Builtin.lenOf],?_,?_,hk⟩
 all_goals
  cases A with
  | none =>
   have h0:m=0:=by
    rcases Nat.eq_zero_or_pos m with h | h
    ·exact h
    ·obtain⟨_,_,h1,_⟩:=hr.2 h;cases h1
   have:k= []:=List.eq_nil_of_length_eq_zero wu;subst this;exact run_firstCells_none _ 1 0 0 c
  | some ad =>
   refine run_firstCells_some (P:=P) _ 1 m ad m c (bys k) (by rw [qt,hk,Nat.mul_one]) (fun j v hj=> ?_);have hl:=(List.getElem?_eq_some_iff.1 hj).1;rw [qt]at hl;obtain⟨b,off,e',hb,hc⟩:=hr.2 wu;cases e'
   rw [Addr.add_mid];exact hc j v hj
theorem j7 {g:Nat}:∀(ys:ak) (o:Nat) (W:World),W.grownBy (W.setCells g o ys) (aG g)
 | [],_,W=>World.grownBy.refl _ _
 | y::ys,o,W=>by
  have h1:W.grownBy (W.setCell ⟨g,o,aF⟩ y) (aG g):=⟨rfl,rfl,rfl,by simp [World.setCell],fun j _ hj=>Below.heap_setCell W _ y j (fun e=>hj (by rw [e]))⟩
  exact h1.trans (j7 ys (o+1) _)
theorem Vw {k:ai} {ty:TypeId} {x:Value} (h:yb w base A c l) (hs:Src zZZ w u x m k) (hb:l.length+m<=140737488355328) (hbase:base<=w.heap.size) :
  ∃A' c' w',(Builtin.append_ #[25,u] ty #[aA A l.length c,x]).run zZZ w= .ok (aA A' (l++k).length c') w'/\yb w' base A' c' (l++k)/\Below base w w'/\w.grownBy w' (aA A l.length c).ownBlock/\(∀b,A'=aG ⟨b,0,aF⟩->A=aG ⟨b,0,aF⟩\/w.heap.size<=b):=by
 obtain⟨ht,⟨i,z,hi,hz,hsz,hby,hzs⟩,_,_⟩:=vu;have hrd:=h.rd;obtain⟨g,rest,fz,rfl,hbg,hg,hl,hm,hf⟩:=h;have hkl:=hs.num;have hlen:=hs.len;have hll:(l++k).length=l.length+m:=by rw [List.length_append,hkl]
 by_cases hroom:l.length+m<=c
 ·have hst:=run_storeCells_cells (P:=zZZ) g l.length (bys k) 0 w
   (fun j hj=>by
    rw [qt]at hj;have:(bys l++rest)[l.length+0+j]?=aG ((bys l++rest)[l.length+0+j]'(by rw [List.length_append,qt];omega)):=List.getElem?_eq_getElem _;rw [Qv hg this];rfl)
   (fun j hj=>by
    rw [qt]at hj;exact z3i hg (by rcases hf with h | h;exact .inl h;exact .inr wu)) (kC k)
  have hfz:=XO (g:=g) (e:=5) (fz:=fz) (rest.drop m) (bys k) (rest.take m) (bys l) w (by rw [List.take_append_drop];exact hg) (by rw [qt,List.length_take];omega);rw [qt]at hfz;refine⟨aG ⟨g,0,aF⟩,c,w.setCells g l.length (bys k),?_,⟨g,rest.drop m,fz,rfl,hbg,by rw [q6,List.append_assoc];exact hfz,by rw [hll,List.length_drop];omega,hm,hf⟩,Below.sets hbg _ _ _ (Below.refl _ _),j7 _ _ _,fun b e=> .inl e⟩;rw [hll];simp only [Nat.add_zero]at hst;have hfc:=hs.fst;rcases hs.und with hu | ⟨e',hu⟩
  ·simp [Builtin.append_,run_underlying ht,run_underlying hu,sizeOf,typeInfo,hi,hsz,hlen w,hroom,hfc,Addr.add_lit,hst]
  ·simp [Builtin.append_,run_underlying ht,run_underlying hu,sizeOf,typeInfo,hi,hsz,hlen w,hroom,hfc,Addr.add_lit,hst]
 ·have hn:¬(l.length+m<=c):=hroom;have hge:=grownCap_ge w (l.length+m) c 5;have hcm:=grownCap_le_maxLen w (l.length+m) c 5 (by simp only [maxLen];omega);have h63':¬(9223372036854775807<((l.length:Int)+(m:Int))):=wu
  have hnx:=nextslicecap_le (need:=l.length+m) (old:=c) wu;have h48':¬(281474976710656<Builtin.nextslicecap (l.length+m) c):=wu;have hfo:=run_firstCells_some (P:=zZZ) w.drew 1 l.length ⟨g,0,aF⟩ l.length c (bys l) (by rw [qt,Nat.mul_one]) (fun j v hj=>by
   rw [Addr.add_mid,Nat.zero_add];refine Qv (W:=w.drew) hg ?_;rw [List.getElem?_append_left (List.getElem?_eq_some_iff.1 hj).1];exact hj)
  have hfn:=hs.fst';refine⟨aG ⟨w.heap.size,0,aF⟩,grownCap w (l.length+m) c 5,w.drew.alloc (aE ((bys l).toArray++(bys k).toArray++Builtin.zeroCells z.cells (grownCap w (l.length+m) c 5 - (l.length+m))) 5),?_,
   ⟨w.heap.size,(Builtin.zeroCells z.cells (grownCap w (l.length+m) c 5 - (l.length+m))).toList,(0,0),rfl,hbase,?_,?_,hcm,.inl ag⟩,(Below.refl _ _).drew.alloc hbase _,⟨rfl,rfl,rfl,by simp [World.alloc],fun k hk _=>Below.heap_alloc w.drew _ _ hk⟩,fun b e=> .inr (by cases e;exact Nat.le_refl _)⟩
  ·rw [hll];rcases hs.und with hu | ⟨e',hu⟩
   ·simp [Builtin.append_,run_underlying ht,run_underlying hu,sizeOf,typeInfo,zeroValue,hi,hz,hsz,hby,hlen w,hn,h63',h48',Question.forced,hfo,hfn,newRow,grownCap];rw [<-List.append_toArray,Array.append_assoc]
   ·simp [Builtin.append_,run_underlying ht,run_underlying hu,sizeOf,typeInfo,zeroValue,hi,hz,hsz,hby,hlen w,hn,h63',h48',Question.forced,hfo,hfn,newRow,grownCap];rw [<-List.append_toArray,Array.append_assoc]
  ·rw [show((bys l).toArray++(bys k).toArray++Builtin.zeroCells z.cells (grownCap w (l.length+m) c 5 - (l.length+m)))=(bys (l++k)++(Builtin.zeroCells z.cells (grownCap w (l.length+m) c 5 - (l.length+m))).toList).toArray by
    apply Array.toList_inj.1;simp [q6]]
   exact World.alloc_heap_new w.drew _
  ·have h0:(Builtin.zeroCells z.cells (grownCap w (l.length+m) c 5 - (l.length+m))).toList.length=grownCap w (l.length+m) c 5 - (l.length+m):=by rw [Array.length_toList,size_zeroCells,hzs,Nat.mul_one]
   rw [h0,hll];omega
theorem vl (hgd:o.guard=aF) (sl x:Operand) 
  (ho:o.op= .call { callee:= .builtin .append,args:=#[sl,x],argTypes:=#[25,u] })
  {base c:Nat} {A:aj} {l k:ai} {m:Nat} {xv:Value} (hs:a.eval sl= aA A l.length c) (hown:yb w base A c l) (hx:a.eval x=xv) (hsrc:Src zZZ w u xv m k)
  (hb:l.length+m<=140737488355328) (hbase:base<=w.heap.size)
  (h:∀A' c' w',yb w' base A' c' (l++k)->Below base w w'->wpList zZZ ops Q rest (a.put o.dst (aA A' (l++k).length c')) w') :
  wpList zZZ ops Q (o::rest) a w:=by
 refine wpList_plain hgd fun _ hK=> ?_;obtain⟨A',c',w',hrun,h1,h2,_⟩:=Vw (ty:=o.type) hown hsrc hb hbase;unfold Oper.wp execOp;simp only [ho,resolve,invoke,builtin,Sem.run_bind,Sem.run_pure,Result.andThen_ok,List.map_toArray,List.map_cons,List.map_nil,hs,hx,hrun];exact hK _ _ (h _ _ _ h1 h2)
theorem JZ (sl x:Operand) 
  (ho:o.op= .call { callee:= .builtin .append,args:=#[sl,x],argTypes:=#[25,u] })
  {base c:Nat} {A:aj} {l k:ai} {m:Nat} {xv:Value} (hs:a.eval sl= aA A l.length c) (hown:yb w base A c l) (hx:a.eval x=xv) (hsrc:Src zZZ w u xv m k)
  (hb:l.length+m<=140737488355328) (hbase:base<=w.heap.size)
  (h:∀A' c' w',yb w' base A' c' (l++k)->Below base w w'->w.grownBy w' (aA A l.length c).ownBlock->(∀b,A'=aG ⟨b,0,aF⟩->A=aG ⟨b,0,aF⟩\/w.heap.size<=b)->K (a.put o.dst (aA A' (l++k).length c')) w') :
  o.wp zZZ a w K Q:=by
 obtain⟨A',c',w',hrun,h1,h2,h3,h4⟩:=Vw (ty:=o.type) hown hsrc hb hbase;unfold Oper.wp execOp;simp only [ho,resolve,invoke,builtin,Sem.run_bind,Sem.run_pure,Result.andThen_ok,List.map_toArray,List.map_cons,List.map_nil,hs,hx,hrun];exact h _ _ _ h1 h2 h3 h4
theorem QQ (hgd:o.guard=aF) (sl x:Operand) 
  (ho:o.op= .call { callee:= .builtin .append,args:=#[sl,x],argTypes:=#[25,u] })
  {base c:Nat} {A:aj} {l k:ai} {m:Nat} {xv:Value} (hs:a.eval sl= aA A l.length c) (hown:yb w base A c l) (hx:a.eval x=xv) (hsrc:Src zZZ w u xv m k)
  (hb:l.length+m<=140737488355328) (hbase:base<=w.heap.size)
  (h:∀A' c' w',yb w' base A' c' (l++k)->Below base w w'->w.grownBy w' (aA A l.length c).ownBlock->(∀b,A'=aG ⟨b,0,aF⟩->A=aG ⟨b,0,aF⟩\/w.heap.size<=b)->wpList zZZ ops Q rest (a.put o.dst (aA A' (l++k).length c')) w') :
  wpList zZZ ops Q (o::rest) a w :=
 wpList_plain hgd fun _ hK=>JZ sl x ho hs hown hx hsrc hb hbase fun A' c' w' h1 h2 h3 h4=>hK _ _ (h A' c' w' h1 h2 h3 h4)
theorem KB {E0:Prop} (hgd:o.guard=aF) (sl x:Operand) 
  (ho:o.op= .call { callee:= .builtin .append,args:=#[sl,x],argTypes:=#[25,u] })
  {base c:Nat} {A:aj} {l k:ai} {m:Nat} {xv:Value} (hs:a.eval sl= aA A l.length c) (hown:yb w base A c l) (hx:a.eval x=xv) (hsrc:Src zZZ w u xv m k)
  (hb:l.length+m<=140737488355328) (hbase:base<=w.heap.size)
  (h:∀A' c' w',yb w' base A' c' (l++k)->Below base w w'->w.grownBy w' (aA A l.length c).ownBlock->(∀b,A'=aG ⟨b,0,aF⟩->A=aG ⟨b,0,aF⟩\/w.heap.size<=b)->K (a.put o.dst (aA A' (l++k).length c')) w') :
  if Region.wanted o (yielded ops a.tmps)=true then Oper.wp zZZ o a w K Q else E0:=by
 rw [if_pos (by simp [Region.wanted,hgd])];exact JZ sl x ho hs hown hx hsrc hb hbase h
theorem Arr.beside {w':World} {g:Nat} (h:Arr w g e xs) (hg:w.grownBy w' (aA A n c).ownBlock) (hne:A≠aG ⟨g,0,aF⟩) (hA:∀a,A=aG a->a=⟨a.block,0,aF⟩):Arr w' g e xs:=by
 refine(hg.block g h.lt ?_).trans h;cases A with
 | none=>simp [Value.ownBlock]
 | some a =>
  intro he;simp only [Value.ownBlock,Option.some.injEq]at he;apply hne;rw [hA a rfl,he]
theorem yb.addr (h:yb w base A c l):∀a,A=aG a->a=⟨a.block,0,aF⟩:=by
 obtain⟨g,_,_,rfl,_⟩:=h;intro a e;cases e;rfl
def z59 (r:RawP):Value:= .agg #[aB .i64 r.kind,aB .i64 r.a,aB .i64 r.b,aD r.text]
def u8 (a:Int):UInt8:=UInt8.ofNat (a % 256).toNat
theorem VK (a:Int):IntKind.u8.wrap a=((u8 a).toNat:Int):=by
 rw [IntKind.wrap_u8,u8,UInt8.toNat_ofNat'];omega
def z13 (r:RawP) (most:Nat):ai:=(r.text.data.toList++ [u8 r.a,u8 r.b]).take most
theorem K8 (r:RawP) (most:Nat):(z13 r most).length<=most:=by rw [z13,List.length_take];omega
theorem z08 (r:RawP) (most:Nat) (M:Int) (hM:(most:Int)=M) (hmo:most<=1000) (ho:RawOk r) (w:World) :
  Calls zZZ 12 #[z59 r,aB .i64 M] w fun e w'=>∃A c,e= .returned (aA A (z13 r most).length c)/\yb w' w.heap.size A c (z13 r most)/\Below w.heap.size w w':=by
 subst hM;obtain⟨k,a,b,t⟩:=r;have ht:=ho.t;have ua:=VK a;have ub:=VK b;unfold z59;simp only [z13];generalize u8 a=x at *
 generalize u8 b=y at *
 dsimp only at ht ⊢
 have hsz:t.data.toList.length=t.size:=by rw [Array.length_toList];rfl
 obtain⟨w1,hw1⟩:=wY (w.alloc (aE #[aB .i64 k,aB .i64 a,aB .i64 b,aD t] 51))
 have s1:w1.heap.size=w.heap.size+1:=by rw [hw1,World.size_alloc]
 have hb1:Below w.heap.size w w1:=by rw [hw1];exact(Below.refl _ _).alloc ag _
 have hr:Rd (w1.alloc (aE #[aB .u8 (x.toNat:Int),aB .u8 (y.toNat:Int)] 5)) 1 (aG ⟨w.heap.size+1,0,aF⟩) 2 (bys [x,y]):=by
  have:=Rd.newN (w:=w1) (e:=5) (size:=1) (m:=2) (bys [x,y]) rfl;rw [s1]at this;exact this
 have hb2:Below w.heap.size w (w1.alloc (aE #[aB .u8 (x.toNat:Int),aB .u8 (y.toNat:Int)] 5)):=hb1.alloc wu _;have qs:=kK (P:=zZZ) (c:=2) (src:=25) (dst:=9) underlying25 underlying5 underlying9 (n:=2) (l:= [x,y]) rfl hr;obtain⟨S,hS⟩:=wY (t++⟨[x,y].toArray⟩:ByteArray)
 have qa:=fun w'=>run_string_add_sum (P:=zZZ) (w:=w') t ⟨[x,y].toArray⟩ (by show t.size+2<=_;omega);have hSl:S.data.toList=t.data.toList++ [x,y]:=by rw [hS,ByteArray.data_append,Array.toList_append]
 have hSs:S.size=t.size+2:=by
  have h:=congrArg List.length hSl;rw [Array.length_toList,List.length_append,hsz]at h;exact h
 rw [<-hS]at qa;rw [<-hSl];obtain⟨E,hE⟩:=wY (S.extract 0 (min ((t.size:Int)+2) (most:Int)).toNat:ByteArray)
 have hEl:S.data.toList.take most=E.data.toList:=by
  have hl:=congrArg List.length hSl;rw [List.length_append,hsz]at hl;rw [hE,ByteArray.data_extract,Array.toList_extract,List.extract_eq_take_drop,List.drop_zero,Nat.sub_zero];rcases Nat.le_total (t.size+2) most with h | h
  ·rw [List.take_of_length_le (by rw [hl];exact h),List.take_of_length_le (by rw [hl];simp only [List.length_cons,List.length_nil];omega)]
  ·congr 1;omega
 have hEs:E.size<=maxLen:=by
  have h:=congrArg List.length hEl;rw [List.length_take]at h;have h2:E.data.toList.length=E.size:=by rw [Array.length_toList];rfl
  simp only [maxLen];omega
 rw [hEl];obtain⟨w3,qz,hz,hb3⟩:=JI E (w1.alloc (aE #[aB .u8 (x.toNat:Int),aB .u8 (y.toNat:Int)] 5)) hEs;have hz:=hz.lower hb2.size;have hb23:=wm hb2 hb3;generalize grownCap (w1.alloc (aE #[aB .u8 (x.toNat:Int),aB .u8 (y.toNat:Int)] 5)) E.size 0 5=c at qz hz;generalize (w1.alloc (aE #[aB .u8 (x.toNat:Int),aB .u8 (y.toNat:Int)] 5)).heap.size=g at qz hz;generalize E.data.toList=L at qz hz ⊢
 rw [hE]at qz;rw [hw1]at qz qs;clear hr hS hSl hb1 hw1 s1 hE hEl hEs hb2 hb3;go_enter func12,ntmps12;go_wp2_with fail;go_ret;exact⟨_,_,rfl,hz,hb23⟩
end Go.Proofs.YtcjmjaefcjcomaaGreat
