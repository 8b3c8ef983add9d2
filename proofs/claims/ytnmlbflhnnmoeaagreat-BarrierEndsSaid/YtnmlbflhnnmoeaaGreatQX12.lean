/- Lemmas of the proof. Conditions: as stated. -/
import Derived.Test.YtnmlbflhnnmoeaaGreatQX01
import Derived.Test.YtnmlbflhnnmoeaaGreatQX05
import Derived.Test.YtnmlbflhnnmoeaaGreatQX07
set_option linter.unusedVariables false
set_option linter.unusedSimpArgs false
set_option maxRecDepth 20000
namespace Go.Proofs.YtnmlbflhnnmoeaaGreat
open Go.RowKit
end Go.Proofs.YtnmlbflhnnmoeaaGreat
namespace Go.Proofs.YtnmlbflhnnmoeaaGreat
end Go.Proofs.YtnmlbflhnnmoeaaGreat
namespace Go.Proofs.YtnmlbflhnnmoeaaGreat
open Go.RowKit
theorem Jt {w:World} {base:Nat} {e:TypeId} {size:Nat} {A:Option Addr} {n cap k:Nat} {xs:List Value} (h:w.ownsRow base e size (.slice A n cap) n xs) (hk:k≤n) :
  w.ownsRow base e size (.slice A k cap) k (xs.take (k*size)):=by
 refine⟨by rw [List.length_take,h.1];exact Nat.min_eq_left (Nat.mul_le_mul_right _ hk),?_⟩;rcases h.2 with ⟨h1,h2⟩ | ⟨g,cap',cur,hv,hb,hg,hnc,hcm,hcs,htake⟩
 ·left;injection h1 with e1 e2 e3;subst e1 e3;obtain rfl:k=0:=by omega
  exact⟨rfl,rfl⟩
 ·right;injection hv with e1 e2 e3;subst e1 e3;refine⟨g,cap,cur,rfl,hb,hg,by omega,hcm,hcs,?_⟩;rw [←htake,List.take_take,Nat.min_eq_left (Nat.mul_le_mul_right _ hk)]
theorem ZR {P:Program} {w:World} {t ty e it:TypeId} {size bytes:Nat} (E:El P t e size bytes) (hit:P.underlying it=some (.int .i64)) (n:Nat) (h0:0<n) (hb:n*bytes≤140737488355328) :
  ∃cap cells,(Builtin.append_ #[t,it] ty #[.slice none 0 0,.int .i64 n]).run P w= .ok (.slice (some ⟨w.heap.size,0,none⟩) n cap) (w.drew.alloc (.cells cells e))∧n≤cap∧cap≤maxLen∧cells.size=cap*size:=by
 have hpb:=E.posb;have hps:=E.pos;obtain⟨hu,⟨i,z,hi,hz,hs,hby,hzs⟩,_,_⟩:=E;have hn47:n≤140737488355328:=Nat.le_trans (Nat.le_mul_of_pos_right n hpb) hb;have hge:=grownCap_ge w n 0 e;have hcm:=grownCap_le_maxLen w n 0 e (by simp only [maxLen];omega);have h63':¬(9223372036854775807<(n:Int)):=by omega
 have h48':¬(281474976710656<Builtin.nextslicecap n 0*i.bytes):=by rw [nextslicecap_zero h0,hby];omega
 have hw:IntKind.i64.wrap (n:Int)=n:=by rw [IntKind.wrap_i64];omega
 have hl:¬((n:Int)<0):=by omega
 have hl2:¬(281474976710656<(n:Int)*(i.bytes:Int)):=by rw [hby,←Int.natCast_mul];omega
 have hns:¬(n*i.size=0):=by rw [hs];exact Nat.ne_of_gt (Nat.mul_pos h0 hps)
 have hn0:n≠0:=by omega
 refine⟨grownCap w n 0 e,#[]++Builtin.zeroCells z.cells n++Builtin.zeroCells z.cells (grownCap w n 0 e - n),?_,hge,hcm,?_⟩
 ·simp [Builtin.append_,run_underlying hu,run_underlying hit,sizeOf,typeInfo,zeroValue,hi,hz,asInt,asIntOf,hw,hl,hl2,hn0,h63',h48',Question.forced,run_firstCells_none,newRow,grownCap];intro h;exact absurd h hns
 ·simp only [Array.size_append,size_zeroCells,hzs];rw [show(#[]:Array Value).size=0 from rfl,Nat.zero_add,←Nat.add_mul];congr 1;omega
theorem Kh {P:Program} {w:World} {ops:Array Oper} {rest:List Oper} {o:Oper} {a:Act} {Q:Exit→Act→World→Prop} (hgd:o.guard=none) (s x:Operand) {t e it:TypeId} {size bytes:Nat}
  (ho:o.op= .call { callee:= .builtin .append,args:=#[s,x],argTypes:=#[t,it] }) (E:El P t e size bytes) (hit:P.underlying it=some (.int .i64))
  (n:Nat) (h0:0<n) (hb:n*bytes≤140737488355328) (hs:a.eval s= .slice none 0 0) (hx:a.eval x= .int .i64 n)
  (h:∀A c w',w'.ownsRow w.heap.size e size (.slice A 0 c) 0 []→n≤c→Below w.heap.size w w'→wpList P ops Q rest (a.put o.dst (.slice A n c)) w') :
  wpList P ops Q (o::rest) a w:=by
 refine wpList_plain hgd fun _ hK=> ?_;obtain⟨cap,cells,hrun,h1,h2,h3⟩:=ZR (P:=P) (w:=w) (ty:=o.type) E hit n h0 hb;unfold Oper.wp execOp;simp only [ho,resolve,invoke,builtin,Sem.run_bind,Sem.run_pure,Result.andThen_ok,List.map_toArray,List.map_cons,List.map_nil,hs,hx,hrun];refine hK _ _ (h _ _ _ ?_ h1 ((Below.refl _ _).drew.alloc (Nat.le_refl _) _));exact World.ownsRow_made w.drew cells cap (Nat.le_refl _) h2 h3
end Go.Proofs.YtnmlbflhnnmoeaaGreat
