/- Lemmas of the proof. Conditions: as stated. -/
import Derived.Test.YtnmlbflhnnmoeaaGreatQX40
set_option linter.unusedVariables false
set_option linter.unusedSimpArgs false
set_option maxRecDepth 100000
namespace Go.Proofs.YtnmlbflhnnmoeaaGreat
open Go.RowKit Go.Maps
end Go.Proofs.YtnmlbflhnnmoeaaGreat
namespace Go.Proofs.YtnmlbflhnnmoeaaGreat
open Go.RowKit
noncomputable def cln (s:StoP):StoP:= { s with blobs:=s.blobs.filter (fun b=> @decide (Rch s.blobs (rts s) b.dig) (Classical.propDecidable _)) }
theorem vW {s:StoP} {b:BlobP}:b∈(cln s).blobs↔b∈s.blobs∧Rch s.blobs (rts s) b.dig:=by
 unfold cln;rw [List.mem_filter];exact and_congr_right fun _=> @decide_eq_true_iff _ (Classical.propDecidable _)
section
variable {bl bl':List BlobP} {ds ds':List (List UInt8)}
end
theorem ke {s:StoP} (h:RisesBy (·.dig) s.blobs):RisesBy (·.dig) (cln s).blobs:=List.Pairwise.filter _ h
theorem vy {s:StoP}:∀b∈(cln s).blobs,b∈s.blobs:=fun b hb=>(vW.1 hb).1
theorem ZQ {bl:List BlobP} {p:BlobP→Bool} (h:∀b∈bl,0<b.pins→p b=true):xq (bl.filter p)=xq bl:=by
 unfold xq;rw [List.filter_filter]
 congr 1
 refine List.filter_congr fun b hb=> ?_;by_cases hp:0<b.pins
 ·rw [decide_eq_true hp,h b hb hp];rfl
 ·rw [decide_eq_false hp];rfl
theorem Qq (s:StoP):xq (cln s).blobs=xq s.blobs :=
 ZQ fun b hb hp=> @decide_eq_true _ (Classical.propDecidable _) (.root (Yq hb hp) ⟨b,hb,rfl⟩)
theorem Ji (s:StoP):rts (cln s)=rts s:=by
 show jn s.ents++xq (cln s).blobs=_;rw [Qq];rfl
theorem Zo {s:StoP} {x:List UInt8} (h:Rch s.blobs (rts s) x):InB (cln s).blobs x:=by
 obtain⟨b,hb,rfl⟩:=h.inB;exact⟨b,vW.2 ⟨hb,h⟩,rfl⟩
theorem XL {s:StoP} (hr:RisesBy (·.dig) s.blobs) (x:List UInt8):Rch (cln s).blobs (rts (cln s)) x↔Rch s.blobs (rts s) x:=by
 rw [Ji];exact⟨fun h=>h.sub hr (ke hr) vy (fun _ h=>h),fun h=>h.keepb hr (ke hr) vy (fun _ h=>h) (fun _ h=>Zo h)⟩
theorem uE (p:BlobP→Bool):∀l:List BlobP,usd (l.filter p)≤usd l
 | []=>Nat.le_refl _
 | b::l=>by
  have ih:=uE p l
  cases h:p b with
  | true=>rw [List.filter_cons_of_pos h];unfold usd at *;simp only [List.map_cons,List.sum_cons];omega
  | false=>rw [List.filter_cons_of_neg (by simp [h])];unfold usd at *;simp only [List.map_cons,List.sum_cons];omega
theorem VP (s:StoP):usd (cln s).blobs≤usd s.blobs:=uE _ _
theorem Xn (s:StoP):(cln s).blobs.length≤s.blobs.length:=List.length_filter_le _ _
theorem qp {s:StoP} (h:GoodS s):GoodS (cln s) :=
 ⟨⟨Nat.le_trans (Xn s) h.b.len,fun b hb=>h.b.one b (vy b hb),ke h.b.ris⟩,h.e,h.room,Nat.le_trans (VP s) h.used,h.clock,fun x hx=>⟨(h.ent x hx).1,fun p hp=>by
  obtain⟨b,hb,e1,e2⟩:=(h.ent x hx).2 p hp
  exact⟨b,vW.2 ⟨hb,.root (by rw [e1];exact Q2 hx hp) ⟨b,hb,rfl⟩⟩,e1,e2⟩⟩⟩
end Go.Proofs.YtnmlbflhnnmoeaaGreat
