/- Lemmas, as stated. -/
import Derived.Test.YtcjmjaefcjcomaaGreatQB25
set_option linter.unusedVariables false
set_option linter.unusedSimpArgs false
set_option maxRecDepth 100000
set_option maxHeartbeats 16000000
open Go.Proofs.Tryz
open Go.Proofs.Tryz renaming prog->zZZ
open Go.Value renaming slice->aA,int->aB,string->aD
open Go.IntKind renaming i64->aC
open Go.Obj renaming cells->aE
open Option renaming none->aF,some->aG
namespace Go.Proofs.YtcjmjaefcjcomaaGreat
open Go.RowKit
variable {base c n:Nat} {o q':OrdP} {e:TypeId} {v:Value} {w:World} {l:ai} {A:aj}
structure EncS (w0 W:World) (g gf gb:Nat) (v:Value) (X:ai) (oc fc:ak):Prop where
 A:Arr W g 28 oc
 F:Arr W gf 62 fc
 Q:Arr W gb 25 [v]
 x:W.ownsRow w0.heap.size 5 1 v X.length (bys X)
 B:Below w0.heap.size w0 W
 ne:v.ownBlock≠aG gb
 no:v.ownBlock≠aG g
 nf:v.ownBlock≠aG gf
section
variable {w0 W W':World} {g gf gb:Nat} {v:Value} {X:ai} {oc fc:ak}
theorem EncS.below (h:EncS w0 W g gf gb v X oc fc) (hb:Below W.heap.size W W'):EncS w0 W' g gf gb v X oc fc :=
 ⟨h.A.below hb,h.F.below hb,h.Q.below hb,zc h.x hb,h.B.trans (hb.mono h.B.size),h.ne,h.no,h.nf⟩
theorem EncS.add (h:EncS w0 W g gf gb v X oc fc) (hn:g≠gb/\gf≠gb/\w0.heap.size<=gb) (l:ai) (hl:l.length=n) (h0:0<n) (hr:Rd W 1 A n (bys l)) (hX:X.length+n<=1000000) (E:Int) :
  Calls zZZ 18 #[aA A n c,aB aC E,.pointer (aG ⟨gb,0,aF⟩)] W fun e w'=>e= .returned (.tuple #[])/\∃v',EncS w0 w' g gf gb v' (X++l) oc fc:=by
 refine(z0w A n c l E gb w0.heap.size v X W hl h0 hr h.Q h.x hn.2.2 hX h.ne).mono ?_;rintro e w' ⟨rfl,v',hQ,hx,hne,hb,_,hk⟩;have ho:=hk g h.A.lt hn.1 h.no;have hf:=hk gf h.F.lt hn.2.1 h.nf;exact⟨rfl,v',ho.1.trans h.A,hf.1.trans h.F,hQ,hx,h.B.trans hb,hne,ho.2,hf.2⟩
end
theorem yd {P:Program} {args:Array Value} {R:Ending->World->Prop} (i:FuncId) (h:Calls P i args w R):Calls P i args w R:=h
theorem z3r {b:Nat} {X E:ai} (h:w.ownsRow b e 1 v X.length (bys X)) (hE:X=E):w.ownsRow b e 1 v E.length (bys E):=hE▸h
theorem Qk (o:OrdP) (A A':aj) (c c':Nat) (w:World) (hg:GoodO o) (hc:o.aP.length<=c') (hr:Rd w 3 A' o.aP.length (pcs o.aP)) (hrd:Rd w 1 A o.data.length (bys o.data)) :
  Calls zZZ 5 #[z3q o A c A' c'] w fun e w'=>∃B d,e= .returned (.tuple #[aA B (Ka o).length d,aB aC 0])/\OwnB 5 w.heap.size w' B d (Ka o)/\Below w.heap.size w w':=by
 obtain⟨E,hE⟩:=wY (Ka o)
 have hEl:E.length<=800:=by rw [hE];exact(Qs o hg).2
 rw [<-hE];obtain⟨k,n,dig,data,aP⟩:=o;unfold Ka z3q at *
 dsimp only at *
 have hn1:n<=4000:=hg.n1;have ht1:data.length<=300:=hg.t1;have hp1:chk aP=0:=hg.p1;have hdg:dig= []\/hexC dig=0:=JL hg;obtain⟨⟨fn,fd,ft,fp⟩,hff⟩:∃f,fOf k=(f,true):=⟨(fOf k).1,by
  have:=hg.kind;show fOf k=_;rw [<-show(fOf k).2=true from this]⟩
 have h5:fd=true->hexC dig=0:=fun h=>hg.d1 (by show(fOf k).1.dig=true;rw [hff];exact h);have hk14:1<=k/\k<=14:=Kh hg.kind;rw [hff]at hE;dsimp only at hE;have hsh:(fn=false/\fd=false/\ft=true/\fp=false)\/(fn=false/\fd=true/\ft=false/\fp=false)\/(fn=false/\fd=true/\ft=false/\fp=true)\/(fn=true/\fd=false/\ft=false/\fp=false)\/(fn=false/\fd=false/\ft=false/\fp=false)\/(fn=true/\fd=true/\ft=false/\fp=false):=by
  have hz:=hff;unfold fOf at hz
  repeat' split at hz
  all_goals first | (cases hz;simp;done) | cases hz
 obtain⟨S,hS⟩:=wY (⟨dig.toArray⟩:ByteArray)
 have hdl:S.size<=1000:=by
  rw [hS];rcases hdg with h | h
  ·rw [h];simp [ByteArray.size]
  ·have:=z4t h;simp only [ByteArray.size,List.size_toArray];omega
 obtain⟨HX,HL,HEE⟩:=sqJ3 (fun (h:fd=true) W=>ZF (t:=S) (d:=dig) (by rw [hS]) (h5 h) W wu) (fun (h:fd=true)=>(kf (h5 h)).2) (show ∀X,X=num k++z2n ⟨fn,fd,ft,fp⟩ ⟨k,n,dig,data,aP⟩->X=E from fun X h=>h.trans hE.symm);generalize hdl':data.length=dl at *
 generalize hpl':aP.length=pl at *
 obtain⟨w1,hw1⟩:=wY (w.alloc (aE #[aB aC k,aB aC n,aD S,aA A dl c,aA A' pl c'] 28))
 have hb1:Below w.heap.size w w1:=by rw [hw1];exact(Below.refl _ _).alloc ag _
 have hA1:Arr w1 w.heap.size 28 [aB aC k,aB aC n,aD S,aA A dl c,aA A' pl c']:=by rw [hw1];exact Arr.new w 28 _
 have hck:=Q7 k n dig data aP A c A' c' w1 hg (by rw [hpl'];exact hc) (by rw [hpl'];exact hr.below hb1);unfold orV at hck;rw [hdl',hpl',<-hS]at hck;rw [<-hS];have hof:=fun W=>z0m k W;unfold z0l at hof;rw [hff]at hof;simp only [fcs]at hof;obtain⟨HCK,HOF,HW,HR,HDL,HPL,HC,HCH⟩:=sqJ8 hck hof hw1 (And.intro hr hrd) hdl' hpl' hc hp1;have hl0:=jV k wu;have hl1:=jV n hn1;have hl3:=QK data wu;have hl4:=XC aP hp1;rw [hdl']at hl3;have hll:fd=true->32<=(kr dig).1.length/\(kr dig).1.length<=32:=fun h=>by have:=HL.o h;omega
 clear hE hck hof hff hS hw1 hr hrd hc hg h5 hdg hdl' hpl' hp1;obtain⟨g,hg⟩:=wY w.heap.size
 have HG:=sqH hg;rw [<-hg]at hA1;clear hg;have HT5:=sqH (fun W=>zI W 62 25 [.bool fn,.bool fd,.bool ft,.bool fp] [aA aF 0 0]);rcases hsh with ⟨rfl,rfl,rfl,rfl⟩ | ⟨rfl,rfl,rfl,rfl⟩ | ⟨rfl,rfl,rfl,rfl⟩ | ⟨rfl,rfl,rfl,rfl⟩ | ⟨rfl,rfl,rfl,rfl⟩ | ⟨rfl,rfl,rfl,rfl⟩
 all_goals (
  go_enter func5,ntmps5
  refine wL ?_;intros;rw [<-HW.o];simp only [<-HG.o];refine wZ HCK.o fun w2 hb2=>?_;dsimp only;have hB2:=wm hb1 hb2;have hA2:=hA1.below hb2;have f0:=hA2.c0;clear hA1 hb1 hb2
  refine wL ?_;intros;refine wZ (HOF.o w2) fun w3 hb3=>?_;dsimp only;have hB3:=wm hB2 hb3;have hA3:=hA2.below hb3;clear f0 hA2 hB2 hb3;obtain⟨w5,hw5,hF5,hQ5,hb5⟩:=HT5.o w3;have hA5:=hA3.below hb5;have hwg:=HG.o;have hs3:=hB3.size;have hlt:=hA3.lt;have HGB:=sqH (show g≠w3.heap.size+1/\w3.heap.size≠w3.heap.size+1/\w.heap.size<=w3.heap.size+1 from wu);have hes:EncS w w5 g w3.heap.size (w3.heap.size+1) (aA aF 0 0) [] _ _:=⟨hA5,hF5,hQ5,World.ownsRow_nil _ _ _ _,wm hB3 hb5,by simp [Value.ownBlock],by simp [Value.ownBlock],by simp [Value.ownBlock]⟩
  have fo:=hA5.c0;have HW5:=sqH hw5;clear hA3 hA5 hF5 hQ5 hB3 hb5 hlt hs3 hwg;rw [hw5]at fo;clear hw5
  refine wL ?_;intros;rw [<-HW5.o];clear HW5 fo;have HES:=sqH hes;clear hes;obtain⟨fo0,fo1,fo2,fo3,fo4⟩:=sqC5 HES.o.A;obtain⟨ff0,ff1,ff2,ff3⟩:=sqC4 HES.o.F;have fq:=HES.o.Q.c0;have hcv:=kK (A:=A) (c:=c) underlying25 underlying5 underlying9 HDL.o (HR.o.2.below HES.o.B);refine(kT k k rfl _ wu).mono ?_;rintro e_ w8 ⟨A8,c8,rfl,ho8,hb8⟩;dsimp only;have HE8:=sqH (HES.o.below hb8);have HR8:=sqH ho8.rd;clear fo0 fo1 fo2 fo3 fo4 ff0 ff1 ff2 ff3 fq hcv hb8 ho8 HES;have hpos:=hl0
  refine wL ?_;intros;refine(HE8.o.add HGB.o _ rfl wu HR8.o (by simp only [List.length_append,List.length_nil];omega) 0).mono ?_;rintro e_ w9 ⟨rfl,v9,hes⟩;dsimp only;have HES:=sqH hes;clear hes HE8 HR8;obtain⟨fo0,fo1,fo2,fo3,fo4⟩:=sqC5 HES.o.A;obtain⟨ff0,ff1,ff2,ff3⟩:=sqC4 HES.o.F;have fq:=HES.o.Q.c0;have hcv:=kK (A:=A) (c:=c) underlying25 underlying5 underlying9 HDL.o (HR.o.2.below HES.o.B)
  refine wL ?_;intros;first
  | (
    with_reducible refine yd 19 ?_
    refine(kT n n rfl _ wu).mono ?_;rintro e_ w8 ⟨A8,c8,rfl,ho8,hb8⟩;dsimp only;have HE8:=sqH (HES.o.below hb8);have HR8:=sqH ho8.rd;clear fo0 fo1 fo2 fo3 fo4 ff0 ff1 ff2 ff3 fq hcv hb8 ho8 HES;have hpos:=hl1
    refine wL ?_;intros;refine(HE8.o.add HGB.o _ rfl wu HR8.o (by simp only [List.length_append,List.length_nil];omega) 0).mono ?_;rintro e_ w9 ⟨rfl,v9,hes⟩;dsimp only;have HES:=sqH hes;clear hes HE8 HR8;obtain⟨fo0,fo1,fo2,fo3,fo4⟩:=sqC5 HES.o.A;obtain⟨ff0,ff1,ff2,ff3⟩:=sqC4 HES.o.F;have fq:=HES.o.Q.c0;have hcv:=kK (A:=A) (c:=c) underlying25 underlying5 underlying9 HDL.o (HR.o.2.below HES.o.B)
    refine wL ?_;intros;skip)
  | skip
  first
  | (
    with_reducible refine yd 20 ?_
    refine(HX.o rfl _).mono ?_;rintro e_ w8 ⟨A8,c8,rfl,ho8,hb8⟩;dsimp only;have HE8:=sqH (HES.o.below hb8);have HR8:=sqH ho8.rd;clear fo0 fo1 fo2 fo3 fo4 ff0 ff1 ff2 ff3 fq hcv hb8 ho8 HES;have hpos:=(hll rfl)
    refine wL ?_;intros;refine(HE8.o.add HGB.o _ rfl wu HR8.o (by simp only [List.length_append,List.length_nil];omega) 0).mono ?_;rintro e_ w9 ⟨rfl,v9,hes⟩;dsimp only;have HES:=sqH hes;clear hes HE8 HR8;obtain⟨fo0,fo1,fo2,fo3,fo4⟩:=sqC5 HES.o.A;obtain⟨ff0,ff1,ff2,ff3⟩:=sqC4 HES.o.F;have fq:=HES.o.Q.c0;have hcv:=kK (A:=A) (c:=c) underlying25 underlying5 underlying9 HDL.o (HR.o.2.below HES.o.B)
    refine wL ?_;intros;skip)
  | skip
  first
  | (
    with_reducible refine yd 21 ?_
    refine(KF ⟨data.toArray⟩ _ (by have:=HDL.o;simp [ByteArray.size];omega)).mono ?_;rw [show(⟨data.toArray⟩:ByteArray).data.toList=data from rfl];rintro e_ w8 ⟨A8,c8,rfl,ho8,hb8⟩;dsimp only;have HE8:=sqH (HES.o.below hb8);have HR8:=sqH ho8.rd;clear fo0 fo1 fo2 fo3 fo4 ff0 ff1 ff2 ff3 fq hcv hb8 ho8 HES;have hpos:=hl3
    refine wL ?_;intros;refine(HE8.o.add HGB.o _ rfl wu HR8.o (by simp only [List.length_append,List.length_nil];omega) 0).mono ?_;rintro e_ w9 ⟨rfl,v9,hes⟩;dsimp only;have HES:=sqH hes;clear hes HE8 HR8;obtain⟨fo0,fo1,fo2,fo3,fo4⟩:=sqC5 HES.o.A;obtain⟨ff0,ff1,ff2,ff3⟩:=sqC4 HES.o.F;have fq:=HES.o.Q.c0;have hcv:=kK (A:=A) (c:=c) underlying25 underlying5 underlying9 HDL.o (HR.o.2.below HES.o.B)
    refine wL ?_;intros;skip)
  | skip
  first
  | (
    with_reducible refine yd 22 ?_
    refine(YJ A' pl c' aP _ HPL.o HC.o (HR.o.1.below HES.o.B) HCH.o).mono ?_;rintro e_ w8 ⟨A8,c8,rfl,ho8,hb8⟩;dsimp only;have HE8:=sqH (HES.o.below hb8);have HR8:=sqH ho8.rd;clear fo0 fo1 fo2 fo3 fo4 ff0 ff1 ff2 ff3 fq hcv hb8 ho8 HES;have hpos:=hl4
    refine wL ?_;intros;refine(HE8.o.add HGB.o _ rfl wu HR8.o (by simp only [List.length_append,List.length_nil];omega) 0).mono ?_;rintro e_ w9 ⟨rfl,v9,hes⟩;dsimp only;have HES:=sqH hes;clear hes HE8 HR8;obtain⟨fo0,fo1,fo2,fo3,fo4⟩:=sqC5 HES.o.A;obtain⟨ff0,ff1,ff2,ff3⟩:=sqC4 HES.o.F;have fq:=HES.o.Q.c0;have hcv:=kK (A:=A) (c:=c) underlying25 underlying5 underlying9 HDL.o (HR.o.2.below HES.o.B)
    refine wL ?_;intros;skip)
  | skip
  clear fo0 fo1 fo2 fo3 fo4 ff0 ff1 ff2 ff3 fq hcv;obtain⟨Az,cz,hvz,hcz,hrz⟩:=Rd.of_own' (z3r HES.o.x (HEE.o _ (by simp [z2n])));subst hvz;have hB:=HES.o.B;clear HES;refine(kv Az _ cz E _ rfl hcz wu hrz).mono ?_;rintro e_ w12 ⟨v12,rfl,ho12,hb12⟩;dsimp only;obtain⟨Ay,cy,rfl,hoy⟩:=OwnB.of rfl ho12
  refine wL ?_;intros;go_ret2;exact⟨Ay,cy,rfl,hoy.lower hB.size,wm hB hb12⟩)
def z4r (w:World) (o:OrdP):Ending->World->Prop:=fun e w'=>∃A c A' c',e= .returned (.tuple #[z3q o A c A' c',aB aC 0])/\Sl w' 1 A o.data.length c (bys o.data)/\Sl w' 3 A' o.aP.length c' (pcs o.aP)/\(∀a,A=aG a->w.heap.size<=a.block)/\(∀a,A'=aG a->w.heap.size<=a.block)/\Below w.heap.size w w'
theorem j0 {e:Nat} (hz:yU l=(o,0)) (h:yU l=noO e):e=0:=(congrArg Prod.snd (hz.symm.trans h)).symm
theorem qO {r:ai} {q:OrdP} (hz:yU l=(o,0)) (h:yU l=yV q r):r= []/\o=q:=by
 have h:=hz.symm.trans h;unfold yV at h;split at h
 ·exact absurd (show(0:Nat)=3 from congrArg Prod.snd h) aa
 ·rename_i h0;split at h
  ·rename_i h1;exact absurd (congrArg Prod.snd h).symm h1
  ·exact⟨List.length_eq_zero_iff.1 wu,congrArg Prod.fst h⟩
theorem Sl.put5G {s g:Nat} {xs:ak} (h:Sl w s A n c xs) (hne:∀a,A=aG a->a.block≠g) (u0 u1 u2 u3 u4:Value):Sl (put5 w g u0 u1 u2 u3 u4) s A n c xs :=
 ((((h.other hne u0).other hne u1).other hne u2).other hne u3).other hne u4
section
variable {l r:ai} {q o:OrdP} {f:FldP} (hz:yU l=(o,0))
include hz
theorem z5v (h:yU l=Xv f q r) (hf:f.n=true):(zm r).2.2=0/\yU l=uI f { q with n:=(zm r).1 } (zm r).2.1:=by
 rw [Xv,if_pos hf]at h;by_cases h0:(zm r).2.2=0
 ·rw [if_neg (by simpa using h0)]at h;exact⟨h0,h⟩
 ·rw [if_pos h0]at h;exact absurd (j0 hz h) h0
theorem z4u (h:yU l=uI f q r) (hf:f.dig=true):¬r.length<32/\yU l=Zv f { q with dig:=kH (r.take 32) } (r.drop 32):=by
 rw [uI,if_pos hf]at h;by_cases h0:r.length<32
 ·rw [if_pos h0]at h;exact absurd (j0 hz h) aa
 ·rw [if_neg h0]at h;exact⟨h0,h⟩
theorem z5z (h:yU l=Zv f q r) (hf:f.data=true):(kM r).2.2=0/\yU l=Zw f { q with data:=(kM r).1 } (kM r).2.1:=by
 rw [Zv,if_pos hf]at h;by_cases h0:(kM r).2.2=0
 ·rw [if_neg (by simpa using h0)]at h;exact⟨h0,h⟩
 ·rw [if_pos h0]at h;exact absurd (j0 hz h) h0
theorem z5x (h:yU l=Zw f q r) (hf:f.aP=true):(qU r).2=0/\yU l=yV { q with aP:=(qU r).1 } []:=by
 rw [Zw,if_pos hf]at h;by_cases h0:(qU r).2=0
 ·rw [if_neg (by simpa using h0)]at h;exact⟨h0,h⟩
 ·rw [if_pos h0]at h;exact absurd (j0 hz h) h0
end
theorem OwnB.maxc (h:OwnB e base w A c l):c<=maxLen:=by
 rcases h.own.2 with ⟨h1,h2⟩ | ⟨_,cap,_,h1,_,_,_,h2,_⟩
 ·injection h1 with _ _ h3;subst h3;exact Nat.zero_le _
 ·injection h1 with _ _ h3;subst h3;exact h2
structure DecS (w0 W:World) (g gf go:Nat) (fc:ak) (q:OrdP) (DA:aj) (dc:Nat) (PA:aj) (pc:Nat) (R:ai) (A:aj) (c:Nat):Prop where
 G:Arr W g 28 [aB aC 0,aB aC 0,aD ⟨#[]⟩,aA aF 0 0,aA aF 0 0]
 F:Arr W gf 62 fc
 O:Arr W go 28 (ocell q DA dc PA pc)
 B:Below w0.heap.size w0 W
 rd:Rd W 1 A R.length (bys R)
 cap:R.length<=c
 max:c<=maxLen
 sm:R.length<=800
 ne:∀b off,A=aG ⟨b,off,aF⟩->0<R.length->b≠go
 D:Sl W 1 DA q.data.length dc (bys q.data)
 P:Sl W 3 PA q.aP.length pc (pcs q.aP)
 Df:∀a,DA=aG a->w0.heap.size<=a.block/\a.block≠go/\a.block≠g
 Pf:∀a,PA=aG a->w0.heap.size<=a.block/\a.block≠go/\a.block≠g
section
variable {w0 W W':World} {g gf go:Nat} {fc:ak} {q:OrdP} {DA:aj} {dc:Nat} {PA:aj} {pc:Nat} {R:ai} {A:aj} {c:Nat}
theorem DecS.below (h:DecS w0 W g gf go fc q DA dc PA pc R A c) (hb:Below W.heap.size W W'):DecS w0 W' g gf go fc q DA dc PA pc R A c :=
 ⟨h.G.below hb,h.F.below hb,h.O.below hb,h.B.trans (hb.mono h.B.size),h.rd.below hb,h.cap,h.max,h.sm,h.ne,h.D.below hb,h.P.below hb,h.Df,h.Pf⟩
theorem DecS.own (h:DecS w0 W g gf go fc q DA dc PA pc R A c) {R':ai} {A':aj} {c':Nat} (ho:OwnB 5 W.heap.size W' A' c' R') (hb:Below W.heap.size W W') (hs:R'.length<=R.length):DecS w0 W' g gf go fc q DA dc PA pc R' A' c' :=
 ⟨h.G.below hb,h.F.below hb,h.O.below hb,h.B.trans (hb.mono h.B.size),ho.rd,ho.cap,ho.maxc,Nat.le_trans hs h.sm,fun b off e _=>by subst e;have:=(ho.own.lt b rfl).1;have:=h.O.lt;omega,h.D.below hb,h.P.below hb,h.Df,h.Pf⟩
theorem DecS.set (h:DecS w0 W g gf go fc q DA dc PA pc R A c) (hn:g≠go/\gf≠go/\w0.heap.size<=go/\w0.heap.size<=g) (k:Nat) (hk:k<5) (u:Value) {DA':aj} {dc':Nat} {PA':aj} {pc':Nat} (he:(ocell q DA dc PA pc).set k u=ocell q' DA' dc' PA' pc') (hD:Sl W 1 DA' q'.data.length dc' (bys q'.data)) (hP:Sl W 3 PA' q'.aP.length pc' (pcs q'.aP))
  (hDf:∀a,DA'=aG a->w0.heap.size<=a.block/\a.block≠go/\a.block≠g) (hPf:∀a,PA'=aG a->w0.heap.size<=a.block/\a.block≠go/\a.block≠g):DecS w0 (W.setCell ⟨go,k,aF⟩ u) g gf go fc q' DA' dc' PA' pc' R A c :=
 ⟨(Below.heap_setCell W ⟨go,k,aF⟩ u g hn.1).trans h.G,(Below.heap_setCell W ⟨go,k,aF⟩ u gf hn.2.1).trans h.F,by rw [<-he];exact h.O.set (k:=k) (by simpa [ocell] using hk) u,Below.setCell h.B hn.2.2.1 _,h.rd.far (zF W go k u) h.ne,h.cap,h.max,h.sm,h.ne,hD.other (fun a e=>(hDf a e).2.1) u,hP.other (fun a e=>(hPf a e).2.1) u,hDf,hPf⟩
theorem DecS.same (h:DecS w0 W g gf go fc q DA dc PA pc R A c) (hn:g≠go/\gf≠go/\w0.heap.size<=go/\w0.heap.size<=g) (k:Nat) (hk:k<5) (u:Value) (he:(ocell q DA dc PA pc).set k u=ocell q' DA dc PA pc) (h1:q'.data=q.data) (h2:q'.aP=q.aP):DecS w0 (W.setCell ⟨go,k,aF⟩ u) g gf go fc q' DA dc PA pc R A c :=
 h.set hn k hk u he (by rw [h1];exact h.D) (by rw [h2];exact h.P) h.Df h.Pf
theorem DecS.cut (h:DecS w0 W g gf go fc q DA dc PA pc R A c) (h32:32<=R.length):DecS w0 W g gf go fc q DA dc PA pc (R.drop 32) (if c=32 then A else A.map (fun x=>⟨x.block,x.off+32,aF⟩)) (c - 32):=by
 have hl:(R.drop 32).length=R.length - 32:=List.length_drop;have r2:=h.rd.cut (k:=32) (cap:=c) wu h.cap;rw [Nat.mul_one,yM,<-hl]at r2;refine⟨h.G,h.F,h.O,h.B,r2,by have:=h.cap;omega,by have:=h.max;omega,by have:=h.sm;omega,fun b off e' h0=> ?_,h.D,h.P,h.Df,h.Pf⟩;obtain⟨b2,o2,e2,_⟩:=h.rd.2 (show 0<R.length by omega);have hb:=h.ne b2 o2 e2 wu;rw [e2]at e';split at e'
 ·cases e';exact hb
 ·simp only [Option.map_some,Option.some.injEq]at e';have:=congrArg Addr.block e';dsimp only at this;have hbb:b=b2:=this.symm;rw [hbb];exact hb
end
theorem Qj (o:OrdP) (A:aj) (n c:Nat) (w:World) (hgo:GoodO o) (hl:(Ka o).length=n) (hc:n<=c) (hcm:c<=maxLen) (hr:Rd w 1 A n (bys (Ka o))) :
  Calls zZZ 6 #[aA A n c] w (z4r w o):=by
 have hz:=UM o hgo;have hle:=(Qs o hgo).2;unfold z4r;generalize Ka o=l at *
 have hrl:=ki l 0 0;rw [<-zm]at hrl;obtain⟨m,rest,er,hrd⟩:∃m rest er,zm l=(m,rest,er):=⟨_,_,_,rfl⟩
 have hrs:yU l=yU l:=rfl
 conv at hrs=>rhs;unfold yU
 rw [hrd]at hrs hrl;dsimp only at hrs hrl;by_cases he:er=0
 rotate_left
 ·rw [if_pos he]at hrs;exact absurd (j0 hz hrs) he
 subst he;rw [if_neg ab]at hrs;cases hk:(fOf m).2 with
 | false=>rw [UR hk,if_pos rfl]at hrs;exact absurd (j0 hz hrs) aa
 | true =>
 obtain⟨⟨fn,fd,ft,fp⟩,hff⟩:∃f,fOf m=(f,true):=⟨(fOf m).1,by rw [<-hk]⟩
 rw [hff,if_neg ab]at hrs;dsimp only at hrs;have hsh:(fn=false/\fd=false/\ft=true/\fp=false)\/(fn=false/\fd=true/\ft=false/\fp=false)\/(fn=false/\fd=true/\ft=false/\fp=true)\/(fn=true/\fd=false/\ft=false/\fp=false)\/(fn=false/\fd=false/\ft=false/\fp=false)\/(fn=true/\fd=true/\ft=false/\fp=false):=by
  have hz:=hff;unfold fOf at hz
  repeat' split at hz
  all_goals first | (cases hz;simp;done) | cases hz
 obtain⟨bp,hbp⟩:=wY fp
 have HBP:=sqH hbp;clear hbp;obtain⟨nn,dg,D,ps,DA,dc,PA,pc,hq0⟩:∃(nn:Nat) (dg D:ai) (ps:List PartP) (DA:aj) (dc:Nat) (PA:aj) (pc:Nat),nn=0/\dg= []/\D= []/\ps= []/\DA=aF/\dc=0/\PA=aF/\pc=0:=⟨_,_,_,_,_,_,_,_,rfl,rfl,rfl,rfl,rfl,rfl,rfl,rfl⟩
 obtain⟨HRS,HQ0,HZ,HGO,HT5⟩:=sqJ5 (show yU l=Xv ⟨fn,fd,ft,fp⟩ ⟨m,nn,dg,D,ps⟩ rest from by obtain⟨rfl,rfl,rfl,rfl,_⟩:=hq0;exact hrs) hq0 hz hgo (fun W=>zI W 62 28 [.bool fn,.bool fd,.bool ft,.bool fp] [aB aC m,aB aC 0,aD ⟨#[]⟩,aA aF 0 0,aA aF 0 0]);have hof:=fun W=>z0m m W;unfold z0l at hof;rw [hff]at hof;simp only [fcs]at hof;have HOF:=sqH hof;obtain⟨w1,hw1⟩:=wY (w.alloc (aE #[aB aC 0,aB aC 0,aD ⟨#[]⟩,aA aF 0 0,aA aF 0 0] 28))
 have hb1:Below w.heap.size w w1:=by rw [hw1];exact(Below.refl _ _).alloc ag _
 have hA1:Arr w1 w.heap.size 28 [aB aC 0,aB aC 0,aD ⟨#[]⟩,aA aF 0 0,aA aF 0 0]:=by rw [hw1];exact Arr.new w 28 _
 have HRN:=sqH (qM 0 rfl hrd hl hc wu (hr.below hb1));have HRL:=sqH (show rest.length<=800 by omega);obtain⟨g,hg⟩:=wY w.heap.size
 have HG:=sqH hg;have HW1:=sqH hw1;rw [<-hg]at hA1;clear hrs hq0 hz hgo hof hff hk hw1 hrd hl hc hcm hr hg hrl hle;rcases hsh with ⟨rfl,rfl,rfl,rfl⟩ | ⟨rfl,rfl,rfl,rfl⟩ | ⟨rfl,rfl,rfl,rfl⟩ | ⟨rfl,rfl,rfl,rfl⟩ | ⟨rfl,rfl,rfl,rfl⟩ | ⟨rfl,rfl,rfl,rfl⟩
 all_goals (
  go_enter func6,ntmps6
  refine wL ?_;intros;rw [<-HW1.o];simp only [<-HG.o];refine HRN.o.mono ?_;rintro e_ w2 ⟨A2,c2,rfl,ho2,hb2⟩;dsimp only;have hB2:=wm hb1 hb2;have hA2:=hA1.below hb2;have hlt:=hA1.lt;have hs2:=hb2.size;clear hA1 hb1
  refine wL ?_;intros;refine wZ (HOF.o w2) fun w3 hb3=>?_;dsimp only;obtain⟨w5,hw5,hF5,hO5,hb5⟩:=HT5.o w3;have hb35:=wm hb3 hb5;have hs3:=hb3.size;have hwg:=HG.o;have HGB:=sqH (show g≠w3.heap.size+1/\w3.heap.size≠w3.heap.size+1/\w.heap.size<=w3.heap.size+1/\w.heap.size<=g from wu);have hds:=(show ∀fc,Arr w5 w3.heap.size 62 fc->DecS w w5 g w3.heap.size (w3.heap.size+1) fc ⟨m,nn,dg,D,ps⟩ DA dc PA pc rest A2 c2 from fun fc hF=>by
   obtain⟨rfl,rfl,rfl,rfl,rfl,rfl,rfl,rfl⟩:=HQ0.o;exact⟨hA2.below hb35,hF,hO5,wm hB2 hb35,ho2.rd.below hb35,ho2.cap,ho2.maxc,HRL.o,fun b off e h0=>by
    subst e;have:=(ho2.own.lt b rfl).2;omega,Sl.nil_ _ _,Sl.nil_ _ _,nofun,nofun⟩) _ hF5
  have HDS:=sqH hds;have HW5:=sqH hw5;have hO:Arr _ (w3.heap.size+1) 28 [aB aC m,aB aC nn,aD ⟨dg.toArray⟩,aA DA D.length dc,aA PA ps.length pc]:=hds.O;obtain⟨f0,f1,f2,f3,f4⟩:=sqC5 hO;obtain⟨ff0,ff1,ff2,ff3⟩:=sqC4 hds.F;rw [hw5]at f0 f1 f2 f3 f4 ff0 ff1 ff2 ff3;clear hds hw5 hF5 hO5 hb5 hb35 hb3 hb2 hA2 hB2 ho2 hlt hs2 hs3 hwg HQ0 hO
  first
  | have e5:decide ((rest.length:Int)<32)=false:=decide_eq_false (by have:=(z4u HZ.o (show yU l=uI ⟨_,true,_,_⟩ _ rest from HRS.o) rfl).1;omega)
  | (
    have e6:decide ((0:Int)<(rest.length:Int))=false:=by rw [(qO HZ.o (show yU l=yV _ rest from HRS.o)).1];rfl
    have e6':decide (0<rest.length)=false:=by rw [(qO HZ.o (show yU l=yV _ rest from HRS.o)).1];rfl)
  | skip
  refine wL ?_;intros;rw [<-HW5.o];clear HW5 HOF HRN HRL HT5 HW1 HG;clear f0 f1 f2 f3 f4 ff0 ff1 ff2 ff3;generalize w3.heap.size=gf at *
  generalize gf+1=go at *
  first
  | (
    with_reducible refine yd 25 ?_
    obtain⟨hn1,hn2⟩:=z5v HZ.o HRS.o rfl;have hrl:=ki rest 0 0;rw [<-zm]at hrl;obtain⟨nn,r1,er,hrd1⟩:∃nn r1 er,zm rest=(nn,r1,er):=⟨_,_,_,rfl⟩
    rw [hrd1]at hn1 hn2 hrl;dsimp only at hn1 hn2 hrl;subst hn1;clear HRS;have HRS:=sqH hn2;refine(qM 0 rfl hrd1 rfl HDS.o.cap (by have:=HDS.o.sm;omega) HDS.o.rd).mono ?_;rintro e_ w6 ⟨A2,c2,rfl,ho6,hb6⟩;dsimp only;have hds6:=HDS.o.own ho6 hb6 hrl;clear HDS;have HDS:=sqH (hds6.same HGB.o 1 aa (aB aC nn) (q':=⟨m,nn,dg,D,ps⟩) rfl rfl rfl);have z1:=hds6.O.frozen 1;have y1:w6.cell? ⟨go,1,aF⟩=_:=hds6.O.c1;clear hds6 ho6 hb6 hrl hrd1 hn2;generalize r1=rest at *
    have hO:Arr _ go 28 [aB aC m,aB aC nn,aD ⟨dg.toArray⟩,aA DA D.length dc,aA PA ps.length pc]:=HDS.o.O;obtain⟨f0,f1,f2,f3,f4⟩:=sqC5 hO;obtain⟨ff0,ff1,ff2,ff3⟩:=sqC4 HDS.o.F;clear hO
    first
    | have e5:decide ((rest.length:Int)<32)=false:=decide_eq_false (by have:=(z4u HZ.o (show yU l=uI ⟨_,true,_,_⟩ _ rest from HRS.o) rfl).1;omega)
    | (
     have e6:decide ((0:Int)<(rest.length:Int))=false:=by rw [(qO HZ.o (show yU l=yV _ rest from HRS.o)).1];rfl
     have e6':decide (0<rest.length)=false:=by rw [(qO HZ.o (show yU l=yV _ rest from HRS.o)).1];rfl)
    | skip
    refine wL ?_;intros;clear f0 f1 f2 f3 f4 ff0 ff1 ff2 ff3;clear z1 y1;generalize w6.setCell ⟨go,1,aF⟩ (aB aC nn)=w5 at *)
  | skip
  first
  | (
    refine wp_region_held_drew (S:=(fun w'=>True)) ww ?_ (fun hHeld=> ?_)
    · trivial
    obtain⟨h32',hn2⟩:=z4u HZ.o (show yU l=uI ⟨_,true,_,_⟩ _ rest from HRS.o) rfl;have h32:32<=rest.length:=wu;have hcp:=HDS.o.cap;have hmx:=HDS.o.max;have hle:(32:Int)<=(c2:Int):=wu;have hle2:(32:Int)<=(rest.length:Int):=wu;have hcm:(c2:Int)<=9223372036854775807:=by unfold maxLen at hmx;omega
    have r1_:=HDS.o.rd.pre (k:=32) wu;rw [Nat.mul_one,jJ]at r1_;obtain⟨HR1,HTL,HLE,HCT⟩:=sqJ4 r1_ (show(rest.take 32).length=32 from by rw [List.length_take];omega) (show 32<=c2 from wu) (HDS.o.cut h32);clear HRS;have HRS:=sqH hn2;clear r1_ hcp hmx h32' h32 hn2;have hB:=(Below.refl w5.heap.size w5).drew;generalize w5.drew=wn0 at *
    refine wQ 0 ?_;refine wQ 1 ?_;refine wQ 3 ?_;refine wQ 4 ?_;refine wpAnyH_ready (rs:= [2]) ww ab ?_;refine AllReadyH.cons (o:=_) rfl (fun K hK=> ?_) AllReadyH.nil;go_simp;refine(Qo A2 32 c2 (rest.take 32) wn0 HTL.o wu HLE.o (HR1.o.below hB)).mono ?_;rintro e9 w9 ⟨rfl,hb9⟩;dsimp only;refine kn hK trivial (Below wn0.heap.size wn0) (fun W=>True) hb9 trivial (fun wn1 hHeld hst hnew=> ?_);have hB:=wm hB hst;clear hst;clear hK K
    refine wQ 5 ?_;refine wpAnyH_ready (rs:= [6]) ww ab ?_;refine AllReadyH.cons (o:=_) rfl (fun K hK=> ?_) AllReadyH.nil;have z2:=(HDS.o.below hB).O.frozen 2;have y2:wn1.cell? ⟨go,2,aF⟩=_:=(HDS.o.below hB).O.c2;go_simp;clear z2 y2;have hds:=(HCT.o.below hB).same HGB.o 2 aa (aD ⟨(kH (rest.take 32)).toArray⟩) (q':=⟨m,nn,kH (rest.take 32),D,ps⟩) rfl rfl rfl;refine kn hK trivial (fun W=>DecS w W g gf go _ _ DA dc PA pc _ _ _) (fun W=>True) hds trivial (fun w5 hHeld hds hG=> ?_);clear hB hG hK K
    refine wQ 7 ?_;refine wpAnyH_done ww ?_ _;dsimp only [Exit.then];rw [show rest.length - 32=(rest.drop 32).length from List.length_drop.symm];clear HDS;have HDS:=sqH hds;clear hHeld HR1 HTL HLE HCT hle hle2 hcm hds
    try clear e5
    generalize kH (rest.take 32)=dg at *
    generalize rest.drop 32=rest at *
    generalize (if c2=32 then A2 else A2.map (fun x=>⟨x.block,x.off+32,aF⟩))=A2 at *
    generalize c2 - 32=c2 at *
    have hO:Arr _ go 28 [aB aC m,aB aC nn,aD ⟨dg.toArray⟩,aA DA D.length dc,aA PA ps.length pc]:=HDS.o.O;obtain⟨f0,f1,f2,f3,f4⟩:=sqC5 hO;obtain⟨ff0,ff1,ff2,ff3⟩:=sqC4 HDS.o.F;clear hO
    first
    | (
     have hb_:bp=false:=HBP.o;have e6:decide ((0:Int)<(rest.length:Int))=false:=by rw [(qO HZ.o (show yU l=yV _ rest from HRS.o)).1];rfl
     have e6':decide (0<rest.length)=false:=by rw [(qO HZ.o (show yU l=yV _ rest from HRS.o)).1];rfl)
    | skip
    refine wL ?_;intros;clear f0 f1 f2 f3 f4 ff0 ff1 ff2 ff3
    skip)
  | skip
  first
  | (
    with_reducible refine yd 27 ?_
    obtain⟨hn1,hn2⟩:=z5z HZ.o (show yU l=Zv ⟨false,false,true,false⟩ ⟨m,nn,dg,D,ps⟩ rest from HRS.o) rfl;have hrl:=vj rest;have htl:(kM rest).1.length<=rest.length:=by
     have h:=Q2 rest 0;rw [Z6,if_neg aa]at h;exact h
    obtain⟨t,r1,er,hrd1⟩:∃t r1 er,kM rest=(t,r1,er):=⟨_,_,_,rfl⟩
    rw [hrd1]at hn1 hn2 hrl htl;dsimp only at hn1 hn2 hrl htl;subst hn1;clear HRS;have HRS:=sqH hn2;have HTL:=sqH (show t.length<=800 from Nat.le_trans htl HDS.o.sm);refine(vT 0 rfl hrd1 rfl HDS.o.cap (by have:=HDS.o.sm;omega) HDS.o.rd).mono ?_;rintro e_ w6 ⟨A2,c2,rfl,ho6,hb6⟩;dsimp only;have hds6:=HDS.o.own ho6 hb6 hrl;clear ho6 hb6 hrl hrd1 hn2 htl HDS;obtain⟨w7,hcv,hoz,hb7⟩:=JI ⟨t.toArray⟩ w6 (by have:=HTL.o;simp [ByteArray.size,maxLen];omega);rw [show(⟨t.toArray⟩:ByteArray).data.toList=t from rfl]at hcv hoz;have hsl:=hoz.sl.1;have hds7:=hds6.below hb7;have hgo6:=hds6.O.lt;have hg6:=hds6.G.lt;have hB6:=hds6.B.size;clear hds6 hoz hb7;generalize grownCap w6 (⟨t.toArray⟩:ByteArray).size 0 5=cz at *
    generalize w6.heap.size=gz at *
    have HDS:=sqH (hds7.set HGB.o 3 aa (aA (aG ⟨gz,0,aF⟩) t.length cz) (q':=⟨m,nn,dg,t,ps⟩) (DA':=aG ⟨gz,0,aF⟩) (dc':=cz) (PA':=PA) (pc':=pc) rfl hsl hds7.P (fun a e=>by cases e;exact⟨by show w.heap.size<=gz;omega,by show gz≠go;omega,by show gz≠g;omega⟩) hds7.Pf);have z3:=hds7.O.frozen 3;have y3:w7.cell? ⟨go,3,aF⟩=_:=hds7.O.c3;clear hsl hds7 hgo6 hg6 hB6;generalize aG (Addr.mk gz 0 aF)=DA at *
    generalize cz=dc at *
    generalize r1=rest at *
    generalize t=D at *
    have hO:Arr _ go 28 [aB aC m,aB aC nn,aD ⟨dg.toArray⟩,aA DA D.length dc,aA PA ps.length pc]:=HDS.o.O;obtain⟨f0,f1,f2,f3,f4⟩:=sqC5 hO;obtain⟨ff0,ff1,ff2,ff3⟩:=sqC4 HDS.o.F;clear hO
    first
    | (
     have hb_:bp=false:=HBP.o;have e6:decide ((0:Int)<(rest.length:Int))=false:=by rw [(qO HZ.o (show yU l=yV _ rest from HRS.o)).1];rfl
     have e6':decide (0<rest.length)=false:=by rw [(qO HZ.o (show yU l=yV _ rest from HRS.o)).1];rfl)
    | skip
    refine wL ?_;intros;clear f0 f1 f2 f3 f4 ff0 ff1 ff2 ff3;clear z3 y3 hcv;generalize w7.setCell ⟨go,3,aF⟩ (aA DA D.length dc)=w5 at *)
  | skip
  first
  | (
    with_reducible refine yd 28 ?_
    obtain⟨hn1,hn2⟩:=z5x HZ.o (show yU l=Zw ⟨false,true,false,true⟩ ⟨m,nn,dg,D,ps⟩ rest from HRS.o) rfl;obtain⟨x,e2,hdl⟩:∃x e2,qU rest=(x,e2):=⟨_,_,rfl⟩
    have hD0:=Ze A2 rest.length c2 rest w5 rfl HDS.o.cap HDS.o.max HDS.o.rd;rw [hdl]at hn1 hn2 hD0;dsimp only at hn1 hn2 hD0;subst hn1;have HRS:=sqH hn2;refine hD0.mono ?_;rintro e_ w8 ⟨v8,rfl,ho8,hb8⟩;dsimp only;obtain⟨A8,c8,rfl,hsl,hge⟩:=Sl.of_own ho8;have hds8:=HDS.o.below hb8;have hgo8:=HDS.o.O.lt;have hg8:=HDS.o.G.lt;have hB8:=HDS.o.B.size;clear HDS;have HDS:=sqH (hds8.set HGB.o 4 aa (aA A8 x.length c8) (q':=⟨m,nn,dg,D,x⟩) (DA':=DA) (dc':=dc) (PA':=A8) (pc':=c8) rfl hds8.D hsl hds8.Df (fun a e=>by have:=hge a e;exact⟨wu,wu,wu⟩));have z4:=hds8.O.frozen 4;have y4:w8.cell? ⟨go,4,aF⟩=_:=hds8.O.c4;clear hsl hge hds8 hgo8 hg8 hB8 ho8 hb8 hD0 hdl hn2;generalize A8=PA at *
    generalize c8=pc at *
    generalize x=ps at *
    have hO:Arr _ go 28 [aB aC m,aB aC nn,aD ⟨dg.toArray⟩,aA DA D.length dc,aA PA ps.length pc]:=HDS.o.O;obtain⟨f0,f1,f2,f3,f4⟩:=sqC5 hO;obtain⟨ff0,ff1,ff2,ff3⟩:=sqC4 HDS.o.F;clear hO
    refine wL ?_;intros;clear f0 f1 f2 f3 f4 ff0 ff1 ff2 ff3;clear z4 y4;generalize w8.setCell ⟨go,4,aF⟩ (aA PA ps.length pc)=w5 at *)
  | skip
  have hq:=(qO HZ.o (show yU l=yV ⟨m,nn,dg,D,ps⟩ _ from HRS.o)).2;have HQ:=sqH hq;refine wZ (Q7 m nn dg D ps DA dc PA pc w5 (by rw [<-hq];exact HGO.o) HDS.o.P.cap HDS.o.P.rd) fun wb hbb=>?_;dsimp only;have hds:=HDS.o.below hbb;clear HDS hbb hq HRS;have HDS:=sqH hds;have hA9:=hds.G.put5 (aB aC m) (aB aC nn) (aD ⟨dg.toArray⟩) (aA DA D.length dc) (aA PA ps.length pc);have hB9:=Below.put5 hds.B HGB.o.2.2.2 (aB aC m) (aB aC nn) (aD ⟨dg.toArray⟩) (aA DA D.length dc) (aA PA ps.length pc);obtain⟨z0,z1,z2,z3,z4,⟨_,y0⟩,⟨_,y1⟩,⟨_,y2⟩,⟨_,y3⟩,⟨_,y4⟩⟩:=hds.G.five (aB aC m) (aB aC nn) (aD ⟨dg.toArray⟩) (aA DA D.length dc) (aA PA ps.length pc);clear hds;have hO:Arr _ go 28 [aB aC m,aB aC nn,aD ⟨dg.toArray⟩,aA DA D.length dc,aA PA ps.length pc]:=HDS.o.O;obtain⟨f0,f1,f2,f3,f4⟩:=sqC5 hO;obtain⟨ff0,ff1,ff2,ff3⟩:=sqC4 HDS.o.F;clear hO
  refine wL ?_;intros;refine bodyPost_ret (yp rfl _ _ g _ _ _ _ ac hA9 underlying28 rfl ww) rfl ?_;rw [HQ.o];exact⟨DA,dc,PA,pc,rfl,HDS.o.D.put5G (fun a e=>(HDS.o.Df a e).2.2) _ _ _ _ _,HDS.o.P.put5G (fun a e=>(HDS.o.Pf a e).2.2) _ _ _ _ _,fun a e=>(HDS.o.Df a e).1,fun a e=>(HDS.o.Pf a e).1,hB9⟩)
open Go.Maps
theorem RwO.ordNew {os:List OrdP} (h:RwO OrdS 28 w base v os) :
  ∃xs,w.ownsRow base 28 5 v os.length xs/\∀(o:OrdP) (A:aj) (c:Nat) (B:aj) (d:Nat) (w1 w2:World) (v2:Value),Below w.heap.size w w1->Sl w1 1 A o.data.length c (bys o.data)->Sl w1 3 B o.aP.length d (pcs o.aP)->(∀a,A=aG a->w.heap.size<=a.block)->(∀a,B=aG a->w.heap.size<=a.block) ->
   w2.ownsRow base 28 5 v2 (os.length+1) (xs++ocell o A c B d)->w1.grownBy w2 v.ownBlock->(v2.ownBlock=v.ownBlock\/∃g,v2.ownBlock=aG g/\w1.heap.size<=g)->RwO OrdS 28 w2 base v2 (os++ [o]):=by
 obtain⟨ps,h1,h2,h3,h4⟩:=h;have hX:RwX OrdS 28 w base v os (fun _=>False):=⟨ps,h1,h2,h3,fun p hp b hb=>hb.elim (h4 p hp b) (fun e=>e.elim)⟩
 obtain⟨xs,hx,hop⟩:=hX.open_;refine⟨xs,hx,fun o A c B d w1 w2 v2 hb hs hs' hA hB ho hg hv=>(hop o (ocell o A c B d) w1 w2 v2 hb ⟨A,c,B,d,rfl,hs,hs'⟩ (fun b hb hl=> ?_) ho hg hv).rwo⟩;have hb:v.ownBlock=aG b:=hb.elim id (fun e=>e.elim);have hlt:=(hX.rwo.blk hb).2;obtain⟨a,e | e,rfl⟩:=jW hl
 ·have:=hA a e;omega
 ·have:=hB a e;omega
theorem jD (A:aj) (n c:Nat) (l:List RawP) (w:World) (hl:l.length=n) (hc:n<=c) (hm:c<=maxLen) (hok:∀r∈l,RawOk r) (hr:Rd w 4 A n (rcs l)) :
  Calls zZZ 3 #[aA A n c] w fun e w'=>e= .returned (.bool true)/\Below w.heap.size w w':=by
 have HOR:=sqH (X1 A n c l 40 40 rfl wu w hl hc hm hok hr);clear hl hc hm hok hr;go_enter func3,ntmps3
 refine wL ?_;intros;refine HOR.o.mono ?_;rintro e_ w1 ⟨v,os,rfl,hos,hgo,hol,hb1⟩;dsimp only;obtain⟨B,d,rfl,hd1,hd2,hrw⟩:=hos.rows;have HB1:=sqH hb1;have hgl:=((LInv.zero (aL:=900) wu).run (os:=os) wu hgo).good wu;have HRU:=sqH (fun (B:aj) (d:Nat) W (h1:os.length<=d) (h2:d<=maxLen) (h:Rw OrdS W B os)=>z5e 900 B os.length d os W wu rfl wu h1 h2 hgo h);generalize yW (lo0 900) os=lr at *
 obtain⟨lo,rs⟩:=lr;dsimp only at hgl HRU;obtain⟨HGL,HGO,HRW,HD⟩:=sqJ4 hgl hgo (fun W (h:Below w1.heap.size w1 W)=>hrw.below h) (And.intro hd1 hd2);have hol40:os.length<=40:=hol;clear hgo hos hb1 hrw HOR hgl hd1 hd2 hol
 refine wL ?_;intros;go_loopg [4,6,7,8,9,10,21] os.length (fun gn v4 v6 v7 v8 v9 v10 vi wr=>∃k:Nat,gn=os.length - k/\vi= aB aC k/\k<=os.length/\RwO OrdS 28 wr w1.heap.size v4 (os.take k)/\Below w1.heap.size w1 wr)
 case atStart=>exact⟨0,rfl,rfl,Nat.zero_le _,RwO.nil_ (World.ownsRow_nil _ _ _ _),Below.refl _ _⟩
 case round =>
  obtain⟨k,hgk,rfl,hk,hrow,hbel⟩:=hrel;have HGK:=sqH hgk;clear hgk;by_cases hlt:k<os.length
  rotate_left
  ·obtain rfl:k=os.length:=by omega
   have hcc:decide (os.length<os.length)=false:=ab;have hcd:decide ((os.length:Int)<(os.length:Int))=false:=ab;rw [List.take_of_length_le ag]at hrow;obtain⟨Ba,da,rfl,hg1,hg2,hgr⟩:=hrow.rows;obtain⟨HR1,HR2,HBL⟩:=sqJ3 (HRU.o B d wr HD.o.1 HD.o.2 (HRW.o wr hbel)) (fun W (h:Below wr.heap.size wr W)=>HRU.o Ba da W hg1 hg2 (hgr.below h)) (wm HB1.o hbel);clear hrow hgr hbel hg1 hg2 HRU HRW
   refine wL ?_;intros;refine HR1.o.mono ?_;rintro e_ w2 ⟨vr,v1,v2,v3,v4,rfl, -,hol2,hb2⟩;dsimp only;obtain⟨⟨X,cX,Y,dY,G,ng,F,cF⟩,rfl,rfl,rfl,rfl,hlo⟩:=hol2.rd;obtain⟨w3,hw3⟩:=wY (w2.alloc (aE #[aA X lo.st.aI.length cX,aA Y lo.st.aJ.length dY,aB aC lo.st.aL,aB aC lo.st.aK,aB aC lo.co.aN,aA G lo.co.aM.length ng,aD ⟨lo.co.at_.toArray⟩,aA F lo.fs.length cF] 44))
   obtain⟨g3,hg3⟩:=wY w2.heap.size
   have hA3:Arr w3 g3 44 [aA X lo.st.aI.length cX,aA Y lo.st.aJ.length dY,aB aC lo.st.aL,aB aC lo.st.aK,aB aC lo.co.aN,aA G lo.co.aM.length ng,aD ⟨lo.co.at_.toArray⟩,aA F lo.fs.length cF]:=by rw [hw3,hg3];exact Arr.new w2 44 _
   have hb3:Below w2.heap.size w2 w3:=by rw [hw3];exact(Below.refl _ _).alloc ag _
   have hb13:=wm hb2 hb3;obtain⟨HS,HW3,HG3,HA3,HL3,HB3⟩:=sqJ6 (HR2.o w3 hb13) hw3 hg3 hA3 (hlo.below hb3) (wm HBL.o hb13);clear hw3 hg3 hA3 hb3 hb13 hol2 hb2 hlo HR1 HR2 HBL
   refine wL ?_;intros;rw [<-HW3.o,<-HG3.o];refine HS.o.mono ?_;rintro e_ w4 ⟨vr',v1',v2',v3',v4',rfl, -,hol4,hb4⟩;dsimp only;obtain⟨⟨X',cX',Y',dY',G',ng',F',cF'⟩,rfl,rfl,rfl,rfl,hlo⟩:=hol4.rd;obtain⟨w5,hw5⟩:=wY (w4.alloc (aE #[aA X' lo.st.aI.length cX',aA Y' lo.st.aJ.length dY',aB aC lo.st.aL,aB aC lo.st.aK,aB aC lo.co.aN,aA G' lo.co.aM.length ng',aD ⟨lo.co.at_.toArray⟩,aA F' lo.fs.length cF'] 44))
   obtain⟨g5,hg5⟩:=wY w4.heap.size
   have hA5:Arr w5 g5 44 [aA X' lo.st.aI.length cX',aA Y' lo.st.aJ.length dY',aB aC lo.st.aL,aB aC lo.st.aK,aB aC lo.co.aN,aA G' lo.co.aM.length ng',aD ⟨lo.co.at_.toArray⟩,aA F' lo.fs.length cF']:=by rw [hw5,hg5];exact Arr.new w4 44 _
   have hb5:Below w4.heap.size w4 w5:=by rw [hw5];exact(Below.refl _ _).alloc ag _
   have hb35:=wm hb4 hb5;obtain⟨HWK,HW5,HG5,HX5,HSL,HB5⟩:=sqJ6 (Uy w5) hw5 hg5 (show ∀W,Below w5.heap.size w5 W->Arr W g3 44 [aA X lo.st.aI.length cX,aA Y lo.st.aJ.length dY,aB aC lo.st.aL,aB aC lo.st.aK,aB aC lo.co.aN,aA G lo.co.aM.length ng,aD ⟨lo.co.at_.toArray⟩,aA F lo.fs.length cF]/\Arr W g5 44 [aA X' lo.st.aI.length cX',aA Y' lo.st.aJ.length dY',aB aC lo.st.aL,aB aC lo.st.aK,aB aC lo.co.aN,aA G' lo.co.aM.length ng',aD ⟨lo.co.at_.toArray⟩,aA F' lo.fs.length cF'] from fun W h=>⟨(HA3.o.below hb35).below h,hA5.below h⟩) (fun W (h:Below w5.heap.size w5 W)=>Qn ⟨X,cX,Y,dY,G,ng,F,cF⟩ ⟨X',cX',Y',dY',G',ng',F',cF'⟩ lo.st lo.st lo.co lo.fs W HGL.o.s HGL.o.s HGL.o.f HGL.o.g ((HL3.o.below hb35).below h) ((hlo.below hb5).below h) (QG _) (QI _) rfl rfl) (wm HB3.o hb35);clear hw5 hg5 hA5 hb5 hb35 hol4 hb4 hlo HS HW3 HG3 HA3 HL3 HB3
   refine wL ?_;intros;rw [<-HW5.o,<-HG5.o];refine wZ HWK.o fun w6 hb6=>?_;dsimp only;have hx:=(HX5.o w6 hb6).1;have hy:=(HX5.o w6 hb6).2;obtain⟨x0,x1,x2,x3,x4,x5,x6,x7⟩:=sqC8 hx;obtain⟨y0,y1,y2,y3,y4,y5,y6,y7⟩:=sqC8 hy;have HS6:=sqH (HSL.o w6 hb6);have HB6:=sqH (wm HB5.o hb6);clear hx hy hb6 HSL HWK HX5 HW5 HG5 HB5
   refine wL ?_;intros;refine wZ HS6.o fun w8 hb8=>?_;dsimp only;clear x0 x1 x2 x3 x4 x5 x6 x7 y0 y1 y2 y3 y4 y5 y6 y7
   refine wL ?_;intros;go_ret;exact⟨rfl,wm HB6.o hb8⟩
  have hcc:decide (k<os.length)=true:=decide_eq_true hlt;have hcd:decide ((k:Int)<(os.length:Int))=true:=decide_eq_true wu;have hk0:=we k
  have hk1:(k:Int)<(os.length:Int):=wu;obtain⟨b,off,B8,c8,B9,c9,rfl,hbw,d0,d1,d2,d3,d4,hs,hs'⟩:=(HRW.o wr hbel).ord_at k hlt;have HO:=sqH (HGO.o _ (List.getElem_mem hlt)).g;have HTK:=sqH (List.take_succ_eq_append_getElem hlt);have hTK:os.take k=os.take k:=rfl;clear hTK;generalize os[k]=o at *
  have hlk:(os.take k).length<=40:=by rw [List.length_take];omega
  obtain⟨xs,hx,hop⟩:=hrow.ordNew;obtain⟨HX,HOP,HBK⟩:=sqJ3 (fun W (h:Below wr.heap.size wr W)=>zc hx h) hop (fun g (h:u4.ownBlock=aG g)=>(hrow.blk h).1);generalize os.take k=G0 at *
  have hbox:Arr (wr.alloc (aE #[aB aC o.kind,aB aC o.n,aD ⟨o.dig.toArray⟩,aA B8 o.data.length c8,aA B9 o.aP.length c9] 28)) wr.heap.size 28 [aB aC o.kind,aB aC o.n,aD ⟨o.dig.toArray⟩,aA B8 o.data.length c8,aA B9 o.aP.length c9]:=Arr.new wr 28 _;have hbn:=ws wr (aE #[aB aC o.kind,aB aC o.n,aD ⟨o.dig.toArray⟩,aA B8 o.data.length c8,aA B9 o.aP.length c9] 28);have hs3:=hs.below hbn;have hs3':=hs'.below hbn;have HBE:=sqH hbel;clear hs hs' hbw hrow hbel hx hop
  refine wL ?_;intros;clear d0 d1 d2 d3 d4;generalize wr.alloc (aE #[aB aC o.kind,aB aC o.n,aD ⟨o.dig.toArray⟩,aA B8 o.data.length c8,aA B9 o.aP.length c9] 28)=w3 at *
  have hE:=Qk o B8 B9 c8 c9 w3 HO.o hs3'.cap hs3'.rd hs3.rd;unfold z3q at hE;have HEN:=sqH hE;clear hE;refine HEN.o.mono ?_;rintro e_ w4 ⟨B4,e4,rfl,hz4,hb4⟩;dsimp only;have hlen:=Qs o HO.o;have hcap4:=hz4.cap;have hDc:=Qj o B4 (Ka o).length e4 w4 HO.o rfl hcap4 hz4.maxc hz4.rd;unfold z4r z3q at hDc;have HDC:=sqH hDc;have HB4:=sqH (wm hbn hb4);clear hbox hs3 hs3' hb4 hz4 HEN hDc hbn;generalize Ka o=E at *
  refine wL ?_;intros;refine HDC.o.mono ?_;rintro e_ w5 ⟨B5,c5,B6,c6,rfl,hs5,hs5',hge,hge',hb5⟩;dsimp only;obtain⟨w6,hw6⟩:=wY (w5.alloc (aE #[aB aC o.kind,aB aC o.n,aD ⟨o.dig.toArray⟩,aA B5 o.data.length c5,aA B6 o.aP.length c6] 28))
  obtain⟨g6,hg6⟩:=wY w5.heap.size
  have hA6:Arr w6 g6 28 [aB aC o.kind,aB aC o.n,aD ⟨o.dig.toArray⟩,aA B5 o.data.length c5,aA B6 o.aP.length c6]:=by rw [hw6,hg6];exact Arr.new w5 28 _
  have hb6:Below w5.heap.size w5 w6:=by rw [hw6];exact(Below.refl _ _).alloc ag _
  have hbr:=HB4.o.trans ((wm hb5 hb6).mono HB4.o.size);have hrs:=HB4.o.size;have hx6:=HX.o w6 hbr;obtain⟨HP6,HX6,HB6,HZ6⟩:=sqJ4 (fun w9 v9 h1 h2 h3=>HOP.o o B5 c5 B6 c6 w6 w9 v9 hbr (hs5.below hb6) (hs5'.below hb6) (fun a e=>Nat.le_trans hrs (hge a e)) (fun a e=>Nat.le_trans hrs (hge' a e)) h1 h2 h3) hx6 (wm HBE.o hbr) (show w1.heap.size<=w6.heap.size from(wm HBE.o hbr).size);obtain⟨z0,z1,z2,z3,z4⟩:=sqC5 hA6;have HW6:=sqH hw6;have HG6:=sqH hg6;clear hw6 hg6 hA6 hb6 hbr hrs hx6 hs5 hs5' hge hge' hb5 HX HOP HB4 HBE HDC
  refine wM 8 ?_;intros;rw [<-HW6.o,<-HG6.o];clear HW6 HG6
  refine wL ?_;intros;refine zj rfl (.tmp 41) (.tmp 43) rfl uJ ac HX6.o (us:= [aB aC o.kind,aB aC o.n,aD ⟨o.dig.toArray⟩,aA B5 o.data.length c5,aA B6 o.aP.length c6]) ac rfl (yG o B5 c5 B6 c6) (by show(G0.length+1)*80<=140737488355328;omega) HZ6.o ?_;intro v9 w9 ho9 hg9 hv9;have HRO:=sqH (HP6.o w9 v9 ho9 hg9 hv9);have HBN:=sqH (HB6.o.grown hg9 HZ6.o (fun k hk=>HBK.o k hk));clear z0 z1 z2 z3 z4 ho9 hg9 hv9
  refine wL ?_;intros;go_roundg (os.length - (k+1))
  case measure=>exact wc HGK
  case rel=>exact⟨k+1,rfl,by go_num,wu,by rw [HTK.o];exact HRO.o,HBN.o⟩
end Go.Proofs.YtcjmjaefcjcomaaGreat
