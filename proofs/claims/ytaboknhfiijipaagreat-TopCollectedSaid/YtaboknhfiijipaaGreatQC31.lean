/- Lemmas, as stated. -/
import Derived.Test.YtaboknhfiijipaaGreatQC29
import Derived.Test.YtaboknhfiijipaaGreatQC30
set_option linter.unusedVariables false
set_option linter.unusedSimpArgs false
set_option maxRecDepth 100000
open Go.Proofs.Tryz renaming prog->zZZ
open Go.Value renaming slice->aB,int->aC,string->aE
namespace Go.Proofs.YtaboknhfiijipaaGreat
open Go.RowKit Go.Maps
variable {up:Bool} {c:ColP} {g:List aj} {l:LoP} {base i m more n:Nat} {o:OrdP} {s t:StoP} {w:World} {k:aj}
structure RepP where
 err:Nat
 dig:aj
 data:aj
 aQ:List PartP
 n:Nat
 who:List Int
abbrev YE (e:Nat):RepP:=⟨e, [], [], [],0, []⟩
open Classical in
noncomputable def pbP (s:StoP) (c:ColP) (D:aj):StoP×ColP×aj×Nat :=
 if Fits s D then ((zH (zK s D) c [shaS D]).1,(zH (zK s D) c [shaS D]).2,shaS D,0) else (stZ,coZ, [],7)
def atB (s:StoP) (k:aj):Option (Nat×BlobP):=(s.aJ.findIdx? (fun b=>b.dig==k)).bind fun i=>(s.aJ[i]?).map fun b=>(i,b)
def atE (s:StoP) (k:aj):Option (Nat×EntP):=(s.aK.findIdx? (fun x=>x.key==k)).bind fun i=>(s.aK[i]?).map fun x=>(i,x)
def gbP (s:StoP) (k:aj):aj×Nat:=match atB s k with | some (_,b)=>(b.data,0) | none=>([],5)
def mvB (n:Nat) (up:Bool):Bool:=if up then decide (n<5) else decide (0<n)
noncomputable def hbP (s:StoP) (c:ColP) (k:aj) (up:Bool):StoP×ColP×Nat:=match atB s k with
 | some (i,b)=>if mvB b.aR up then ((zH (kg s i b (mvN b.aR up)) c [k]).1,(zH (kg s i b (mvN b.aR up)) c [k]).2,0) else (stZ,coZ,noE up)
 | none=>(stZ,coZ,5)
def gtP (s:StoP) (k:aj):StoP×List PartP×Nat:=match atE s k with | some (i,x)=>(kB s i x,x.aQ,0) | none=>(stZ, [],5)
def heP (s:StoP) (k:aj) (up:Bool):StoP×Nat:=match atE s k with
 | some (i,x)=>if mvB x.aR up then (ZV s i x (mvN x.aR up),0) else (stZ,noE up)
 | none=>(stZ,5)
noncomputable def evP (s:StoP) (n:Nat):StoP×Nat×Nat:=match yi n s with | some (t,g)=>(t,g.length,0) | none=>(stZ,0,10)
def ticks:Nat->StoP->ColP->Nat->StoP×ColP×Nat
 | 0,s,c,g=>(s,c,g)
 | n+1,s,c,g=>if c.aO=0 then (s,c,g) else ticks n (zu s c).1 (zu s c).2.1 (g+if (zu s c).2.2= [] then 0 else 1)
def zM (l:LoP) (s:StoP) (c:ColP) (e:Nat):LoP:=if e=0 then ⟨s,c,l.fs⟩ else l
def vM (l m:LoP) (e:Nat):LoP:=if e=0 then m else l
noncomputable def blobD (l:LoP) (o:OrdP):LoP×RepP :=
 if o.kind=1 then (zM l (pbP l.st l.co o.data).1 (pbP l.st l.co o.data).2.1 (pbP l.st l.co o.data).2.2.2,⟨(pbP l.st l.co o.data).2.2.2,(pbP l.st l.co o.data).2.2.1, [], [],0, []⟩)
 else if o.kind=2 then (l,⟨(gbP l.st o.dig).2, [],(gbP l.st o.dig).1, [],0, []⟩)
 else (zM l (hbP l.st l.co o.dig (decide (o.kind=3))).1 (hbP l.st l.co o.dig (decide (o.kind=3))).2.1 (hbP l.st l.co o.dig (decide (o.kind=3))).2.2,YE (hbP l.st l.co o.dig (decide (o.kind=3))).2.2)
noncomputable def entD (l:LoP) (o:OrdP):LoP×RepP :=
 if o.kind=5 then (vM l (Vv l o.dig o.aQ).1 (Vv l o.dig o.aQ).2,YE (Vv l o.dig o.aQ).2)
 else if o.kind=6 then (zM l (gtP l.st o.dig).1 l.co (gtP l.st o.dig).2.2,⟨(gtP l.st o.dig).2.2, [], [],(gtP l.st o.dig).2.1,0, []⟩)
 else (zM l (heP l.st o.dig (decide (o.kind=7))).1 l.co (heP l.st o.dig (decide (o.kind=7))).2,YE (heP l.st o.dig (decide (o.kind=7))).2)
noncomputable def roomD (l:LoP) (o:OrdP):LoP×RepP :=
 if o.kind=9 then (zM l (evP l.st o.n).1 l.co (evP l.st o.n).2.2,⟨(evP l.st o.n).2.2, [], [], [],(evP l.st o.n).2.1, []⟩)
 else if o.kind=10 then if l.co.aO=0 then (⟨yS l.st,j9 l.st,l.fs⟩,YE 0) else (l,YE 6)
 else if l.co.aO=0 then (l,YE 11)
 else (⟨(ticks o.n l.st l.co 0).1,(ticks o.n l.st l.co 0).2.1,l.fs⟩,⟨0, [], [], [],(ticks o.n l.st l.co 0).2.2, []⟩)
def xZ (fs:List FlP) (k:aj):Bool:=fs.any fun f=>f.key==k
noncomputable def fliD (l:LoP) (o:OrdP):LoP×RepP :=
 if o.kind=12 then (vM l (Zn l o.dig o.n).1 (Zn l o.dig o.n).2.2.2,⟨(Zn l o.dig o.n).2.2.2, [], [],(Zn l o.dig o.n).2.1,if (Zn l o.dig o.n).2.2.2≠0 then 0 else if (Zn l o.dig o.n).2.2.1 then 1 else if xZ (Zn l o.dig o.n).1.fs o.dig then 2 else 0, []⟩)
 else if o.kind=13 then (vM l (kW l o.dig o.aQ).1 (kW l o.dig o.aQ).2.2,⟨(kW l o.dig o.aQ).2.2, [], [], [],0,(kW l o.dig o.aQ).2.1⟩)
 else (vM l (xz l o.dig).1 (xz l o.dig).2.2,⟨(xz l o.dig).2.2, [], [], [],0,(xz l o.dig).2.1⟩)
noncomputable def xi (l:LoP) (o:OrdP):LoP×RepP :=
 if o.kind<=4 then blobD l o else if o.kind<=8 then entD l o else if o.kind<=11 then roomD l o else fliD l o
noncomputable def yr:LoP->List OrdP->LoP×List RepP
 | l, []=>(l, [])
 | l,o::os=>((yr (xi l o).1 os).1,(xi l o).2::(yr (xi l o).1 os).2)
theorem KI:∀(l:LoP) (a b:List OrdP),yr l (a++b)=((yr (yr l a).1 b).1,(yr l a).2++(yr (yr l a).1 b).2)
 | l, [],b=>rfl
 | l,o::a,b=>by
  show((yr (xi l o).1 (a++b)).1,(xi l o).2::(yr (xi l o).1 (a++b)).2)=_
  rw [KI (xi l o).1 a b]
  rfl
theorem VH (l:LoP) (a:List OrdP) (o:OrdP):yr l (a++ [o])=((xi (yr l a).1 o).1,(yr l a).2++ [(xi (yr l a).1 o).2]):=KI l a [o]
theorem KJ:∀(l:LoP) (a:List OrdP),(yr l a).2.length=a.length
 | l, []=>rfl
 | l,o::a=>by show(yr (xi l o).1 a).2.length+1=_;rw [KJ _ a];rfl
theorem jZ {b:BlobP} (h:atB s k=some (i,b)):∃hi:i<s.aJ.length,s.aJ[i]=b/\b.dig=k/\s.aJ.findIdx? (fun b=>b.dig==k)=some i:=by
 unfold atB at h;cases hf:s.aJ.findIdx? (fun b=>b.dig==k) with
 | none=>rw [hf]at h;cases h
 | some j =>
  obtain⟨hj,h1,_⟩:=List.findIdx?_eq_some_iff_getElem.1 hf;rw [hf]at h;simp only [Option.bind_some,List.getElem?_eq_getElem hj,Option.map_some,Option.some.injEq,Prod.mk.injEq]at h;obtain⟨rfl,rfl⟩:=h;exact⟨hj,rfl,by simpa using h1,rfl⟩
theorem Kd (h:atB s k=none):∀b∈s.aJ,b.dig≠k:=by
 unfold atB at h;cases hf:s.aJ.findIdx? (fun b=>b.dig==k) with
 | none=>rw [List.findIdx?_eq_none_iff]at hf;exact fun b hb=>by simpa using hf b hb
 | some j =>
  obtain⟨hj,h1,_⟩:=List.findIdx?_eq_some_iff_getElem.1 hf;rw [hf]at h;simp [List.getElem?_eq_getElem hj]at h
theorem vW {x:EntP} (h:atE s k=some (i,x)):∃hi:i<s.aK.length,s.aK[i]=x/\x.key=k/\s.aK.findIdx? (fun x=>x.key==k)=some i:=by
 unfold atE at h;cases hf:s.aK.findIdx? (fun x=>x.key==k) with
 | none=>rw [hf]at h;cases h
 | some j =>
  obtain⟨hj,h1,_⟩:=List.findIdx?_eq_some_iff_getElem.1 hf;rw [hf]at h;simp only [Option.bind_some,List.getElem?_eq_getElem hj,Option.map_some,Option.some.injEq,Prod.mk.injEq]at h;obtain⟨rfl,rfl⟩:=h;exact⟨hj,rfl,by simpa using h1,rfl⟩
theorem Ke (h:atE s k=none):∀x∈s.aK,x.key≠k:=by
 unfold atE at h;cases hf:s.aK.findIdx? (fun x=>x.key==k) with
 | none=>rw [List.findIdx?_eq_none_iff]at hf;exact fun b hb=>by simpa using hf b hb
 | some j =>
  obtain⟨hj,h1,_⟩:=List.findIdx?_eq_some_iff_getElem.1 hf;rw [hf]at h;simp [List.getElem?_eq_getElem hj]at h
theorem XW (hs:RisesBy (·.dig) s.aJ) (ht:RisesBy (·.dig) t.aJ) (h:GoodC s c) (hb:∀b∈t.aJ,b∈s.aJ) (hr:∀x∈rts t,x∈rts s):GoodC t c:=by
 have hm:∀x,InB t.aJ x->x∈mkd s.aJ->x∈mkd t.aJ:=fun x ⟨b,hb1,hx⟩ hx2=>by
  obtain⟨a,ha,hm,e⟩:=qu.1 hx2;have:a=b:=hs.inj ha (hb b hb1) (e.trans hx.symm);subst this;exact qu.2 ⟨a,hb1,hm,e⟩
 refine⟨h.ph,h.gh,h.ris,h.ah,h.g0,h.a0,fun h1 x hx hi=> ?_,fun h1 b hb1 hm1 x hx hi=> ?_,fun h1 x hx=> ?_⟩
 ·exact(h.mr h1 x (hr x hx) (hi.sub hb)).imp (hm x hi) id
 ·rw [ud hs ht hb ⟨b,hb1,rfl⟩]at hx;exact(h.mb h1 b (hb b hb1) hm1 x hx (hi.sub hb)).imp (hm x hi) id
 ·exact hm x hx.inB (h.sw h1 x (hx.sub hs ht hb hr))
theorem z2b (hb:∀b∈t.aJ,b∈s.aJ) (he:∀x∈t.aK,x∈s.aK):∀x∈rts t,x∈rts s:=fun x hx=>by
 rcases List.mem_append.1 hx with h1 | h1
 ·obtain⟨y,hy,h2⟩:=List.mem_flatMap.1 h1
  exact List.mem_append_left _ (List.mem_flatMap.2 ⟨y,he y hy,h2⟩)
 ·obtain⟨b,hb1,rfl⟩:=List.mem_map.1 h1
  obtain⟨h2,h3⟩:=List.mem_filter.1 hb1
  exact List.mem_append_right _ (List.mem_map.2 ⟨b,List.mem_filter.2 ⟨hb b h2,h3⟩,rfl⟩)
theorem Kp {more:Nat}:∀(n:Nat) (s t:StoP) (g g':List aj),uX more n s g=some (t,g')->t.aJ.Sublist s.aJ/\t.aK.Sublist s.aK
 | 0,s,t,g,g',h=>by unfold uX at h;cases h
 | n+1,s,t,g,g',h=>by
  unfold uX at h
  split at h
  ·cases h;exact⟨.refl _,.refl _⟩
  ·split at h
   ·cases h
   ·split at h
    ·cases h
    ·rename_i i _ x _
     obtain⟨a,b⟩:=Kp n _ t _ g' h
     exact⟨a.trans (List.filter_sublist),b.trans (List.eraseIdx_sublist ..)⟩
theorem XQ (h:yi more s=some (t,g)):t.aJ.Sublist s.aJ/\t.aK.Sublist s.aK:=by
 unfold yi at h;split at h
 ·cases h;exact⟨.refl _,.refl _⟩
 ·obtain⟨a,b⟩:=Kp _ _ _ _ _ h;exact⟨a.trans List.filter_sublist,b⟩
theorem XO {more:Nat}:∀(n:Nat) (s t:StoP) (g g':List aj),uX more n s g=some (t,g')->t.aM=s.aM/\t.aL=s.aL
 | 0,s,t,g,g',h=>by unfold uX at h;cases h
 | n+1,s,t,g,g',h=>by
  unfold uX at h
  split at h
  ·cases h;exact⟨rfl,rfl⟩
  ·split at h
   ·cases h
   ·split at h
    ·cases h
    ·obtain⟨a,b⟩:=XO n _ t _ g' h
     exact⟨a,b⟩
theorem J0 (h:yi more s=some (t,g)):t.aM=s.aM/\t.aL=s.aL:=by
 unfold yi at h;split at h
 ·cases h;exact⟨rfl,rfl⟩
 ·obtain⟨a,b⟩:=XO _ _ _ _ _ h;exact⟨a,b⟩
theorem Bsy.of (h:Bsy m s c) (hg:GoodS t) (hc:GoodC t c) (hu:unm t.aJ<=unm s.aJ) (hk:∀x∈t.aK,∃y∈s.aK,y.key=x.key) (hck:t.aL<=s.aL):Bsy m t c :=
 ⟨hg,hc,by have:=h.gr;omega,fun x hx=>by obtain⟨y,hy,e⟩:=hk x hx;rw [<-e];exact h.k7 y hy,by have:=h.ck;omega⟩
theorem LInv.keep (h:LInv m l) (hb:Bsy m s c) (hk:∀x∈s.aK,∃y∈l.st.aK,y.key=x.key):LInv m ⟨s,c,l.fs⟩ :=
 ⟨hb,h.f,fun p hp x hx=>by obtain⟨y,hy,e⟩:=hk x hx;rw [<-e];exact h.ap p hp y hy,h.k7⟩
theorem Bsy.ticks {m:Nat}:∀(n:Nat) (s:StoP) (c:ColP) (g:Nat),Bsy m s c->Bsy m (ticks n s c g).1 (ticks n s c g).2.1/\(ticks n s c g).1.aK=s.aK
 | 0,s,c,g,h=>⟨h,rfl⟩
 | n+1,s,c,g,h=>by
  unfold Go.Proofs.YtaboknhfiijipaaGreat.ticks
  by_cases hp:c.aO=0
  ·rw [if_pos hp];exact⟨h,rfl⟩
  ·rw [if_neg hp]
   have hp2:c.aO=1\/c.aO=2:=by have:=h.gc.ph;omega
   obtain⟨h1,h2,_,h4,h5,h6⟩:=kK h.g h.gc hp2
   have h7:=xX s c
   obtain⟨a,b⟩:=Bsy.ticks (m:=m) n (zu s c).1 (zu s c).2.1 (g+if (zu s c).2.2= [] then 0 else 1) ⟨h1,h2,by have:=h.gr;omega,by rw [h4];exact h.k7,by rw [h6];exact h.ck⟩
   exact⟨a,b.trans h4⟩
theorem JU (s:StoP) (c:ColP) (ds:List aj):(zH s c ds).1.aK=s.aK:=by rw [kG]
theorem Yw (hi:i<s.aK.length):rts (ZV s i s.aK[i] n)=rts s:=by
 show vR (s.aK.set i { s.aK[i] with aR:=n })++xQ s.aJ=vR s.aK++xQ s.aJ;rw [KG (x:= { s.aK[i] with aR:=n }) hi rfl]
theorem Vf (h:mvB n up=true) (h5:n<=5):mvN n up<=5:=by
 unfold mvB at h;unfold mvN;cases up<;>simp at h ⊢ <;> omega
theorem JW (up:Bool):noE up≠0:=by cases up<;>decide
theorem z1o {D:aj} (hg:GoodS s) (hd:D.length<=300) (h:¬Fits s D):K9 s D:=(z1p hg hd).resolve_left h
theorem LInv.blobD (h:LInv m l) (ho:GoodD o):LInv (m+1) (blobD l o).1:=by
 have hu:=h.up (Nat.le_succ m);unfold Go.Proofs.YtaboknhfiijipaaGreat.blobD;by_cases h1:o.kind=1
 ·rw [if_pos h1];show LInv _ (zM _ _ _ _);unfold pbP zM;by_cases hf:Fits l.st o.data
  ·rw [if_pos hf,if_pos rfl];exact hu.keep (h.b.put hf) fun x hx=>⟨x,by rwa [JU]at hx,rfl⟩
  ·rw [if_neg hf,if_neg ac];exact hu
 ·rw [if_neg h1];by_cases h2:o.kind=2
  ·rw [if_pos h2];exact hu
  ·rw [if_neg h2];show LInv _ (zM _ _ _ _);unfold hbP;cases hat:atB l.st o.dig with
   | none =>
    show LInv _ (zM l stZ coZ 5);unfold zM;rw [if_neg ab];exact hu
   | some ib =>
    obtain⟨i,b⟩:=ib;obtain⟨hi,rfl,hk,_⟩:=jZ hat
    dsimp only;by_cases hmv:mvB l.st.aJ[i].aR (decide (o.kind=3))=true
    ·rw [if_pos hmv];show LInv _ (zM l _ _ 0);unfold zM;rw [if_pos rfl,<-hk];exact hu.keep (h.b.hold hi (Vf hmv ((h.b.g.b.one _ (List.getElem_mem hi)).2.2))) fun x hx=>⟨x,by rwa [JU]at hx,rfl⟩
    ·rw [if_neg hmv];show LInv _ (zM l stZ coZ (noE _));unfold zM;rw [if_neg (JW _)];exact hu
theorem LInv.entD (h:LInv m l) (hm:m<=78) (ho:GoodD o) (h58:5<=o.kind/\o.kind<=8):LInv (m+1) (entD l o).1:=by
 have hu:=h.up (Nat.le_succ m);unfold Go.Proofs.YtaboknhfiijipaaGreat.entD;by_cases h1:o.kind=5
 ·rw [if_pos h1];show LInv _ (vM _ _ _);unfold vM;split
  ·rename_i h0;exact h.put hm (ho.k7 (.inl h58)) ho.g.p1 h0
  ·exact hu
 ·rw [if_neg h1];by_cases h2:o.kind=6
  ·rw [if_pos h2];show LInv _ (zM _ _ _ _);unfold gtP;cases hat:atE l.st o.dig with
   | none =>
    show LInv _ (zM l stZ l.co 5);unfold zM;rw [if_neg ab];exact hu
   | some ix =>
    obtain⟨i,x⟩:=ix;obtain⟨hi,rfl,hk,_⟩:=vW hat
    show LInv _ (zM l _ l.co 0);unfold zM;rw [if_pos rfl];exact h.get ww hi
  ·rw [if_neg h2];show LInv _ (zM _ _ _ _);unfold heP;cases hat:atE l.st o.dig with
   | none =>
    show LInv _ (zM l stZ l.co 5);unfold zM;rw [if_neg ab];exact hu
   | some ix =>
    obtain⟨i,x⟩:=ix;obtain⟨hi,rfl,hk,_⟩:=vW hat
    dsimp only;by_cases hmv:mvB l.st.aK[i].aR (decide (o.kind=7))=true
    ·rw [if_pos hmv];show LInv _ (zM l _ _ 0);unfold zM;rw [if_pos rfl];have hkx:∀x∈(ZV l.st i l.st.aK[i] (mvN l.st.aK[i].aR (decide (o.kind=7)))).aK,∃y∈l.st.aK,y.key=x.key:=fun x hx=>xd (x:= { l.st.aK[i] with aR:=mvN l.st.aK[i].aR (decide (o.kind=7)) }) hi rfl hx;exact hu.keep (hu.b.of (QL h.b.g hi (Vf hmv ((h.b.g.e.one _ (List.getElem_mem hi)).2.2.1))) (vt h.b.gc rfl fun x hx=>by rwa [Yw hi]at hx) ai hkx ai) hkx
    ·rw [if_neg hmv];show LInv _ (zM l stZ _ (noE _));unfold zM;rw [if_neg (JW _)];exact hu
theorem LInv.roomD (h:LInv m l):LInv m (roomD l o).1:=by
 unfold Go.Proofs.YtaboknhfiijipaaGreat.roomD;by_cases h1:o.kind=9
 ·rw [if_pos h1];show LInv _ (zM _ _ _ _);unfold evP;cases he:yi o.n l.st with
  | none =>
   show LInv m (zM l stZ l.co 10);unfold zM;rw [if_neg ab];exact h
  | some tg =>
   obtain⟨t,g⟩:=tg;show LInv m (zM l t l.co 0);unfold zM;rw [if_pos rfl];obtain⟨a1,_,_,_,a5⟩:=jl h.b.g he;obtain⟨b1,b2⟩:=XQ he;exact h.keep (h.b.of a1 (XW h.b.g.b.ris a1.b.ris h.b.gc (fun b hb=>b1.subset hb) (z2b (fun b hb=>b1.subset hb) fun x hx=>b2.subset hx)) ((b1.filter _).length_le) (fun x hx=>⟨x,b2.subset hx,rfl⟩) (by rw [a5];exact Nat.le_refl _)) fun x hx=>⟨x,b2.subset hx,rfl⟩
 ·rw [if_neg h1];by_cases h2:o.kind=10
  ·rw [if_pos h2];split
   ·exact h.keep h.b.begin fun x hx=>⟨x,hx,rfl⟩
   ·exact h
  ·rw [if_neg h2];split
   ·exact h
   ·obtain⟨a,b⟩:=Bsy.ticks o.n l.st l.co 0 h.b;exact h.keep a fun x hx=>⟨x,by rwa [b]at hx,rfl⟩
theorem LInv.fliD (h:LInv m l) (hm:m<=78) (ho:GoodD o) (h12:12<=o.kind):LInv (m+1) (fliD l o).1:=by
 have hu:=h.up (Nat.le_succ m);unfold Go.Proofs.YtaboknhfiijipaaGreat.fliD;by_cases h1:o.kind=12
 ·rw [if_pos h1];show LInv _ (vM _ _ _);unfold vM;split
  ·rename_i h0;exact h.ask hm (ho.k7 (.inr h12)) (by have:=(ho.ask h1).1;omega) (by have:=(ho.ask h1).2;omega) h0
  ·exact hu
 ·rw [if_neg h1];by_cases h2:o.kind=13
  ·rw [if_pos h2];show LInv _ (vM _ _ _);unfold vM;split
   ·rename_i h0;exact h.done hm (ho.k7 (.inr h12)) ho.g.p1 h0
   ·exact hu
  ·rw [if_neg h2];show LInv _ (vM _ _ _);unfold vM;split
   ·rename_i h0;exact h.fail h0
   ·exact hu
theorem LInv.step (h:LInv m l) (hm:m<=78) (ho:GoodD o):LInv (m+1) (xi l o).1:=by
 unfold xi;split
 ·exact h.blobD ho
 ·split
  ·exact h.entD hm ho ww
  ·split
   ·exact h.roomD.up (Nat.le_succ m)
   ·exact h.fliD hm ho ww
theorem LInv.run:∀ {m:Nat} {l:LoP} {os:List OrdP},LInv m l->m+os.length<=79->(∀o∈os,GoodD o)->LInv (m+os.length) (yr l os).1
 | m,l, [],h,_,_=>h
 | m,l,o::os,h,hm,ho=>by
  simp only [List.length_cons]at hm ⊢
  have:=(h.step ww (ho o (List.mem_cons_self ..))).run (os:=os) ww fun x hx=>ho x (List.mem_cons_of_mem _ hx)
  rw [show m+(os.length+1)=m+1+os.length by omega]
  exact this
abbrev lo0 (aM:Nat):LoP:=⟨⟨[], [],aM,0⟩,⟨0, [], []⟩, []⟩
theorem LInv.zero {aM:Nat} (h:aM<=4000):LInv 0 (lo0 aM):=by
 have hg:GoodS ⟨[], [],aM,0⟩:=⟨⟨ac,(fun b hb=>by cases hb),List.Pairwise.nil⟩,⟨ac,(fun b hb=>by cases hb),List.Pairwise.nil⟩,h,by simp [usd],ac,(fun x hx=>by cases hx)⟩
 have hc:GoodC ⟨[], [],aM,0⟩ ⟨0, [], []⟩:=⟨ac,(fun d hd=>by cases hd),List.Pairwise.nil,.inl rfl,fun _=>rfl,fun _=>rfl,(fun h=>by cases h),(fun h=>by cases h),(fun h=>by cases h)⟩
 exact⟨⟨hg,hc,by simp [unm],(fun x hx=>by cases hx),ac⟩,GoodF.nil_,(fun p hp=>by cases hp),(fun p hp=>by cases hp)⟩
abbrev z2h (A:ak) (c:Nat) (B:ak) (d:Nat) (s:StoP):Value:= .agg #[aB A s.aJ.length c,aB B s.aK.length d,aC .i64 s.aM,aC .i64 s.aL]
structure OwSC (w:World) (base:Nat) (v1 v2 v3:Value) (s:StoP) (c:ColP):Prop where
 s:OwSt w base v1 v2 s (fun b=>b<base)
 c:w.ownsRow base 9 1 v3 c.aN.length (strs c.aN)
theorem OwSt.z_ {N:an}:OwSt w base (aB none 0 0) (aB none 0 0) stZ N:=OwLo.nil_.s
theorem OwSC.z_:OwSC w base (aB none 0 0) (aB none 0 0) (aB none 0 0) stZ coZ:=⟨.z_,World.ownsRow_nil _ _ _ _⟩
theorem VQ {v1 v2:Value} (h:t.aM=s.aM/\t.aL=s.aL):stV v1 v2 t=stV v1 v2 s:=by
 show Value.agg _=_;rw [h.1,h.2]
section
variable (A:ak) (c:Nat) (B:ak) (d:Nat) (s:StoP) (Ag:ak) (ng:Nat) (cp:ColP) (w:World)
theorem Ub (D:aj) (DA:ak) (dc:Nat) (hg:GoodS s) (hr:RdSt w A c B d s) (hgl:cp.aN.length<=1000) (hgc:GoodC s cp) (hc:RdC w Ag ng cp) (hd:D.length<=300) (hD:Sl w 1 DA D.length dc (bys D)) :
  Calls zZZ 111 #[z2h A c B d s,coV (aB Ag cp.aN.length ng) cp,aB DA D.length dc] w fun e w' =>
   ∃v1 v2 v3,e= .returned (.tuple #[stV v1 v2 (pbP s cp D).1,coV v3 (pbP s cp D).2.1,aE ⟨(pbP s cp D).2.2.1.toArray⟩,aC .i64 ((pbP s cp D).2.2.2:Int)])/\OwSC w' w.heap.size v1 v2 v3 (pbP s cp D).1 (pbP s cp D).2.1/\Below w.heap.size w w':=by
 unfold pbP;by_cases hf:Fits s D
 ·rw [if_pos hf];refine(Qj A c B d s Ag ng cp D DA dc w hg hr hgl hgc hc hf hD).mono ?_;rintro e w' ⟨v1,v2,v3,rfl,h1,h2,h3⟩;exact⟨v1,v2,v3,by rw [VQ (Zb (zK s D) cp [shaS D])];rfl,⟨h1,h2⟩,h3⟩
 ·rw [if_neg hf];refine(jQ A c B d s Ag ng cp D DA dc w hg hr hgl hgc hc hd (z1o hg hd hf) hD).mono ?_;rintro e w' ⟨rfl,h3⟩;exact⟨_,_,_,rfl,.z_,h3⟩
theorem Ua (k:aj) (hg:GoodS s) (hr:RdSt w A c B d s) :
  Calls zZZ 113 #[z2h A c B d s,aE ⟨k.toArray⟩] w fun e w' =>
   ∃v,e= .returned (.tuple #[v,aC .i64 ((gbP s k).2:Int)])/\w'.ownsRow w.heap.size 5 1 v (gbP s k).1.length (bys (gbP s k).1)/\Below w.heap.size w w':=by
 unfold gbP;cases hat:atB s k with
 | none =>
  refine(Zs A c B d s k w hg hr (Kd hat)).mono ?_;rintro e w' ⟨rfl,h3⟩;exact⟨_,rfl,World.ownsRow_nil _ _ _ _,h3⟩
 | some ib =>
  obtain⟨i,b⟩:=ib;obtain⟨hi,rfl,hk,_⟩:=jZ hat
  refine(Yb A c B d s k i w hg hr hi hk).mono ?_;rintro e w' ⟨v,rfl,h2,h3⟩;exact⟨v,rfl,h2,h3⟩
theorem Ji (h5:n<=5):(mvB n up=true->if up then n<5 else 0<n/\n<=5)/\(¬mvB n up=true->if up then n=5 else n=0):=by
 unfold mvB;cases up<;>simp<;>omega
theorem YX (k:aj) (up:Bool) (hg:GoodS s) (hr:RdSt w A c B d s) (hgl:cp.aN.length<=1000) (hgc:GoodC s cp) (hc:RdC w Ag ng cp) :
  Calls zZZ 114 #[z2h A c B d s,coV (aB Ag cp.aN.length ng) cp,aE ⟨k.toArray⟩,.bool up] w fun e w' =>
   ∃v1 v2 v3,e= .returned (.tuple #[stV v1 v2 (hbP s cp k up).1,coV v3 (hbP s cp k up).2.1,aC .i64 ((hbP s cp k up).2.2:Int)])/\OwSC w' w.heap.size v1 v2 v3 (hbP s cp k up).1 (hbP s cp k up).2.1/\Below w.heap.size w w':=by
 unfold hbP;cases hat:atB s k with
 | none =>
  refine(K3 A c B d s Ag ng cp k up 5 w hg hr hgl hgc hc ab fun W h=>Yd A c B d s k up W hg h (Kd hat)).mono ?_;rintro e w' ⟨rfl,h3⟩;exact⟨_,_,_,rfl,.z_,h3⟩
 | some ib =>
  obtain⟨i,b⟩:=ib;obtain⟨hi,rfl,hk,_⟩:=jZ hat
  dsimp only;have h5:=(hg.b.one _ (List.getElem_mem hi)).2.2;by_cases hmv:mvB s.aJ[i].aR up=true
  ·rw [if_pos hmv];refine(U7 A c B d s Ag ng cp k up i w hg hr hgl hgc hc hi hk ((Ji h5).1 hmv) _ rfl (uE hg hi (Vf hmv h5))).mono ?_;rintro e w' ⟨v1,v2,v3,rfl,h1,h2,h3⟩;exact⟨v1,v2,v3,by rw [VQ (Zb _ cp [k])];rfl,⟨h1,h2⟩,h3⟩
  ·rw [if_neg hmv];refine(K3 A c B d s Ag ng cp k up (noE up:Int) w hg hr hgl hgc hc (bne_iff_ne.1 (Vh up)) fun W h=>Uo A c B d s k up i W hg h hi hk ((Ji h5).2 hmv)).mono ?_;rintro e w' ⟨rfl,h3⟩;exact⟨_,_,_,rfl,.z_,h3⟩
theorem z5p (k:aj) (hg:GoodS s) (hr:RdSt w A c B d s) (hck:s.aL<1099511627776) :
  Calls zZZ 117 #[z2h A c B d s,aE ⟨k.toArray⟩] w fun e w' =>
   ∃v1 v2 vp,e= .returned (.tuple #[stV v1 v2 (gtP s k).1,vp,aC .i64 ((gtP s k).2.2:Int)])/\OwSt w' w.heap.size v1 v2 (gtP s k).1 (fun b=>b<w.heap.size)/\w'.ownsRow w.heap.size 85 3 vp (gtP s k).2.1.length (pcs (gtP s k).2.1)/\Below w.heap.size w w':=by
 unfold gtP;cases hat:atE s k with
 | none =>
  refine(Xa A c B d s k w hg hr (Ke hat)).mono ?_;rintro e w' ⟨rfl,h3⟩;exact⟨_,_,_,rfl,.z_,World.ownsRow_nil _ _ _ _,h3⟩
 | some ib =>
  obtain⟨i,b⟩:=ib;obtain⟨hi,rfl,hk,_⟩:=vW hat
  refine(Um A c B d s (kB s i s.aK[i]) k s.aK[i].aQ i w hg hr hi hk rfl hck rfl).mono ?_;rintro e w' ⟨A',c',B',d',A5,c5,rfl,h1,h2,h3⟩;exact⟨_,_,_,rfl,h1,h2,h3⟩
theorem z4w (k:aj) (up:Bool) (hg:GoodS s) (hr:RdSt w A c B d s) :
  Calls zZZ 118 #[z2h A c B d s,aE ⟨k.toArray⟩,.bool up] w fun e w' =>
   ∃v1 v2,e= .returned (.tuple #[stV v1 v2 (heP s k up).1,aC .i64 ((heP s k up).2:Int)])/\OwSt w' w.heap.size v1 v2 (heP s k up).1 (fun b=>b<w.heap.size)/\Below w.heap.size w w':=by
 unfold heP;cases hat:atE s k with
 | none =>
  refine(Ye A c B d s k up w hg hr (Ke hat)).mono ?_;rintro e w' ⟨rfl,h3⟩;exact⟨_,_,rfl,.z_,h3⟩
 | some ib =>
  obtain⟨i,b⟩:=ib;obtain⟨hi,rfl,hk,_⟩:=vW hat
  dsimp only;have h5:=(hg.e.one _ (List.getElem_mem hi)).2.2.1;by_cases hmv:mvB s.aK[i].aR up=true
  ·rw [if_pos hmv];refine(Ur A c B d s k up i w hg hr hi hk ((Ji h5).1 hmv)).mono ?_;rintro e w' ⟨v1,v2,rfl,h1,h3⟩;exact⟨v1,v2,rfl,h1,h3⟩
  ·rw [if_neg hmv];refine(Uq A c B d s k up i w hg hr hi hk ((Ji h5).2 hmv)).mono ?_;rintro e w' ⟨rfl,h3⟩;exact⟨_,_,rfl,.z_,h3⟩
end
end Go.Proofs.YtaboknhfiijipaaGreat
