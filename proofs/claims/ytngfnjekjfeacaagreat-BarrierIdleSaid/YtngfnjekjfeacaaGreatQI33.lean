/- Lemmas of a proof, made shorter by a program. Conditions: none, or as each states. -/
import Derived.Test.YtngfnjekjfeacaaGreatQI32
namespace Go.Proofs.YtngfnjekjfeacaaGreat
open Go.RowKit
set_option linter.unusedVariables false
set_option linter.unusedSimpArgs false
set_option maxRecDepth 100000
theorem Kr (s : StoP) : GoodC s ⟨0, [], []⟩ := ⟨Nat.zero_le _, (fun d hd => by cases hd), List.Pairwise.nil, .inl rfl, fun _ => rfl, fun _ => rfl, fun h => (by cases h), fun h => (by cases h), fun h => by cases h⟩
theorem Xa (w : World) : RdC w none 0 ⟨0, [], []⟩ := ⟨⟨rfl, fun h => absurd h (Nat.lt_irrefl _)⟩, Nat.le_refl _, Nat.zero_le _⟩
theorem xM (A : Option Addr) (c : Nat) (B : Option Addr) (d : Nat) (s : StoP) (D : List UInt8) (DA : Option Addr) (dc : Nat) (w : World) (hr : RdSt w A c B d s) (hf : Fits s D) (hD : Sl w 1 DA D.length dc (bys D)) :
  Calls Tryz.prog 50 #[.agg #[.slice A s.blobs.length c, .slice B s.ents.length d, .int .i64 (s.room : Int), .int .i64 (s.clock : Int)], .agg #[.int .i64 0, .slice none 0 0, .string ⟨#[]⟩], .slice DA D.length dc] w fun e w' =>
   ∃ Aa ca Ba da Ga na, e = .returned (.tuple #[.agg #[.slice Aa (zb s D).blobs.length ca, .slice Ba (zb s D).ents.length da, .int .i64 (s.room : Int), .int .i64 (s.clock : Int)], .agg #[.int .i64 0, .slice Ga 0 na, .string ⟨#[]⟩], .string ⟨(shaS D).toArray⟩, .int .i64 0]) ∧ OwSt w' w.heap.size (.slice Aa (zb s D).blobs.length ca) (.slice Ba (zb s D).ents.length da) (zb s D) (fun b => b < w.heap.size) ∧ w'.ownsRow w.heap.size 9 1 (.slice Ga 0 na) 0 [] ∧ Below w.heap.size w w' := by
 refine (uj A c B d s none 0 ⟨0, [], []⟩ D DA dc w hf.g hr (Nat.zero_le _) (Kr s) (Xa w) hf hD).mono ?_
 rintro e w' ⟨v1, v2, v3, he, ho, hl, hb⟩
 rw [Y0 rfl] at he ho hl
 obtain ⟨Aa, ca, Ba, da, e1, e2, -⟩ := ho.rows
 obtain ⟨Ga, na, e3, -, -⟩ := Rd.of_own' hl
 subst e1 e2 e3
 exact ⟨Aa, ca, Ba, da, Ga, na, he, ho, hl, hb⟩
theorem ZM (A : Option Addr) (c : Nat) (B : Option Addr) (d : Nat) (s : StoP) (key : List UInt8) (ps : List PartP) (PA : Option Addr) (pc : Nat) (w : World) (hg : GoodS s) (hr : RdSt w A c B d s) (hk : hexC key = 0) (hpz : chk ps = 0) (hhv : qc s.blobs ps = 0) (hclk : s.clock < 1099511627776) (hlen : s.ents.length < 10) (hP : Sl w 3 PA ps.length pc (pcs ps)) (t : StoP) (ht : t = jx s key ps) :
  Calls Tryz.prog 51 #[.agg #[.slice A s.blobs.length c, .slice B s.ents.length d, .int .i64 (s.room : Int), .int .i64 (s.clock : Int)], .agg #[.int .i64 0, .slice none 0 0, .string ⟨#[]⟩], .string ⟨key.toArray⟩, .slice PA ps.length pc] w fun e w' =>
   ∃ Aa ca Ba da Ga na, e = .returned (.tuple #[.agg #[.slice Aa t.blobs.length ca, .slice Ba t.ents.length da, .int .i64 (t.room : Int), .int .i64 (t.clock : Int)], .agg #[.int .i64 0, .slice Ga 0 na, .string ⟨#[]⟩], .int .i64 0]) ∧ OwSt w' w.heap.size (.slice Aa t.blobs.length ca) (.slice Ba t.ents.length da) t (fun b => b < w.heap.size) ∧ w'.ownsRow w.heap.size 9 1 (.slice Ga 0 na) 0 [] ∧ Below w.heap.size w w' := by
 refine (KT A c B d s none 0 ⟨0, [], []⟩ key ps PA pc w hg hr (Nat.zero_le _) (Kr s) (Xa w) hk hpz hhv hclk hlen hP t ht (by rw [ht]; exact yU hg hk hpz (qI hhv) hclk hlen)).mono ?_
 rintro e w' ⟨v1, v2, v3, he, ho, hl, hb⟩
 rw [Y0 rfl] at he ho hl
 obtain ⟨Aa, ca, Ba, da, e1, e2, -⟩ := ho.rows
 obtain ⟨Ga, na, e3, -, -⟩ := Rd.of_own' hl
 subst e1 e2 e3
 exact ⟨Aa, ca, Ba, da, Ga, na, he, ho, hl, hb⟩
set_option maxHeartbeats 16000000 in
theorem kU (A : Option Addr) (n c : Nat) (l : List RawP) (r : RawP) (w : World) (hl : l.length = n) (hc : n ≤ c) (hm : c ≤ maxLen) (hok : ∀ r ∈ l, RawOk r) (hr : Rd w 4 A n (rcs l)) (hro : RawOk r) :
  Calls Tryz.prog 10 #[.slice A n c, Yk r] w fun e w' => e = .returned (.bool true) ∧ Below w.heap.size w w' := by
 obtain ⟨D, hD⟩ : ∃ D, D = Qq r 60 := ⟨_, rfl⟩
 have hDl : D.length ≤ 60 := by rw [hD]; exact xS r 60
 have HF1 := Lib.hid (Qy l (D := D) (by omega) (by omega))
 have HDT := Q3 r 60 60 rfl (by omega) hro
 rw [← hD] at HDT
 have HDT := Lib.hid HDT
 have hsg := xQ l
 have hs7 := Xb l
 have hsc := KA l
 obtain ⟨hp1, hp2⟩ := Yl l r
 have hp3 := ym (sto l).blobs r
 obtain ⟨ps, hps⟩ : ∃ ps, ps = zp (sto l).blobs r := ⟨_, rfl⟩
 rw [← hps] at hp1 hp2 hp3
 have HRO := Lib.hid hro
 obtain ⟨w0, hw0⟩ : ∃ w0, w0 = w.alloc (.cells #[.int .i64 r.kind, .int .i64 r.a, .int .i64 r.b, .string r.text] 47) := ⟨_, rfl⟩
 have hb0 : Below w.heap.size w w0 := by rw [hw0]; exact (Below.refl _ _).alloc (Nat.le_refl _) _
 obtain ⟨gr, hgr⟩ : ∃ g, g = w.heap.size := ⟨_, rfl⟩
 have hRb : Arr w0 gr 47 [.int .i64 r.kind, .int .i64 r.a, .int .i64 r.b, .string r.text] := by rw [hw0, hgr]; exact Arr.new w 47 _
 have HS := Lib.hid (Ka A n c l w0 hl hc hm hok (hr.below hb0))
 rw [← hgr] at hb0 ⊢
 have hgl : gr < w0.heap.size := hRb.lt
 clear hD hok hl hr hro
 generalize hs : sto l = s at *
 have HSG := Lib.hid hsg
 have hlb : s.blobs.length ≤ 24 := hsg.b.len
 have HPT := Lib.hid (fun (Ax : Option Addr) (cx : Nat) (W : World) (h1 : s.blobs.length ≤ cx) (h2 : cx ≤ maxLen) (h3 : Rw BlobS W Ax s.blobs) => xC Ax cx s.blobs r W (by omega) h1 h2 (fun b hb => by have := (HSG.out.b.one b hb).2.1; omega) h3 HRO.out)
 rw [← hps] at HPT
 obtain ⟨rk, ra, rb, rt⟩ := r
 unfold Yk at HDT ⊢
 dsimp only at HPT hRb hw0 HDT
 have HP1 := Lib.hid hp1
 have HP2 := Lib.hid hp2
 clear hs hsg hps hp1 hp2
 go_enter Tryz.func10, Tryz.ntmps10
 go_wp2_with fail
 rw [← hw0, ← hgr]
 have HGR := Lib.hid hgr
 clear hw0 hgr
 refine ((HS.out)).mono ?_; rintro e_ w1 ⟨v1, v2, rfl, hb, he, hb1⟩; dsimp only
 obtain ⟨As, cs, rfl, hc1, hc2, hRs⟩ := hb.rows
 obtain ⟨Bs, ds, rfl, hd1, hd2, hEs⟩ := he.rows
 have hrd1 : RdSt w1 As cs Bs ds s := ⟨hRs, hEs, hc1, hc2, hd1, hd2⟩
 have hb01 := hb0.trans (hb1.mono (by omega))
 have hRb1 := hRb.below hb1
 have hX := Arr.new w1 26 [.slice As s.blobs.length cs, .slice Bs s.ents.length ds, .int .i64 (s.room : Int), .int .i64 (s.clock : Int)]
 have hba := (Below.refl w1.heap.size w1).alloc (Nat.le_refl _) (.cells #[.slice As s.blobs.length cs, .slice Bs s.ents.length ds, .int .i64 (s.room : Int), .int .i64 (s.clock : Int)] 26)
 have hX' : Arr (w1.alloc (.cells #[.slice As s.blobs.length cs, .slice Bs s.ents.length ds, .int .i64 (s.room : Int), .int .i64 (s.clock : Int)] 26)) w1.heap.size 26 [.slice As s.blobs.length cs, .slice Bs s.ents.length ds, .int .i64 (s.room : Int), .int .i64 (s.clock : Int)] := hX
 have hrd2 := hrd1.below hba
 have hRb2 := hRb1.below hba
 have hb02 := hb01.trans (hba.mono (by have := hb1.size; omega))
 clear hb he hRs hEs hX hba hrd1 hRb hRb1 hb0 hb1 hb01 hc1 hc2 hd1 hd2
 go_wp2_with fail
 generalize w1.alloc (.cells #[.slice As s.blobs.length cs, .slice Bs s.ents.length ds, .int .i64 (s.room : Int), .int .i64 (s.clock : Int)] 26) = w2 at *
 generalize w1.heap.size = gs at *
 have HKX := Lib.hid (show ∀ W, Below w2.heap.size w2 W → Arr W gs 26 [.slice As s.blobs.length cs, .slice Bs s.ents.length ds, .int .i64 (s.room : Int), .int .i64 (s.clock : Int)] ∧ Arr W gr 47 [.int .i64 rk, .int .i64 ra, .int .i64 rb, .string rt] ∧ RdSt W As cs Bs ds s from fun W h => ⟨hX'.below h, hRb2.below h, hrd2.below h⟩)
 have HSB := Lib.hid (show ∀ W, Below w2.heap.size w2 W → (W.cell? ⟨gs, 0, none⟩ = some (.slice As s.blobs.length cs) ∧ W.cell? ⟨gs, 1, none⟩ = some (.slice Bs s.ents.length ds) ∧ W.cell? ⟨gs, 2, none⟩ = some (.int .i64 (s.room : Int)) ∧ W.cell? ⟨gs, 3, none⟩ = some (.int .i64 (s.clock : Int))) ∧ (W.cell? ⟨gr, 0, none⟩ = some (.int .i64 rk) ∧ W.cell? ⟨gr, 1, none⟩ = some (.int .i64 ra) ∧ W.cell? ⟨gr, 2, none⟩ = some (.int .i64 rb) ∧ W.cell? ⟨gr, 3, none⟩ = some (.string rt)) from fun W h =>
  ⟨⟨(hX'.below h).cell (k := 0) rfl, (hX'.below h).cell (k := 1) rfl, (hX'.below h).cell (k := 2) rfl, (hX'.below h).cell (k := 3) rfl⟩, (hRb2.below h).cell (k := 0) rfl, (hRb2.below h).cell (k := 1) rfl, (hRb2.below h).cell (k := 2) rfl, (hRb2.below h).cell (k := 3) rfl⟩)
 obtain ⟨sd, hsd⟩ : ∃ x : ByteArray, x = ⟨(shaS D).toArray⟩ := ⟨_, rfl⟩
 have hpb := fun W A2 c2 (h : Below w2.heap.size w2 W) (hz : zY W w2.heap.size A2 c2 D) => xM As cs Bs ds s D A2 c2 W (hrd2.below h) HF1.out hz.sl.1
 have hpc := fun W A2 c2 (h : RdSt W As cs Bs ds s) (hz : Sl W 1 A2 D.length c2 (bys D)) => yr As cs Bs ds s D A2 c2 W HF1.out h hz
 rw [← hsd] at hpb hpc
 have HPB := Lib.hid hpb
 have HPC := Lib.hid hpc
 have HTG := Lib.hid HF1.out.good
 have HB2 := Lib.hid hb02
 have hgw : gr < w2.heap.size := hRb2.lt
 clear hpb hpc hsd hX' hrd2 hRb2 hb02
 apply zn
 intro REST
 apply zn
 intro Rb1
 apply zn
 intro Rb2
 apply zn
 intro Rb3
 apply zn
 intro Rb4
 apply zn
 intro Rb5
 apply zn
 intro Rb6
 apply zn
 intro Rb7
 refine zq [12, 13] (S := (fun w' => (w'.cell? ⟨gs, 0, none⟩ = some (.slice As s.blobs.length cs) ∧ w'.cell? ⟨gs, 1, none⟩ = some (.slice Bs s.ents.length ds) ∧ w'.cell? ⟨gs, 2, none⟩ = some (.int .i64 (s.room : Int)) ∧ w'.cell? ⟨gs, 3, none⟩ = some (.int .i64 (s.clock : Int))) ∧ (w'.cell? ⟨gr, 0, none⟩ = some (.int .i64 rk) ∧ w'.cell? ⟨gr, 1, none⟩ = some (.int .i64 ra) ∧ w'.cell? ⟨gr, 2, none⟩ = some (.int .i64 rb) ∧ w'.cell? ⟨gr, 3, none⟩ = some (.string rt)))) (by kernel_rfl) ?_ (fun hHeld => ?_)
 ·exact HSB.out _ ((Below.refl w2.heap.size w2).drew)
 have hB := (Below.refl w2.heap.size w2).drew
 generalize w2.drew = wn0 at *
 refine tkU 0 ?_
 try simp only [sqP]
 refine tkP 1 ?_
 try simp only [sqP]
 refine tkU 2 ?_
 try simp only [sqP]
 refine z7 (rs := [3, 10, 11]) (by kernel_rfl) (by simp) ?_
 refine z6.cons (o := _) rfl (fun K hK => ?_) ?_
 ·
  go_simp
  refine (HDT.out wn0).mono ?_
  rintro e5 w5 ⟨A2, c2, rfl, hz5, hb5⟩
  dsimp only
  refine zC hK ?_ (fun W => Below w2.heap.size w2 W ∧ zY W w2.heap.size A2 c2 D) (fun W => True) ?_ ?_ (fun wn1 hHeld2 hF _ => ?_)
  ·exact HSB.out _ ((hB.trans (hb5.mono hB.size)))
  ·exact ⟨hB.trans (hb5.mono hB.size), hz5.lower hB.size⟩
  ·trivial
  clear hB hHeld
  have hHeld := hHeld2
  clear hHeld2
  obtain ⟨hB, hD⟩ := hF
  clear hb5 hz5
  clear hK K
  try simp only [sqP]
  refine z7 (rs := [4, 10, 11]) (by kernel_rfl) (by simp) ?_
  refine z6.cons (o := _) rfl (fun K hK => ?_) ?_
  ·
   go_simp
   refine (HPB.out wn1 A2 c2 hB hD).mono ?_
   rintro e5 w5 ⟨Aa, ca, Ba, da, Ga, na, rfl, ho5, hl5, hb5⟩
   dsimp only
   refine zC hK ?_ (fun W => Below w2.heap.size w2 W ∧ OwSt W 0 (.slice Aa (zb s D).blobs.length ca) (.slice Ba (zb s D).ents.length da) (zb s D) (fun b => False) ∧ W.ownsRow 0 9 1 (.slice Ga 0 na) 0 []) (fun W => True) ?_ ?_ (fun wn2 hHeld2 hF _ => ?_)
   ·exact HSB.out _ ((hB.trans (hb5.mono hB.size)))
   ·exact ⟨hB.trans (hb5.mono hB.size), (ho5.lower (base' := 0) (Nat.zero_le _)).mono (fun b hb => hb.elim), zc hl5 (Nat.zero_le _)⟩
   ·trivial
   clear hD hB hHeld
   have hHeld := hHeld2
   clear hHeld2
   obtain ⟨hB, ho, hl⟩ := hF
   clear hb5 ho5 hl5
   clear hK K
   try simp only [sqP]
   refine tkP 5 ?_
   try simp only [sqP]
   refine tkP 6 ?_
   try simp only [sqP]
   refine tkP 7 ?_
   try simp only [sqP]
   refine tkP 8 ?_
   try simp only [sqP]
   refine tkP 9 ?_
   try simp only [sqP]
   refine z7 (rs := [10, 11]) (by kernel_rfl) (by simp) ?_
   refine z6.cons (o := _) rfl (fun K hK => ?_) ?_
   ·
    have hba := (Below.refl wn2.heap.size wn2).alloc (Nat.le_refl _) (.cells #[.slice none 0 0, .slice none 0 0, .int .i64 0, .int .i64 0] 26)
    have hn := Arr.new wn2 26 [.slice none 0 0, .slice none 0 0, .int .i64 0, .int .i64 0]
    have hnl : w2.heap.size ≤ wn2.heap.size := hB.size
    obtain ⟨g6, hge⟩ : ∃ g, g = wn2.heap.size := ⟨_, rfl⟩
    have hN : ∀ b, b = g6 → wn2.heap.size ≤ b := fun b h => by rw [h, hge]; exact Nat.le_refl _
    rw [← hge] at hn hnl
    go_simp
    rw [← hge]
    clear hge
    refine zC hK ?_ (fun W => Below w2.heap.size w2 W ∧ Arr W g6 26 [.slice none 0 0, .slice none 0 0, .int .i64 0, .int .i64 0] ∧ w2.heap.size ≤ g6 ∧ OwSt W 0 (.slice Aa (zb s D).blobs.length ca) (.slice Ba (zb s D).ents.length da) (zb s D) (fun b => b = g6) ∧ W.ownsRow 0 9 1 (.slice Ga 0 na) 0 []) (fun W => True) ?_ ?_ (fun wn3 hHeld2 hF _ => ?_)
    ·exact HSB.out _ ((hB.trans (hba.mono hB.size)))
    ·exact ⟨hB.trans (hba.mono hB.size), hn, hnl, (ho.wider (N' := (fun b => b = g6)) (fun b hb => .inr (hN _ hb))).below hba, za hl hba⟩
    ·trivial
    clear hl ho hB hHeld
    have hHeld := hHeld2
    clear hHeld2
    obtain ⟨hB, h6, h6l, ho, hl⟩ := hF
    clear hba hn hnl hN
    clear hK K
    try simp only [sqP]
    have hall := And.intro hB (And.intro h6 (And.intro h6l (And.intro ho (And.intro hl hHeld))))
    clear hHeld hl ho h6l h6 hB
    generalize wn3 = wz at hall ⊢
    revert hall
    revert wz
    revert g6
    revert na
    revert Ga
    revert da
    revert Ba
    revert ca
    revert Aa
    revert c2
    revert A2
    exact Rb2.out
   refine z6.cons (o := _) rfl (fun K hK => ?_) ?_
   ·
    have hba := (Below.refl wn2.heap.size wn2).alloc (Nat.le_refl _) (.cells #[.int .i64 0, .slice none 0 0, .string ⟨#[]⟩] 66)
    have hn := Arr.new wn2 66 [.int .i64 0, .slice none 0 0, .string ⟨#[]⟩]
    have hnl : w2.heap.size ≤ wn2.heap.size := hB.size
    obtain ⟨g7, hge⟩ : ∃ g, g = wn2.heap.size := ⟨_, rfl⟩
    have hN : ∀ b, b = g7 → wn2.heap.size ≤ b := fun b h => by rw [h, hge]; exact Nat.le_refl _
    rw [← hge] at hn hnl
    go_simp
    rw [← hge]
    clear hge
    refine zC hK ?_ (fun W => Below w2.heap.size w2 W ∧ Arr W g7 66 [.int .i64 0, .slice none 0 0, .string ⟨#[]⟩] ∧ w2.heap.size ≤ g7 ∧ OwSt W 0 (.slice Aa (zb s D).blobs.length ca) (.slice Ba (zb s D).ents.length da) (zb s D) (fun b => b = g7) ∧ W.ownsRow 0 9 1 (.slice Ga 0 na) 0 []) (fun W => True) ?_ ?_ (fun wn4 hHeld2 hF _ => ?_)
    ·exact HSB.out _ ((hB.trans (hba.mono hB.size)))
    ·exact ⟨hB.trans (hba.mono hB.size), hn, hnl, (ho.wider (N' := (fun b => b = g7)) (fun b hb => .inr (hN _ hb))).below hba, za hl hba⟩
    ·trivial
    clear hl ho hB hHeld
    have hHeld := hHeld2
    clear hHeld2
    obtain ⟨hB, h7, h7l, ho, hl⟩ := hF
    clear hba hn hnl hN
    clear hK K
    try simp only [sqP]
    have hall := And.intro hB (And.intro h7 (And.intro h7l (And.intro ho (And.intro hl hHeld))))
    clear hHeld hl ho h7l h7 hB
    generalize wn4 = wz at hall ⊢
    revert hall
    revert wz
    revert g7
    revert na
    revert Ga
    revert da
    revert Ba
    revert ca
    revert Aa
    revert c2
    revert A2
    exact Rb3.out
   exact z6.nil
  refine z6.cons (o := _) rfl (fun K hK => ?_) ?_
  ·
   have hba := (Below.refl wn1.heap.size wn1).alloc (Nat.le_refl _) (.cells #[.slice none 0 0, .slice none 0 0, .int .i64 0, .int .i64 0] 26)
   have hn := Arr.new wn1 26 [.slice none 0 0, .slice none 0 0, .int .i64 0, .int .i64 0]
   have hnl : w2.heap.size ≤ wn1.heap.size := hB.size
   obtain ⟨g6, hge⟩ : ∃ g, g = wn1.heap.size := ⟨_, rfl⟩
   have hN : ∀ b, b = g6 → wn1.heap.size ≤ b := fun b h => by rw [h, hge]; exact Nat.le_refl _
   rw [← hge] at hn hnl
   go_simp
   rw [← hge]
   clear hge
   refine zC hK ?_ (fun W => Below w2.heap.size w2 W ∧ Arr W g6 26 [.slice none 0 0, .slice none 0 0, .int .i64 0, .int .i64 0] ∧ w2.heap.size ≤ g6 ∧ zY W w2.heap.size A2 c2 D) (fun W => True) ?_ ?_ (fun wn5 hHeld2 hF _ => ?_)
   ·exact HSB.out _ ((hB.trans (hba.mono hB.size)))
   ·exact ⟨hB.trans (hba.mono hB.size), hn, hnl, hD.below hba⟩
   ·trivial
   clear hD hB hHeld
   have hHeld := hHeld2
   clear hHeld2
   obtain ⟨hB, h6, h6l, hD⟩ := hF
   clear hba hn hnl hN
   clear hK K
   try simp only [sqP]
   have hall := And.intro hB (And.intro h6 (And.intro h6l (And.intro hD hHeld)))
   clear hHeld hD h6l h6 hB
   generalize wn5 = wz at hall ⊢
   revert hall
   revert wz
   revert g6
   revert c2
   revert A2
   exact Rb5.out
  refine z6.cons (o := _) rfl (fun K hK => ?_) ?_
  ·
   have hba := (Below.refl wn1.heap.size wn1).alloc (Nat.le_refl _) (.cells #[.int .i64 0, .slice none 0 0, .string ⟨#[]⟩] 66)
   have hn := Arr.new wn1 66 [.int .i64 0, .slice none 0 0, .string ⟨#[]⟩]
   have hnl : w2.heap.size ≤ wn1.heap.size := hB.size
   obtain ⟨g7, hge⟩ : ∃ g, g = wn1.heap.size := ⟨_, rfl⟩
   have hN : ∀ b, b = g7 → wn1.heap.size ≤ b := fun b h => by rw [h, hge]; exact Nat.le_refl _
   rw [← hge] at hn hnl
   go_simp
   rw [← hge]
   clear hge
   refine zC hK ?_ (fun W => Below w2.heap.size w2 W ∧ Arr W g7 66 [.int .i64 0, .slice none 0 0, .string ⟨#[]⟩] ∧ w2.heap.size ≤ g7 ∧ zY W w2.heap.size A2 c2 D) (fun W => True) ?_ ?_ (fun wn6 hHeld2 hF _ => ?_)
   ·exact HSB.out _ ((hB.trans (hba.mono hB.size)))
   ·exact ⟨hB.trans (hba.mono hB.size), hn, hnl, hD.below hba⟩
   ·trivial
   clear hD hB hHeld
   have hHeld := hHeld2
   clear hHeld2
   obtain ⟨hB, h7, h7l, hD⟩ := hF
   clear hba hn hnl hN
   clear hK K
   try simp only [sqP]
   have hall := And.intro hB (And.intro h7 (And.intro h7l (And.intro hD hHeld)))
   clear hHeld hD h7l h7 hB
   generalize wn6 = wz at hall ⊢
   revert hall
   revert wz
   revert g7
   revert c2
   revert A2
   exact Rb6.out
  exact z6.nil
 refine z6.cons (o := _) rfl (fun K hK => ?_) ?_
 ·
  have hba := (Below.refl wn0.heap.size wn0).alloc (Nat.le_refl _) (.cells #[.slice none 0 0, .slice none 0 0, .int .i64 0, .int .i64 0] 26)
  have hn := Arr.new wn0 26 [.slice none 0 0, .slice none 0 0, .int .i64 0, .int .i64 0]
  have hnl : w2.heap.size ≤ wn0.heap.size := hB.size
  obtain ⟨g6, hge⟩ : ∃ g, g = wn0.heap.size := ⟨_, rfl⟩
  have hN : ∀ b, b = g6 → wn0.heap.size ≤ b := fun b h => by rw [h, hge]; exact Nat.le_refl _
  rw [← hge] at hn hnl
  go_simp
  rw [← hge]
  clear hge
  refine zC hK ?_ (fun W => Below w2.heap.size w2 W ∧ Arr W g6 26 [.slice none 0 0, .slice none 0 0, .int .i64 0, .int .i64 0] ∧ w2.heap.size ≤ g6) (fun W => True) ?_ ?_ (fun wn7 hHeld2 hF _ => ?_)
  ·exact HSB.out _ ((hB.trans (hba.mono hB.size)))
  ·exact ⟨hB.trans (hba.mono hB.size), hn, hnl⟩
  ·trivial
  clear hB hHeld
  have hHeld := hHeld2
  clear hHeld2
  obtain ⟨hB, h6, h6l⟩ := hF
  clear hba hn hnl hN
  clear hK K
  try simp only [sqP]
  refine z7 (rs := [3, 11]) (by kernel_rfl) (by simp) ?_
  refine z6.cons (o := _) rfl (fun K hK => ?_) ?_
  ·
   go_simp
   refine (HDT.out wn7).mono ?_
   rintro e5 w5 ⟨A2, c2, rfl, hz5, hb5⟩
   dsimp only
   refine zC hK ?_ (fun W => Below w2.heap.size w2 W ∧ Arr W g6 26 [.slice none 0 0, .slice none 0 0, .int .i64 0, .int .i64 0] ∧ w2.heap.size ≤ g6 ∧ zY W w2.heap.size A2 c2 D) (fun W => True) ?_ ?_ (fun wn8 hHeld2 hF _ => ?_)
   ·exact HSB.out _ ((hB.trans (hb5.mono hB.size)))
   ·exact ⟨hB.trans (hb5.mono hB.size), h6.below hb5, h6l, hz5.lower hB.size⟩
   ·trivial
   clear h6l h6 hB hHeld
   have hHeld := hHeld2
   clear hHeld2
   obtain ⟨hB, h6, h6l, hD⟩ := hF
   clear hb5 hz5
   clear hK K
   try simp only [sqP]
   have hall := And.intro hB (And.intro h6 (And.intro h6l (And.intro hD hHeld)))
   clear hHeld hD h6l h6 hB
   generalize wn8 = wz at hall ⊢
   revert hall
   revert wz
   revert g6
   revert c2
   revert A2
   exact Rb5.out
  refine z6.cons (o := _) rfl (fun K hK => ?_) ?_
  ·
   have hba := (Below.refl wn7.heap.size wn7).alloc (Nat.le_refl _) (.cells #[.int .i64 0, .slice none 0 0, .string ⟨#[]⟩] 66)
   have hn := Arr.new wn7 66 [.int .i64 0, .slice none 0 0, .string ⟨#[]⟩]
   have hnl : w2.heap.size ≤ wn7.heap.size := hB.size
   obtain ⟨g7, hge⟩ : ∃ g, g = wn7.heap.size := ⟨_, rfl⟩
   have hN : ∀ b, b = g7 → wn7.heap.size ≤ b := fun b h => by rw [h, hge]; exact Nat.le_refl _
   rw [← hge] at hn hnl
   go_simp
   rw [← hge]
   clear hge
   refine zC hK ?_ (fun W => Below w2.heap.size w2 W ∧ Arr W g6 26 [.slice none 0 0, .slice none 0 0, .int .i64 0, .int .i64 0] ∧ w2.heap.size ≤ g6 ∧ Arr W g7 66 [.int .i64 0, .slice none 0 0, .string ⟨#[]⟩] ∧ w2.heap.size ≤ g7 ∧ g6 ≠ g7) (fun W => True) ?_ ?_ (fun wn9 hHeld2 hF _ => ?_)
   ·exact HSB.out _ ((hB.trans (hba.mono hB.size)))
   ·exact ⟨hB.trans (hba.mono hB.size), h6.below hba, h6l, hn, hnl, (fun e => Nat.lt_irrefl _ (by have h1 := h6.lt; rw [e] at h1; exact Nat.lt_of_lt_of_le h1 (hN _ rfl)))⟩
   ·trivial
   clear h6l h6 hB hHeld
   have hHeld := hHeld2
   clear hHeld2
   obtain ⟨hB, h6, h6l, h7, h7l, h67n⟩ := hF
   clear hba hn hnl hN
   clear hK K
   try simp only [sqP]
   have hall := And.intro hB (And.intro h6 (And.intro h6l (And.intro h7 (And.intro h7l (And.intro h67n hHeld)))))
   clear hHeld h67n h7l h7 h6l h6 hB
   generalize wn9 = wz at hall ⊢
   revert hall
   revert wz
   revert g7
   revert g6
   exact Rb7.out
  exact z6.nil
 refine z6.cons (o := _) rfl (fun K hK => ?_) ?_
 ·
  have hba := (Below.refl wn0.heap.size wn0).alloc (Nat.le_refl _) (.cells #[.int .i64 0, .slice none 0 0, .string ⟨#[]⟩] 66)
  have hn := Arr.new wn0 66 [.int .i64 0, .slice none 0 0, .string ⟨#[]⟩]
  have hnl : w2.heap.size ≤ wn0.heap.size := hB.size
  obtain ⟨g7, hge⟩ : ∃ g, g = wn0.heap.size := ⟨_, rfl⟩
  have hN : ∀ b, b = g7 → wn0.heap.size ≤ b := fun b h => by rw [h, hge]; exact Nat.le_refl _
  rw [← hge] at hn hnl
  go_simp
  rw [← hge]
  clear hge
  refine zC hK ?_ (fun W => Below w2.heap.size w2 W ∧ Arr W g7 66 [.int .i64 0, .slice none 0 0, .string ⟨#[]⟩] ∧ w2.heap.size ≤ g7) (fun W => True) ?_ ?_ (fun wn10 hHeld2 hF _ => ?_)
  ·exact HSB.out _ ((hB.trans (hba.mono hB.size)))
  ·exact ⟨hB.trans (hba.mono hB.size), hn, hnl⟩
  ·trivial
  clear hB hHeld
  have hHeld := hHeld2
  clear hHeld2
  obtain ⟨hB, h7, h7l⟩ := hF
  clear hba hn hnl hN
  clear hK K
  try simp only [sqP]
  refine z7 (rs := [3, 10]) (by kernel_rfl) (by simp) ?_
  refine z6.cons (o := _) rfl (fun K hK => ?_) ?_
  ·
   go_simp
   refine (HDT.out wn10).mono ?_
   rintro e5 w5 ⟨A2, c2, rfl, hz5, hb5⟩
   dsimp only
   refine zC hK ?_ (fun W => Below w2.heap.size w2 W ∧ Arr W g7 66 [.int .i64 0, .slice none 0 0, .string ⟨#[]⟩] ∧ w2.heap.size ≤ g7 ∧ zY W w2.heap.size A2 c2 D) (fun W => True) ?_ ?_ (fun wn11 hHeld2 hF _ => ?_)
   ·exact HSB.out _ ((hB.trans (hb5.mono hB.size)))
   ·exact ⟨hB.trans (hb5.mono hB.size), h7.below hb5, h7l, hz5.lower hB.size⟩
   ·trivial
   clear h7l h7 hB hHeld
   have hHeld := hHeld2
   clear hHeld2
   obtain ⟨hB, h7, h7l, hD⟩ := hF
   clear hb5 hz5
   clear hK K
   try simp only [sqP]
   have hall := And.intro hB (And.intro h7 (And.intro h7l (And.intro hD hHeld)))
   clear hHeld hD h7l h7 hB
   generalize wn11 = wz at hall ⊢
   revert hall
   revert wz
   revert g7
   revert c2
   revert A2
   exact Rb6.out
  refine z6.cons (o := _) rfl (fun K hK => ?_) ?_
  ·
   have hba := (Below.refl wn10.heap.size wn10).alloc (Nat.le_refl _) (.cells #[.slice none 0 0, .slice none 0 0, .int .i64 0, .int .i64 0] 26)
   have hn := Arr.new wn10 26 [.slice none 0 0, .slice none 0 0, .int .i64 0, .int .i64 0]
   have hnl : w2.heap.size ≤ wn10.heap.size := hB.size
   obtain ⟨g6, hge⟩ : ∃ g, g = wn10.heap.size := ⟨_, rfl⟩
   have hN : ∀ b, b = g6 → wn10.heap.size ≤ b := fun b h => by rw [h, hge]; exact Nat.le_refl _
   rw [← hge] at hn hnl
   go_simp
   rw [← hge]
   clear hge
   refine zC hK ?_ (fun W => Below w2.heap.size w2 W ∧ Arr W g6 26 [.slice none 0 0, .slice none 0 0, .int .i64 0, .int .i64 0] ∧ w2.heap.size ≤ g6 ∧ Arr W g7 66 [.int .i64 0, .slice none 0 0, .string ⟨#[]⟩] ∧ w2.heap.size ≤ g7 ∧ g6 ≠ g7) (fun W => True) ?_ ?_ (fun wn12 hHeld2 hF _ => ?_)
   ·exact HSB.out _ ((hB.trans (hba.mono hB.size)))
   ·exact ⟨hB.trans (hba.mono hB.size), hn, hnl, h7.below hba, h7l, (fun e => Nat.lt_irrefl _ (by have h1 := h7.lt; rw [← e] at h1; exact Nat.lt_of_lt_of_le h1 (hN _ rfl)))⟩
   ·trivial
   clear h7l h7 hB hHeld
   have hHeld := hHeld2
   clear hHeld2
   obtain ⟨hB, h6, h6l, h7, h7l, h67n⟩ := hF
   clear hba hn hnl hN
   clear hK K
   try simp only [sqP]
   have hall := And.intro hB (And.intro h6 (And.intro h6l (And.intro h7 (And.intro h7l (And.intro h67n hHeld)))))
   clear hHeld h67n h7l h7 h6l h6 hB
   generalize wn12 = wz at hall ⊢
   revert hall
   revert wz
   revert g7
   revert g6
   exact Rb7.out
  exact z6.nil
 exact z6.nil
 intro g6 g7 wRb7 hall
 obtain ⟨hB, h6, h6l, h7, h7l, h67n, hHeld⟩ := hall
 refine z7 (rs := [3]) (by kernel_rfl) (by simp) ?_
 refine z6.cons (o := _) rfl (fun K hK => ?_) ?_
 ·
  go_simp
  refine (HDT.out wRb7).mono ?_
  rintro e5 w5 ⟨A2, c2, rfl, hz5, hb5⟩
  dsimp only
  refine zC hK ?_ (fun W => Below w2.heap.size w2 W ∧ Arr W g6 26 [.slice none 0 0, .slice none 0 0, .int .i64 0, .int .i64 0] ∧ w2.heap.size ≤ g6 ∧ Arr W g7 66 [.int .i64 0, .slice none 0 0, .string ⟨#[]⟩] ∧ w2.heap.size ≤ g7 ∧ g6 ≠ g7 ∧ zY W w2.heap.size A2 c2 D) (fun W => True) ?_ ?_ (fun wn13 hHeld2 hF _ => ?_)
  ·exact HSB.out _ ((hB.trans (hb5.mono hB.size)))
  ·exact ⟨hB.trans (hb5.mono hB.size), h6.below hb5, h6l, h7.below hb5, h7l, h67n, hz5.lower hB.size⟩
  ·trivial
  clear h67n h7l h7 h6l h6 hB hHeld
  have hHeld := hHeld2
  clear hHeld2
  obtain ⟨hB, h6, h6l, h7, h7l, h67n, hD⟩ := hF
  clear hb5 hz5
  clear hK K
  try simp only [sqP]
  have hall := And.intro hB (And.intro h6 (And.intro h6l (And.intro h7 (And.intro h7l (And.intro h67n (And.intro hD hHeld))))))
  clear hHeld hD h67n h7l h7 h6l h6 hB
  generalize wn13 = wz at hall ⊢
  revert hall
  revert wz
  revert g7
  revert g6
  revert c2
  revert A2
  exact Rb4.out
 exact z6.nil
 intro A2 c2 g7 wRb6 hall
 obtain ⟨hB, h7, h7l, hD, hHeld⟩ := hall
 refine z7 (rs := [4, 10]) (by kernel_rfl) (by simp) ?_
 refine z6.cons (o := _) rfl (fun K hK => ?_) ?_
 ·
  go_simp
  refine (HPB.out wRb6 A2 c2 hB hD).mono ?_
  rintro e5 w5 ⟨Aa, ca, Ba, da, Ga, na, rfl, ho5, hl5, hb5⟩
  dsimp only
  refine zC hK ?_ (fun W => Below w2.heap.size w2 W ∧ Arr W g7 66 [.int .i64 0, .slice none 0 0, .string ⟨#[]⟩] ∧ w2.heap.size ≤ g7 ∧ OwSt W 0 (.slice Aa (zb s D).blobs.length ca) (.slice Ba (zb s D).ents.length da) (zb s D) (fun b => b = g7) ∧ W.ownsRow 0 9 1 (.slice Ga 0 na) 0 []) (fun W => True) ?_ ?_ (fun wn14 hHeld2 hF _ => ?_)
  ·exact HSB.out _ ((hB.trans (hb5.mono hB.size)))
  ·exact ⟨hB.trans (hb5.mono hB.size), h7.below hb5, h7l, (ho5.lower (base' := 0) (Nat.zero_le _)).mono (N' := (fun b => b = g7)) (fun b hb => (by rw [hb]; exact h7.lt)), zc hl5 (Nat.zero_le _)⟩
  ·trivial
  clear hD h7l h7 hB hHeld
  have hHeld := hHeld2
  clear hHeld2
  obtain ⟨hB, h7, h7l, ho, hl⟩ := hF
  clear hb5 ho5 hl5
  clear hK K
  try simp only [sqP]
  refine tkP 5 ?_
  try simp only [sqP]
  refine tkP 6 ?_
  try simp only [sqP]
  refine tkP 7 ?_
  try simp only [sqP]
  refine tkP 8 ?_
  try simp only [sqP]
  refine tkP 9 ?_
  try simp only [sqP]
  have hall := And.intro hB (And.intro h7 (And.intro h7l (And.intro ho (And.intro hl hHeld))))
  clear hHeld hl ho h7l h7 hB
  generalize wn14 = wz at hall ⊢
  revert hall
  revert wz
  revert g7
  revert na
  revert Ga
  revert da
  revert Ba
  revert ca
  revert Aa
  revert c2
  revert A2
  exact Rb3.out
 refine z6.cons (o := _) rfl (fun K hK => ?_) ?_
 ·
  have hba := (Below.refl wRb6.heap.size wRb6).alloc (Nat.le_refl _) (.cells #[.slice none 0 0, .slice none 0 0, .int .i64 0, .int .i64 0] 26)
  have hn := Arr.new wRb6 26 [.slice none 0 0, .slice none 0 0, .int .i64 0, .int .i64 0]
  have hnl : w2.heap.size ≤ wRb6.heap.size := hB.size
  obtain ⟨g6, hge⟩ : ∃ g, g = wRb6.heap.size := ⟨_, rfl⟩
  have hN : ∀ b, b = g6 → wRb6.heap.size ≤ b := fun b h => by rw [h, hge]; exact Nat.le_refl _
  rw [← hge] at hn hnl
  go_simp
  rw [← hge]
  clear hge
  refine zC hK ?_ (fun W => Below w2.heap.size w2 W ∧ Arr W g6 26 [.slice none 0 0, .slice none 0 0, .int .i64 0, .int .i64 0] ∧ w2.heap.size ≤ g6 ∧ Arr W g7 66 [.int .i64 0, .slice none 0 0, .string ⟨#[]⟩] ∧ w2.heap.size ≤ g7 ∧ g6 ≠ g7 ∧ zY W w2.heap.size A2 c2 D) (fun W => True) ?_ ?_ (fun wn15 hHeld2 hF _ => ?_)
  ·exact HSB.out _ ((hB.trans (hba.mono hB.size)))
  ·exact ⟨hB.trans (hba.mono hB.size), hn, hnl, h7.below hba, h7l, (fun e => Nat.lt_irrefl _ (by have h1 := h7.lt; rw [← e] at h1; exact Nat.lt_of_lt_of_le h1 (hN _ rfl))), hD.below hba⟩
  ·trivial
  clear hD h7l h7 hB hHeld
  have hHeld := hHeld2
  clear hHeld2
  obtain ⟨hB, h6, h6l, h7, h7l, h67n, hD⟩ := hF
  clear hba hn hnl hN
  clear hK K
  try simp only [sqP]
  have hall := And.intro hB (And.intro h6 (And.intro h6l (And.intro h7 (And.intro h7l (And.intro h67n (And.intro hD hHeld))))))
  clear hHeld hD h67n h7l h7 h6l h6 hB
  generalize wn15 = wz at hall ⊢
  revert hall
  revert wz
  revert g7
  revert g6
  revert c2
  revert A2
  exact Rb4.out
 exact z6.nil
 intro A2 c2 g6 wRb5 hall
 obtain ⟨hB, h6, h6l, hD, hHeld⟩ := hall
 refine z7 (rs := [4, 11]) (by kernel_rfl) (by simp) ?_
 refine z6.cons (o := _) rfl (fun K hK => ?_) ?_
 ·
  go_simp
  refine (HPB.out wRb5 A2 c2 hB hD).mono ?_
  rintro e5 w5 ⟨Aa, ca, Ba, da, Ga, na, rfl, ho5, hl5, hb5⟩
  dsimp only
  refine zC hK ?_ (fun W => Below w2.heap.size w2 W ∧ Arr W g6 26 [.slice none 0 0, .slice none 0 0, .int .i64 0, .int .i64 0] ∧ w2.heap.size ≤ g6 ∧ OwSt W 0 (.slice Aa (zb s D).blobs.length ca) (.slice Ba (zb s D).ents.length da) (zb s D) (fun b => b = g6) ∧ W.ownsRow 0 9 1 (.slice Ga 0 na) 0 []) (fun W => True) ?_ ?_ (fun wn16 hHeld2 hF _ => ?_)
  ·exact HSB.out _ ((hB.trans (hb5.mono hB.size)))
  ·exact ⟨hB.trans (hb5.mono hB.size), h6.below hb5, h6l, (ho5.lower (base' := 0) (Nat.zero_le _)).mono (N' := (fun b => b = g6)) (fun b hb => (by rw [hb]; exact h6.lt)), zc hl5 (Nat.zero_le _)⟩
  ·trivial
  clear hD h6l h6 hB hHeld
  have hHeld := hHeld2
  clear hHeld2
  obtain ⟨hB, h6, h6l, ho, hl⟩ := hF
  clear hb5 ho5 hl5
  clear hK K
  try simp only [sqP]
  refine tkP 5 ?_
  try simp only [sqP]
  refine tkP 6 ?_
  try simp only [sqP]
  refine tkP 7 ?_
  try simp only [sqP]
  refine tkP 8 ?_
  try simp only [sqP]
  refine tkP 9 ?_
  try simp only [sqP]
  have hall := And.intro hB (And.intro h6 (And.intro h6l (And.intro ho (And.intro hl hHeld))))
  clear hHeld hl ho h6l h6 hB
  generalize wn16 = wz at hall ⊢
  revert hall
  revert wz
  revert g6
  revert na
  revert Ga
  revert da
  revert Ba
  revert ca
  revert Aa
  revert c2
  revert A2
  exact Rb2.out
 refine z6.cons (o := _) rfl (fun K hK => ?_) ?_
 ·
  have hba := (Below.refl wRb5.heap.size wRb5).alloc (Nat.le_refl _) (.cells #[.int .i64 0, .slice none 0 0, .string ⟨#[]⟩] 66)
  have hn := Arr.new wRb5 66 [.int .i64 0, .slice none 0 0, .string ⟨#[]⟩]
  have hnl : w2.heap.size ≤ wRb5.heap.size := hB.size
  obtain ⟨g7, hge⟩ : ∃ g, g = wRb5.heap.size := ⟨_, rfl⟩
  have hN : ∀ b, b = g7 → wRb5.heap.size ≤ b := fun b h => by rw [h, hge]; exact Nat.le_refl _
  rw [← hge] at hn hnl
  go_simp
  rw [← hge]
  clear hge
  refine zC hK ?_ (fun W => Below w2.heap.size w2 W ∧ Arr W g6 26 [.slice none 0 0, .slice none 0 0, .int .i64 0, .int .i64 0] ∧ w2.heap.size ≤ g6 ∧ Arr W g7 66 [.int .i64 0, .slice none 0 0, .string ⟨#[]⟩] ∧ w2.heap.size ≤ g7 ∧ g6 ≠ g7 ∧ zY W w2.heap.size A2 c2 D) (fun W => True) ?_ ?_ (fun wn17 hHeld2 hF _ => ?_)
  ·exact HSB.out _ ((hB.trans (hba.mono hB.size)))
  ·exact ⟨hB.trans (hba.mono hB.size), h6.below hba, h6l, hn, hnl, (fun e => Nat.lt_irrefl _ (by have h1 := h6.lt; rw [e] at h1; exact Nat.lt_of_lt_of_le h1 (hN _ rfl))), hD.below hba⟩
  ·trivial
  clear hD h6l h6 hB hHeld
  have hHeld := hHeld2
  clear hHeld2
  obtain ⟨hB, h6, h6l, h7, h7l, h67n, hD⟩ := hF
  clear hba hn hnl hN
  clear hK K
  try simp only [sqP]
  have hall := And.intro hB (And.intro h6 (And.intro h6l (And.intro h7 (And.intro h7l (And.intro h67n (And.intro hD hHeld))))))
  clear hHeld hD h67n h7l h7 h6l h6 hB
  generalize wn17 = wz at hall ⊢
  revert hall
  revert wz
  revert g7
  revert g6
  revert c2
  revert A2
  exact Rb4.out
 exact z6.nil
 intro A2 c2 g6 g7 wRb4 hall
 obtain ⟨hB, h6, h6l, h7, h7l, h67n, hD, hHeld⟩ := hall
 refine z7 (rs := [4]) (by kernel_rfl) (by simp) ?_
 refine z6.cons (o := _) rfl (fun K hK => ?_) ?_
 ·
  go_simp
  refine (HPB.out wRb4 A2 c2 hB hD).mono ?_
  rintro e5 w5 ⟨Aa, ca, Ba, da, Ga, na, rfl, ho5, hl5, hb5⟩
  dsimp only
  refine zC hK ?_ (fun W => Below w2.heap.size w2 W ∧ Arr W g6 26 [.slice none 0 0, .slice none 0 0, .int .i64 0, .int .i64 0] ∧ w2.heap.size ≤ g6 ∧ Arr W g7 66 [.int .i64 0, .slice none 0 0, .string ⟨#[]⟩] ∧ w2.heap.size ≤ g7 ∧ g6 ≠ g7 ∧ OwSt W 0 (.slice Aa (zb s D).blobs.length ca) (.slice Ba (zb s D).ents.length da) (zb s D) (fun b => b = g6 ∨ b = g7) ∧ W.ownsRow 0 9 1 (.slice Ga 0 na) 0 []) (fun W => True) ?_ ?_ (fun wn18 hHeld2 hF _ => ?_)
  ·exact HSB.out _ ((hB.trans (hb5.mono hB.size)))
  ·exact ⟨hB.trans (hb5.mono hB.size), h6.below hb5, h6l, h7.below hb5, h7l, h67n, (ho5.lower (base' := 0) (Nat.zero_le _)).mono (N' := (fun b => b = g6 ∨ b = g7)) (fun b hb => hb.elim (fun hb => by rw [hb]; exact h6.lt) (fun hb => (by rw [hb]; exact h7.lt))), zc hl5 (Nat.zero_le _)⟩
  ·trivial
  clear hD h67n h7l h7 h6l h6 hB hHeld
  have hHeld := hHeld2
  clear hHeld2
  obtain ⟨hB, h6, h6l, h7, h7l, h67n, ho, hl⟩ := hF
  clear hb5 ho5 hl5
  clear hK K
  try simp only [sqP]
  refine tkP 5 ?_
  try simp only [sqP]
  refine tkP 6 ?_
  try simp only [sqP]
  refine tkP 7 ?_
  try simp only [sqP]
  refine tkP 8 ?_
  try simp only [sqP]
  refine tkP 9 ?_
  try simp only [sqP]
  have hall := And.intro hB (And.intro h6 (And.intro h6l (And.intro h7 (And.intro h7l (And.intro h67n (And.intro ho (And.intro hl hHeld)))))))
  clear hHeld hl ho h67n h7l h7 h6l h6 hB
  generalize wn18 = wz at hall ⊢
  revert hall
  revert wz
  revert g7
  revert g6
  revert na
  revert Ga
  revert da
  revert Ba
  revert ca
  revert Aa
  revert c2
  revert A2
  exact Rb1.out
 exact z6.nil
 intro A2 c2 Aa ca Ba da Ga na g7 wRb3 hall
 obtain ⟨hB, h7, h7l, ho, hl, hHeld⟩ := hall
 refine z7 (rs := [10]) (by kernel_rfl) (by simp) ?_
 refine z6.cons (o := _) rfl (fun K hK => ?_) ?_
 ·
  have hba := (Below.refl wRb3.heap.size wRb3).alloc (Nat.le_refl _) (.cells #[.slice none 0 0, .slice none 0 0, .int .i64 0, .int .i64 0] 26)
  have hn := Arr.new wRb3 26 [.slice none 0 0, .slice none 0 0, .int .i64 0, .int .i64 0]
  have hnl : w2.heap.size ≤ wRb3.heap.size := hB.size
  obtain ⟨g6, hge⟩ : ∃ g, g = wRb3.heap.size := ⟨_, rfl⟩
  have hN : ∀ b, b = g6 → wRb3.heap.size ≤ b := fun b h => by rw [h, hge]; exact Nat.le_refl _
  rw [← hge] at hn hnl
  go_simp
  rw [← hge]
  clear hge
  refine zC hK ?_ (fun W => Below w2.heap.size w2 W ∧ Arr W g6 26 [.slice none 0 0, .slice none 0 0, .int .i64 0, .int .i64 0] ∧ w2.heap.size ≤ g6 ∧ Arr W g7 66 [.int .i64 0, .slice none 0 0, .string ⟨#[]⟩] ∧ w2.heap.size ≤ g7 ∧ g6 ≠ g7 ∧ OwSt W 0 (.slice Aa (zb s D).blobs.length ca) (.slice Ba (zb s D).ents.length da) (zb s D) (fun b => b = g6 ∨ b = g7) ∧ W.ownsRow 0 9 1 (.slice Ga 0 na) 0 []) (fun W => True) ?_ ?_ (fun wn19 hHeld2 hF _ => ?_)
  ·exact HSB.out _ ((hB.trans (hba.mono hB.size)))
  ·exact ⟨hB.trans (hba.mono hB.size), hn, hnl, h7.below hba, h7l, (fun e => Nat.lt_irrefl _ (by have h1 := h7.lt; rw [← e] at h1; exact Nat.lt_of_lt_of_le h1 (hN _ rfl))), (ho.wider (N' := (fun b => b = g6 ∨ b = g7)) (fun b hb => hb.elim (fun hb => .inr (hN _ hb)) (fun hb => .inl hb))).below hba, za hl hba⟩
  ·trivial
  clear hl ho h7l h7 hB hHeld
  have hHeld := hHeld2
  clear hHeld2
  obtain ⟨hB, h6, h6l, h7, h7l, h67n, ho, hl⟩ := hF
  clear hba hn hnl hN
  clear hK K
  try simp only [sqP]
  have hall := And.intro hB (And.intro h6 (And.intro h6l (And.intro h7 (And.intro h7l (And.intro h67n (And.intro ho (And.intro hl hHeld)))))))
  clear hHeld hl ho h67n h7l h7 h6l h6 hB
  generalize wn19 = wz at hall ⊢
  revert hall
  revert wz
  revert g7
  revert g6
  revert na
  revert Ga
  revert da
  revert Ba
  revert ca
  revert Aa
  revert c2
  revert A2
  exact Rb1.out
 exact z6.nil
 intro A2 c2 Aa ca Ba da Ga na g6 wRb2 hall
 obtain ⟨hB, h6, h6l, ho, hl, hHeld⟩ := hall
 refine z7 (rs := [11]) (by kernel_rfl) (by simp) ?_
 refine z6.cons (o := _) rfl (fun K hK => ?_) ?_
 ·
  have hba := (Below.refl wRb2.heap.size wRb2).alloc (Nat.le_refl _) (.cells #[.int .i64 0, .slice none 0 0, .string ⟨#[]⟩] 66)
  have hn := Arr.new wRb2 66 [.int .i64 0, .slice none 0 0, .string ⟨#[]⟩]
  have hnl : w2.heap.size ≤ wRb2.heap.size := hB.size
  obtain ⟨g7, hge⟩ : ∃ g, g = wRb2.heap.size := ⟨_, rfl⟩
  have hN : ∀ b, b = g7 → wRb2.heap.size ≤ b := fun b h => by rw [h, hge]; exact Nat.le_refl _
  rw [← hge] at hn hnl
  go_simp
  rw [← hge]
  clear hge
  refine zC hK ?_ (fun W => Below w2.heap.size w2 W ∧ Arr W g6 26 [.slice none 0 0, .slice none 0 0, .int .i64 0, .int .i64 0] ∧ w2.heap.size ≤ g6 ∧ Arr W g7 66 [.int .i64 0, .slice none 0 0, .string ⟨#[]⟩] ∧ w2.heap.size ≤ g7 ∧ g6 ≠ g7 ∧ OwSt W 0 (.slice Aa (zb s D).blobs.length ca) (.slice Ba (zb s D).ents.length da) (zb s D) (fun b => b = g6 ∨ b = g7) ∧ W.ownsRow 0 9 1 (.slice Ga 0 na) 0 []) (fun W => True) ?_ ?_ (fun wn20 hHeld2 hF _ => ?_)
  ·exact HSB.out _ ((hB.trans (hba.mono hB.size)))
  ·exact ⟨hB.trans (hba.mono hB.size), h6.below hba, h6l, hn, hnl, (fun e => Nat.lt_irrefl _ (by have h1 := h6.lt; rw [e] at h1; exact Nat.lt_of_lt_of_le h1 (hN _ rfl))), (ho.wider (N' := (fun b => b = g6 ∨ b = g7)) (fun b hb => hb.elim (fun hb => .inl hb) (fun hb => .inr (hN _ hb)))).below hba, za hl hba⟩
  ·trivial
  clear hl ho h6l h6 hB hHeld
  have hHeld := hHeld2
  clear hHeld2
  obtain ⟨hB, h6, h6l, h7, h7l, h67n, ho, hl⟩ := hF
  clear hba hn hnl hN
  clear hK K
  try simp only [sqP]
  have hall := And.intro hB (And.intro h6 (And.intro h6l (And.intro h7 (And.intro h7l (And.intro h67n (And.intro ho (And.intro hl hHeld)))))))
  clear hHeld hl ho h67n h7l h7 h6l h6 hB
  generalize wn20 = wz at hall ⊢
  revert hall
  revert wz
  revert g7
  revert g6
  revert na
  revert Ga
  revert da
  revert Ba
  revert ca
  revert Aa
  revert c2
  revert A2
  exact Rb1.out
 exact z6.nil
 intro A2 c2 Aa ca Ba da Ga na g6 g7 wRb1 hall
 obtain ⟨hB, h6, h6l, h7, h7l, h67n, ho, hl, hHeld⟩ := hall
 refine z7 (rs := [12]) (by kernel_rfl) (by simp) ?_
 refine z6.store (o := _) rfl (by rfl) (fun K hK => ?_) ?_
 ·
  have hqho := ho.nb h6 (by decide) (by decide)
  have hqhl := zm hl h6 (by decide)
  have z0 := h6.cell (k := 0) rfl
  have f0 := h6.frozen 0
  have z1 := h6.cell (k := 1) rfl
  have f1 := h6.frozen 1
  have z2 := h6.cell (k := 2) rfl
  have f2 := h6.frozen 2
  have z3 := h6.cell (k := 3) rfl
  have f3 := h6.frozen 3
  go_simp
  clear z0 f0 z1 f1 z2 f2 z3 f3
  refine jI hK (fun W => Below w2.heap.size w2 W ∧ Arr W g6 26 [(.slice Aa (zb s D).blobs.length ca), (.slice Ba (zb s D).ents.length da), .int .i64 (s.room : Int), .int .i64 (s.clock : Int)] ∧ w2.heap.size ≤ g6 ∧ Arr W g7 66 [.int .i64 0, .slice none 0 0, .string ⟨#[]⟩] ∧ w2.heap.size ≤ g7 ∧ g6 ≠ g7 ∧ OwSt W 0 (.slice Aa (zb s D).blobs.length ca) (.slice Ba (zb s D).ents.length da) (zb s D) (fun b => b = g6 ∨ b = g7) ∧ W.ownsRow 0 9 1 (.slice Ga 0 na) 0 []) (fun W => True) ?_ ?_ (fun wn21 hF _ => ?_)
  ·exact ⟨((((hB).setCell (p := ⟨g6, 0, none⟩) h6l _).setCell (p := ⟨g6, 1, none⟩) h6l _).setCell (p := ⟨g6, 2, none⟩) h6l _).setCell (p := ⟨g6, 3, none⟩) h6l _, h6.all4 _ _ _ _, h6l, ((((h7).other (h67n.symm) _).other (h67n.symm) _).other (h67n.symm) _).other (h67n.symm) _, h7l, h67n, ho.set4N (.inl rfl) hqho.1 hqho.2 _ _ _ _, qT hl hqhl _ _ _ _⟩
  ·trivial
  clear hl ho h67n h7l h7 h6l h6 hB hHeld
  obtain ⟨hB, h6, h6l, h7, h7l, h67n, ho, hl⟩ := hF
  clear hqho hqhl
  clear hK K
  try simp only [sqP]
  refine z7 (rs := [13]) (by kernel_rfl) (by simp) ?_
  refine z6.store (o := _) rfl (by rfl) (fun K hK => ?_) ?_
  ·
   have hqho := ho.nb h7 (by decide) (by decide)
   have hqhl := zm hl h7 (by decide)
   have z0 := h7.cell (k := 0) rfl
   have f0 := h7.frozen 0
   have z1 := h7.cell (k := 1) rfl
   have f1 := h7.frozen 1
   have z2 := h7.cell (k := 2) rfl
   have f2 := h7.frozen 2
   go_simp
   clear z0 f0 z1 f1 z2 f2
   refine jI hK (fun W => Below w2.heap.size w2 W ∧ Arr W g6 26 [(.slice Aa (zb s D).blobs.length ca), (.slice Ba (zb s D).ents.length da), .int .i64 (s.room : Int), .int .i64 (s.clock : Int)] ∧ w2.heap.size ≤ g6 ∧ Arr W g7 66 [.int .i64 0, (.slice Ga 0 na), .string ⟨#[]⟩] ∧ w2.heap.size ≤ g7 ∧ g6 ≠ g7 ∧ OwSt W 0 (.slice Aa (zb s D).blobs.length ca) (.slice Ba (zb s D).ents.length da) (zb s D) (fun b => b = g6 ∨ b = g7) ∧ W.ownsRow 0 9 1 (.slice Ga 0 na) 0 []) (fun W => True) ?_ ?_ (fun wn22 hF _ => ?_)
   ·exact ⟨(((hB).setCell (p := ⟨g7, 0, none⟩) h7l _).setCell (p := ⟨g7, 1, none⟩) h7l _).setCell (p := ⟨g7, 2, none⟩) h7l _, (((h6).other (h67n) _).other (h67n) _).other (h67n) _, h6l, h7.all3 _ _ _, h7l, h67n, ho.set3N (.inr rfl) hqho.1 hqho.2 _ _ _, qx hl hqhl _ _ _⟩
   ·trivial
   clear hl ho h67n h7l h7 h6l h6 hB
   obtain ⟨hB, h6, h6l, h7, h7l, h67n, ho, hl⟩ := hF
   clear hqho hqhl
   clear hK K
   try simp only [sqP]
   refine tkP 14 ?_
   try simp only [sqP]
   refine tkP 15 ?_
   try simp only [sqP]
   refine zH (by kernel_rfl) ?_ _
   dsimp only [Exit.then]
   have hall := And.intro hB (And.intro h6 (And.intro h6l (And.intro h7 (And.intro h7l (And.intro h67n (And.intro ho hl))))))
   clear hl ho h67n h7l h7 h6l h6 hB
   generalize wn22 = wz at hall ⊢
   revert hall
   revert wz
   revert g7
   revert g6
   revert na
   revert Ga
   revert da
   revert Ba
   revert ca
   revert Aa
   revert c2
   revert A2
   exact REST.out
  exact z6.nil
 exact z6.nil
 intro A2 c2 Aa ca Ba da Ga na g6 g7 w3 hall
 obtain ⟨hB, h6, h6l, h7, h7l, h67n, ho, hl⟩ := hall
 have hrdw3 : RdSt w3 Aa ca Ba da (zb s D) := by
  obtain ⟨_, _, _, _, e1, e2, h⟩ := ho.rows
  cases e1; cases e2; exact h
 have HK3 := Lib.hid (show ∀ W, Below w3.heap.size w3 W → Arr W gs 26 [.slice As s.blobs.length cs, .slice Bs s.ents.length ds, .int .i64 (s.room : Int), .int .i64 (s.clock : Int)] ∧ Arr W gr 47 [.int .i64 rk, .int .i64 ra, .int .i64 rb, .string rt] ∧ RdSt W As cs Bs ds s ∧ Arr W g6 26 [.slice Aa (zb s D).blobs.length ca, .slice Ba (zb s D).ents.length da, .int .i64 (s.room : Int), .int .i64 (s.clock : Int)] ∧ Arr W g7 66 [.int .i64 0, .slice Ga 0 na, .string ⟨#[]⟩] ∧ RdSt W Aa ca Ba da (zb s D) from fun W h => ⟨(HKX.out _ (hB.trans (h.mono hB.size))).1, (HKX.out _ (hB.trans (h.mono hB.size))).2.1, (HKX.out _ (hB.trans (h.mono hB.size))).2.2, h6.below h, h7.below h, hrdw3.below h⟩)
 have HSB3 := Lib.hid (show ∀ W, Below w3.heap.size w3 W → (W.cell? ⟨gs, 0, none⟩ = some (.slice As s.blobs.length cs) ∧ W.cell? ⟨gs, 1, none⟩ = some (.slice Bs s.ents.length ds) ∧ W.cell? ⟨gs, 2, none⟩ = some (.int .i64 (s.room : Int)) ∧ W.cell? ⟨gs, 3, none⟩ = some (.int .i64 (s.clock : Int))) ∧ (W.cell? ⟨gr, 0, none⟩ = some (.int .i64 rk) ∧ W.cell? ⟨gr, 1, none⟩ = some (.int .i64 ra) ∧ W.cell? ⟨gr, 2, none⟩ = some (.int .i64 rb) ∧ W.cell? ⟨gr, 3, none⟩ = some (.string rt)) from fun W h => by
  obtain ⟨z1, z2, -⟩ := HK3.out W h
  exact ⟨⟨z1.cell (k := 0) rfl, z1.cell (k := 1) rfl, z1.cell (k := 2) rfl, z1.cell (k := 3) rfl⟩, z2.cell (k := 0) rfl, z2.cell (k := 1) rfl, z2.cell (k := 2) rfl, z2.cell (k := 3) rfl⟩)
 have HB3 := Lib.hid (HB2.out.trans (hB.mono (show gr ≤ w2.heap.size by omega)))
 clear hB h6 h6l h7 h7l h67n ho hl hrdw3 HPB
 go_wp2_with fail
 apply zn
 intro REST2
 apply zn
 intro Rc1
 apply zn
 intro Rc2
 refine zq [9] (S := (fun w' => (w'.cell? ⟨gs, 0, none⟩ = some (.slice As s.blobs.length cs) ∧ w'.cell? ⟨gs, 1, none⟩ = some (.slice Bs s.ents.length ds) ∧ w'.cell? ⟨gs, 2, none⟩ = some (.int .i64 (s.room : Int)) ∧ w'.cell? ⟨gs, 3, none⟩ = some (.int .i64 (s.clock : Int))) ∧ (w'.cell? ⟨gr, 0, none⟩ = some (.int .i64 rk) ∧ w'.cell? ⟨gr, 1, none⟩ = some (.int .i64 ra) ∧ w'.cell? ⟨gr, 2, none⟩ = some (.int .i64 rb) ∧ w'.cell? ⟨gr, 3, none⟩ = some (.string rt)))) (by kernel_rfl) ?_ (fun hHeld => ?_)
 ·exact HSB3.out _ ((Below.refl w3.heap.size w3).drew)
 have hB := (Below.refl w3.heap.size w3).drew
 generalize w3.drew = wn0 at *
 refine tkU 0 ?_
 try simp only [sqP]
 refine tkU 1 ?_
 try simp only [sqP]
 refine z7 (rs := [2, 8]) (by kernel_rfl) (by simp) ?_
 refine z6.cons (o := _) rfl (fun K hK => ?_) ?_
 ·
  go_simp
  refine (HDT.out wn0).mono ?_
  rintro e5 w5 ⟨A3, c3, rfl, hz5, hb5⟩
  dsimp only
  refine zC hK ?_ (fun W => Below w3.heap.size w3 W ∧ zY W w3.heap.size A3 c3 D) (fun W => True) ?_ ?_ (fun wn1 hHeld2 hF _ => ?_)
  ·exact HSB3.out _ ((hB.trans (hb5.mono hB.size)))
  ·exact ⟨hB.trans (hb5.mono hB.size), hz5.lower hB.size⟩
  ·trivial
  clear hB hHeld
  have hHeld := hHeld2
  clear hHeld2
  obtain ⟨hB, hD⟩ := hF
  clear hb5 hz5
  clear hK K
  try simp only [sqP]
  refine z7 (rs := [3, 8]) (by kernel_rfl) (by simp) ?_
  refine z6.cons (o := _) rfl (fun K hK => ?_) ?_
  ·
   go_simp
   refine (HPC.out wn1 A3 c3 (HK3.out _ hB).2.2.1 hD.sl.1).mono ?_
   rintro e5 w5 ⟨Ab, cb, Bb, db, rfl, ho5, hb5⟩
   dsimp only
   refine zC hK ?_ (fun W => Below w3.heap.size w3 W ∧ OwSt W 0 (.slice Ab (zb s D).blobs.length cb) (.slice Bb (zb s D).ents.length db) (zb s D) (fun b => False)) (fun W => True) ?_ ?_ (fun wn2 hHeld2 hF _ => ?_)
   ·exact HSB3.out _ ((hB.trans (hb5.mono hB.size)))
   ·exact ⟨hB.trans (hb5.mono hB.size), (ho5.lower (base' := 0) (Nat.zero_le _)).mono (fun b hb => hb.elim)⟩
   ·trivial
   clear hD hB hHeld
   have hHeld := hHeld2
   clear hHeld2
   obtain ⟨hB, ho⟩ := hF
   clear hb5 ho5
   clear hK K
   try simp only [sqP]
   refine tkP 4 ?_
   try simp only [sqP]
   refine tkP 5 ?_
   try simp only [sqP]
   refine tkP 6 ?_
   try simp only [sqP]
   refine tkP 7 ?_
   try simp only [sqP]
   refine z7 (rs := [8]) (by kernel_rfl) (by simp) ?_
   refine z6.cons (o := _) rfl (fun K hK => ?_) ?_
   ·
    have hba := (Below.refl wn2.heap.size wn2).alloc (Nat.le_refl _) (.cells #[.slice none 0 0, .slice none 0 0, .int .i64 0, .int .i64 0] 26)
    have hn := Arr.new wn2 26 [.slice none 0 0, .slice none 0 0, .int .i64 0, .int .i64 0]
    have hnl : w3.heap.size ≤ wn2.heap.size := hB.size
    obtain ⟨g8, hge⟩ : ∃ g, g = wn2.heap.size := ⟨_, rfl⟩
    have hN : ∀ b, b = g8 → wn2.heap.size ≤ b := fun b h => by rw [h, hge]; exact Nat.le_refl _
    rw [← hge] at hn hnl
    go_simp
    rw [← hge]
    clear hge
    refine zC hK ?_ (fun W => Below w3.heap.size w3 W ∧ Arr W g8 26 [.slice none 0 0, .slice none 0 0, .int .i64 0, .int .i64 0] ∧ w3.heap.size ≤ g8 ∧ OwSt W 0 (.slice Ab (zb s D).blobs.length cb) (.slice Bb (zb s D).ents.length db) (zb s D) (fun b => b = g8)) (fun W => True) ?_ ?_ (fun wn3 hHeld2 hF _ => ?_)
    ·exact HSB3.out _ ((hB.trans (hba.mono hB.size)))
    ·exact ⟨hB.trans (hba.mono hB.size), hn, hnl, (ho.wider (N' := (fun b => b = g8)) (fun b hb => .inr (hN _ hb))).below hba⟩
    ·trivial
    clear ho hB hHeld
    have hHeld := hHeld2
    clear hHeld2
    obtain ⟨hB, h8, h8l, ho⟩ := hF
    clear hba hn hnl hN
    clear hK K
    try simp only [sqP]
    have hall := And.intro hB (And.intro h8 (And.intro h8l (And.intro ho hHeld)))
    clear hHeld ho h8l h8 hB
    generalize wn3 = wz at hall ⊢
    revert hall
    revert wz
    revert g8
    revert db
    revert Bb
    revert cb
    revert Ab
    revert c3
    revert A3
    exact Rc1.out
   exact z6.nil
  refine z6.cons (o := _) rfl (fun K hK => ?_) ?_
  ·
   have hba := (Below.refl wn1.heap.size wn1).alloc (Nat.le_refl _) (.cells #[.slice none 0 0, .slice none 0 0, .int .i64 0, .int .i64 0] 26)
   have hn := Arr.new wn1 26 [.slice none 0 0, .slice none 0 0, .int .i64 0, .int .i64 0]
   have hnl : w3.heap.size ≤ wn1.heap.size := hB.size
   obtain ⟨g8, hge⟩ : ∃ g, g = wn1.heap.size := ⟨_, rfl⟩
   have hN : ∀ b, b = g8 → wn1.heap.size ≤ b := fun b h => by rw [h, hge]; exact Nat.le_refl _
   rw [← hge] at hn hnl
   go_simp
   rw [← hge]
   clear hge
   refine zC hK ?_ (fun W => Below w3.heap.size w3 W ∧ Arr W g8 26 [.slice none 0 0, .slice none 0 0, .int .i64 0, .int .i64 0] ∧ w3.heap.size ≤ g8 ∧ zY W w3.heap.size A3 c3 D) (fun W => True) ?_ ?_ (fun wn4 hHeld2 hF _ => ?_)
   ·exact HSB3.out _ ((hB.trans (hba.mono hB.size)))
   ·exact ⟨hB.trans (hba.mono hB.size), hn, hnl, hD.below hba⟩
   ·trivial
   clear hD hB hHeld
   have hHeld := hHeld2
   clear hHeld2
   obtain ⟨hB, h8, h8l, hD⟩ := hF
   clear hba hn hnl hN
   clear hK K
   try simp only [sqP]
   have hall := And.intro hB (And.intro h8 (And.intro h8l (And.intro hD hHeld)))
   clear hHeld hD h8l h8 hB
   generalize wn4 = wz at hall ⊢
   revert hall
   revert wz
   revert g8
   revert c3
   revert A3
   exact Rc2.out
  exact z6.nil
 refine z6.cons (o := _) rfl (fun K hK => ?_) ?_
 ·
  have hba := (Below.refl wn0.heap.size wn0).alloc (Nat.le_refl _) (.cells #[.slice none 0 0, .slice none 0 0, .int .i64 0, .int .i64 0] 26)
  have hn := Arr.new wn0 26 [.slice none 0 0, .slice none 0 0, .int .i64 0, .int .i64 0]
  have hnl : w3.heap.size ≤ wn0.heap.size := hB.size
  obtain ⟨g8, hge⟩ : ∃ g, g = wn0.heap.size := ⟨_, rfl⟩
  have hN : ∀ b, b = g8 → wn0.heap.size ≤ b := fun b h => by rw [h, hge]; exact Nat.le_refl _
  rw [← hge] at hn hnl
  go_simp
  rw [← hge]
  clear hge
  refine zC hK ?_ (fun W => Below w3.heap.size w3 W ∧ Arr W g8 26 [.slice none 0 0, .slice none 0 0, .int .i64 0, .int .i64 0] ∧ w3.heap.size ≤ g8) (fun W => True) ?_ ?_ (fun wn5 hHeld2 hF _ => ?_)
  ·exact HSB3.out _ ((hB.trans (hba.mono hB.size)))
  ·exact ⟨hB.trans (hba.mono hB.size), hn, hnl⟩
  ·trivial
  clear hB hHeld
  have hHeld := hHeld2
  clear hHeld2
  obtain ⟨hB, h8, h8l⟩ := hF
  clear hba hn hnl hN
  clear hK K
  try simp only [sqP]
  refine z7 (rs := [2]) (by kernel_rfl) (by simp) ?_
  refine z6.cons (o := _) rfl (fun K hK => ?_) ?_
  ·
   go_simp
   refine (HDT.out wn5).mono ?_
   rintro e5 w5 ⟨A3, c3, rfl, hz5, hb5⟩
   dsimp only
   refine zC hK ?_ (fun W => Below w3.heap.size w3 W ∧ Arr W g8 26 [.slice none 0 0, .slice none 0 0, .int .i64 0, .int .i64 0] ∧ w3.heap.size ≤ g8 ∧ zY W w3.heap.size A3 c3 D) (fun W => True) ?_ ?_ (fun wn6 hHeld2 hF _ => ?_)
   ·exact HSB3.out _ ((hB.trans (hb5.mono hB.size)))
   ·exact ⟨hB.trans (hb5.mono hB.size), h8.below hb5, h8l, hz5.lower hB.size⟩
   ·trivial
   clear h8l h8 hB hHeld
   have hHeld := hHeld2
   clear hHeld2
   obtain ⟨hB, h8, h8l, hD⟩ := hF
   clear hb5 hz5
   clear hK K
   try simp only [sqP]
   have hall := And.intro hB (And.intro h8 (And.intro h8l (And.intro hD hHeld)))
   clear hHeld hD h8l h8 hB
   generalize wn6 = wz at hall ⊢
   revert hall
   revert wz
   revert g8
   revert c3
   revert A3
   exact Rc2.out
  exact z6.nil
 exact z6.nil
 intro A3 c3 g8 wRc2 hall
 obtain ⟨hB, h8, h8l, hD, hHeld⟩ := hall
 refine z7 (rs := [3]) (by kernel_rfl) (by simp) ?_
 refine z6.cons (o := _) rfl (fun K hK => ?_) ?_
 ·
  go_simp
  refine (HPC.out wRc2 A3 c3 (HK3.out _ hB).2.2.1 hD.sl.1).mono ?_
  rintro e5 w5 ⟨Ab, cb, Bb, db, rfl, ho5, hb5⟩
  dsimp only
  refine zC hK ?_ (fun W => Below w3.heap.size w3 W ∧ Arr W g8 26 [.slice none 0 0, .slice none 0 0, .int .i64 0, .int .i64 0] ∧ w3.heap.size ≤ g8 ∧ OwSt W 0 (.slice Ab (zb s D).blobs.length cb) (.slice Bb (zb s D).ents.length db) (zb s D) (fun b => b = g8)) (fun W => True) ?_ ?_ (fun wn7 hHeld2 hF _ => ?_)
  ·exact HSB3.out _ ((hB.trans (hb5.mono hB.size)))
  ·exact ⟨hB.trans (hb5.mono hB.size), h8.below hb5, h8l, (ho5.lower (base' := 0) (Nat.zero_le _)).mono (N' := (fun b => b = g8)) (fun b hb => (by rw [hb]; exact h8.lt))⟩
  ·trivial
  clear hD h8l h8 hB hHeld
  have hHeld := hHeld2
  clear hHeld2
  obtain ⟨hB, h8, h8l, ho⟩ := hF
  clear hb5 ho5
  clear hK K
  try simp only [sqP]
  refine tkP 4 ?_
  try simp only [sqP]
  refine tkP 5 ?_
  try simp only [sqP]
  refine tkP 6 ?_
  try simp only [sqP]
  refine tkP 7 ?_
  try simp only [sqP]
  have hall := And.intro hB (And.intro h8 (And.intro h8l (And.intro ho hHeld)))
  clear hHeld ho h8l h8 hB
  generalize wn7 = wz at hall ⊢
  revert hall
  revert wz
  revert g8
  revert db
  revert Bb
  revert cb
  revert Ab
  revert c3
  revert A3
  exact Rc1.out
 exact z6.nil
 intro A3 c3 Ab cb Bb db g8 wRc1 hall
 obtain ⟨hB, h8, h8l, ho, hHeld⟩ := hall
 refine z7 (rs := [9]) (by kernel_rfl) (by simp) ?_
 refine z6.store (o := _) rfl (by rfl) (fun K hK => ?_) ?_
 ·
  have hqho := ho.nb h8 (by decide) (by decide)
  have z0 := h8.cell (k := 0) rfl
  have f0 := h8.frozen 0
  have z1 := h8.cell (k := 1) rfl
  have f1 := h8.frozen 1
  have z2 := h8.cell (k := 2) rfl
  have f2 := h8.frozen 2
  have z3 := h8.cell (k := 3) rfl
  have f3 := h8.frozen 3
  go_simp
  clear z0 f0 z1 f1 z2 f2 z3 f3
  refine jI hK (fun W => Below w3.heap.size w3 W ∧ Arr W g8 26 [(.slice Ab (zb s D).blobs.length cb), (.slice Bb (zb s D).ents.length db), .int .i64 (s.room : Int), .int .i64 (s.clock : Int)] ∧ w3.heap.size ≤ g8 ∧ OwSt W 0 (.slice Ab (zb s D).blobs.length cb) (.slice Bb (zb s D).ents.length db) (zb s D) (fun b => b = g8)) (fun W => True) ?_ ?_ (fun wn8 hF _ => ?_)
  ·exact ⟨((((hB).setCell (p := ⟨g8, 0, none⟩) h8l _).setCell (p := ⟨g8, 1, none⟩) h8l _).setCell (p := ⟨g8, 2, none⟩) h8l _).setCell (p := ⟨g8, 3, none⟩) h8l _, h8.all4 _ _ _ _, h8l, ho.set4N rfl hqho.1 hqho.2 _ _ _ _⟩
  ·trivial
  clear ho h8l h8 hB hHeld
  obtain ⟨hB, h8, h8l, ho⟩ := hF
  clear hqho
  clear hK K
  try simp only [sqP]
  refine tkP 10 ?_
  try simp only [sqP]
  refine tkP 11 ?_
  try simp only [sqP]
  refine zH (by kernel_rfl) ?_ _
  dsimp only [Exit.then]
  have hall := And.intro hB (And.intro h8 (And.intro h8l ho))
  clear ho h8l h8 hB
  generalize wn8 = wz at hall ⊢
  revert hall
  revert wz
  revert g8
  revert db
  revert Bb
  revert cb
  revert Ab
  revert c3
  revert A3
  exact REST2.out
 exact z6.nil
 intro A3 c3 Ab cb Bb db g8 w4 hall
 obtain ⟨hB, h8, h8l, ho⟩ := hall
 have hrdw4 : RdSt w4 Ab cb Bb db (zb s D) := by
  obtain ⟨_, _, _, _, e1, e2, h⟩ := ho.rows
  cases e1; cases e2; exact h
 have HK4 := Lib.hid (show ∀ W, Below w4.heap.size w4 W → Arr W gs 26 [.slice As s.blobs.length cs, .slice Bs s.ents.length ds, .int .i64 (s.room : Int), .int .i64 (s.clock : Int)] ∧ Arr W gr 47 [.int .i64 rk, .int .i64 ra, .int .i64 rb, .string rt] ∧ RdSt W As cs Bs ds s ∧ Arr W g6 26 [.slice Aa (zb s D).blobs.length ca, .slice Ba (zb s D).ents.length da, .int .i64 (s.room : Int), .int .i64 (s.clock : Int)] ∧ Arr W g7 66 [.int .i64 0, .slice Ga 0 na, .string ⟨#[]⟩] ∧ RdSt W Aa ca Ba da (zb s D) ∧ Arr W g8 26 [.slice Ab (zb s D).blobs.length cb, .slice Bb (zb s D).ents.length db, .int .i64 (s.room : Int), .int .i64 (s.clock : Int)] ∧ RdSt W Ab cb Bb db (zb s D) from fun W h => ⟨(HK3.out _ (hB.trans (h.mono hB.size))).1, (HK3.out _ (hB.trans (h.mono hB.size))).2.1, (HK3.out _ (hB.trans (h.mono hB.size))).2.2.1, (HK3.out _ (hB.trans (h.mono hB.size))).2.2.2.1, (HK3.out _ (hB.trans (h.mono hB.size))).2.2.2.2.1, (HK3.out _ (hB.trans (h.mono hB.size))).2.2.2.2.2, h8.below h, hrdw4.below h⟩)
 have HSB4 := Lib.hid (show ∀ W, Below w4.heap.size w4 W → (W.cell? ⟨gs, 0, none⟩ = some (.slice As s.blobs.length cs) ∧ W.cell? ⟨gs, 1, none⟩ = some (.slice Bs s.ents.length ds) ∧ W.cell? ⟨gs, 2, none⟩ = some (.int .i64 (s.room : Int)) ∧ W.cell? ⟨gs, 3, none⟩ = some (.int .i64 (s.clock : Int))) ∧ (W.cell? ⟨gr, 0, none⟩ = some (.int .i64 rk) ∧ W.cell? ⟨gr, 1, none⟩ = some (.int .i64 ra) ∧ W.cell? ⟨gr, 2, none⟩ = some (.int .i64 rb) ∧ W.cell? ⟨gr, 3, none⟩ = some (.string rt)) from fun W h => by
  obtain ⟨z1, z2, -⟩ := HK4.out W h
  exact ⟨⟨z1.cell (k := 0) rfl, z1.cell (k := 1) rfl, z1.cell (k := 2) rfl, z1.cell (k := 3) rfl⟩, z2.cell (k := 0) rfl, z2.cell (k := 1) rfl, z2.cell (k := 2) rfl, z2.cell (k := 3) rfl⟩)
 have HB4 := Lib.hid (HB3.out.trans (hB.mono (show gr ≤ w3.heap.size by have := HB3.out.size; have := HGR.out; omega)))
 obtain ⟨t, ht⟩ : ∃ t, t = jx s (keyS (pk ra 7)) ps := ⟨_, rfl⟩
 obtain ⟨sk, hsk⟩ : ∃ x : ByteArray, x = ⟨(keyS (pk ra 7)).toArray⟩ := ⟨_, rfl⟩
 have hKh : hexC (keyS (pk ra 7)) = 0 := zB _
 have hky := fun W => Qd ra W HRO.out.a0 HRO.out.a1
 have hbp := fun W A2 c2 (h : RdSt W As cs Bs ds s) (hz : Sl W 3 A2 ps.length c2 (pcs ps)) => ZM As cs Bs ds s (keyS (pk ra 7)) ps A2 c2 W HSG.out h hKh HP1.out HP2.out (by omega) (by omega) hz t ht
 have hps2 := fun W A2 c2 (h : RdSt W As cs Bs ds s) (hz : Sl W 3 A2 ps.length c2 (pcs ps)) => ja As cs Bs ds s t (keyS (pk ra 7)) ps A2 c2 W HSG.out h hKh HP1.out HP2.out (by omega) (by omega) hz ht
 have htg : GoodS t := by rw [ht]; exact yU HSG.out hKh HP1.out (qI HP2.out) (by omega) (by omega)
 rw [← hsk] at hky hbp hps2
 have HKY := Lib.hid hky
 have HBP := Lib.hid hbp
 have HPS := Lib.hid hps2
 have HTG2 := Lib.hid htg
 have HPT1 := Lib.hid (fun W (h : RdSt W As cs Bs ds s) => HPT.out As cs W h.bc h.bm h.b)
 clear hB h8 h8l ho hrdw4 HPC hky hbp hps2 htg ht hsk hKh
 go_wp2_with fail
 apply zn
 intro REST3
 apply zn
 intro Rd1
 apply zn
 intro Rd2
 apply zn
 intro Rd3
 apply zn
 intro Rd4
 apply zn
 intro Rd5
 apply zn
 intro Rd6
 apply zn
 intro Rd7
 apply zn
 intro Rd8
 apply zn
 intro Rd9
 apply zn
 intro Rd10
 refine zq [16, 17] (S := (fun w' => (w'.cell? ⟨gs, 0, none⟩ = some (.slice As s.blobs.length cs) ∧ w'.cell? ⟨gs, 1, none⟩ = some (.slice Bs s.ents.length ds) ∧ w'.cell? ⟨gs, 2, none⟩ = some (.int .i64 (s.room : Int)) ∧ w'.cell? ⟨gs, 3, none⟩ = some (.int .i64 (s.clock : Int))) ∧ (w'.cell? ⟨gr, 0, none⟩ = some (.int .i64 rk) ∧ w'.cell? ⟨gr, 1, none⟩ = some (.int .i64 ra) ∧ w'.cell? ⟨gr, 2, none⟩ = some (.int .i64 rb) ∧ w'.cell? ⟨gr, 3, none⟩ = some (.string rt)))) (by kernel_rfl) ?_ (fun hHeld => ?_)
 ·exact HSB4.out _ ((Below.refl w4.heap.size w4).drew)
 have hB := (Below.refl w4.heap.size w4).drew
 generalize w4.drew = wn0 at *
 refine tkU 0 ?_
 try simp only [sqP]
 refine tkP 1 ?_
 try simp only [sqP]
 refine tkU 2 ?_
 try simp only [sqP]
 refine tkU 3 ?_
 try simp only [sqP]
 refine tkU 5 ?_
 try simp only [sqP]
 refine tkU 6 ?_
 try simp only [sqP]
 refine tkU 7 ?_
 try simp only [sqP]
 refine z7 (rs := [4, 14, 15]) (by kernel_rfl) (by simp) ?_
 refine z6.cons (o := _) rfl (fun K hK => ?_) ?_
 ·
  go_simp
  refine (HKY.out wn0).mono ?_
  rintro e5 w5 ⟨rfl, hb5⟩
  dsimp only
  refine zC hK ?_ (fun W => Below w4.heap.size w4 W) (fun W => True) ?_ ?_ (fun wn1 hHeld2 hF _ => ?_)
  ·exact HSB4.out _ ((hB.trans (hb5.mono hB.size)))
  ·exact hB.trans (hb5.mono hB.size)
  ·trivial
  clear hB hHeld
  have hHeld := hHeld2
  clear hHeld2
  have hB := hF
  clear hb5
  clear hK K
  try simp only [sqP]
  refine z7 (rs := [8, 14, 15]) (by kernel_rfl) (by simp) ?_
  refine z6.cons (o := _) rfl (fun K hK => ?_) ?_
  ·
   go_simp
   refine (HPT1.out wn1 (HK4.out _ hB).2.2.1).mono ?_
   rintro e5 w5 ⟨vp, rfl, hop, hb5⟩
   obtain ⟨P4, p4, rfl, hsp, -⟩ := ko hop
   clear hop
   dsimp only
   refine zC hK ?_ (fun W => Below w4.heap.size w4 W ∧ Sl W 3 P4 ps.length p4 (pcs ps)) (fun W => True) ?_ ?_ (fun wn2 hHeld2 hF _ => ?_)
   ·exact HSB4.out _ ((hB.trans (hb5.mono hB.size)))
   ·exact ⟨hB.trans (hb5.mono hB.size), hsp⟩
   ·trivial
   clear hB hHeld
   have hHeld := hHeld2
   clear hHeld2
   obtain ⟨hB, hP⟩ := hF
   clear hb5 hsp
   clear hK K
   try simp only [sqP]
   refine z7 (rs := [9, 14, 15]) (by kernel_rfl) (by simp) ?_
   refine z6.cons (o := _) rfl (fun K hK => ?_) ?_
   ·
    go_simp
    refine (HBP.out wn2 P4 p4 (HK4.out _ hB).2.2.1 hP).mono ?_
    rintro e5 w5 ⟨Ac, cc, Bc, dc, Gc, nc, rfl, ho5, hl5, hb5⟩
    dsimp only
    refine zC hK ?_ (fun W => Below w4.heap.size w4 W ∧ OwSt W 0 (.slice Ac t.blobs.length cc) (.slice Bc t.ents.length dc) t (fun b => False) ∧ W.ownsRow 0 9 1 (.slice Gc 0 nc) 0 []) (fun W => True) ?_ ?_ (fun wn3 hHeld2 hF _ => ?_)
    ·exact HSB4.out _ ((hB.trans (hb5.mono hB.size)))
    ·exact ⟨hB.trans (hb5.mono hB.size), (ho5.lower (base' := 0) (Nat.zero_le _)).mono (fun b hb => hb.elim), zc hl5 (Nat.zero_le _)⟩
    ·trivial
    clear hP hB hHeld
    have hHeld := hHeld2
    clear hHeld2
    obtain ⟨hB, ho, hl⟩ := hF
    clear hb5 ho5 hl5
    clear hK K
    try simp only [sqP]
    refine tkP 10 ?_
    try simp only [sqP]
    refine tkP 11 ?_
    try simp only [sqP]
    refine tkP 12 ?_
    try simp only [sqP]
    refine tkP 13 ?_
    try simp only [sqP]
    refine z7 (rs := [14, 15]) (by kernel_rfl) (by simp) ?_
    refine z6.cons (o := _) rfl (fun K hK => ?_) ?_
    ·
     have hba := (Below.refl wn3.heap.size wn3).alloc (Nat.le_refl _) (.cells #[.slice none 0 0, .slice none 0 0, .int .i64 0, .int .i64 0] 26)
     have hn := Arr.new wn3 26 [.slice none 0 0, .slice none 0 0, .int .i64 0, .int .i64 0]
     have hnl : w4.heap.size ≤ wn3.heap.size := hB.size
     obtain ⟨g13, hge⟩ : ∃ g, g = wn3.heap.size := ⟨_, rfl⟩
     have hN : ∀ b, b = g13 → wn3.heap.size ≤ b := fun b h => by rw [h, hge]; exact Nat.le_refl _
     rw [← hge] at hn hnl
     go_simp
     rw [← hge]
     clear hge
     refine zC hK ?_ (fun W => Below w4.heap.size w4 W ∧ Arr W g13 26 [.slice none 0 0, .slice none 0 0, .int .i64 0, .int .i64 0] ∧ w4.heap.size ≤ g13 ∧ OwSt W 0 (.slice Ac t.blobs.length cc) (.slice Bc t.ents.length dc) t (fun b => b = g13) ∧ W.ownsRow 0 9 1 (.slice Gc 0 nc) 0 []) (fun W => True) ?_ ?_ (fun wn4 hHeld2 hF _ => ?_)
     ·exact HSB4.out _ ((hB.trans (hba.mono hB.size)))
     ·exact ⟨hB.trans (hba.mono hB.size), hn, hnl, (ho.wider (N' := (fun b => b = g13)) (fun b hb => .inr (hN _ hb))).below hba, za hl hba⟩
     ·trivial
     clear hl ho hB hHeld
     have hHeld := hHeld2
     clear hHeld2
     obtain ⟨hB, h13, h13l, ho, hl⟩ := hF
     clear hba hn hnl hN
     clear hK K
     try simp only [sqP]
     have hall := And.intro hB (And.intro h13 (And.intro h13l (And.intro ho (And.intro hl hHeld))))
     clear hHeld hl ho h13l h13 hB
     generalize wn4 = wz at hall ⊢
     revert hall
     revert wz
     revert g13
     revert nc
     revert Gc
     revert dc
     revert Bc
     revert cc
     revert Ac
     revert p4
     revert P4
     exact Rd2.out
    refine z6.cons (o := _) rfl (fun K hK => ?_) ?_
    ·
     have hba := (Below.refl wn3.heap.size wn3).alloc (Nat.le_refl _) (.cells #[.int .i64 0, .slice none 0 0, .string ⟨#[]⟩] 66)
     have hn := Arr.new wn3 66 [.int .i64 0, .slice none 0 0, .string ⟨#[]⟩]
     have hnl : w4.heap.size ≤ wn3.heap.size := hB.size
     obtain ⟨g14, hge⟩ : ∃ g, g = wn3.heap.size := ⟨_, rfl⟩
     have hN : ∀ b, b = g14 → wn3.heap.size ≤ b := fun b h => by rw [h, hge]; exact Nat.le_refl _
     rw [← hge] at hn hnl
     go_simp
     rw [← hge]
     clear hge
     refine zC hK ?_ (fun W => Below w4.heap.size w4 W ∧ Arr W g14 66 [.int .i64 0, .slice none 0 0, .string ⟨#[]⟩] ∧ w4.heap.size ≤ g14 ∧ OwSt W 0 (.slice Ac t.blobs.length cc) (.slice Bc t.ents.length dc) t (fun b => b = g14) ∧ W.ownsRow 0 9 1 (.slice Gc 0 nc) 0 []) (fun W => True) ?_ ?_ (fun wn5 hHeld2 hF _ => ?_)
     ·exact HSB4.out _ ((hB.trans (hba.mono hB.size)))
     ·exact ⟨hB.trans (hba.mono hB.size), hn, hnl, (ho.wider (N' := (fun b => b = g14)) (fun b hb => .inr (hN _ hb))).below hba, za hl hba⟩
     ·trivial
     clear hl ho hB hHeld
     have hHeld := hHeld2
     clear hHeld2
     obtain ⟨hB, h14, h14l, ho, hl⟩ := hF
     clear hba hn hnl hN
     clear hK K
     try simp only [sqP]
     have hall := And.intro hB (And.intro h14 (And.intro h14l (And.intro ho (And.intro hl hHeld))))
     clear hHeld hl ho h14l h14 hB
     generalize wn5 = wz at hall ⊢
     revert hall
     revert wz
     revert g14
     revert nc
     revert Gc
     revert dc
     revert Bc
     revert cc
     revert Ac
     revert p4
     revert P4
     exact Rd3.out
    exact z6.nil
   refine z6.cons (o := _) rfl (fun K hK => ?_) ?_
   ·
    have hba := (Below.refl wn2.heap.size wn2).alloc (Nat.le_refl _) (.cells #[.slice none 0 0, .slice none 0 0, .int .i64 0, .int .i64 0] 26)
    have hn := Arr.new wn2 26 [.slice none 0 0, .slice none 0 0, .int .i64 0, .int .i64 0]
    have hnl : w4.heap.size ≤ wn2.heap.size := hB.size
    obtain ⟨g13, hge⟩ : ∃ g, g = wn2.heap.size := ⟨_, rfl⟩
    have hN : ∀ b, b = g13 → wn2.heap.size ≤ b := fun b h => by rw [h, hge]; exact Nat.le_refl _
    rw [← hge] at hn hnl
    go_simp
    rw [← hge]
    clear hge
    refine zC hK ?_ (fun W => Below w4.heap.size w4 W ∧ Arr W g13 26 [.slice none 0 0, .slice none 0 0, .int .i64 0, .int .i64 0] ∧ w4.heap.size ≤ g13 ∧ Sl W 3 P4 ps.length p4 (pcs ps)) (fun W => True) ?_ ?_ (fun wn6 hHeld2 hF _ => ?_)
    ·exact HSB4.out _ ((hB.trans (hba.mono hB.size)))
    ·exact ⟨hB.trans (hba.mono hB.size), hn, hnl, hP.below hba⟩
    ·trivial
    clear hP hB hHeld
    have hHeld := hHeld2
    clear hHeld2
    obtain ⟨hB, h13, h13l, hP⟩ := hF
    clear hba hn hnl hN
    clear hK K
    try simp only [sqP]
    have hall := And.intro hB (And.intro h13 (And.intro h13l (And.intro hP hHeld)))
    clear hHeld hP h13l h13 hB
    generalize wn6 = wz at hall ⊢
    revert hall
    revert wz
    revert g13
    revert p4
    revert P4
    exact Rd5.out
   refine z6.cons (o := _) rfl (fun K hK => ?_) ?_
   ·
    have hba := (Below.refl wn2.heap.size wn2).alloc (Nat.le_refl _) (.cells #[.int .i64 0, .slice none 0 0, .string ⟨#[]⟩] 66)
    have hn := Arr.new wn2 66 [.int .i64 0, .slice none 0 0, .string ⟨#[]⟩]
    have hnl : w4.heap.size ≤ wn2.heap.size := hB.size
    obtain ⟨g14, hge⟩ : ∃ g, g = wn2.heap.size := ⟨_, rfl⟩
    have hN : ∀ b, b = g14 → wn2.heap.size ≤ b := fun b h => by rw [h, hge]; exact Nat.le_refl _
    rw [← hge] at hn hnl
    go_simp
    rw [← hge]
    clear hge
    refine zC hK ?_ (fun W => Below w4.heap.size w4 W ∧ Arr W g14 66 [.int .i64 0, .slice none 0 0, .string ⟨#[]⟩] ∧ w4.heap.size ≤ g14 ∧ Sl W 3 P4 ps.length p4 (pcs ps)) (fun W => True) ?_ ?_ (fun wn7 hHeld2 hF _ => ?_)
    ·exact HSB4.out _ ((hB.trans (hba.mono hB.size)))
    ·exact ⟨hB.trans (hba.mono hB.size), hn, hnl, hP.below hba⟩
    ·trivial
    clear hP hB hHeld
    have hHeld := hHeld2
    clear hHeld2
    obtain ⟨hB, h14, h14l, hP⟩ := hF
    clear hba hn hnl hN
    clear hK K
    try simp only [sqP]
    have hall := And.intro hB (And.intro h14 (And.intro h14l (And.intro hP hHeld)))
    clear hHeld hP h14l h14 hB
    generalize wn7 = wz at hall ⊢
    revert hall
    revert wz
    revert g14
    revert p4
    revert P4
    exact Rd6.out
   exact z6.nil
  refine z6.cons (o := _) rfl (fun K hK => ?_) ?_
  ·
   have hba := (Below.refl wn1.heap.size wn1).alloc (Nat.le_refl _) (.cells #[.slice none 0 0, .slice none 0 0, .int .i64 0, .int .i64 0] 26)
   have hn := Arr.new wn1 26 [.slice none 0 0, .slice none 0 0, .int .i64 0, .int .i64 0]
   have hnl : w4.heap.size ≤ wn1.heap.size := hB.size
   obtain ⟨g13, hge⟩ : ∃ g, g = wn1.heap.size := ⟨_, rfl⟩
   have hN : ∀ b, b = g13 → wn1.heap.size ≤ b := fun b h => by rw [h, hge]; exact Nat.le_refl _
   rw [← hge] at hn hnl
   go_simp
   rw [← hge]
   clear hge
   refine zC hK ?_ (fun W => Below w4.heap.size w4 W ∧ Arr W g13 26 [.slice none 0 0, .slice none 0 0, .int .i64 0, .int .i64 0] ∧ w4.heap.size ≤ g13) (fun W => True) ?_ ?_ (fun wn8 hHeld2 hF _ => ?_)
   ·exact HSB4.out _ ((hB.trans (hba.mono hB.size)))
   ·exact ⟨hB.trans (hba.mono hB.size), hn, hnl⟩
   ·trivial
   clear hB hHeld
   have hHeld := hHeld2
   clear hHeld2
   obtain ⟨hB, h13, h13l⟩ := hF
   clear hba hn hnl hN
   clear hK K
   try simp only [sqP]
   have hall := And.intro hB (And.intro h13 (And.intro h13l hHeld))
   clear hHeld h13l h13 hB
   generalize wn8 = wz at hall ⊢
   revert hall
   revert wz
   revert g13
   exact Rd8.out
  refine z6.cons (o := _) rfl (fun K hK => ?_) ?_
  ·
   have hba := (Below.refl wn1.heap.size wn1).alloc (Nat.le_refl _) (.cells #[.int .i64 0, .slice none 0 0, .string ⟨#[]⟩] 66)
   have hn := Arr.new wn1 66 [.int .i64 0, .slice none 0 0, .string ⟨#[]⟩]
   have hnl : w4.heap.size ≤ wn1.heap.size := hB.size
   obtain ⟨g14, hge⟩ : ∃ g, g = wn1.heap.size := ⟨_, rfl⟩
   have hN : ∀ b, b = g14 → wn1.heap.size ≤ b := fun b h => by rw [h, hge]; exact Nat.le_refl _
   rw [← hge] at hn hnl
   go_simp
   rw [← hge]
   clear hge
   refine zC hK ?_ (fun W => Below w4.heap.size w4 W ∧ Arr W g14 66 [.int .i64 0, .slice none 0 0, .string ⟨#[]⟩] ∧ w4.heap.size ≤ g14) (fun W => True) ?_ ?_ (fun wn9 hHeld2 hF _ => ?_)
   ·exact HSB4.out _ ((hB.trans (hba.mono hB.size)))
   ·exact ⟨hB.trans (hba.mono hB.size), hn, hnl⟩
   ·trivial
   clear hB hHeld
   have hHeld := hHeld2
   clear hHeld2
   obtain ⟨hB, h14, h14l⟩ := hF
   clear hba hn hnl hN
   clear hK K
   try simp only [sqP]
   have hall := And.intro hB (And.intro h14 (And.intro h14l hHeld))
   clear hHeld h14l h14 hB
   generalize wn9 = wz at hall ⊢
   revert hall
   revert wz
   revert g14
   exact Rd9.out
  exact z6.nil
 refine z6.cons (o := _) rfl (fun K hK => ?_) ?_
 ·
  have hba := (Below.refl wn0.heap.size wn0).alloc (Nat.le_refl _) (.cells #[.slice none 0 0, .slice none 0 0, .int .i64 0, .int .i64 0] 26)
  have hn := Arr.new wn0 26 [.slice none 0 0, .slice none 0 0, .int .i64 0, .int .i64 0]
  have hnl : w4.heap.size ≤ wn0.heap.size := hB.size
  obtain ⟨g13, hge⟩ : ∃ g, g = wn0.heap.size := ⟨_, rfl⟩
  have hN : ∀ b, b = g13 → wn0.heap.size ≤ b := fun b h => by rw [h, hge]; exact Nat.le_refl _
  rw [← hge] at hn hnl
  go_simp
  rw [← hge]
  clear hge
  refine zC hK ?_ (fun W => Below w4.heap.size w4 W ∧ Arr W g13 26 [.slice none 0 0, .slice none 0 0, .int .i64 0, .int .i64 0] ∧ w4.heap.size ≤ g13) (fun W => True) ?_ ?_ (fun wn10 hHeld2 hF _ => ?_)
  ·exact HSB4.out _ ((hB.trans (hba.mono hB.size)))
  ·exact ⟨hB.trans (hba.mono hB.size), hn, hnl⟩
  ·trivial
  clear hB hHeld
  have hHeld := hHeld2
  clear hHeld2
  obtain ⟨hB, h13, h13l⟩ := hF
  clear hba hn hnl hN
  clear hK K
  try simp only [sqP]
  refine z7 (rs := [4, 15]) (by kernel_rfl) (by simp) ?_
  refine z6.cons (o := _) rfl (fun K hK => ?_) ?_
  ·
   go_simp
   refine (HKY.out wn10).mono ?_
   rintro e5 w5 ⟨rfl, hb5⟩
   dsimp only
   refine zC hK ?_ (fun W => Below w4.heap.size w4 W ∧ Arr W g13 26 [.slice none 0 0, .slice none 0 0, .int .i64 0, .int .i64 0] ∧ w4.heap.size ≤ g13) (fun W => True) ?_ ?_ (fun wn11 hHeld2 hF _ => ?_)
   ·exact HSB4.out _ ((hB.trans (hb5.mono hB.size)))
   ·exact ⟨hB.trans (hb5.mono hB.size), h13.below hb5, h13l⟩
   ·trivial
   clear h13l h13 hB hHeld
   have hHeld := hHeld2
   clear hHeld2
   obtain ⟨hB, h13, h13l⟩ := hF
   clear hb5
   clear hK K
   try simp only [sqP]
   have hall := And.intro hB (And.intro h13 (And.intro h13l hHeld))
   clear hHeld h13l h13 hB
   generalize wn11 = wz at hall ⊢
   revert hall
   revert wz
   revert g13
   exact Rd8.out
  refine z6.cons (o := _) rfl (fun K hK => ?_) ?_
  ·
   have hba := (Below.refl wn10.heap.size wn10).alloc (Nat.le_refl _) (.cells #[.int .i64 0, .slice none 0 0, .string ⟨#[]⟩] 66)
   have hn := Arr.new wn10 66 [.int .i64 0, .slice none 0 0, .string ⟨#[]⟩]
   have hnl : w4.heap.size ≤ wn10.heap.size := hB.size
   obtain ⟨g14, hge⟩ : ∃ g, g = wn10.heap.size := ⟨_, rfl⟩
   have hN : ∀ b, b = g14 → wn10.heap.size ≤ b := fun b h => by rw [h, hge]; exact Nat.le_refl _
   rw [← hge] at hn hnl
   go_simp
   rw [← hge]
   clear hge
   refine zC hK ?_ (fun W => Below w4.heap.size w4 W ∧ Arr W g13 26 [.slice none 0 0, .slice none 0 0, .int .i64 0, .int .i64 0] ∧ w4.heap.size ≤ g13 ∧ Arr W g14 66 [.int .i64 0, .slice none 0 0, .string ⟨#[]⟩] ∧ w4.heap.size ≤ g14 ∧ g13 ≠ g14) (fun W => True) ?_ ?_ (fun wn12 hHeld2 hF _ => ?_)
   ·exact HSB4.out _ ((hB.trans (hba.mono hB.size)))
   ·exact ⟨hB.trans (hba.mono hB.size), h13.below hba, h13l, hn, hnl, (fun e => Nat.lt_irrefl _ (by have h1 := h13.lt; rw [e] at h1; exact Nat.lt_of_lt_of_le h1 (hN _ rfl)))⟩
   ·trivial
   clear h13l h13 hB hHeld
   have hHeld := hHeld2
   clear hHeld2
   obtain ⟨hB, h13, h13l, h14, h14l, h1314n⟩ := hF
   clear hba hn hnl hN
   clear hK K
   try simp only [sqP]
   have hall := And.intro hB (And.intro h13 (And.intro h13l (And.intro h14 (And.intro h14l (And.intro h1314n hHeld)))))
   clear hHeld h1314n h14l h14 h13l h13 hB
   generalize wn12 = wz at hall ⊢
   revert hall
   revert wz
   revert g14
   revert g13
   exact Rd10.out
  exact z6.nil
 refine z6.cons (o := _) rfl (fun K hK => ?_) ?_
 ·
  have hba := (Below.refl wn0.heap.size wn0).alloc (Nat.le_refl _) (.cells #[.int .i64 0, .slice none 0 0, .string ⟨#[]⟩] 66)
  have hn := Arr.new wn0 66 [.int .i64 0, .slice none 0 0, .string ⟨#[]⟩]
  have hnl : w4.heap.size ≤ wn0.heap.size := hB.size
  obtain ⟨g14, hge⟩ : ∃ g, g = wn0.heap.size := ⟨_, rfl⟩
  have hN : ∀ b, b = g14 → wn0.heap.size ≤ b := fun b h => by rw [h, hge]; exact Nat.le_refl _
  rw [← hge] at hn hnl
  go_simp
  rw [← hge]
  clear hge
  refine zC hK ?_ (fun W => Below w4.heap.size w4 W ∧ Arr W g14 66 [.int .i64 0, .slice none 0 0, .string ⟨#[]⟩] ∧ w4.heap.size ≤ g14) (fun W => True) ?_ ?_ (fun wn13 hHeld2 hF _ => ?_)
  ·exact HSB4.out _ ((hB.trans (hba.mono hB.size)))
  ·exact ⟨hB.trans (hba.mono hB.size), hn, hnl⟩
  ·trivial
  clear hB hHeld
  have hHeld := hHeld2
  clear hHeld2
  obtain ⟨hB, h14, h14l⟩ := hF
  clear hba hn hnl hN
  clear hK K
  try simp only [sqP]
  refine z7 (rs := [4, 14]) (by kernel_rfl) (by simp) ?_
  refine z6.cons (o := _) rfl (fun K hK => ?_) ?_
  ·
   go_simp
   refine (HKY.out wn13).mono ?_
   rintro e5 w5 ⟨rfl, hb5⟩
   dsimp only
   refine zC hK ?_ (fun W => Below w4.heap.size w4 W ∧ Arr W g14 66 [.int .i64 0, .slice none 0 0, .string ⟨#[]⟩] ∧ w4.heap.size ≤ g14) (fun W => True) ?_ ?_ (fun wn14 hHeld2 hF _ => ?_)
   ·exact HSB4.out _ ((hB.trans (hb5.mono hB.size)))
   ·exact ⟨hB.trans (hb5.mono hB.size), h14.below hb5, h14l⟩
   ·trivial
   clear h14l h14 hB hHeld
   have hHeld := hHeld2
   clear hHeld2
   obtain ⟨hB, h14, h14l⟩ := hF
   clear hb5
   clear hK K
   try simp only [sqP]
   have hall := And.intro hB (And.intro h14 (And.intro h14l hHeld))
   clear hHeld h14l h14 hB
   generalize wn14 = wz at hall ⊢
   revert hall
   revert wz
   revert g14
   exact Rd9.out
  refine z6.cons (o := _) rfl (fun K hK => ?_) ?_
  ·
   have hba := (Below.refl wn13.heap.size wn13).alloc (Nat.le_refl _) (.cells #[.slice none 0 0, .slice none 0 0, .int .i64 0, .int .i64 0] 26)
   have hn := Arr.new wn13 26 [.slice none 0 0, .slice none 0 0, .int .i64 0, .int .i64 0]
   have hnl : w4.heap.size ≤ wn13.heap.size := hB.size
   obtain ⟨g13, hge⟩ : ∃ g, g = wn13.heap.size := ⟨_, rfl⟩
   have hN : ∀ b, b = g13 → wn13.heap.size ≤ b := fun b h => by rw [h, hge]; exact Nat.le_refl _
   rw [← hge] at hn hnl
   go_simp
   rw [← hge]
   clear hge
   refine zC hK ?_ (fun W => Below w4.heap.size w4 W ∧ Arr W g13 26 [.slice none 0 0, .slice none 0 0, .int .i64 0, .int .i64 0] ∧ w4.heap.size ≤ g13 ∧ Arr W g14 66 [.int .i64 0, .slice none 0 0, .string ⟨#[]⟩] ∧ w4.heap.size ≤ g14 ∧ g13 ≠ g14) (fun W => True) ?_ ?_ (fun wn15 hHeld2 hF _ => ?_)
   ·exact HSB4.out _ ((hB.trans (hba.mono hB.size)))
   ·exact ⟨hB.trans (hba.mono hB.size), hn, hnl, h14.below hba, h14l, (fun e => Nat.lt_irrefl _ (by have h1 := h14.lt; rw [← e] at h1; exact Nat.lt_of_lt_of_le h1 (hN _ rfl)))⟩
   ·trivial
   clear h14l h14 hB hHeld
   have hHeld := hHeld2
   clear hHeld2
   obtain ⟨hB, h13, h13l, h14, h14l, h1314n⟩ := hF
   clear hba hn hnl hN
   clear hK K
   try simp only [sqP]
   have hall := And.intro hB (And.intro h13 (And.intro h13l (And.intro h14 (And.intro h14l (And.intro h1314n hHeld)))))
   clear hHeld h1314n h14l h14 h13l h13 hB
   generalize wn15 = wz at hall ⊢
   revert hall
   revert wz
   revert g14
   revert g13
   exact Rd10.out
  exact z6.nil
 exact z6.nil
 intro g13 g14 wRd10 hall
 obtain ⟨hB, h13, h13l, h14, h14l, h1314n, hHeld⟩ := hall
 refine z7 (rs := [4]) (by kernel_rfl) (by simp) ?_
 refine z6.cons (o := _) rfl (fun K hK => ?_) ?_
 ·
  go_simp
  refine (HKY.out wRd10).mono ?_
  rintro e5 w5 ⟨rfl, hb5⟩
  dsimp only
  refine zC hK ?_ (fun W => Below w4.heap.size w4 W ∧ Arr W g13 26 [.slice none 0 0, .slice none 0 0, .int .i64 0, .int .i64 0] ∧ w4.heap.size ≤ g13 ∧ Arr W g14 66 [.int .i64 0, .slice none 0 0, .string ⟨#[]⟩] ∧ w4.heap.size ≤ g14 ∧ g13 ≠ g14) (fun W => True) ?_ ?_ (fun wn16 hHeld2 hF _ => ?_)
  ·exact HSB4.out _ ((hB.trans (hb5.mono hB.size)))
  ·exact ⟨hB.trans (hb5.mono hB.size), h13.below hb5, h13l, h14.below hb5, h14l, h1314n⟩
  ·trivial
  clear h1314n h14l h14 h13l h13 hB hHeld
  have hHeld := hHeld2
  clear hHeld2
  obtain ⟨hB, h13, h13l, h14, h14l, h1314n⟩ := hF
  clear hb5
  clear hK K
  try simp only [sqP]
  have hall := And.intro hB (And.intro h13 (And.intro h13l (And.intro h14 (And.intro h14l (And.intro h1314n hHeld)))))
  clear hHeld h1314n h14l h14 h13l h13 hB
  generalize wn16 = wz at hall ⊢
  revert hall
  revert wz
  revert g14
  revert g13
  exact Rd7.out
 exact z6.nil
 intro g14 wRd9 hall
 obtain ⟨hB, h14, h14l, hHeld⟩ := hall
 refine z7 (rs := [8, 14]) (by kernel_rfl) (by simp) ?_
 refine z6.cons (o := _) rfl (fun K hK => ?_) ?_
 ·
  go_simp
  refine (HPT1.out wRd9 (HK4.out _ hB).2.2.1).mono ?_
  rintro e5 w5 ⟨vp, rfl, hop, hb5⟩
  obtain ⟨P4, p4, rfl, hsp, -⟩ := ko hop
  clear hop
  dsimp only
  refine zC hK ?_ (fun W => Below w4.heap.size w4 W ∧ Arr W g14 66 [.int .i64 0, .slice none 0 0, .string ⟨#[]⟩] ∧ w4.heap.size ≤ g14 ∧ Sl W 3 P4 ps.length p4 (pcs ps)) (fun W => True) ?_ ?_ (fun wn17 hHeld2 hF _ => ?_)
  ·exact HSB4.out _ ((hB.trans (hb5.mono hB.size)))
  ·exact ⟨hB.trans (hb5.mono hB.size), h14.below hb5, h14l, hsp⟩
  ·trivial
  clear h14l h14 hB hHeld
  have hHeld := hHeld2
  clear hHeld2
  obtain ⟨hB, h14, h14l, hP⟩ := hF
  clear hb5 hsp
  clear hK K
  try simp only [sqP]
  have hall := And.intro hB (And.intro h14 (And.intro h14l (And.intro hP hHeld)))
  clear hHeld hP h14l h14 hB
  generalize wn17 = wz at hall ⊢
  revert hall
  revert wz
  revert g14
  revert p4
  revert P4
  exact Rd6.out
 refine z6.cons (o := _) rfl (fun K hK => ?_) ?_
 ·
  have hba := (Below.refl wRd9.heap.size wRd9).alloc (Nat.le_refl _) (.cells #[.slice none 0 0, .slice none 0 0, .int .i64 0, .int .i64 0] 26)
  have hn := Arr.new wRd9 26 [.slice none 0 0, .slice none 0 0, .int .i64 0, .int .i64 0]
  have hnl : w4.heap.size ≤ wRd9.heap.size := hB.size
  obtain ⟨g13, hge⟩ : ∃ g, g = wRd9.heap.size := ⟨_, rfl⟩
  have hN : ∀ b, b = g13 → wRd9.heap.size ≤ b := fun b h => by rw [h, hge]; exact Nat.le_refl _
  rw [← hge] at hn hnl
  go_simp
  rw [← hge]
  clear hge
  refine zC hK ?_ (fun W => Below w4.heap.size w4 W ∧ Arr W g13 26 [.slice none 0 0, .slice none 0 0, .int .i64 0, .int .i64 0] ∧ w4.heap.size ≤ g13 ∧ Arr W g14 66 [.int .i64 0, .slice none 0 0, .string ⟨#[]⟩] ∧ w4.heap.size ≤ g14 ∧ g13 ≠ g14) (fun W => True) ?_ ?_ (fun wn18 hHeld2 hF _ => ?_)
  ·exact HSB4.out _ ((hB.trans (hba.mono hB.size)))
  ·exact ⟨hB.trans (hba.mono hB.size), hn, hnl, h14.below hba, h14l, (fun e => Nat.lt_irrefl _ (by have h1 := h14.lt; rw [← e] at h1; exact Nat.lt_of_lt_of_le h1 (hN _ rfl)))⟩
  ·trivial
  clear h14l h14 hB hHeld
  have hHeld := hHeld2
  clear hHeld2
  obtain ⟨hB, h13, h13l, h14, h14l, h1314n⟩ := hF
  clear hba hn hnl hN
  clear hK K
  try simp only [sqP]
  have hall := And.intro hB (And.intro h13 (And.intro h13l (And.intro h14 (And.intro h14l (And.intro h1314n hHeld)))))
  clear hHeld h1314n h14l h14 h13l h13 hB
  generalize wn18 = wz at hall ⊢
  revert hall
  revert wz
  revert g14
  revert g13
  exact Rd7.out
 exact z6.nil
 intro g13 wRd8 hall
 obtain ⟨hB, h13, h13l, hHeld⟩ := hall
 refine z7 (rs := [8, 15]) (by kernel_rfl) (by simp) ?_
 refine z6.cons (o := _) rfl (fun K hK => ?_) ?_
 ·
  go_simp
  refine (HPT1.out wRd8 (HK4.out _ hB).2.2.1).mono ?_
  rintro e5 w5 ⟨vp, rfl, hop, hb5⟩
  obtain ⟨P4, p4, rfl, hsp, -⟩ := ko hop
  clear hop
  dsimp only
  refine zC hK ?_ (fun W => Below w4.heap.size w4 W ∧ Arr W g13 26 [.slice none 0 0, .slice none 0 0, .int .i64 0, .int .i64 0] ∧ w4.heap.size ≤ g13 ∧ Sl W 3 P4 ps.length p4 (pcs ps)) (fun W => True) ?_ ?_ (fun wn19 hHeld2 hF _ => ?_)
  ·exact HSB4.out _ ((hB.trans (hb5.mono hB.size)))
  ·exact ⟨hB.trans (hb5.mono hB.size), h13.below hb5, h13l, hsp⟩
  ·trivial
  clear h13l h13 hB hHeld
  have hHeld := hHeld2
  clear hHeld2
  obtain ⟨hB, h13, h13l, hP⟩ := hF
  clear hb5 hsp
  clear hK K
  try simp only [sqP]
  have hall := And.intro hB (And.intro h13 (And.intro h13l (And.intro hP hHeld)))
  clear hHeld hP h13l h13 hB
  generalize wn19 = wz at hall ⊢
  revert hall
  revert wz
  revert g13
  revert p4
  revert P4
  exact Rd5.out
 refine z6.cons (o := _) rfl (fun K hK => ?_) ?_
 ·
  have hba := (Below.refl wRd8.heap.size wRd8).alloc (Nat.le_refl _) (.cells #[.int .i64 0, .slice none 0 0, .string ⟨#[]⟩] 66)
  have hn := Arr.new wRd8 66 [.int .i64 0, .slice none 0 0, .string ⟨#[]⟩]
  have hnl : w4.heap.size ≤ wRd8.heap.size := hB.size
  obtain ⟨g14, hge⟩ : ∃ g, g = wRd8.heap.size := ⟨_, rfl⟩
  have hN : ∀ b, b = g14 → wRd8.heap.size ≤ b := fun b h => by rw [h, hge]; exact Nat.le_refl _
  rw [← hge] at hn hnl
  go_simp
  rw [← hge]
  clear hge
  refine zC hK ?_ (fun W => Below w4.heap.size w4 W ∧ Arr W g13 26 [.slice none 0 0, .slice none 0 0, .int .i64 0, .int .i64 0] ∧ w4.heap.size ≤ g13 ∧ Arr W g14 66 [.int .i64 0, .slice none 0 0, .string ⟨#[]⟩] ∧ w4.heap.size ≤ g14 ∧ g13 ≠ g14) (fun W => True) ?_ ?_ (fun wn20 hHeld2 hF _ => ?_)
  ·exact HSB4.out _ ((hB.trans (hba.mono hB.size)))
  ·exact ⟨hB.trans (hba.mono hB.size), h13.below hba, h13l, hn, hnl, (fun e => Nat.lt_irrefl _ (by have h1 := h13.lt; rw [e] at h1; exact Nat.lt_of_lt_of_le h1 (hN _ rfl)))⟩
  ·trivial
  clear h13l h13 hB hHeld
  have hHeld := hHeld2
  clear hHeld2
  obtain ⟨hB, h13, h13l, h14, h14l, h1314n⟩ := hF
  clear hba hn hnl hN
  clear hK K
  try simp only [sqP]
  have hall := And.intro hB (And.intro h13 (And.intro h13l (And.intro h14 (And.intro h14l (And.intro h1314n hHeld)))))
  clear hHeld h1314n h14l h14 h13l h13 hB
  generalize wn20 = wz at hall ⊢
  revert hall
  revert wz
  revert g14
  revert g13
  exact Rd7.out
 exact z6.nil
 intro g13 g14 wRd7 hall
 obtain ⟨hB, h13, h13l, h14, h14l, h1314n, hHeld⟩ := hall
 refine z7 (rs := [8]) (by kernel_rfl) (by simp) ?_
 refine z6.cons (o := _) rfl (fun K hK => ?_) ?_
 ·
  go_simp
  refine (HPT1.out wRd7 (HK4.out _ hB).2.2.1).mono ?_
  rintro e5 w5 ⟨vp, rfl, hop, hb5⟩
  obtain ⟨P4, p4, rfl, hsp, -⟩ := ko hop
  clear hop
  dsimp only
  refine zC hK ?_ (fun W => Below w4.heap.size w4 W ∧ Arr W g13 26 [.slice none 0 0, .slice none 0 0, .int .i64 0, .int .i64 0] ∧ w4.heap.size ≤ g13 ∧ Arr W g14 66 [.int .i64 0, .slice none 0 0, .string ⟨#[]⟩] ∧ w4.heap.size ≤ g14 ∧ g13 ≠ g14 ∧ Sl W 3 P4 ps.length p4 (pcs ps)) (fun W => True) ?_ ?_ (fun wn21 hHeld2 hF _ => ?_)
  ·exact HSB4.out _ ((hB.trans (hb5.mono hB.size)))
  ·exact ⟨hB.trans (hb5.mono hB.size), h13.below hb5, h13l, h14.below hb5, h14l, h1314n, hsp⟩
  ·trivial
  clear h1314n h14l h14 h13l h13 hB hHeld
  have hHeld := hHeld2
  clear hHeld2
  obtain ⟨hB, h13, h13l, h14, h14l, h1314n, hP⟩ := hF
  clear hb5 hsp
  clear hK K
  try simp only [sqP]
  have hall := And.intro hB (And.intro h13 (And.intro h13l (And.intro h14 (And.intro h14l (And.intro h1314n (And.intro hP hHeld))))))
  clear hHeld hP h1314n h14l h14 h13l h13 hB
  generalize wn21 = wz at hall ⊢
  revert hall
  revert wz
  revert g14
  revert g13
  revert p4
  revert P4
  exact Rd4.out
 exact z6.nil
 intro P4 p4 g14 wRd6 hall
 obtain ⟨hB, h14, h14l, hP, hHeld⟩ := hall
 refine z7 (rs := [9, 14]) (by kernel_rfl) (by simp) ?_
 refine z6.cons (o := _) rfl (fun K hK => ?_) ?_
 ·
  go_simp
  refine (HBP.out wRd6 P4 p4 (HK4.out _ hB).2.2.1 hP).mono ?_
  rintro e5 w5 ⟨Ac, cc, Bc, dc, Gc, nc, rfl, ho5, hl5, hb5⟩
  dsimp only
  refine zC hK ?_ (fun W => Below w4.heap.size w4 W ∧ Arr W g14 66 [.int .i64 0, .slice none 0 0, .string ⟨#[]⟩] ∧ w4.heap.size ≤ g14 ∧ OwSt W 0 (.slice Ac t.blobs.length cc) (.slice Bc t.ents.length dc) t (fun b => b = g14) ∧ W.ownsRow 0 9 1 (.slice Gc 0 nc) 0 []) (fun W => True) ?_ ?_ (fun wn22 hHeld2 hF _ => ?_)
  ·exact HSB4.out _ ((hB.trans (hb5.mono hB.size)))
  ·exact ⟨hB.trans (hb5.mono hB.size), h14.below hb5, h14l, (ho5.lower (base' := 0) (Nat.zero_le _)).mono (N' := (fun b => b = g14)) (fun b hb => (by rw [hb]; exact h14.lt)), zc hl5 (Nat.zero_le _)⟩
  ·trivial
  clear hP h14l h14 hB hHeld
  have hHeld := hHeld2
  clear hHeld2
  obtain ⟨hB, h14, h14l, ho, hl⟩ := hF
  clear hb5 ho5 hl5
  clear hK K
  try simp only [sqP]
  refine tkP 10 ?_
  try simp only [sqP]
  refine tkP 11 ?_
  try simp only [sqP]
  refine tkP 12 ?_
  try simp only [sqP]
  refine tkP 13 ?_
  try simp only [sqP]
  have hall := And.intro hB (And.intro h14 (And.intro h14l (And.intro ho (And.intro hl hHeld))))
  clear hHeld hl ho h14l h14 hB
  generalize wn22 = wz at hall ⊢
  revert hall
  revert wz
  revert g14
  revert nc
  revert Gc
  revert dc
  revert Bc
  revert cc
  revert Ac
  revert p4
  revert P4
  exact Rd3.out
 refine z6.cons (o := _) rfl (fun K hK => ?_) ?_
 ·
  have hba := (Below.refl wRd6.heap.size wRd6).alloc (Nat.le_refl _) (.cells #[.slice none 0 0, .slice none 0 0, .int .i64 0, .int .i64 0] 26)
  have hn := Arr.new wRd6 26 [.slice none 0 0, .slice none 0 0, .int .i64 0, .int .i64 0]
  have hnl : w4.heap.size ≤ wRd6.heap.size := hB.size
  obtain ⟨g13, hge⟩ : ∃ g, g = wRd6.heap.size := ⟨_, rfl⟩
  have hN : ∀ b, b = g13 → wRd6.heap.size ≤ b := fun b h => by rw [h, hge]; exact Nat.le_refl _
  rw [← hge] at hn hnl
  go_simp
  rw [← hge]
  clear hge
  refine zC hK ?_ (fun W => Below w4.heap.size w4 W ∧ Arr W g13 26 [.slice none 0 0, .slice none 0 0, .int .i64 0, .int .i64 0] ∧ w4.heap.size ≤ g13 ∧ Arr W g14 66 [.int .i64 0, .slice none 0 0, .string ⟨#[]⟩] ∧ w4.heap.size ≤ g14 ∧ g13 ≠ g14 ∧ Sl W 3 P4 ps.length p4 (pcs ps)) (fun W => True) ?_ ?_ (fun wn23 hHeld2 hF _ => ?_)
  ·exact HSB4.out _ ((hB.trans (hba.mono hB.size)))
  ·exact ⟨hB.trans (hba.mono hB.size), hn, hnl, h14.below hba, h14l, (fun e => Nat.lt_irrefl _ (by have h1 := h14.lt; rw [← e] at h1; exact Nat.lt_of_lt_of_le h1 (hN _ rfl))), hP.below hba⟩
  ·trivial
  clear hP h14l h14 hB hHeld
  have hHeld := hHeld2
  clear hHeld2
  obtain ⟨hB, h13, h13l, h14, h14l, h1314n, hP⟩ := hF
  clear hba hn hnl hN
  clear hK K
  try simp only [sqP]
  have hall := And.intro hB (And.intro h13 (And.intro h13l (And.intro h14 (And.intro h14l (And.intro h1314n (And.intro hP hHeld))))))
  clear hHeld hP h1314n h14l h14 h13l h13 hB
  generalize wn23 = wz at hall ⊢
  revert hall
  revert wz
  revert g14
  revert g13
  revert p4
  revert P4
  exact Rd4.out
 exact z6.nil
 intro P4 p4 g13 wRd5 hall
 obtain ⟨hB, h13, h13l, hP, hHeld⟩ := hall
 refine z7 (rs := [9, 15]) (by kernel_rfl) (by simp) ?_
 refine z6.cons (o := _) rfl (fun K hK => ?_) ?_
 ·
  go_simp
  refine (HBP.out wRd5 P4 p4 (HK4.out _ hB).2.2.1 hP).mono ?_
  rintro e5 w5 ⟨Ac, cc, Bc, dc, Gc, nc, rfl, ho5, hl5, hb5⟩
  dsimp only
  refine zC hK ?_ (fun W => Below w4.heap.size w4 W ∧ Arr W g13 26 [.slice none 0 0, .slice none 0 0, .int .i64 0, .int .i64 0] ∧ w4.heap.size ≤ g13 ∧ OwSt W 0 (.slice Ac t.blobs.length cc) (.slice Bc t.ents.length dc) t (fun b => b = g13) ∧ W.ownsRow 0 9 1 (.slice Gc 0 nc) 0 []) (fun W => True) ?_ ?_ (fun wn24 hHeld2 hF _ => ?_)
  ·exact HSB4.out _ ((hB.trans (hb5.mono hB.size)))
  ·exact ⟨hB.trans (hb5.mono hB.size), h13.below hb5, h13l, (ho5.lower (base' := 0) (Nat.zero_le _)).mono (N' := (fun b => b = g13)) (fun b hb => (by rw [hb]; exact h13.lt)), zc hl5 (Nat.zero_le _)⟩
  ·trivial
  clear hP h13l h13 hB hHeld
  have hHeld := hHeld2
  clear hHeld2
  obtain ⟨hB, h13, h13l, ho, hl⟩ := hF
  clear hb5 ho5 hl5
  clear hK K
  try simp only [sqP]
  refine tkP 10 ?_
  try simp only [sqP]
  refine tkP 11 ?_
  try simp only [sqP]
  refine tkP 12 ?_
  try simp only [sqP]
  refine tkP 13 ?_
  try simp only [sqP]
  have hall := And.intro hB (And.intro h13 (And.intro h13l (And.intro ho (And.intro hl hHeld))))
  clear hHeld hl ho h13l h13 hB
  generalize wn24 = wz at hall ⊢
  revert hall
  revert wz
  revert g13
  revert nc
  revert Gc
  revert dc
  revert Bc
  revert cc
  revert Ac
  revert p4
  revert P4
  exact Rd2.out
 refine z6.cons (o := _) rfl (fun K hK => ?_) ?_
 ·
  have hba := (Below.refl wRd5.heap.size wRd5).alloc (Nat.le_refl _) (.cells #[.int .i64 0, .slice none 0 0, .string ⟨#[]⟩] 66)
  have hn := Arr.new wRd5 66 [.int .i64 0, .slice none 0 0, .string ⟨#[]⟩]
  have hnl : w4.heap.size ≤ wRd5.heap.size := hB.size
  obtain ⟨g14, hge⟩ : ∃ g, g = wRd5.heap.size := ⟨_, rfl⟩
  have hN : ∀ b, b = g14 → wRd5.heap.size ≤ b := fun b h => by rw [h, hge]; exact Nat.le_refl _
  rw [← hge] at hn hnl
  go_simp
  rw [← hge]
  clear hge
  refine zC hK ?_ (fun W => Below w4.heap.size w4 W ∧ Arr W g13 26 [.slice none 0 0, .slice none 0 0, .int .i64 0, .int .i64 0] ∧ w4.heap.size ≤ g13 ∧ Arr W g14 66 [.int .i64 0, .slice none 0 0, .string ⟨#[]⟩] ∧ w4.heap.size ≤ g14 ∧ g13 ≠ g14 ∧ Sl W 3 P4 ps.length p4 (pcs ps)) (fun W => True) ?_ ?_ (fun wn25 hHeld2 hF _ => ?_)
  ·exact HSB4.out _ ((hB.trans (hba.mono hB.size)))
  ·exact ⟨hB.trans (hba.mono hB.size), h13.below hba, h13l, hn, hnl, (fun e => Nat.lt_irrefl _ (by have h1 := h13.lt; rw [e] at h1; exact Nat.lt_of_lt_of_le h1 (hN _ rfl))), hP.below hba⟩
  ·trivial
  clear hP h13l h13 hB hHeld
  have hHeld := hHeld2
  clear hHeld2
  obtain ⟨hB, h13, h13l, h14, h14l, h1314n, hP⟩ := hF
  clear hba hn hnl hN
  clear hK K
  try simp only [sqP]
  have hall := And.intro hB (And.intro h13 (And.intro h13l (And.intro h14 (And.intro h14l (And.intro h1314n (And.intro hP hHeld))))))
  clear hHeld hP h1314n h14l h14 h13l h13 hB
  generalize wn25 = wz at hall ⊢
  revert hall
  revert wz
  revert g14
  revert g13
  revert p4
  revert P4
  exact Rd4.out
 exact z6.nil
 intro P4 p4 g13 g14 wRd4 hall
 obtain ⟨hB, h13, h13l, h14, h14l, h1314n, hP, hHeld⟩ := hall
 refine z7 (rs := [9]) (by kernel_rfl) (by simp) ?_
 refine z6.cons (o := _) rfl (fun K hK => ?_) ?_
 ·
  go_simp
  refine (HBP.out wRd4 P4 p4 (HK4.out _ hB).2.2.1 hP).mono ?_
  rintro e5 w5 ⟨Ac, cc, Bc, dc, Gc, nc, rfl, ho5, hl5, hb5⟩
  dsimp only
  refine zC hK ?_ (fun W => Below w4.heap.size w4 W ∧ Arr W g13 26 [.slice none 0 0, .slice none 0 0, .int .i64 0, .int .i64 0] ∧ w4.heap.size ≤ g13 ∧ Arr W g14 66 [.int .i64 0, .slice none 0 0, .string ⟨#[]⟩] ∧ w4.heap.size ≤ g14 ∧ g13 ≠ g14 ∧ OwSt W 0 (.slice Ac t.blobs.length cc) (.slice Bc t.ents.length dc) t (fun b => b = g13 ∨ b = g14) ∧ W.ownsRow 0 9 1 (.slice Gc 0 nc) 0 []) (fun W => True) ?_ ?_ (fun wn26 hHeld2 hF _ => ?_)
  ·exact HSB4.out _ ((hB.trans (hb5.mono hB.size)))
  ·exact ⟨hB.trans (hb5.mono hB.size), h13.below hb5, h13l, h14.below hb5, h14l, h1314n, (ho5.lower (base' := 0) (Nat.zero_le _)).mono (N' := (fun b => b = g13 ∨ b = g14)) (fun b hb => hb.elim (fun hb => by rw [hb]; exact h13.lt) (fun hb => (by rw [hb]; exact h14.lt))), zc hl5 (Nat.zero_le _)⟩
  ·trivial
  clear hP h1314n h14l h14 h13l h13 hB hHeld
  have hHeld := hHeld2
  clear hHeld2
  obtain ⟨hB, h13, h13l, h14, h14l, h1314n, ho, hl⟩ := hF
  clear hb5 ho5 hl5
  clear hK K
  try simp only [sqP]
  refine tkP 10 ?_
  try simp only [sqP]
  refine tkP 11 ?_
  try simp only [sqP]
  refine tkP 12 ?_
  try simp only [sqP]
  refine tkP 13 ?_
  try simp only [sqP]
  have hall := And.intro hB (And.intro h13 (And.intro h13l (And.intro h14 (And.intro h14l (And.intro h1314n (And.intro ho (And.intro hl hHeld)))))))
  clear hHeld hl ho h1314n h14l h14 h13l h13 hB
  generalize wn26 = wz at hall ⊢
  revert hall
  revert wz
  revert g14
  revert g13
  revert nc
  revert Gc
  revert dc
  revert Bc
  revert cc
  revert Ac
  revert p4
  revert P4
  exact Rd1.out
 exact z6.nil
 intro P4 p4 Ac cc Bc dc Gc nc g14 wRd3 hall
 obtain ⟨hB, h14, h14l, ho, hl, hHeld⟩ := hall
 refine z7 (rs := [14]) (by kernel_rfl) (by simp) ?_
 refine z6.cons (o := _) rfl (fun K hK => ?_) ?_
 ·
  have hba := (Below.refl wRd3.heap.size wRd3).alloc (Nat.le_refl _) (.cells #[.slice none 0 0, .slice none 0 0, .int .i64 0, .int .i64 0] 26)
  have hn := Arr.new wRd3 26 [.slice none 0 0, .slice none 0 0, .int .i64 0, .int .i64 0]
  have hnl : w4.heap.size ≤ wRd3.heap.size := hB.size
  obtain ⟨g13, hge⟩ : ∃ g, g = wRd3.heap.size := ⟨_, rfl⟩
  have hN : ∀ b, b = g13 → wRd3.heap.size ≤ b := fun b h => by rw [h, hge]; exact Nat.le_refl _
  rw [← hge] at hn hnl
  go_simp
  rw [← hge]
  clear hge
  refine zC hK ?_ (fun W => Below w4.heap.size w4 W ∧ Arr W g13 26 [.slice none 0 0, .slice none 0 0, .int .i64 0, .int .i64 0] ∧ w4.heap.size ≤ g13 ∧ Arr W g14 66 [.int .i64 0, .slice none 0 0, .string ⟨#[]⟩] ∧ w4.heap.size ≤ g14 ∧ g13 ≠ g14 ∧ OwSt W 0 (.slice Ac t.blobs.length cc) (.slice Bc t.ents.length dc) t (fun b => b = g13 ∨ b = g14) ∧ W.ownsRow 0 9 1 (.slice Gc 0 nc) 0 []) (fun W => True) ?_ ?_ (fun wn27 hHeld2 hF _ => ?_)
  ·exact HSB4.out _ ((hB.trans (hba.mono hB.size)))
  ·exact ⟨hB.trans (hba.mono hB.size), hn, hnl, h14.below hba, h14l, (fun e => Nat.lt_irrefl _ (by have h1 := h14.lt; rw [← e] at h1; exact Nat.lt_of_lt_of_le h1 (hN _ rfl))), (ho.wider (N' := (fun b => b = g13 ∨ b = g14)) (fun b hb => hb.elim (fun hb => .inr (hN _ hb)) (fun hb => .inl hb))).below hba, za hl hba⟩
  ·trivial
  clear hl ho h14l h14 hB hHeld
  have hHeld := hHeld2
  clear hHeld2
  obtain ⟨hB, h13, h13l, h14, h14l, h1314n, ho, hl⟩ := hF
  clear hba hn hnl hN
  clear hK K
  try simp only [sqP]
  have hall := And.intro hB (And.intro h13 (And.intro h13l (And.intro h14 (And.intro h14l (And.intro h1314n (And.intro ho (And.intro hl hHeld)))))))
  clear hHeld hl ho h1314n h14l h14 h13l h13 hB
  generalize wn27 = wz at hall ⊢
  revert hall
  revert wz
  revert g14
  revert g13
  revert nc
  revert Gc
  revert dc
  revert Bc
  revert cc
  revert Ac
  revert p4
  revert P4
  exact Rd1.out
 exact z6.nil
 intro P4 p4 Ac cc Bc dc Gc nc g13 wRd2 hall
 obtain ⟨hB, h13, h13l, ho, hl, hHeld⟩ := hall
 refine z7 (rs := [15]) (by kernel_rfl) (by simp) ?_
 refine z6.cons (o := _) rfl (fun K hK => ?_) ?_
 ·
  have hba := (Below.refl wRd2.heap.size wRd2).alloc (Nat.le_refl _) (.cells #[.int .i64 0, .slice none 0 0, .string ⟨#[]⟩] 66)
  have hn := Arr.new wRd2 66 [.int .i64 0, .slice none 0 0, .string ⟨#[]⟩]
  have hnl : w4.heap.size ≤ wRd2.heap.size := hB.size
  obtain ⟨g14, hge⟩ : ∃ g, g = wRd2.heap.size := ⟨_, rfl⟩
  have hN : ∀ b, b = g14 → wRd2.heap.size ≤ b := fun b h => by rw [h, hge]; exact Nat.le_refl _
  rw [← hge] at hn hnl
  go_simp
  rw [← hge]
  clear hge
  refine zC hK ?_ (fun W => Below w4.heap.size w4 W ∧ Arr W g13 26 [.slice none 0 0, .slice none 0 0, .int .i64 0, .int .i64 0] ∧ w4.heap.size ≤ g13 ∧ Arr W g14 66 [.int .i64 0, .slice none 0 0, .string ⟨#[]⟩] ∧ w4.heap.size ≤ g14 ∧ g13 ≠ g14 ∧ OwSt W 0 (.slice Ac t.blobs.length cc) (.slice Bc t.ents.length dc) t (fun b => b = g13 ∨ b = g14) ∧ W.ownsRow 0 9 1 (.slice Gc 0 nc) 0 []) (fun W => True) ?_ ?_ (fun wn28 hHeld2 hF _ => ?_)
  ·exact HSB4.out _ ((hB.trans (hba.mono hB.size)))
  ·exact ⟨hB.trans (hba.mono hB.size), h13.below hba, h13l, hn, hnl, (fun e => Nat.lt_irrefl _ (by have h1 := h13.lt; rw [e] at h1; exact Nat.lt_of_lt_of_le h1 (hN _ rfl))), (ho.wider (N' := (fun b => b = g13 ∨ b = g14)) (fun b hb => hb.elim (fun hb => .inl hb) (fun hb => .inr (hN _ hb)))).below hba, za hl hba⟩
  ·trivial
  clear hl ho h13l h13 hB hHeld
  have hHeld := hHeld2
  clear hHeld2
  obtain ⟨hB, h13, h13l, h14, h14l, h1314n, ho, hl⟩ := hF
  clear hba hn hnl hN
  clear hK K
  try simp only [sqP]
  have hall := And.intro hB (And.intro h13 (And.intro h13l (And.intro h14 (And.intro h14l (And.intro h1314n (And.intro ho (And.intro hl hHeld)))))))
  clear hHeld hl ho h1314n h14l h14 h13l h13 hB
  generalize wn28 = wz at hall ⊢
  revert hall
  revert wz
  revert g14
  revert g13
  revert nc
  revert Gc
  revert dc
  revert Bc
  revert cc
  revert Ac
  revert p4
  revert P4
  exact Rd1.out
 exact z6.nil
 intro P4 p4 Ac cc Bc dc Gc nc g13 g14 wRd1 hall
 obtain ⟨hB, h13, h13l, h14, h14l, h1314n, ho, hl, hHeld⟩ := hall
 refine z7 (rs := [16]) (by kernel_rfl) (by simp) ?_
 refine z6.store (o := _) rfl (by rfl) (fun K hK => ?_) ?_
 ·
  have hqho := ho.nb h13 (by decide) (by decide)
  have hqhl := zm hl h13 (by decide)
  have z0 := h13.cell (k := 0) rfl
  have f0 := h13.frozen 0
  have z1 := h13.cell (k := 1) rfl
  have f1 := h13.frozen 1
  have z2 := h13.cell (k := 2) rfl
  have f2 := h13.frozen 2
  have z3 := h13.cell (k := 3) rfl
  have f3 := h13.frozen 3
  go_simp
  clear z0 f0 z1 f1 z2 f2 z3 f3
  refine jI hK (fun W => Below w4.heap.size w4 W ∧ Arr W g13 26 [(.slice Ac t.blobs.length cc), (.slice Bc t.ents.length dc), .int .i64 (t.room : Int), .int .i64 (t.clock : Int)] ∧ w4.heap.size ≤ g13 ∧ Arr W g14 66 [.int .i64 0, .slice none 0 0, .string ⟨#[]⟩] ∧ w4.heap.size ≤ g14 ∧ g13 ≠ g14 ∧ OwSt W 0 (.slice Ac t.blobs.length cc) (.slice Bc t.ents.length dc) t (fun b => b = g13 ∨ b = g14) ∧ W.ownsRow 0 9 1 (.slice Gc 0 nc) 0 []) (fun W => True) ?_ ?_ (fun wn29 hF _ => ?_)
  ·exact ⟨((((hB).setCell (p := ⟨g13, 0, none⟩) h13l _).setCell (p := ⟨g13, 1, none⟩) h13l _).setCell (p := ⟨g13, 2, none⟩) h13l _).setCell (p := ⟨g13, 3, none⟩) h13l _, h13.all4 _ _ _ _, h13l, ((((h14).other (h1314n.symm) _).other (h1314n.symm) _).other (h1314n.symm) _).other (h1314n.symm) _, h14l, h1314n, ho.set4N (.inl rfl) hqho.1 hqho.2 _ _ _ _, qT hl hqhl _ _ _ _⟩
  ·trivial
  clear hl ho h1314n h14l h14 h13l h13 hB hHeld
  obtain ⟨hB, h13, h13l, h14, h14l, h1314n, ho, hl⟩ := hF
  clear hqho hqhl
  clear hK K
  try simp only [sqP]
  refine z7 (rs := [17]) (by kernel_rfl) (by simp) ?_
  refine z6.store (o := _) rfl (by rfl) (fun K hK => ?_) ?_
  ·
   have hqho := ho.nb h14 (by decide) (by decide)
   have hqhl := zm hl h14 (by decide)
   have z0 := h14.cell (k := 0) rfl
   have f0 := h14.frozen 0
   have z1 := h14.cell (k := 1) rfl
   have f1 := h14.frozen 1
   have z2 := h14.cell (k := 2) rfl
   have f2 := h14.frozen 2
   go_simp
   clear z0 f0 z1 f1 z2 f2
   refine jI hK (fun W => Below w4.heap.size w4 W ∧ Arr W g13 26 [(.slice Ac t.blobs.length cc), (.slice Bc t.ents.length dc), .int .i64 (t.room : Int), .int .i64 (t.clock : Int)] ∧ w4.heap.size ≤ g13 ∧ Arr W g14 66 [.int .i64 0, (.slice Gc 0 nc), .string ⟨#[]⟩] ∧ w4.heap.size ≤ g14 ∧ g13 ≠ g14 ∧ OwSt W 0 (.slice Ac t.blobs.length cc) (.slice Bc t.ents.length dc) t (fun b => b = g13 ∨ b = g14) ∧ W.ownsRow 0 9 1 (.slice Gc 0 nc) 0 []) (fun W => True) ?_ ?_ (fun wn30 hF _ => ?_)
   ·exact ⟨(((hB).setCell (p := ⟨g14, 0, none⟩) h14l _).setCell (p := ⟨g14, 1, none⟩) h14l _).setCell (p := ⟨g14, 2, none⟩) h14l _, (((h13).other (h1314n) _).other (h1314n) _).other (h1314n) _, h13l, h14.all3 _ _ _, h14l, h1314n, ho.set3N (.inr rfl) hqho.1 hqho.2 _ _ _, qx hl hqhl _ _ _⟩
   ·trivial
   clear hl ho h1314n h14l h14 h13l h13 hB
   obtain ⟨hB, h13, h13l, h14, h14l, h1314n, ho, hl⟩ := hF
   clear hqho hqhl
   clear hK K
   try simp only [sqP]
   refine tkP 18 ?_
   try simp only [sqP]
   refine zH (by kernel_rfl) ?_ _
   dsimp only [Exit.then]
   have hall := And.intro hB (And.intro h13 (And.intro h13l (And.intro h14 (And.intro h14l (And.intro h1314n (And.intro ho hl))))))
   clear hl ho h1314n h14l h14 h13l h13 hB
   generalize wn30 = wz at hall ⊢
   revert hall
   revert wz
   revert g14
   revert g13
   revert nc
   revert Gc
   revert dc
   revert Bc
   revert cc
   revert Ac
   revert p4
   revert P4
   exact REST3.out
  exact z6.nil
 exact z6.nil
 intro P4 p4 Ac cc Bc dc Gc nc g13 g14 wE hall
 obtain ⟨hB, h13, h13l, h14, h14l, h1314n, ho, hl⟩ := hall
 have hrdwE : RdSt wE Ac cc Bc dc t := by
  obtain ⟨_, _, _, _, e1, e2, h⟩ := ho.rows
  cases e1; cases e2; exact h
 have HK5 := Lib.hid (show ∀ W, Below wE.heap.size wE W → Arr W gs 26 [.slice As s.blobs.length cs, .slice Bs s.ents.length ds, .int .i64 (s.room : Int), .int .i64 (s.clock : Int)] ∧ Arr W gr 47 [.int .i64 rk, .int .i64 ra, .int .i64 rb, .string rt] ∧ RdSt W As cs Bs ds s ∧ Arr W g6 26 [.slice Aa (zb s D).blobs.length ca, .slice Ba (zb s D).ents.length da, .int .i64 (s.room : Int), .int .i64 (s.clock : Int)] ∧ Arr W g7 66 [.int .i64 0, .slice Ga 0 na, .string ⟨#[]⟩] ∧ RdSt W Aa ca Ba da (zb s D) ∧ Arr W g8 26 [.slice Ab (zb s D).blobs.length cb, .slice Bb (zb s D).ents.length db, .int .i64 (s.room : Int), .int .i64 (s.clock : Int)] ∧ RdSt W Ab cb Bb db (zb s D) ∧ Arr W g13 26 [.slice Ac t.blobs.length cc, .slice Bc t.ents.length dc, .int .i64 (t.room : Int), .int .i64 (t.clock : Int)] ∧ Arr W g14 66 [.int .i64 0, .slice Gc 0 nc, .string ⟨#[]⟩] ∧ RdSt W Ac cc Bc dc t from fun W h => ⟨(HK4.out _ (hB.trans (h.mono hB.size))).1, (HK4.out _ (hB.trans (h.mono hB.size))).2.1, (HK4.out _ (hB.trans (h.mono hB.size))).2.2.1, (HK4.out _ (hB.trans (h.mono hB.size))).2.2.2.1, (HK4.out _ (hB.trans (h.mono hB.size))).2.2.2.2.1, (HK4.out _ (hB.trans (h.mono hB.size))).2.2.2.2.2.1, (HK4.out _ (hB.trans (h.mono hB.size))).2.2.2.2.2.2.1, (HK4.out _ (hB.trans (h.mono hB.size))).2.2.2.2.2.2.2, h13.below h, h14.below h, hrdwE.below h⟩)
 have HSB5 := Lib.hid (show ∀ W, Below wE.heap.size wE W → (W.cell? ⟨gs, 0, none⟩ = some (.slice As s.blobs.length cs) ∧ W.cell? ⟨gs, 1, none⟩ = some (.slice Bs s.ents.length ds) ∧ W.cell? ⟨gs, 2, none⟩ = some (.int .i64 (s.room : Int)) ∧ W.cell? ⟨gs, 3, none⟩ = some (.int .i64 (s.clock : Int))) ∧ (W.cell? ⟨gr, 0, none⟩ = some (.int .i64 rk) ∧ W.cell? ⟨gr, 1, none⟩ = some (.int .i64 ra) ∧ W.cell? ⟨gr, 2, none⟩ = some (.int .i64 rb) ∧ W.cell? ⟨gr, 3, none⟩ = some (.string rt)) from fun W h => by
  obtain ⟨z1, z2, -⟩ := HK5.out W h
  exact ⟨⟨z1.cell (k := 0) rfl, z1.cell (k := 1) rfl, z1.cell (k := 2) rfl, z1.cell (k := 3) rfl⟩, z2.cell (k := 0) rfl, z2.cell (k := 1) rfl, z2.cell (k := 2) rfl, z2.cell (k := 3) rfl⟩)
 have HB5 := Lib.hid (HB4.out.trans (hB.mono (show gr ≤ w4.heap.size by have := HB4.out.size; have := HGR.out; omega)))
 clear hB h13 h13l h14 h14l h1314n ho hl hrdwE
 go_wp2_with fail
 apply zn
 intro REST4
 apply zn
 intro Re1
 apply zn
 intro Re2
 apply zn
 intro Re3
 refine zq [13] (S := (fun w' => (w'.cell? ⟨gs, 0, none⟩ = some (.slice As s.blobs.length cs) ∧ w'.cell? ⟨gs, 1, none⟩ = some (.slice Bs s.ents.length ds) ∧ w'.cell? ⟨gs, 2, none⟩ = some (.int .i64 (s.room : Int)) ∧ w'.cell? ⟨gs, 3, none⟩ = some (.int .i64 (s.clock : Int))) ∧ (w'.cell? ⟨gr, 0, none⟩ = some (.int .i64 rk) ∧ w'.cell? ⟨gr, 1, none⟩ = some (.int .i64 ra) ∧ w'.cell? ⟨gr, 2, none⟩ = some (.int .i64 rb) ∧ w'.cell? ⟨gr, 3, none⟩ = some (.string rt)))) (by kernel_rfl) ?_ (fun hHeld => ?_)
 ·exact HSB5.out _ ((Below.refl wE.heap.size wE).drew)
 have hB := (Below.refl wE.heap.size wE).drew
 generalize wE.drew = wn0 at *
 refine tkU 0 ?_
 try simp only [sqP]
 refine tkU 1 ?_
 try simp only [sqP]
 refine tkU 2 ?_
 try simp only [sqP]
 refine tkU 4 ?_
 try simp only [sqP]
 refine tkU 5 ?_
 try simp only [sqP]
 refine tkU 6 ?_
 try simp only [sqP]
 refine z7 (rs := [3, 12]) (by kernel_rfl) (by simp) ?_
 refine z6.cons (o := _) rfl (fun K hK => ?_) ?_
 ·
  go_simp
  refine (HKY.out wn0).mono ?_
  rintro e5 w5 ⟨rfl, hb5⟩
  dsimp only
  refine zC hK ?_ (fun W => Below wE.heap.size wE W) (fun W => True) ?_ ?_ (fun wn1 hHeld2 hF _ => ?_)
  ·exact HSB5.out _ ((hB.trans (hb5.mono hB.size)))
  ·exact hB.trans (hb5.mono hB.size)
  ·trivial
  clear hB hHeld
  have hHeld := hHeld2
  clear hHeld2
  have hB := hF
  clear hb5
  clear hK K
  try simp only [sqP]
  refine z7 (rs := [7, 12]) (by kernel_rfl) (by simp) ?_
  refine z6.cons (o := _) rfl (fun K hK => ?_) ?_
  ·
   go_simp
   refine (HPT1.out wn1 (HK5.out _ hB).2.2.1).mono ?_
   rintro e5 w5 ⟨vp, rfl, hop, hb5⟩
   obtain ⟨P5, p5, rfl, hsp, -⟩ := ko hop
   clear hop
   dsimp only
   refine zC hK ?_ (fun W => Below wE.heap.size wE W ∧ Sl W 3 P5 ps.length p5 (pcs ps)) (fun W => True) ?_ ?_ (fun wn2 hHeld2 hF _ => ?_)
   ·exact HSB5.out _ ((hB.trans (hb5.mono hB.size)))
   ·exact ⟨hB.trans (hb5.mono hB.size), hsp⟩
   ·trivial
   clear hB hHeld
   have hHeld := hHeld2
   clear hHeld2
   obtain ⟨hB, hP⟩ := hF
   clear hb5 hsp
   clear hK K
   try simp only [sqP]
   refine z7 (rs := [8, 12]) (by kernel_rfl) (by simp) ?_
   refine z6.cons (o := _) rfl (fun K hK => ?_) ?_
   ·
    go_simp
    refine (HPS.out wn2 P5 p5 (HK5.out _ hB).2.2.1 hP).mono ?_
    rintro e5 w5 ⟨Ad, cd, Bd, dd, rfl, ho5, hb5⟩
    dsimp only
    refine zC hK ?_ (fun W => Below wE.heap.size wE W ∧ OwSt W 0 (.slice Ad t.blobs.length cd) (.slice Bd t.ents.length dd) t (fun b => False)) (fun W => True) ?_ ?_ (fun wn3 hHeld2 hF _ => ?_)
    ·exact HSB5.out _ ((hB.trans (hb5.mono hB.size)))
    ·exact ⟨hB.trans (hb5.mono hB.size), (ho5.lower (base' := 0) (Nat.zero_le _)).mono (fun b hb => hb.elim)⟩
    ·trivial
    clear hP hB hHeld
    have hHeld := hHeld2
    clear hHeld2
    obtain ⟨hB, ho⟩ := hF
    clear hb5 ho5
    clear hK K
    try simp only [sqP]
    refine tkP 9 ?_
    try simp only [sqP]
    refine tkP 10 ?_
    try simp only [sqP]
    refine tkP 11 ?_
    try simp only [sqP]
    refine z7 (rs := [12]) (by kernel_rfl) (by simp) ?_
    refine z6.cons (o := _) rfl (fun K hK => ?_) ?_
    ·
     have hba := (Below.refl wn3.heap.size wn3).alloc (Nat.le_refl _) (.cells #[.slice none 0 0, .slice none 0 0, .int .i64 0, .int .i64 0] 26)
     have hn := Arr.new wn3 26 [.slice none 0 0, .slice none 0 0, .int .i64 0, .int .i64 0]
     have hnl : wE.heap.size ≤ wn3.heap.size := hB.size
     obtain ⟨g16, hge⟩ : ∃ g, g = wn3.heap.size := ⟨_, rfl⟩
     have hN : ∀ b, b = g16 → wn3.heap.size ≤ b := fun b h => by rw [h, hge]; exact Nat.le_refl _
     rw [← hge] at hn hnl
     go_simp
     rw [← hge]
     clear hge
     refine zC hK ?_ (fun W => Below wE.heap.size wE W ∧ Arr W g16 26 [.slice none 0 0, .slice none 0 0, .int .i64 0, .int .i64 0] ∧ wE.heap.size ≤ g16 ∧ OwSt W 0 (.slice Ad t.blobs.length cd) (.slice Bd t.ents.length dd) t (fun b => b = g16)) (fun W => True) ?_ ?_ (fun wn4 hHeld2 hF _ => ?_)
     ·exact HSB5.out _ ((hB.trans (hba.mono hB.size)))
     ·exact ⟨hB.trans (hba.mono hB.size), hn, hnl, (ho.wider (N' := (fun b => b = g16)) (fun b hb => .inr (hN _ hb))).below hba⟩
     ·trivial
     clear ho hB hHeld
     have hHeld := hHeld2
     clear hHeld2
     obtain ⟨hB, h16, h16l, ho⟩ := hF
     clear hba hn hnl hN
     clear hK K
     try simp only [sqP]
     have hall := And.intro hB (And.intro h16 (And.intro h16l (And.intro ho hHeld)))
     clear hHeld ho h16l h16 hB
     generalize wn4 = wz at hall ⊢
     revert hall
     revert wz
     revert g16
     revert dd
     revert Bd
     revert cd
     revert Ad
     revert p5
     revert P5
     exact Re1.out
    exact z6.nil
   refine z6.cons (o := _) rfl (fun K hK => ?_) ?_
   ·
    have hba := (Below.refl wn2.heap.size wn2).alloc (Nat.le_refl _) (.cells #[.slice none 0 0, .slice none 0 0, .int .i64 0, .int .i64 0] 26)
    have hn := Arr.new wn2 26 [.slice none 0 0, .slice none 0 0, .int .i64 0, .int .i64 0]
    have hnl : wE.heap.size ≤ wn2.heap.size := hB.size
    obtain ⟨g16, hge⟩ : ∃ g, g = wn2.heap.size := ⟨_, rfl⟩
    have hN : ∀ b, b = g16 → wn2.heap.size ≤ b := fun b h => by rw [h, hge]; exact Nat.le_refl _
    rw [← hge] at hn hnl
    go_simp
    rw [← hge]
    clear hge
    refine zC hK ?_ (fun W => Below wE.heap.size wE W ∧ Arr W g16 26 [.slice none 0 0, .slice none 0 0, .int .i64 0, .int .i64 0] ∧ wE.heap.size ≤ g16 ∧ Sl W 3 P5 ps.length p5 (pcs ps)) (fun W => True) ?_ ?_ (fun wn5 hHeld2 hF _ => ?_)
    ·exact HSB5.out _ ((hB.trans (hba.mono hB.size)))
    ·exact ⟨hB.trans (hba.mono hB.size), hn, hnl, hP.below hba⟩
    ·trivial
    clear hP hB hHeld
    have hHeld := hHeld2
    clear hHeld2
    obtain ⟨hB, h16, h16l, hP⟩ := hF
    clear hba hn hnl hN
    clear hK K
    try simp only [sqP]
    have hall := And.intro hB (And.intro h16 (And.intro h16l (And.intro hP hHeld)))
    clear hHeld hP h16l h16 hB
    generalize wn5 = wz at hall ⊢
    revert hall
    revert wz
    revert g16
    revert p5
    revert P5
    exact Re2.out
   exact z6.nil
  refine z6.cons (o := _) rfl (fun K hK => ?_) ?_
  ·
   have hba := (Below.refl wn1.heap.size wn1).alloc (Nat.le_refl _) (.cells #[.slice none 0 0, .slice none 0 0, .int .i64 0, .int .i64 0] 26)
   have hn := Arr.new wn1 26 [.slice none 0 0, .slice none 0 0, .int .i64 0, .int .i64 0]
   have hnl : wE.heap.size ≤ wn1.heap.size := hB.size
   obtain ⟨g16, hge⟩ : ∃ g, g = wn1.heap.size := ⟨_, rfl⟩
   have hN : ∀ b, b = g16 → wn1.heap.size ≤ b := fun b h => by rw [h, hge]; exact Nat.le_refl _
   rw [← hge] at hn hnl
   go_simp
   rw [← hge]
   clear hge
   refine zC hK ?_ (fun W => Below wE.heap.size wE W ∧ Arr W g16 26 [.slice none 0 0, .slice none 0 0, .int .i64 0, .int .i64 0] ∧ wE.heap.size ≤ g16) (fun W => True) ?_ ?_ (fun wn6 hHeld2 hF _ => ?_)
   ·exact HSB5.out _ ((hB.trans (hba.mono hB.size)))
   ·exact ⟨hB.trans (hba.mono hB.size), hn, hnl⟩
   ·trivial
   clear hB hHeld
   have hHeld := hHeld2
   clear hHeld2
   obtain ⟨hB, h16, h16l⟩ := hF
   clear hba hn hnl hN
   clear hK K
   try simp only [sqP]
   have hall := And.intro hB (And.intro h16 (And.intro h16l hHeld))
   clear hHeld h16l h16 hB
   generalize wn6 = wz at hall ⊢
   revert hall
   revert wz
   revert g16
   exact Re3.out
  exact z6.nil
 refine z6.cons (o := _) rfl (fun K hK => ?_) ?_
 ·
  have hba := (Below.refl wn0.heap.size wn0).alloc (Nat.le_refl _) (.cells #[.slice none 0 0, .slice none 0 0, .int .i64 0, .int .i64 0] 26)
  have hn := Arr.new wn0 26 [.slice none 0 0, .slice none 0 0, .int .i64 0, .int .i64 0]
  have hnl : wE.heap.size ≤ wn0.heap.size := hB.size
  obtain ⟨g16, hge⟩ : ∃ g, g = wn0.heap.size := ⟨_, rfl⟩
  have hN : ∀ b, b = g16 → wn0.heap.size ≤ b := fun b h => by rw [h, hge]; exact Nat.le_refl _
  rw [← hge] at hn hnl
  go_simp
  rw [← hge]
  clear hge
  refine zC hK ?_ (fun W => Below wE.heap.size wE W ∧ Arr W g16 26 [.slice none 0 0, .slice none 0 0, .int .i64 0, .int .i64 0] ∧ wE.heap.size ≤ g16) (fun W => True) ?_ ?_ (fun wn7 hHeld2 hF _ => ?_)
  ·exact HSB5.out _ ((hB.trans (hba.mono hB.size)))
  ·exact ⟨hB.trans (hba.mono hB.size), hn, hnl⟩
  ·trivial
  clear hB hHeld
  have hHeld := hHeld2
  clear hHeld2
  obtain ⟨hB, h16, h16l⟩ := hF
  clear hba hn hnl hN
  clear hK K
  try simp only [sqP]
  refine z7 (rs := [3]) (by kernel_rfl) (by simp) ?_
  refine z6.cons (o := _) rfl (fun K hK => ?_) ?_
  ·
   go_simp
   refine (HKY.out wn7).mono ?_
   rintro e5 w5 ⟨rfl, hb5⟩
   dsimp only
   refine zC hK ?_ (fun W => Below wE.heap.size wE W ∧ Arr W g16 26 [.slice none 0 0, .slice none 0 0, .int .i64 0, .int .i64 0] ∧ wE.heap.size ≤ g16) (fun W => True) ?_ ?_ (fun wn8 hHeld2 hF _ => ?_)
   ·exact HSB5.out _ ((hB.trans (hb5.mono hB.size)))
   ·exact ⟨hB.trans (hb5.mono hB.size), h16.below hb5, h16l⟩
   ·trivial
   clear h16l h16 hB hHeld
   have hHeld := hHeld2
   clear hHeld2
   obtain ⟨hB, h16, h16l⟩ := hF
   clear hb5
   clear hK K
   try simp only [sqP]
   have hall := And.intro hB (And.intro h16 (And.intro h16l hHeld))
   clear hHeld h16l h16 hB
   generalize wn8 = wz at hall ⊢
   revert hall
   revert wz
   revert g16
   exact Re3.out
  exact z6.nil
 exact z6.nil
 intro g16 wRe3 hall
 obtain ⟨hB, h16, h16l, hHeld⟩ := hall
 refine z7 (rs := [7]) (by kernel_rfl) (by simp) ?_
 refine z6.cons (o := _) rfl (fun K hK => ?_) ?_
 ·
  go_simp
  refine (HPT1.out wRe3 (HK5.out _ hB).2.2.1).mono ?_
  rintro e5 w5 ⟨vp, rfl, hop, hb5⟩
  obtain ⟨P5, p5, rfl, hsp, -⟩ := ko hop
  clear hop
  dsimp only
  refine zC hK ?_ (fun W => Below wE.heap.size wE W ∧ Arr W g16 26 [.slice none 0 0, .slice none 0 0, .int .i64 0, .int .i64 0] ∧ wE.heap.size ≤ g16 ∧ Sl W 3 P5 ps.length p5 (pcs ps)) (fun W => True) ?_ ?_ (fun wn9 hHeld2 hF _ => ?_)
  ·exact HSB5.out _ ((hB.trans (hb5.mono hB.size)))
  ·exact ⟨hB.trans (hb5.mono hB.size), h16.below hb5, h16l, hsp⟩
  ·trivial
  clear h16l h16 hB hHeld
  have hHeld := hHeld2
  clear hHeld2
  obtain ⟨hB, h16, h16l, hP⟩ := hF
  clear hb5 hsp
  clear hK K
  try simp only [sqP]
  have hall := And.intro hB (And.intro h16 (And.intro h16l (And.intro hP hHeld)))
  clear hHeld hP h16l h16 hB
  generalize wn9 = wz at hall ⊢
  revert hall
  revert wz
  revert g16
  revert p5
  revert P5
  exact Re2.out
 exact z6.nil
 intro P5 p5 g16 wRe2 hall
 obtain ⟨hB, h16, h16l, hP, hHeld⟩ := hall
 refine z7 (rs := [8]) (by kernel_rfl) (by simp) ?_
 refine z6.cons (o := _) rfl (fun K hK => ?_) ?_
 ·
  go_simp
  refine (HPS.out wRe2 P5 p5 (HK5.out _ hB).2.2.1 hP).mono ?_
  rintro e5 w5 ⟨Ad, cd, Bd, dd, rfl, ho5, hb5⟩
  dsimp only
  refine zC hK ?_ (fun W => Below wE.heap.size wE W ∧ Arr W g16 26 [.slice none 0 0, .slice none 0 0, .int .i64 0, .int .i64 0] ∧ wE.heap.size ≤ g16 ∧ OwSt W 0 (.slice Ad t.blobs.length cd) (.slice Bd t.ents.length dd) t (fun b => b = g16)) (fun W => True) ?_ ?_ (fun wn10 hHeld2 hF _ => ?_)
  ·exact HSB5.out _ ((hB.trans (hb5.mono hB.size)))
  ·exact ⟨hB.trans (hb5.mono hB.size), h16.below hb5, h16l, (ho5.lower (base' := 0) (Nat.zero_le _)).mono (N' := (fun b => b = g16)) (fun b hb => (by rw [hb]; exact h16.lt))⟩
  ·trivial
  clear hP h16l h16 hB hHeld
  have hHeld := hHeld2
  clear hHeld2
  obtain ⟨hB, h16, h16l, ho⟩ := hF
  clear hb5 ho5
  clear hK K
  try simp only [sqP]
  refine tkP 9 ?_
  try simp only [sqP]
  refine tkP 10 ?_
  try simp only [sqP]
  refine tkP 11 ?_
  try simp only [sqP]
  have hall := And.intro hB (And.intro h16 (And.intro h16l (And.intro ho hHeld)))
  clear hHeld ho h16l h16 hB
  generalize wn10 = wz at hall ⊢
  revert hall
  revert wz
  revert g16
  revert dd
  revert Bd
  revert cd
  revert Ad
  revert p5
  revert P5
  exact Re1.out
 exact z6.nil
 intro P5 p5 Ad cd Bd dd g16 wRe1 hall
 obtain ⟨hB, h16, h16l, ho, hHeld⟩ := hall
 refine z7 (rs := [13]) (by kernel_rfl) (by simp) ?_
 refine z6.store (o := _) rfl (by rfl) (fun K hK => ?_) ?_
 ·
  have hqho := ho.nb h16 (by decide) (by decide)
  have z0 := h16.cell (k := 0) rfl
  have f0 := h16.frozen 0
  have z1 := h16.cell (k := 1) rfl
  have f1 := h16.frozen 1
  have z2 := h16.cell (k := 2) rfl
  have f2 := h16.frozen 2
  have z3 := h16.cell (k := 3) rfl
  have f3 := h16.frozen 3
  go_simp
  clear z0 f0 z1 f1 z2 f2 z3 f3
  refine jI hK (fun W => Below wE.heap.size wE W ∧ Arr W g16 26 [(.slice Ad t.blobs.length cd), (.slice Bd t.ents.length dd), .int .i64 (t.room : Int), .int .i64 (t.clock : Int)] ∧ wE.heap.size ≤ g16 ∧ OwSt W 0 (.slice Ad t.blobs.length cd) (.slice Bd t.ents.length dd) t (fun b => b = g16)) (fun W => True) ?_ ?_ (fun wn11 hF _ => ?_)
  ·exact ⟨((((hB).setCell (p := ⟨g16, 0, none⟩) h16l _).setCell (p := ⟨g16, 1, none⟩) h16l _).setCell (p := ⟨g16, 2, none⟩) h16l _).setCell (p := ⟨g16, 3, none⟩) h16l _, h16.all4 _ _ _ _, h16l, ho.set4N rfl hqho.1 hqho.2 _ _ _ _⟩
  ·trivial
  clear ho h16l h16 hB hHeld
  obtain ⟨hB, h16, h16l, ho⟩ := hF
  clear hqho
  clear hK K
  try simp only [sqP]
  refine tkP 14 ?_
  try simp only [sqP]
  refine zH (by kernel_rfl) ?_ _
  dsimp only [Exit.then]
  have hall := And.intro hB (And.intro h16 (And.intro h16l ho))
  clear ho h16l h16 hB
  generalize wn11 = wz at hall ⊢
  revert hall
  revert wz
  revert g16
  revert dd
  revert Bd
  revert cd
  revert Ad
  revert p5
  revert P5
  exact REST4.out
 exact z6.nil
 intro P5 p5 Ad cd Bd dd g16 w6 hall
 obtain ⟨hB, h16, h16l, ho⟩ := hall
 have hrdw6 : RdSt w6 Ad cd Bd dd t := by
  obtain ⟨_, _, _, _, e1, e2, h⟩ := ho.rows
  cases e1; cases e2; exact h
 have HK6 := Lib.hid (show ∀ W, Below w6.heap.size w6 W → Arr W gs 26 [.slice As s.blobs.length cs, .slice Bs s.ents.length ds, .int .i64 (s.room : Int), .int .i64 (s.clock : Int)] ∧ Arr W gr 47 [.int .i64 rk, .int .i64 ra, .int .i64 rb, .string rt] ∧ RdSt W As cs Bs ds s ∧ Arr W g6 26 [.slice Aa (zb s D).blobs.length ca, .slice Ba (zb s D).ents.length da, .int .i64 (s.room : Int), .int .i64 (s.clock : Int)] ∧ Arr W g7 66 [.int .i64 0, .slice Ga 0 na, .string ⟨#[]⟩] ∧ RdSt W Aa ca Ba da (zb s D) ∧ Arr W g8 26 [.slice Ab (zb s D).blobs.length cb, .slice Bb (zb s D).ents.length db, .int .i64 (s.room : Int), .int .i64 (s.clock : Int)] ∧ RdSt W Ab cb Bb db (zb s D) ∧ Arr W g13 26 [.slice Ac t.blobs.length cc, .slice Bc t.ents.length dc, .int .i64 (t.room : Int), .int .i64 (t.clock : Int)] ∧ Arr W g14 66 [.int .i64 0, .slice Gc 0 nc, .string ⟨#[]⟩] ∧ RdSt W Ac cc Bc dc t ∧ Arr W g16 26 [.slice Ad t.blobs.length cd, .slice Bd t.ents.length dd, .int .i64 (t.room : Int), .int .i64 (t.clock : Int)] ∧ RdSt W Ad cd Bd dd t from fun W h => ⟨(HK5.out _ (hB.trans (h.mono hB.size))).1, (HK5.out _ (hB.trans (h.mono hB.size))).2.1, (HK5.out _ (hB.trans (h.mono hB.size))).2.2.1, (HK5.out _ (hB.trans (h.mono hB.size))).2.2.2.1, (HK5.out _ (hB.trans (h.mono hB.size))).2.2.2.2.1, (HK5.out _ (hB.trans (h.mono hB.size))).2.2.2.2.2.1, (HK5.out _ (hB.trans (h.mono hB.size))).2.2.2.2.2.2.1, (HK5.out _ (hB.trans (h.mono hB.size))).2.2.2.2.2.2.2.1, (HK5.out _ (hB.trans (h.mono hB.size))).2.2.2.2.2.2.2.2.1, (HK5.out _ (hB.trans (h.mono hB.size))).2.2.2.2.2.2.2.2.2.1, (HK5.out _ (hB.trans (h.mono hB.size))).2.2.2.2.2.2.2.2.2.2, h16.below h, hrdw6.below h⟩)
 have HB6 := Lib.hid (HB5.out.trans (hB.mono (show gr ≤ wE.heap.size by have := HB5.out.size; have := HGR.out; omega)))
 clear hB h16 h16l ho hrdw6
 go_wp2_with fail
 refine (((Kw w6))).mono ?_; rintro e_ w7 ⟨rfl, hb7⟩; dsimp only
 obtain ⟨-, -, -, a6, a7, ra, a8, rb, -⟩ := HK6.out _ hb7
 have hgr := HTG.out
 have hss := kS Aa Ab Ba Bb ca cb da db (zb s D).blobs (zb s D).blobs (zb s D).ents (zb s D).ents ((zb s D).room : Int) ((zb s D).clock : Int) w7 (by have := hgr.b.len; omega) (by have := hgr.b.len; omega) (fun b hb => by have := (hgr.b.one b hb).2.1; omega) (fun b hb => by have := (hgr.b.one b hb).2.1; omega) (by have := hgr.e.len; omega) (by have := hgr.e.len; omega) (fun x hx => by have := (zu (hgr.e.one x hx).2.1).1; omega) (fun x hx => by have := (zu (hgr.e.one x hx).2.1).1; omega) ra.b rb.b ra.e rb.e
 rw [kJ.2 rfl, kA.2 rfl] at hss
 have HSS := Lib.hid (show Calls Tryz.prog 32 #[.agg #[.slice Aa (zb s D).blobs.length ca, .slice Ba (zb s D).ents.length da, .int .i64 (s.room : Int), .int .i64 (s.clock : Int)], .agg #[.slice Ab (zb s D).blobs.length cb, .slice Bb (zb s D).ents.length db, .int .i64 (s.room : Int), .int .i64 (s.clock : Int)]] w7 fun e w' => e = .returned (.bool (true && true)) ∧ Below w7.heap.size w7 w' from hss)
 have HB7 := Lib.hid (HB6.out.trans (hb7.mono (show gr ≤ w6.heap.size by have := HB6.out.size; have := HGR.out; omega)))
 have x0 := a6.cell (k := 0) rfl
 have x1 := a6.cell (k := 1) rfl
 have x2 := a6.cell (k := 2) rfl
 have x3 := a6.cell (k := 3) rfl
 have y0 := a8.cell (k := 0) rfl
 have y1 := a8.cell (k := 1) rfl
 have y2 := a8.cell (k := 2) rfl
 have y3 := a8.cell (k := 3) rfl
 have HK7 := Lib.hid hb7
 clear a6 a7 ra a8 rb hgr hss hb7
 go_wp2_with fail
 clear x0 x1 x2 x3 y0 y1 y2 y3
 refine ((HSS.out)).mono ?_; rintro e_ w8 ⟨rfl, hb8⟩; dsimp only
 have hb68 := HK7.out.trans (hb8.mono HK7.out.size)
 obtain ⟨-, -, -, -, -, -, -, -, a13, a14, rc, a16, rd⟩ := HK6.out _ hb68
 have hgr := HTG2.out
 have hss := kS Ac Ad Bc Bd cc cd dc dd (t).blobs (t).blobs (t).ents (t).ents ((t).room : Int) ((t).clock : Int) w8 (by have := hgr.b.len; omega) (by have := hgr.b.len; omega) (fun b hb => by have := (hgr.b.one b hb).2.1; omega) (fun b hb => by have := (hgr.b.one b hb).2.1; omega) (by have := hgr.e.len; omega) (by have := hgr.e.len; omega) (fun x hx => by have := (zu (hgr.e.one x hx).2.1).1; omega) (fun x hx => by have := (zu (hgr.e.one x hx).2.1).1; omega) rc.b rd.b rc.e rd.e
 rw [kJ.2 rfl, kA.2 rfl] at hss
 have HSS2 := Lib.hid hss
 have HB8 := Lib.hid (HB7.out.trans (hb8.mono (show gr ≤ w7.heap.size by have := HB7.out.size; have := HGR.out; omega)))
 have x0 := a13.cell (k := 0) rfl
 have x1 := a13.cell (k := 1) rfl
 have x2 := a13.cell (k := 2) rfl
 have x3 := a13.cell (k := 3) rfl
 have y0 := a16.cell (k := 0) rfl
 have y1 := a16.cell (k := 1) rfl
 have y2 := a16.cell (k := 2) rfl
 have y3 := a16.cell (k := 3) rfl
 have HK8 := Lib.hid hb68
 clear a13 a14 rc a16 rd hgr hss hb8 hb68
 go_wp2_with fail
 clear x0 x1 x2 x3 y0 y1 y2 y3
 refine ((HSS2.out)).mono ?_; rintro e_ w9 ⟨rfl, hb9⟩; dsimp only
 obtain ⟨-, -, -, -, a7, -, -, -, -, a14, -⟩ := HK6.out _ (HK8.out.trans (hb9.mono HK8.out.size))
 have x0 := a7.cell (k := 0) rfl
 have y0 := a14.cell (k := 0) rfl
 have HB9 := Lib.hid (HB8.out.trans (hb9.mono (show gr ≤ w8.heap.size by have := HB8.out.size; have := HGR.out; omega)))
 clear a7 a14 hb9
 go_wp2_with fail
 go_ret
 have hh := HGR.out
 subst hh
 exact ⟨by simp, HB9.out⟩
end Go.Proofs.YtngfnjekjfeacaaGreat
