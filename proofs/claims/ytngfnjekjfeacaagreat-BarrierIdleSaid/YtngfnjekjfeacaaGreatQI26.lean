/- Lemmas of a proof, made shorter by a program. Conditions: none, or as each states. -/
import Derived.Test.YtngfnjekjfeacaaGreatQI23
namespace Go.Proofs.YtngfnjekjfeacaaGreat
open Go.RowKit
set_option linter.unusedVariables false
set_option linter.unusedSimpArgs false
set_option maxRecDepth 100000
set_option maxHeartbeats 8000000 in
theorem Zt (A : Option Addr) (c : Nat) (l : List BlobP) (PA : Option Addr) (pc : Nat) (ps : List PartP) (w : World) (hl : l.length ≤ 1000000) (hp : ps.length ≤ 1000000) (hA : Rw BlobS w A l) (hP : Rd w 3 PA ps.length (pcs ps)) :
  Calls Tryz.prog 82 #[.slice A l.length c, .slice PA ps.length pc] w fun e w' => e = .returned (.int .i64 (qc l ps : Int)) ∧ Below w.heap.size w w' := by
 generalize hR : qc l ps = R
 have HR0 := Lib.hid hR
 clear hR
 go_enter Tryz.func82, Tryz.ntmps82
 go_wp2_with fail
 go_loopg [11] ps.length (fun gn i wr => ∃ j : Nat, gn = ps.length - j ∧ i = .int .i64 j ∧ j ≤ ps.length ∧ qc l (ps.drop j) = R ∧ Below w.heap.size w wr)
 case atStart => exact ⟨0, rfl, rfl, by omega, by rw [List.drop_zero]; exact HR0.out, Below.refl _ _⟩
 case round =>
  obtain ⟨j, hgk, rfl, hj, hrest, hbl⟩ := hrel
  have HGK := Lib.hid hgk
  have HRS := Lib.hid hrest
  clear hgk hrest
  by_cases hlt : j < ps.length
  ·have hcc : decide (j < ps.length) = true := decide_eq_true hlt
   obtain ⟨b, off, rfl, hbb, hcell⟩ := (hP.below hbl).2 (by omega)
   have hj0 : (0 : Int) ≤ (j : Int) := by omega
   have hj1 : (j : Int) < (ps.length : Int) := by omega
   have hat := fun k (hk : k < 3) => qO ps j k hlt hk
   have HDR := Lib.hid (show qc l (ps[j] :: ps.drop (j + 1)) = R by rw [← List.drop_eq_getElem_cons hlt]; exact HRS.out)
   generalize ps[j] = p at *
   have c0 := hcell (j * 3 + 0) _ (hat 0 (by omega))
   have c1 := hcell (j * 3 + 1) _ (hat 1 (by omega))
   have c2 := hcell (j * 3 + 2) _ (hat 2 (by omega))
   rw [Nat.add_zero] at c0
   rw [show off + (j * 3 + 1) = off + j * 3 + 1 by omega] at c1
   rw [show off + (j * 3 + 2) = off + j * 3 + 2 by omega] at c2
   try dsimp only [qF, List.getElem?_cons_zero, List.getElem?_cons_succ] at c0 c1 c2
   obtain ⟨sn, hsn⟩ : ∃ s : ByteArray, s = ⟨p.name.toArray⟩ := ⟨_, rfl⟩
   obtain ⟨sp, hsp⟩ : ∃ s : ByteArray, s = ⟨p.dig.toArray⟩ := ⟨_, rfl⟩
   rw [← hsn] at c0
   rw [← hsp] at c1
   have HSP := Lib.hid hsp
   have hX : Arr (wr.alloc (.cells #[.string sn, .string sp, .int .i64 (p.size : Int)] 52)) wr.heap.size 52 [.string sn, .string sp, .int .i64 (p.size : Int)] := Arr.new wr 52 _
   have hba := (Below.refl wr.heap.size wr).alloc (Nat.le_refl _) (.cells #[.string sn, .string sp, .int .i64 (p.size : Int)] 52)
   have hb2 := hbl.trans (hba.mono hbl.size)
   have x1 := hX.cell (k := 1) rfl
   clear hat hcell hbl hba hsn hsp
   go_wp2_with fail
   generalize wr.alloc (.cells #[.string sn, .string sp, .int .i64 (p.size : Int)] 52) = w2 at *
   generalize wr.heap.size = gx at *
   clear c0 c1 c2 x1
   have hA2 := hA.below hb2
   have HFN := yg A c l p.dig w2 hl hA2
   rw [← HSP.out] at HFN
   cases hf : l.findIdx? (fun x => x.dig == p.dig) with
   | none =>
    rw [hf, Kn] at HFN
    have HFN := Lib.hid HFN
    have HE := Lib.hid (show R = 5 by rw [← HDR.out, qc, hf])
    clear hf hA2
    refine ((HFN.out)).mono ?_; rintro e_ w3 ⟨rfl, hb3⟩; dsimp only
    have hb23 := hb2.trans (hb3.mono hb2.size)
    go_wp2_with fail
    go_ret
    rw [HE.out]
    exact ⟨rfl, hb23⟩
   | some i =>
    obtain ⟨hi, _, _⟩ := List.findIdx?_eq_some_iff_getElem.1 hf
    rw [hf, Kn] at HFN
    have HFN := Lib.hid HFN
    have HRR := Lib.hid (show R = if l[i].data.length = p.size then qc l (ps.drop (j + 1)) else 4 by
     rw [← HDR.out, qc, hf]
     show (if (match l[i]? with | some b => b.data.length | none => 0) = p.size then _ else _) = _
     rw [List.getElem?_eq_getElem hi])
    clear hf
    refine ((HFN.out)).mono ?_; rintro e_ w3 ⟨rfl, hb3⟩; dsimp only
    have hb23 := hb2.trans (hb3.mono hb2.size)
    have hX3 := hX.below hb3
    obtain ⟨b', off', B, cb, rfl, hbb', d0, d1, d2, d3, _⟩ := (hA2.below hb3).blob_at i hi
    have hi0 : (0 : Int) ≤ (i : Int) := by omega
    have hi1 : (i : Int) < (l.length : Int) := by omega
    have x2 := hX3.cell (k := 2) rfl
    generalize l[i].data.length = m at *
    clear hA2 hX hb2 hb3 d0 d2 d3
    by_cases hm : m = p.size
    ·have hne : ((m : Int) != (p.size : Int)) = false := by rw [bne_eq_false_iff_eq]; omega
     have HN := Lib.hid (show qc l (ps.drop (j + 1)) = R by rw [HRR.out, if_pos hm])
     go_wp2_with fail
     go_quiet (fail)
     go_wp2_with fail
     go_roundg (ps.length - (j + 1))
     case measure => have := HGK.out; omega
     case rel => exact ⟨j + 1, rfl, by go_num, by omega, HN.out, zw hb23 _⟩
    ·have hne : ((m : Int) != (p.size : Int)) = true := by rw [bne_iff_ne]; omega
     have HN := Lib.hid (show R = 4 by rw [HRR.out, if_neg hm])
     go_wp2_with fail
     go_quiet (fail)
     go_wp2_with fail
     go_ret
     rw [HN.out]
     exact ⟨rfl, zw hb23 _⟩
  ·obtain rfl : j = ps.length := by omega
   have hcc : decide (ps.length < ps.length) = false := by simp
   have HE := Lib.hid (show R = 0 by rw [← HRS.out, List.drop_length, qc])
   go_wp2_with fail
   go_ret
   rw [HE.out]
   exact ⟨rfl, hbl⟩
theorem YX (k : Int) (h : k = 0 ∨ k = 1 ∨ k = 2) (w : World) : (Instr.index 173 (.agg #[.int .i64 0, .int .i64 0, .int .i64 0]) (.int .i64 k)).run Tryz.prog w = .ok (.int .i64 0) w := by
 rcases h with rfl | rfl | rfl <;> kernel_rfl
theorem xO {P : Program} {fn : Func} {p u : Tmp} {ty : TypeId} (h : fn.results = #[.cell p ty, .tmp u]) (tmps : Array Value) (w : World) (g : Nat) (t : TypeId) (cs : Array Value) (fr : Nat × Nat) (d : TypeDesc)
  (hp : tmps.getD p undef = .pointer (some ⟨g, 0, none⟩)) (hg : w.heap[g]? = some (.cells cs t fr))
  (hu : P.underlying ty = some d) (hd : (match d with | .struct _ | .array _ _ => true | _ => false) = true) (hi : (P.info? ty).map (·.size) = some cs.size) :
  (results fn tmps).run P w = .ok (.tuple #[.agg cs, tmps.getD u undef]) w := by
 have hp' : tmps[p]?.getD undef = .pointer (some ⟨g, 0, none⟩) := by simpa using hp
 simp [results, h, hp', asAddr, run_loadVar_row w g t ty cs fr d hg hu hd hi]
theorem xw {P : Program} {fn : Func} {p u z : Tmp} {ty : TypeId} (h : fn.results = #[.cell p ty, .tmp u, .tmp z]) (tmps : Array Value) (w : World) (g : Nat) (t : TypeId) (cs : Array Value) (fr : Nat × Nat) (d : TypeDesc)
  (hp : tmps.getD p undef = .pointer (some ⟨g, 0, none⟩)) (hg : w.heap[g]? = some (.cells cs t fr))
  (hu : P.underlying ty = some d) (hd : (match d with | .struct _ | .array _ _ => true | _ => false) = true) (hi : (P.info? ty).map (·.size) = some cs.size) :
  (results fn tmps).run P w = .ok (.tuple #[.agg cs, tmps.getD u undef, tmps.getD z undef]) w := by
 have hp' : tmps[p]?.getD undef = .pointer (some ⟨g, 0, none⟩) := by simpa using hp
 simp [results, h, hp', asAddr, run_loadVar_row w g t ty cs fr d hg hu hd hi]
abbrev stV (v1 v2 : Value) (s : StoP) : Value := .agg #[v1, v2, .int .i64 (s.room : Int), .int .i64 (s.clock : Int)]
structure OwSt (w : World) (base : Nat) (v1 v2 : Value) (s : StoP) (N : Nat → Prop) : Prop where
 b : RwX BlobS 50 w base v1 s.blobs (fun g => N g ∨ v2.ownBlock = some g)
 e : RwX EntS 36 w base v2 s.ents (fun g => N g ∨ v1.ownBlock = some g)
 ne : ∀ g, v1.ownBlock = some g → v2.ownBlock ≠ some g
theorem OwSt.below {w w' : World} {base : Nat} {v1 v2 : Value} {s : StoP} {N : Nat → Prop} (h : OwSt w base v1 v2 s N) (hb : Below w.heap.size w w') : OwSt w' base v1 v2 s N := ⟨h.b.below hb, h.e.below hb, h.ne⟩
theorem OwSt.lower {w : World} {base base' : Nat} {v1 v2 : Value} {s : StoP} {N : Nat → Prop} (h : OwSt w base v1 v2 s N) (hb : base' ≤ base) : OwSt w base' v1 v2 s N := ⟨h.b.lower hb, h.e.lower hb, h.ne⟩
theorem OwSt.wider {w : World} {base : Nat} {v1 v2 : Value} {s : StoP} {N N' : Nat → Prop} (h : OwSt w base v1 v2 s N) (hN : ∀ b, N' b → N b ∨ w.heap.size ≤ b) : OwSt w base v1 v2 s N' :=
 ⟨h.b.wider fun b hb => hb.elim (fun h1 => (hN b h1).imp .inl id) (fun h1 => .inl (.inr h1)), h.e.wider fun b hb => hb.elim (fun h1 => (hN b h1).imp .inl id) (fun h1 => .inl (.inr h1)), h.ne⟩
structure RdSt (w : World) (A : Option Addr) (c : Nat) (B : Option Addr) (d : Nat) (s : StoP) : Prop where
 b : Rw BlobS w A s.blobs
 e : Rw EntS w B s.ents
 bc : s.blobs.length ≤ c
 bm : c ≤ maxLen
 ec : s.ents.length ≤ d
 em : d ≤ maxLen
theorem RdSt.below {w w' : World} {A B : Option Addr} {c d : Nat} {s : StoP} (h : RdSt w A c B d s) (hb : Below w.heap.size w w') : RdSt w' A c B d s := ⟨h.b.below hb, h.e.below hb, h.bc, h.bm, h.ec, h.em⟩
theorem OwSt.rows {w : World} {base : Nat} {v1 v2 : Value} {s : StoP} {N : Nat → Prop} (h : OwSt w base v1 v2 s N) : ∃ A c B d, v1 = .slice A s.blobs.length c ∧ v2 = .slice B s.ents.length d ∧ RdSt w A c B d s := by
 obtain ⟨A, c, e1, h1, h2, h3⟩ := h.b.rwo.rows
 obtain ⟨B, d, e2, k1, k2, k3⟩ := h.e.rwo.rows
 exact ⟨A, c, B, d, e1, e2, h3, k3, h1, h2, k1, k2⟩
set_option maxHeartbeats 16000000 in
theorem qh (A : Option Addr) (c : Nat) (B : Option Addr) (d : Nat) (s : StoP) (w : World) (hg : GoodS s) (hr : RdSt w A c B d s) :
  Calls Tryz.prog 56 #[.agg #[.slice A s.blobs.length c, .slice B s.ents.length d, .int .i64 (s.room : Int), .int .i64 (s.clock : Int)]] w fun e w' => e = .returned (.int .i64 0) ∧ Below w.heap.size w w' := by
 have hlb : s.blobs.length ≤ 24 := hg.b.len
 have hle : s.ents.length ≤ 10 := hg.e.len
 have hus : usd s.blobs ≤ 4000 := Nat.le_trans hg.used hg.room
 have hrm := hg.room
 have hck := hg.clock
 obtain ⟨w0, hw0⟩ : ∃ w0, w0 = w.alloc (.cells #[.slice A s.blobs.length c, .slice B s.ents.length d, .int .i64 (s.room : Int), .int .i64 (s.clock : Int)] 26) := ⟨_, rfl⟩
 obtain ⟨H, hH⟩ : ∃ H, H = w.heap.size := ⟨_, rfl⟩
 have hS : Arr w0 H 26 [.slice A s.blobs.length c, .slice B s.ents.length d, .int .i64 (s.room : Int), .int .i64 (s.clock : Int)] := by rw [hw0, hH]; exact Arr.new w 26 _
 have hb0 : Below w.heap.size w w0 := by rw [hw0]; exact (Below.refl _ _).alloc (Nat.le_refl _) _
 have hA0 := hr.b.below hb0
 have hE0 := hr.e.below hb0
 have HSB := Lib.hid (show ∀ W, Below w0.heap.size w0 W → W.cell? ⟨H, 0, none⟩ = some (.slice A s.blobs.length c) ∧ W.cell? ⟨H, 1, none⟩ = some (.slice B s.ents.length d) ∧ W.cell? ⟨H, 2, none⟩ = some (.int .i64 (s.room : Int)) from fun W h =>
  ⟨(hS.below h).cell (k := 0) rfl, (hS.below h).cell (k := 1) rfl, (hS.below h).cell (k := 2) rfl⟩)
 have HCB := Lib.hid (fun W (h : Below w0.heap.size w0 W) => yn A c s.blobs W hg.b (hA0.below h))
 have HCE := Lib.hid (fun W (h : Below w0.heap.size w0 W) => qJ B d s.ents W hg.e (hE0.below h))
 have HCF := Lib.hid (show ∀ W, Below w0.heap.size w0 W → Calls Tryz.prog 24 #[.slice A s.blobs.length c, .int .i64 (s.room : Int), .int .i64 0] W fun e w' => e = .returned (.int .i64 0) ∧ Below W.heap.size W w' from fun W h => by
  have := Zz A c s.blobs s.room 0 W (by omega) (by omega) hrm (by omega) (hA0.below h)
  rw [if_pos (by have := hg.used; omega)] at this
  exact this)
 have HEN := Lib.hid (show ∀ x ∈ s.ents, x.stamp ≤ s.clock ∧ qc s.blobs x.parts = 0 ∧ x.parts.length ≤ 8 from fun x hx =>
  ⟨(hg.ent x hx).1, yE hg.b.ris (hg.ent x hx).2, (zu (hg.e.one x hx).2.1).1⟩)
 have ck1 : decide ((s.clock : Int) < 0) = false := decide_eq_false (by omega)
 have ck2 : decide ((s.clock : Int) > 1099511627776) = false := decide_eq_false (by omega)
 have ck3 : decide ((1099511627776 : Int) < (s.clock : Int)) = false := decide_eq_false (by omega)
 have ck4 : decide (1099511627776 < s.clock) = false := decide_eq_false (by omega)
 clear hg hr
 go_enter Tryz.func56, Tryz.ntmps56
 go_wp2_with fail
 rw [← hw0]
 rw [← hH]
 clear hw0
 have HH := Lib.hid hH
 clear hH
 refine wp_region_held_drew (S := (fun w' => w'.cell? ⟨H, 0, none⟩ = some (.slice A s.blobs.length c) ∧ w'.cell? ⟨H, 1, none⟩ = some (.slice B s.ents.length d) ∧ w'.cell? ⟨H, 2, none⟩ = some (.int .i64 (s.room : Int)))) (by kernel_rfl) ?_ (fun hHeld => ?_)
 ·exact HSB.out _ (Below.refl _ w0).drew
 have hB := (Below.refl w0.heap.size w0).drew
 generalize w0.drew = wn0 at *
 refine sqTH 0 ?_;try simp only [sqP]
 refine sqTH 1 ?_;try simp only [sqP]
 refine sqTH 3 ?_;try simp only [sqP]
 refine sqTH 4 ?_;try simp only [sqP]
 refine sqTH 6 ?_;try simp only [sqP]
 refine sqTH 7 ?_;try simp only [sqP]
 refine sqTH 8 ?_;try simp only [sqP]
 refine sqTH 9 ?_;try simp only [sqP]
 refine sqTH 12 ?_;try simp only [sqP]
 refine wpAnyH_ready (rs := [2]) (by kernel_rfl) (by simp) ?_
 refine AllReadyH.cons (o := _) rfl (fun K hK => ?_) ?_
 ·
  go_simp
  refine (HCB.out wn0 hB).mono ?_
  rintro e5 w5 ⟨rfl, hb5⟩
  dsimp only
  refine qE hK ?_ (Below wn0.heap.size wn0) (fun W => True) ?_ ?_ (fun wn1 hHeld hst hnew => ?_)
  ·(exact HSB.out _ (hB.trans (hb5.mono hB.size)))
  ·(exact hb5)
  ·(trivial)
  have hB := hB.trans (hst.mono hB.size)
  clear hst
  clear hK K
  try simp only [sqP]
  refine wpAnyH_ready (rs := [5]) (by kernel_rfl) (by simp) ?_
  refine AllReadyH.cons (o := _) rfl (fun K hK => ?_) ?_
  ·
   go_simp
   refine (HCE.out wn1 hB).mono ?_
   rintro e5 w5 ⟨rfl, hb5⟩
   dsimp only
   refine qE hK ?_ (Below wn1.heap.size wn1) (fun W => True) ?_ ?_ (fun wn2 hHeld hst hnew => ?_)
   ·(exact HSB.out _ (hB.trans (hb5.mono hB.size)))
   ·(exact hb5)
   ·(trivial)
   have hB := hB.trans (hst.mono hB.size)
   clear hst
   clear hK K
   try simp only [sqP]
   refine wpAnyH_ready (rs := [10]) (by kernel_rfl) (by simp) ?_
   refine AllReadyH.cons (o := _) rfl (fun K hK => ?_) ?_
   ·
    go_simp
    refine (HCF.out wn2 hB).mono ?_
    rintro e5 w5 ⟨rfl, hb5⟩
    dsimp only
    refine qE hK ?_ (Below wn2.heap.size wn2) (fun W => True) ?_ ?_ (fun wn3 hHeld hst hnew => ?_)
    ·(exact HSB.out _ (hB.trans (hb5.mono hB.size)))
    ·(exact hb5)
    ·(trivial)
    have hB := hB.trans (hst.mono hB.size)
    clear hst
    clear hK K
    try simp only [sqP]
    refine sqTH 11 ?_;try simp only [sqP]
    refine wpAnyH_done (by kernel_rfl) ?_ _
    dsimp only [Exit.then]
    clear hHeld
    have hb1 := hb0.trans (hB.mono hb0.size)
    have hS1 := hS.below hB
    have hA1 := hA0.below hB
    have hE1 := hE0.below hB
    clear hB hS hA0 hE0 hb0
    generalize wn3 = w1 at *
    go_wp2_with fail
    go_loopg [19] 3 (fun gn i wr => ∃ j : Int, i = .int .i64 j ∧ (j = 0 ∨ j = 1 ∨ j = 2 ∨ j = 3) ∧ gn = (3 - j).toNat ∧ wr = w1)
    case atStart => exact ⟨0, rfl, by omega, rfl, rfl⟩
    case round =>
     obtain ⟨j, rfl, hj, hgn, hwr⟩ := hrel
     subst hwr
     have ix0 := YX 0 (by omega) wr
     have ix1 := YX 1 (by omega) wr
     have ix2 := YX 2 (by omega) wr
     rcases hj with rfl | rfl | rfl | rfl
     ·go_wp2_with fail
      go_roundg 2
      case measure => omega
      case rel => exact ⟨1, rfl, by omega, rfl, rfl⟩
     ·go_wp2_with fail
      go_roundg 1
      case measure => omega
      case rel => exact ⟨2, rfl, by omega, rfl, rfl⟩
     ·go_wp2_with fail
      go_roundg 0
      case measure => omega
      case rel => exact ⟨3, rfl, by omega, rfl, rfl⟩
     ·clear hgn ix0 ix1 ix2
      generalize wr = wr0 at *
      have d3 := hS1.cell (k := 3) rfl
      have d1 := hS1.cell (k := 1) rfl
      go_wp2_with fail
      clear d3 d1
      go_loopg [37] s.ents.length (fun gn i wr => ∃ j : Nat, gn = s.ents.length - j ∧ i = .int .i64 j ∧ j ≤ s.ents.length ∧ Below wr0.heap.size wr0 wr)
      case atStart => exact ⟨0, rfl, rfl, by omega, Below.refl _ _⟩
      case round =>
       obtain ⟨j, hgk, rfl, hj, hbl⟩ := hrel
       have HGK := Lib.hid hgk
       clear hgk
       by_cases hlt : j < s.ents.length
       ·have hcc : decide (j < s.ents.length) = true := decide_eq_true hlt
        obtain ⟨b, off, PB, cb, rfl, hbb, c0, c1, c2, c3, hs⟩ := (hE1.below hbl).ent_at j hlt
        have hj0 : (0 : Int) ≤ (j : Int) := by omega
        have hj1 : (j : Int) < (s.ents.length : Int) := by omega
        obtain ⟨g1, g2, g3⟩ := HEN.out s.ents[j] (List.getElem_mem hlt)
        have HG2 := Lib.hid g2
        generalize s.ents[j] = x at *
        obtain ⟨sx, hsx⟩ : ∃ s : ByteArray, s = ⟨x.key.toArray⟩ := ⟨_, rfl⟩
        rw [← hsx] at c0
        have st1 : decide ((x.stamp : Int) > (s.clock : Int)) = false := decide_eq_false (by omega)
        have st2 : decide ((s.clock : Int) < (x.stamp : Int)) = false := decide_eq_false (by omega)
        have st3 : decide (s.clock < x.stamp) = false := decide_eq_false (by omega)
        have hX : Arr (wr.alloc (.cells #[.string sx, .slice PB x.parts.length cb, .int .i64 (x.pins : Int), .int .i64 (x.stamp : Int)] 36)) wr.heap.size 36 [.string sx, .slice PB x.parts.length cb, .int .i64 (x.pins : Int), .int .i64 (x.stamp : Int)] := Arr.new wr 36 _
        have hba := (Below.refl wr.heap.size wr).alloc (Nat.le_refl _) (.cells #[.string sx, .slice PB x.parts.length cb, .int .i64 (x.pins : Int), .int .i64 (x.stamp : Int)] 36)
        have hbl2 := hbl.trans (hba.mono hbl.size)
        have hs2 := hs.below hba
        have hS2 := hS1.below hbl2
        have hA2 := hA1.below hbl2
        have x1 := hX.cell (k := 1) rfl
        have x3 := hX.cell (k := 3) rfl
        have y0 := hS2.cell (k := 0) rfl
        have y3 := hS2.cell (k := 3) rfl
        clear hsx hs hba hbl g2
        go_wp2_with fail
        generalize wr.alloc (.cells #[.string sx, .slice PB x.parts.length cb, .int .i64 (x.pins : Int), .int .i64 (x.stamp : Int)] 36) = w2 at *
        generalize wr.heap.size = gx at *
        clear c0 c1 c2 c3 x1 x3 y0 y3
        have HHV := Zt A c s.blobs PB cb x.parts w2 (by omega) (by omega) hA2 hs2.rd
        rw [HG2.out] at HHV
        have HHV := Lib.hid HHV
        clear hA2 hs2 hS2 hX
        refine ((HHV.out)).mono ?_; rintro e_ w3 ⟨rfl, hb3⟩; dsimp only
        have hbl3 := hbl2.trans (hb3.mono hbl2.size)
        go_wp2_with fail
        go_roundg (s.ents.length - (j + 1))
        case measure => have := HGK.out; omega
        case rel => exact ⟨j + 1, rfl, by go_num, by omega, hbl3⟩
       ·obtain rfl : j = s.ents.length := by omega
        have hcc : decide (s.ents.length < s.ents.length) = false := by simp
        go_wp2_with fail
        go_ret
        exact ⟨rfl, hb1.trans (hbl.mono hb1.size)⟩
   exact AllReadyH.nil
  exact AllReadyH.nil
 exact AllReadyH.nil
theorem OwSt.set {w : World} {base g k : Nat} {v1 v2 : Value} {s : StoP} {N : Nat → Prop} (h : OwSt w base v1 v2 s N) (hg : g < base) (hN : N g) (u : Value) : OwSt (w.setCell ⟨g, k, none⟩ u) base v1 v2 s N := ⟨h.b.set hg (.inl hN) u, h.e.set hg (.inl hN) u, h.ne⟩
set_option maxHeartbeats 16000000 in
theorem uH (A : Option Addr) (c : Nat) (B : Option Addr) (d : Nat) (s : StoP) (w : World) (hl : s.blobs.length ≤ 100000) (he : s.ents.length ≤ 100000) (hd : ∀ b ∈ s.blobs, b.data.length ≤ 1000000) (hp : ∀ x ∈ s.ents, x.parts.length ≤ 1000000) (hr : RdSt w A c B d s) :
  Calls Tryz.prog 19 #[.agg #[.slice A s.blobs.length c, .slice B s.ents.length d, .int .i64 (s.room : Int), .int .i64 (s.clock : Int)]] w fun e w' => ∃ g1 g2, e = .returned (.agg #[.slice (some ⟨g1, 0, none⟩) s.blobs.length s.blobs.length, .slice (some ⟨g2, 0, none⟩) s.ents.length s.ents.length, .int .i64 (s.room : Int), .int .i64 (s.clock : Int)]) ∧ OwSt w' w.heap.size (.slice (some ⟨g1, 0, none⟩) s.blobs.length s.blobs.length) (.slice (some ⟨g2, 0, none⟩) s.ents.length s.ents.length) s (fun b => b < w.heap.size) ∧ Below w.heap.size w w' := by
 obtain ⟨w0, hw0, hS, hR, hb0⟩ := zZ w 26 [.slice A s.blobs.length c, .slice B s.ents.length d, .int .i64 (s.room : Int), .int .i64 (s.clock : Int)] [.slice none 0 0, .slice none 0 0, .int .i64 0, .int .i64 0]
 obtain ⟨H, hH⟩ : ∃ H, H = w.heap.size := ⟨_, rfl⟩
 have hA0 := hr.b.below hb0
 have hE0 := hr.e.below hb0
 rw [← hH] at hS hR hb0 ⊢
 have hHl : H < w0.heap.size := hS.lt
 have hHr : H + 1 < w0.heap.size := hR.lt
 have HSB := Lib.hid (show ∀ W, Below w0.heap.size w0 W → W.cell? ⟨H, 1, none⟩ = some (.slice B s.ents.length d) from fun W h => (hS.below h).cell (k := 1) rfl)
 have HC0 := Lib.hid (show ∀ W, Below w0.heap.size w0 W → W.cell? ⟨H, 0, none⟩ = some (.slice A s.blobs.length c) from fun W h => (hS.below h).cell (k := 0) rfl)
 have HCB := Lib.hid (show ∀ W, Below w0.heap.size w0 W → Calls Tryz.prog 75 #[.slice A s.blobs.length c] W fun e w' => ∃ g, e = .returned (.slice (some ⟨g, 0, none⟩) s.blobs.length s.blobs.length) ∧ RwX BlobS 50 w' w0.heap.size (.slice (some ⟨g, 0, none⟩) s.blobs.length s.blobs.length) s.blobs (fun b => b < w0.heap.size) ∧ Below W.heap.size W w' from fun W h =>
  (xU A c s.blobs W hl hd (hA0.below h)).mono fun e w' ⟨g, h1, h2, h3⟩ => ⟨g, h1, (h2.lower h.size).wider (fun b hb => .inl (Nat.lt_of_lt_of_le hb h.size)), h3⟩)
 have HCE := Lib.hid (show ∀ W v1, Below w0.heap.size w0 W → RwX BlobS 50 W w0.heap.size v1 s.blobs (fun b => b < w0.heap.size) → Calls Tryz.prog 76 #[.slice B s.ents.length d] W fun e w' => ∃ g, e = .returned (.slice (some ⟨g, 0, none⟩) s.ents.length s.ents.length) ∧ OwSt w' w0.heap.size v1 (.slice (some ⟨g, 0, none⟩) s.ents.length s.ents.length) s (fun b => b < w0.heap.size) ∧ Below W.heap.size W w' from fun W v1 h hv =>
  (uD B d s.ents W he hp (hE0.below h)).mono fun e w' ⟨g, h1, h2, h3⟩ => by
   have hge : W.heap.size ≤ g := (h2.rwo.blk rfl).1
   refine ⟨g, h1, ⟨(hv.wider (fun b hb => hb.imp id (fun e => by cases e; exact hge))).below h3, (h2.lower h.size).wider (fun b hb => .inl ?_), fun g' e1 e2 => ?_⟩, h3⟩
   ·rcases hb with hb | hb
    ·exact Nat.lt_of_lt_of_le hb h.size
    ·exact (hv.rwo.blk hb).2
   ·have := (hv.rwo.blk e1).2
    have e3 : some g = some g' := e2
    cases e3; omega)
 clear hr hd hp hA0 hE0
 go_enter Tryz.func19, Tryz.ntmps19
 go_wp2_with fail
 rw [← hw0]
 rw [← hH]
 clear hw0 hH
 refine zr 9 (S := (fun w' => w'.cell? ⟨H, 1, none⟩ = some (.slice B s.ents.length d))) (by kernel_rfl) ?_ (fun hHeld => ?_)
 ·exact HSB.out _ (Below.refl _ w0).drew
 have hB := (Below.refl w0.heap.size w0).drew
 generalize w0.drew = wn0 at *
 refine sqTT 0 ?_;try simp only [sqP]
 refine sqTT 3 ?_;try simp only [sqP]
 refine sqTT 4 ?_;try simp only [sqP]
 refine zd (rs := [1]) (by kernel_rfl) (by simp) ?_
 refine z8.cons (o := _) rfl (fun K hK => ?_) ?_
 ·
  have c0 := HC0.out _ hB
  go_simp
  refine vl hK ?_ (Below wn0.heap.size wn0) (fun W => True) ?_ ?_ (fun wn1 hHeld hst hnew => ?_)
  ·(exact HSB.out _ (hB.trans (Below.mono (show Below wn0.heap.size wn0 _ from by (first | exact hb5 | exact Below.refl _ _)) hB.size)))
  ·(first | exact hb5 | exact Below.refl _ _)
  ·(trivial)
  have hB := hB.trans (hst.mono hB.size)
  clear hst
  clear hK K
  try simp only [sqP]
  refine zd (rs := [2]) (by kernel_rfl) (by simp) ?_
  refine z8.cons (o := _) rfl (fun K hK => ?_) ?_
  ·
   go_simp
   refine (HCB.out wn1 hB).mono ?_
   rintro e5 w5 ⟨g1, rfl, hx5, hb5⟩
   dsimp only
   refine vl hK ?_ (Below wn1.heap.size wn1) (fun W => RwX BlobS 50 W w0.heap.size (.slice (some ⟨g1, 0, none⟩) s.blobs.length s.blobs.length) s.blobs (fun b => b < w0.heap.size)) ?_ ?_ (fun wn2 hHeld hst hnew => ?_)
   ·(exact HSB.out _ (hB.trans (Below.mono (show Below wn1.heap.size wn1 _ from by (first | exact hb5 | exact Below.refl _ _)) hB.size)))
   ·(first | exact hb5 | exact Below.refl _ _)
   ·(exact hx5)
   have hB := hB.trans (hst.mono hB.size)
   have hv1 := hnew
   clear hnew
   clear hst
   clear hK K
   try simp only [sqP]
   refine sqTT 6 ?_;try simp only [sqP]
   refine zd (rs := [5]) (by kernel_rfl) (by simp) ?_
   refine z8.cons (o := _) rfl (fun K hK => ?_) ?_
   ·
    go_simp
    refine (HCE.out wn2 _ hB hv1).mono ?_
    rintro e5 w5 ⟨g2, rfl, hx5, hb5⟩
    dsimp only
    refine vl hK ?_ (Below wn2.heap.size wn2) (fun W => OwSt W w0.heap.size (.slice (some ⟨g1, 0, none⟩) s.blobs.length s.blobs.length) (.slice (some ⟨g2, 0, none⟩) s.ents.length s.ents.length) s (fun b => b < w0.heap.size)) ?_ ?_ (fun wn3 hHeld hst hnew => ?_)
    ·(exact HSB.out _ (hB.trans (Below.mono (show Below wn2.heap.size wn2 _ from by (first | exact hb5 | exact Below.refl _ _)) hB.size)))
    ·(first | exact hb5 | exact Below.refl _ _)
    ·(exact hx5)
    have hB := hB.trans (hst.mono hB.size)
    have ho := hnew
    clear hnew hv1
    clear hst
    clear hK K
    try simp only [sqP]
    refine zd (rs := [7]) (by kernel_rfl) (by simp) ?_
    refine z8.cons (o := _) rfl (fun K hK => ?_) ?_
    ·
     have fz := (hS.below hB).frozen 0
     have cz := (hS.below hB).cell (k := 0) rfl
     go_simp
     clear fz cz
     refine vl hK ?_ (fun W => Arr W H 26 [(.slice (some ⟨g1, 0, none⟩) s.blobs.length s.blobs.length), .slice B s.ents.length d, .int .i64 (s.room : Int), .int .i64 (s.clock : Int)] ∧ Arr W (H + 1) 26 [.slice none 0 0, .slice none 0 0, .int .i64 0, .int .i64 0]) (fun W => OwSt W w0.heap.size (.slice (some ⟨g1, 0, none⟩) s.blobs.length s.blobs.length) (.slice (some ⟨g2, 0, none⟩) s.ents.length s.ents.length) s (fun b => b < w0.heap.size) ∧ Below H w W) ?_ ?_ (fun wn4 hHeld hF hG => ?_)
     ·exact ((hS.below hB).set (k := 0) (by simp) (.slice (some ⟨g1, 0, none⟩) s.blobs.length s.blobs.length)).cell (k := 1) rfl
     ·exact ⟨(hS.below hB).set (k := 0) (by simp) (.slice (some ⟨g1, 0, none⟩) s.blobs.length s.blobs.length), (hR.below hB).other (by omega) (.slice (some ⟨g1, 0, none⟩) s.blobs.length s.blobs.length)⟩
     ·exact ⟨ho.set hHl hHl (.slice (some ⟨g1, 0, none⟩) s.blobs.length s.blobs.length), (hb0.trans (hB.mono (Nat.le_of_lt hHl))).setCell (p := ⟨H, 0, none⟩) (Nat.le_refl _) (.slice (some ⟨g1, 0, none⟩) s.blobs.length s.blobs.length)⟩
     clear hB ho
     clear hK K
     try simp only [sqP]
     refine sqTT 8 ?_;try simp only [sqP]
     refine zd (rs := [9]) (by kernel_rfl) (by simp) ?_
     refine z8.last (o := _) rfl (fun K hK => ?_)
     have fz := hF.1.frozen 1
     have cz := hF.1.cell (k := 1) rfl
     go_simp
     clear fz cz
     refine Yq hK ?_
     clear hK K
     try simp only [sqP]
     refine zS (by kernel_rfl) ?_ _
     dsimp only [Exit.then]
     clear hHeld
     obtain ⟨hS7, hR7⟩ := hF
     obtain ⟨ho7, hb7⟩ := hG
     have hS9 : Arr (wn4.setCell ⟨H, 1, none⟩ (.slice (some ⟨g2, 0, none⟩) s.ents.length s.ents.length)) H 26 [(.slice (some ⟨g1, 0, none⟩) s.blobs.length s.blobs.length), (.slice (some ⟨g2, 0, none⟩) s.ents.length s.ents.length), .int .i64 (s.room : Int), .int .i64 (s.clock : Int)] := hS7.set (k := 1) (by simp) (.slice (some ⟨g2, 0, none⟩) s.ents.length s.ents.length)
     have hR9 := hR7.other (g' := H) (k := 1) (by omega) (.slice (some ⟨g2, 0, none⟩) s.ents.length s.ents.length)
     have ho9 := ho7.set (k := 1) hHl hHl (.slice (some ⟨g2, 0, none⟩) s.ents.length s.ents.length)
     have hb9 := hb7.setCell (p := ⟨H, 1, none⟩) (Nat.le_refl _) (.slice (some ⟨g2, 0, none⟩) s.ents.length s.ents.length)
     clear hS7 hR7 ho7 hb7 hS hR
     generalize wn4.setCell ⟨H, 1, none⟩ (.slice (some ⟨g2, 0, none⟩) s.ents.length s.ents.length) = w9 at *
     have z0 := hS9.cell (k := 0) rfl
     have z1 := hS9.cell (k := 1) rfl
     have z2 := hS9.cell (k := 2) rfl
     have z3 := hS9.cell (k := 3) rfl
     have f0 := hR9.frozen 0
     have f1 := hR9.frozen 1
     have f2 := hR9.frozen 2
     have f3 := hR9.frozen 3
     have y0 := hR9.cell (k := 0) rfl
     have y1 := hR9.cell (k := 1) rfl
     have y2 := hR9.cell (k := 2) rfl
     have y3 := hR9.cell (k := 3) rfl
     have hfin := hR9.all4 (.slice (some ⟨g1, 0, none⟩) s.blobs.length s.blobs.length) (.slice (some ⟨g2, 0, none⟩) s.ents.length s.ents.length) (.int .i64 (s.room : Int)) (.int .i64 (s.clock : Int))
     have ho10 := (((ho9.set (g := H + 1) (k := 0) (by omega) (by omega) (.slice (some ⟨g1, 0, none⟩) s.blobs.length s.blobs.length)).set (g := H + 1) (k := 1) (by omega) (by omega) (.slice (some ⟨g2, 0, none⟩) s.ents.length s.ents.length)).set (g := H + 1) (k := 2) (by omega) (by omega) (.int .i64 (s.room : Int))).set (g := H + 1) (k := 3) (by omega) (by omega) (.int .i64 (s.clock : Int))
     have hb10 := (((hb9.setCell (p := ⟨H + 1, 0, none⟩) (by simp only; omega) (.slice (some ⟨g1, 0, none⟩) s.blobs.length s.blobs.length)).setCell (p := ⟨H + 1, 1, none⟩) (by simp only; omega) (.slice (some ⟨g2, 0, none⟩) s.ents.length s.ents.length)).setCell (p := ⟨H + 1, 2, none⟩) (by simp only; omega) (.int .i64 (s.room : Int))).setCell (p := ⟨H + 1, 3, none⟩) (by simp only; omega) (.int .i64 (s.clock : Int))
     clear hR9 ho9 hb9 hS9
     go_wp2_with fail
     clear z0 z1 z2 z3 f0 f1 f2 f3 y0 y1 y2 y3
     refine bodyPost_ret (results_cell_row rfl _ _ (H + 1) _ _ _ _ (by rfl) hfin Tryz.underlying26 rfl (by kernel_rfl)) rfl ?_
     exact ⟨g1, g2, rfl, (ho10.lower (base' := H) (by omega)).wider (N' := fun b => b < H) (fun b hb => .inl (by omega)), hb10⟩
    exact z8.nil
   exact z8.nil
  exact z8.nil
 exact z8.nil
end Go.Proofs.YtngfnjekjfeacaaGreat
namespace Go.Proofs.YtngfnjekjfeacaaGreat
open Go.RowKit
set_option linter.unusedVariables false
set_option linter.unusedSimpArgs false
set_option maxRecDepth 100000
instance : DecidableEq PartP := fun a b =>
 if h : a.name = b.name ∧ a.dig = b.dig ∧ a.size = b.size then isTrue (by obtain ⟨x, y, z⟩ := a; obtain ⟨u, v, t⟩ := b; obtain ⟨h1, h2, h3⟩ := h; simp only at h1 h2 h3; subst h1; subst h2; subst h3; rfl)
 else isFalse (fun e => h (by subst e; exact ⟨rfl, rfl, rfl⟩))
def uh (x y : BlobP) : Bool := x.dig == y.dig && (x.data == y.data && x.pins == y.pins)
def ue (x y : EntP) : Bool := x.key == y.key && (decide (x.parts = y.parts) && (x.pins == y.pins && x.stamp == y.stamp))
def zO : List BlobP → List BlobP → Bool
 | [], [] => true
 | x :: l, y :: m => uh x y && zO l m
 | _, _ => false
def q8 : List EntP → List EntP → Bool
 | [], [] => true
 | x :: l, y :: m => ue x y && q8 l m
 | _, _ => false
theorem xf : ∀ {l m : List BlobP}, l.length ≠ m.length → zO l m = false
 | [], [], h => absurd rfl h
 | [], _ :: _, _ => rfl
 | _ :: _, [], _ => rfl
 | x :: l, y :: m, h => by rw [zO, xf (l := l) (m := m) (by simpa using h), Bool.and_false]
theorem yP : ∀ {l m : List EntP}, l.length ≠ m.length → q8 l m = false
 | [], [], h => absurd rfl h
 | [], _ :: _, _ => rfl
 | _ :: _, [], _ => rfl
 | x :: l, y :: m, h => by rw [q8, yP (l := l) (m := m) (by simpa using h), Bool.and_false]
theorem Zq {x y : BlobP} : uh x y = true ↔ x.dig = y.dig ∧ x.data = y.data ∧ x.pins = y.pins := by
 simp [uh]
theorem ZQ {x y : EntP} : ue x y = true ↔ x.key = y.key ∧ x.parts = y.parts ∧ x.pins = y.pins ∧ x.stamp = y.stamp := by
 simp [ue]
theorem kJ : ∀ {l m : List BlobP}, zO l m = true ↔ l.map (fun b => (b.dig, b.data, b.pins)) = m.map (fun b => (b.dig, b.data, b.pins))
 | [], [] => by simp [zO]
 | [], _ :: _ => by simp [zO]
 | _ :: _, [] => by simp [zO]
 | x :: l, y :: m => by rw [zO, Bool.and_eq_true, Zq, kJ (l := l) (m := m)]; simp
theorem kA : ∀ {l m : List EntP}, q8 l m = true ↔ l.map (fun b => (b.key, b.parts, b.pins, b.stamp)) = m.map (fun b => (b.key, b.parts, b.pins, b.stamp))
 | [], [] => by simp [q8]
 | [], _ :: _ => by simp [q8]
 | _ :: _, [] => by simp [q8]
 | x :: l, y :: m => by rw [q8, Bool.and_eq_true, ZQ, kA (l := l) (m := m)]; simp
set_option maxHeartbeats 3200000 in
theorem ZI (x y : BlobP) (A B : Option Addr) (c d : Nat) (w : World) (hx : x.data.length ≤ 1000000) (hy : y.data.length ≤ 1000000) (h1 : Sl w 1 A x.data.length c (bys x.data)) (h2 : Sl w 1 B y.data.length d (bys y.data)) :
  Calls Tryz.prog 144 #[.agg #[.string ⟨x.dig.toArray⟩, .slice A x.data.length c, .int .i64 (x.pins : Int), .bool x.mark], .agg #[.string ⟨y.dig.toArray⟩, .slice B y.data.length d, .int .i64 (y.pins : Int), .bool y.mark]] w fun e w' => e = .returned (.bool (uh x y)) ∧ Below w.heap.size w w' := by
 obtain ⟨s, hs⟩ : ∃ s : ByteArray, s = ⟨x.dig.toArray⟩ := ⟨_, rfl⟩
 obtain ⟨t, ht⟩ : ∃ s : ByteArray, s = ⟨y.dig.toArray⟩ := ⟨_, rfl⟩
 have hst : (s.toList == t.toList) = (x.dig == y.dig) := by rw [hs, ht, ByteArray.toList_eq, ByteArray.toList_eq]
 obtain ⟨u, hu⟩ : ∃ s : ByteArray, s = ⟨x.data.toArray⟩ := ⟨_, rfl⟩
 obtain ⟨v, hv⟩ : ∃ s : ByteArray, s = ⟨y.data.toArray⟩ := ⟨_, rfl⟩
 have huv : (u.toList == v.toList) = (x.data == y.data) := by rw [hu, hv, ByteArray.toList_eq, ByteArray.toList_eq]
 have hpp : ((x.pins : Int) == (y.pins : Int)) = (x.pins == y.pins) := by rw [Bool.eq_iff_iff, beq_iff_eq, beq_iff_eq]; omega
 rw [← hs, ← ht]
 obtain ⟨W, hW, hA, hB, hb⟩ := zZ w 50 [.string s, .slice A x.data.length c, .int .i64 (x.pins : Int), .bool x.mark] [.string t, .slice B y.data.length d, .int .i64 (y.pins : Int), .bool y.mark]
 have hc1 : (convert 48 9 (.slice A x.data.length c)).run Tryz.prog W = .ok (.string u) W := by
  rw [hu]; exact kC Tryz.underlying48 Tryz.underlying5 Tryz.underlying9 rfl (h1.below hb).rd
 have hc2 : (convert 48 9 (.slice B y.data.length d)).run Tryz.prog W = .ok (.string v) W := by
  rw [hv]; exact kC Tryz.underlying48 Tryz.underlying5 Tryz.underlying9 rfl (h2.below hb).rd
 have a0 := hA.cell (k := 0) rfl
 have b0 := hB.cell (k := 0) rfl
 have a1 := hA.cell (k := 1) rfl
 have b1 := hB.cell (k := 1) rfl
 have a2 := hA.cell (k := 2) rfl
 have b2 := hB.cell (k := 2) rfl
 have hR : uh x y = (x.dig == y.dig && (x.data == y.data && x.pins == y.pins)) := rfl
 rw [hR]
 rw [hW] at a0 b0 a1 b1 a2 b2 hc1 hc2
 clear hs ht hu hv h1 h2 hA hB hR
 generalize (x.dig == y.dig) = e1 at *
 generalize (x.data == y.data) = e2 at *
 generalize (x.pins == y.pins) = e3 at *
 cases e1 with
 | false =>
  go_enter Tryz.func144, Tryz.ntmps144
  go_wp2_with fail
  go_ret
  rw [← hW]
  exact ⟨rfl, hb⟩
 | true =>
  cases e2 with
  | false =>
   go_enter Tryz.func144, Tryz.ntmps144
   go_wp2_with fail
   go_ret
   rw [← hW]
   exact ⟨rfl, hb⟩
  | true =>
   cases e3 with
   | false =>
    go_enter Tryz.func144, Tryz.ntmps144
    go_wp2_with fail
    go_ret
    rw [← hW]
    exact ⟨rfl, hb⟩
   | true =>
    go_enter Tryz.func144, Tryz.ntmps144
    go_wp2_with fail
    go_ret
    rw [← hW]
    exact ⟨rfl, hb⟩
set_option maxHeartbeats 3200000 in
theorem QL (A B : Option Addr) (c d : Nat) (l m : List BlobP) (w : World) (hl : l.length ≤ 1000000) (hm : m.length ≤ 1000000) (hp : ∀ x ∈ l, x.data.length ≤ 1000000) (hq : ∀ x ∈ m, x.data.length ≤ 1000000) (hA : Rw BlobS w A l) (hB : Rw BlobS w B m) :
  Calls Tryz.prog 143 #[.slice A l.length c, .slice B m.length d, .func (.func 144) #[] #[]] w fun e w' => e = .returned (.bool (zO l m)) ∧ Below w.heap.size w w' := by
 have HP := Lib.hid hp
 have HQ := Lib.hid hq
 clear hp hq
 by_cases hln : l.length = m.length
 ·have hnn : ((l.length : Int) != (m.length : Int)) = false := by rw [bne_eq_false_iff_eq]; omega
  generalize hR : zO l m = R
  have HR0 := Lib.hid hR
  have HLN := Lib.hid hln
  clear hR
  go_enter Tryz.func143, Tryz.ntmps143
  go_wp2_with fail
  go_loopg [17] l.length (fun gn i wr => ∃ j : Nat, gn = l.length - j ∧ i = .int .i64 j ∧ j ≤ l.length ∧ zO (l.drop j) (m.drop j) = R ∧ Below w.heap.size w wr)
  case atStart => exact ⟨0, rfl, rfl, by omega, HR0.out, Below.refl _ _⟩
  case round =>
   obtain ⟨j, hgk, rfl, hj, hrs, hbl⟩ := hrel
   have HGK := Lib.hid hgk
   have HRS := Lib.hid hrs
   clear hgk hrs hnn
   by_cases hlt : j < l.length
   ·have hcc : decide (j < l.length) = true := decide_eq_true hlt
    have hlt2 : j < m.length := by have := HLN.out; omega
    obtain ⟨b, off, B1, c1, rfl, hbb, p0, p1, p2, p3, hs⟩ := (hA.below hbl).blob_at j hlt
    obtain ⟨b', off', B2, c2, rfl, hbb', q0, q1, q2, q3, hs'⟩ := (hB.below hbl).blob_at j hlt2
    have hj0 : (0 : Int) ≤ (j : Int) := by omega
    have hj1 : (j : Int) < (l.length : Int) := by omega
    have hj2 : (j : Int) < (m.length : Int) := by omega
    have hpl := HP.out l[j] (List.getElem_mem hlt)
    have hpm := HQ.out m[j] (List.getElem_mem hlt2)
    have HST := Lib.hid (show (uh l[j] m[j] && zO (l.drop (j + 1)) (m.drop (j + 1))) = R by rw [← HRS.out, List.drop_eq_getElem_cons hlt, List.drop_eq_getElem_cons hlt2]; rfl)
    generalize l[j] = x at *
    generalize m[j] = y at *
    obtain ⟨W, hW, hX, hY, hb⟩ := zZ wr 50 (zo x B1 c1) (zo y B2 c2)
    have HSM := Lib.hid (ZI x y B1 B2 c1 c2 W hpl hpm (hs.below hb) (hs'.below hb))
    have hba := (Below.refl wr.heap.size wr).alloc (Nat.le_refl _) (.cells (zo x B1 c1).toArray 50)
    have q0' := (hba.cell (p := ⟨b', off' + j * 4, none⟩) hbb').trans q0
    have q1' := (hba.cell (p := ⟨b', off' + j * 4 + 1, none⟩) hbb').trans q1
    have q2' := (hba.cell (p := ⟨b', off' + j * 4 + 2, none⟩) hbb').trans q2
    have q3' := (hba.cell (p := ⟨b', off' + j * 4 + 3, none⟩) hbb').trans q3
    have x0 := hX.cell (k := 0) rfl
    have x1 := hX.cell (k := 1) rfl
    have x2 := hX.cell (k := 2) rfl
    have x3 := hX.cell (k := 3) rfl
    have y0 := hY.cell (k := 0) rfl
    have y1 := hY.cell (k := 1) rfl
    have y2 := hY.cell (k := 2) rfl
    have y3 := hY.cell (k := 3) rfl
    unfold zo at hW q0' q1' q2' q3'
    dsimp only [List.toArray] at hW q0' q1' q2' q3'
    rw [hW] at x0 x1 x2 x3 y0 y1 y2 y3
    clear hs hs' q0 q1 q2 q3 hba
    go_wp2_with fail
    rw [← hW] at x0 x1 x2 x3 y0 y1 y2 y3 ⊢
    clear hW x0 x1 x2 x3 y0 y1 y2 y3 p0 p1 p2 p3 q0' q1' q2' q3' hX hY
    cases hsm : uh x y with
    | true =>
     rw [hsm] at HSM
     have HN := Lib.hid (show zO (l.drop (j + 1)) (m.drop (j + 1)) = R by rw [← HST.out, hsm]; rfl)
     clear hsm
     refine ((HSM.out)).mono ?_; rintro e_ w5 ⟨rfl, hb5⟩; dsimp only
     have hb1 := hbl.trans (hb.mono hbl.size)
     have hb2 := hb1.trans (hb5.mono hb1.size)
     go_wp2_with fail
     go_roundg (l.length - (j + 1))
     case measure => have := HGK.out; omega
     case rel => exact ⟨j + 1, rfl, by go_num, by omega, HN.out, hb2⟩
    | false =>
     rw [hsm] at HSM
     have HN := Lib.hid (show R = false by rw [← HST.out, hsm]; rfl)
     clear hsm
     refine ((HSM.out)).mono ?_; rintro e_ w5 ⟨rfl, hb5⟩; dsimp only
     have hb1 := hbl.trans (hb.mono hbl.size)
     have hb2 := hb1.trans (hb5.mono hb1.size)
     go_wp2_with fail
     go_ret
     rw [HN.out]
     exact ⟨rfl, hb2⟩
   ·obtain rfl : j = l.length := by omega
    have hcc : decide (l.length < l.length) = false := by simp
    have HE := Lib.hid (show R = true by
     rw [← HRS.out, List.drop_length, List.drop_eq_nil_of_le (by have := HLN.out; omega)]; rfl)
    go_wp2_with fail
    go_ret
    rw [HE.out]
    exact ⟨rfl, hbl⟩
 ·have hnn : ((l.length : Int) != (m.length : Int)) = true := by rw [bne_iff_ne]; omega
  have HE := Lib.hid (show zO l m = false from xf hln)
  rw [HE.out]
  go_enter Tryz.func143, Tryz.ntmps143
  go_wp2_with fail
  go_ret
  exact ⟨rfl, Below.refl _ _⟩
theorem vQ (A B : Option Addr) (c d : Nat) (l m : List BlobP) (w : World) (hl : l.length ≤ 1000000) (hm : m.length ≤ 1000000) (hp : ∀ x ∈ l, x.data.length ≤ 1000000) (hq : ∀ x ∈ m, x.data.length ≤ 1000000) (hA : Rw BlobS w A l) (hB : Rw BlobS w B m) :
  Calls Tryz.prog 87 #[.slice A l.length c, .slice B m.length d] w fun e w' => e = .returned (.bool (zO l m)) ∧ Below w.heap.size w w' := by
 have HE := Lib.hid (QL A B c d l m w hl hm hp hq hA hB)
 clear hp hq hA hB
 generalize zO l m = R at *
 go_enter Tryz.func87, Tryz.ntmps87
 go_wp2_with fail
 refine ((HE.out)).mono ?_; rintro e_ w1 ⟨rfl, hb1⟩; dsimp only
 go_wp2_with fail
 go_ret
 exact ⟨rfl, hb1⟩
theorem jw (A B : Option Addr) (n m c d : Nat) (x y : List PartP) (w : World) (hl : x.length = n) (hl' : y.length = m) (hn : n ≤ 140737488351232) (hm : m ≤ 140737488351232) (hr : Rd w 3 A n (pcs x)) (hs : Rd w 3 B m (pcs y)) :
  Calls Tryz.prog 43 #[.slice A n c, .slice B m d] w fun e w' => e = .returned (.bool (decide (x = y))) ∧ Below w.heap.size w w' := by
 by_cases h : x = y
 ·subst h
  rw [decide_eq_true rfl]
  obtain rfl : n = m := by omega
  exact ul A B n c d x w hl hn hr hs
 ·rw [decide_eq_false h]
  exact vU A B n m c d x y w hl hl' hn hm hr hs h
set_option maxHeartbeats 3200000 in
theorem jd (x y : EntP) (A B : Option Addr) (c d : Nat) (w : World) (hx : x.parts.length ≤ 1000000) (hy : y.parts.length ≤ 1000000) (h1 : Sl w 3 A x.parts.length c (pcs x.parts)) (h2 : Sl w 3 B y.parts.length d (pcs y.parts)) :
  Calls Tryz.prog 89 #[.agg #[.string ⟨x.key.toArray⟩, .slice A x.parts.length c, .int .i64 (x.pins : Int), .int .i64 (x.stamp : Int)], .agg #[.string ⟨y.key.toArray⟩, .slice B y.parts.length d, .int .i64 (y.pins : Int), .int .i64 (y.stamp : Int)]] w fun e w' => e = .returned (.bool (ue x y)) ∧ Below w.heap.size w w' := by
 obtain ⟨s, hs⟩ : ∃ s : ByteArray, s = ⟨x.key.toArray⟩ := ⟨_, rfl⟩
 obtain ⟨t, ht⟩ : ∃ s : ByteArray, s = ⟨y.key.toArray⟩ := ⟨_, rfl⟩
 have hst : (s.toList == t.toList) = (x.key == y.key) := by rw [hs, ht, ByteArray.toList_eq, ByteArray.toList_eq]
 have hpp : ((x.pins : Int) == (y.pins : Int)) = (x.pins == y.pins) := by rw [Bool.eq_iff_iff, beq_iff_eq, beq_iff_eq]; omega
 have hqq : ((x.stamp : Int) == (y.stamp : Int)) = (x.stamp == y.stamp) := by rw [Bool.eq_iff_iff, beq_iff_eq, beq_iff_eq]; omega
 rw [← hs, ← ht]
 obtain ⟨W, hW, hA, hB, hb⟩ := zZ w 36 [.string s, .slice A x.parts.length c, .int .i64 (x.pins : Int), .int .i64 (x.stamp : Int)] [.string t, .slice B y.parts.length d, .int .i64 (y.pins : Int), .int .i64 (y.stamp : Int)]
 have HEQ := Lib.hid (jw A B x.parts.length y.parts.length c d x.parts y.parts W rfl rfl (by omega) (by omega) (h1.below hb).rd (h2.below hb).rd)
 have a0 := hA.cell (k := 0) rfl
 have b0 := hB.cell (k := 0) rfl
 have a1 := hA.cell (k := 1) rfl
 have b1 := hB.cell (k := 1) rfl
 have hR : ue x y = (x.key == y.key && (decide (x.parts = y.parts) && (x.pins == y.pins && x.stamp == y.stamp))) := rfl
 rw [hR]
 rw [hW] at a0 b0 a1 b1
 clear hs ht h1 h2 hR
 generalize (x.key == y.key) = e1 at *
 generalize (decide (x.parts = y.parts)) = e2 at *
 generalize (x.pins == y.pins) = e3 at *
 generalize (x.stamp == y.stamp) = e4 at *
 cases e1 with
 | false =>
  go_enter Tryz.func89, Tryz.ntmps89
  go_wp2_with fail
  go_ret
  rw [← hW]
  exact ⟨rfl, hb⟩
 | true =>
  cases e2 with
  | false =>
   go_enter Tryz.func89, Tryz.ntmps89
   go_wp2_with fail
   rw [← hW]
   clear hW a0 b0 a1 b1
   refine ((HEQ.out)).mono ?_; rintro e_ w1 ⟨rfl, hb1⟩; dsimp only
   have hb2 := hb.trans (hb1.mono hb.size)
   go_wp2_with fail
   go_ret
   exact ⟨rfl, hb2⟩
  | true =>
   cases e3 with
   | false =>
    go_enter Tryz.func89, Tryz.ntmps89
    go_wp2_with fail
    rw [← hW]
    clear hW a0 b0 a1 b1
    refine ((HEQ.out)).mono ?_; rintro e_ w1 ⟨rfl, hb1⟩; dsimp only
    have hb2 := hb.trans (hb1.mono hb.size)
    have a2 := (hA.below hb1).cell (k := 2) rfl
    have b2 := (hB.below hb1).cell (k := 2) rfl
    go_wp2_with fail
    go_ret
    exact ⟨rfl, hb2⟩
   | true =>
    cases e4 with
    | false =>
     go_enter Tryz.func89, Tryz.ntmps89
     go_wp2_with fail
     rw [← hW]
     clear hW a0 b0 a1 b1
     refine ((HEQ.out)).mono ?_; rintro e_ w1 ⟨rfl, hb1⟩; dsimp only
     have hb2 := hb.trans (hb1.mono hb.size)
     have a2 := (hA.below hb1).cell (k := 2) rfl
     have b2 := (hB.below hb1).cell (k := 2) rfl
     have a3 := (hA.below hb1).cell (k := 3) rfl
     have b3 := (hB.below hb1).cell (k := 3) rfl
     go_wp2_with fail
     go_ret
     exact ⟨rfl, hb2⟩
    | true =>
     go_enter Tryz.func89, Tryz.ntmps89
     go_wp2_with fail
     rw [← hW]
     clear hW a0 b0 a1 b1
     refine ((HEQ.out)).mono ?_; rintro e_ w1 ⟨rfl, hb1⟩; dsimp only
     have hb2 := hb.trans (hb1.mono hb.size)
     have a2 := (hA.below hb1).cell (k := 2) rfl
     have b2 := (hB.below hb1).cell (k := 2) rfl
     have a3 := (hA.below hb1).cell (k := 3) rfl
     have b3 := (hB.below hb1).cell (k := 3) rfl
     go_wp2_with fail
     go_ret
     exact ⟨rfl, hb2⟩
set_option maxHeartbeats 3200000 in
theorem QG (A B : Option Addr) (c d : Nat) (l m : List EntP) (w : World) (hl : l.length ≤ 1000000) (hm : m.length ≤ 1000000) (hp : ∀ x ∈ l, x.parts.length ≤ 1000000) (hq : ∀ x ∈ m, x.parts.length ≤ 1000000) (hA : Rw EntS w A l) (hB : Rw EntS w B m) :
  Calls Tryz.prog 88 #[.slice A l.length c, .slice B m.length d, .func (.func 89) #[] #[]] w fun e w' => e = .returned (.bool (q8 l m)) ∧ Below w.heap.size w w' := by
 have HP := Lib.hid hp
 have HQ := Lib.hid hq
 clear hp hq
 by_cases hln : l.length = m.length
 ·have hnn : ((l.length : Int) != (m.length : Int)) = false := by rw [bne_eq_false_iff_eq]; omega
  generalize hR : q8 l m = R
  have HR0 := Lib.hid hR
  have HLN := Lib.hid hln
  clear hR
  go_enter Tryz.func88, Tryz.ntmps88
  go_wp2_with fail
  go_loopg [17] l.length (fun gn i wr => ∃ j : Nat, gn = l.length - j ∧ i = .int .i64 j ∧ j ≤ l.length ∧ q8 (l.drop j) (m.drop j) = R ∧ Below w.heap.size w wr)
  case atStart => exact ⟨0, rfl, rfl, by omega, HR0.out, Below.refl _ _⟩
  case round =>
   obtain ⟨j, hgk, rfl, hj, hrs, hbl⟩ := hrel
   have HGK := Lib.hid hgk
   have HRS := Lib.hid hrs
   clear hgk hrs hnn
   by_cases hlt : j < l.length
   ·have hcc : decide (j < l.length) = true := decide_eq_true hlt
    have hlt2 : j < m.length := by have := HLN.out; omega
    obtain ⟨b, off, B1, c1, rfl, hbb, p0, p1, p2, p3, hs⟩ := (hA.below hbl).ent_at j hlt
    obtain ⟨b', off', B2, c2, rfl, hbb', q0, q1, q2, q3, hs'⟩ := (hB.below hbl).ent_at j hlt2
    have hj0 : (0 : Int) ≤ (j : Int) := by omega
    have hj1 : (j : Int) < (l.length : Int) := by omega
    have hj2 : (j : Int) < (m.length : Int) := by omega
    have hpl := HP.out l[j] (List.getElem_mem hlt)
    have hpm := HQ.out m[j] (List.getElem_mem hlt2)
    have HST := Lib.hid (show (ue l[j] m[j] && q8 (l.drop (j + 1)) (m.drop (j + 1))) = R by rw [← HRS.out, List.drop_eq_getElem_cons hlt, List.drop_eq_getElem_cons hlt2]; rfl)
    generalize l[j] = x at *
    generalize m[j] = y at *
    obtain ⟨W, hW, hX, hY, hb⟩ := zZ wr 36 (zD x B1 c1) (zD y B2 c2)
    have HSM := Lib.hid (jd x y B1 B2 c1 c2 W hpl hpm (hs.below hb) (hs'.below hb))
    have hba := (Below.refl wr.heap.size wr).alloc (Nat.le_refl _) (.cells (zD x B1 c1).toArray 36)
    have q0' := (hba.cell (p := ⟨b', off' + j * 4, none⟩) hbb').trans q0
    have q1' := (hba.cell (p := ⟨b', off' + j * 4 + 1, none⟩) hbb').trans q1
    have q2' := (hba.cell (p := ⟨b', off' + j * 4 + 2, none⟩) hbb').trans q2
    have q3' := (hba.cell (p := ⟨b', off' + j * 4 + 3, none⟩) hbb').trans q3
    have x0 := hX.cell (k := 0) rfl
    have x1 := hX.cell (k := 1) rfl
    have x2 := hX.cell (k := 2) rfl
    have x3 := hX.cell (k := 3) rfl
    have y0 := hY.cell (k := 0) rfl
    have y1 := hY.cell (k := 1) rfl
    have y2 := hY.cell (k := 2) rfl
    have y3 := hY.cell (k := 3) rfl
    unfold zD at hW q0' q1' q2' q3'
    dsimp only [List.toArray] at hW q0' q1' q2' q3'
    rw [hW] at x0 x1 x2 x3 y0 y1 y2 y3
    clear hs hs' q0 q1 q2 q3 hba
    go_wp2_with fail
    rw [← hW] at x0 x1 x2 x3 y0 y1 y2 y3 ⊢
    clear hW x0 x1 x2 x3 y0 y1 y2 y3 p0 p1 p2 p3 q0' q1' q2' q3' hX hY
    cases hsm : ue x y with
    | true =>
     rw [hsm] at HSM
     have HN := Lib.hid (show q8 (l.drop (j + 1)) (m.drop (j + 1)) = R by rw [← HST.out, hsm]; rfl)
     clear hsm
     refine ((HSM.out)).mono ?_; rintro e_ w5 ⟨rfl, hb5⟩; dsimp only
     have hb1 := hbl.trans (hb.mono hbl.size)
     have hb2 := hb1.trans (hb5.mono hb1.size)
     go_wp2_with fail
     go_roundg (l.length - (j + 1))
     case measure => have := HGK.out; omega
     case rel => exact ⟨j + 1, rfl, by go_num, by omega, HN.out, hb2⟩
    | false =>
     rw [hsm] at HSM
     have HN := Lib.hid (show R = false by rw [← HST.out, hsm]; rfl)
     clear hsm
     refine ((HSM.out)).mono ?_; rintro e_ w5 ⟨rfl, hb5⟩; dsimp only
     have hb1 := hbl.trans (hb.mono hbl.size)
     have hb2 := hb1.trans (hb5.mono hb1.size)
     go_wp2_with fail
     go_ret
     rw [HN.out]
     exact ⟨rfl, hb2⟩
   ·obtain rfl : j = l.length := by omega
    have hcc : decide (l.length < l.length) = false := by simp
    have HE := Lib.hid (show R = true by
     rw [← HRS.out, List.drop_length, List.drop_eq_nil_of_le (by have := HLN.out; omega)]; rfl)
    go_wp2_with fail
    go_ret
    rw [HE.out]
    exact ⟨rfl, hbl⟩
 ·have hnn : ((l.length : Int) != (m.length : Int)) = true := by rw [bne_iff_ne]; omega
  have HE := Lib.hid (show q8 l m = false from yP hln)
  rw [HE.out]
  go_enter Tryz.func88, Tryz.ntmps88
  go_wp2_with fail
  go_ret
  exact ⟨rfl, Below.refl _ _⟩
set_option maxHeartbeats 3200000 in
theorem kS (A A' B B' : Option Addr) (c c' d d' : Nat) (l m : List BlobP) (x y : List EntP) (r k : Int) (w : World) (hl : l.length ≤ 1000000) (hm : m.length ≤ 1000000) (hp : ∀ b ∈ l, b.data.length ≤ 1000000) (hq : ∀ b ∈ m, b.data.length ≤ 1000000)
  (kl : x.length ≤ 1000000) (km : y.length ≤ 1000000) (kp : ∀ b ∈ x, b.parts.length ≤ 1000000) (kq : ∀ b ∈ y, b.parts.length ≤ 1000000) (hA : Rw BlobS w A l) (hA' : Rw BlobS w A' m) (hB : Rw EntS w B x) (hB' : Rw EntS w B' y) :
  Calls Tryz.prog 32 #[.agg #[.slice A l.length c, .slice B x.length d, .int .i64 r, .int .i64 k], .agg #[.slice A' m.length c', .slice B' y.length d', .int .i64 r, .int .i64 k]] w fun e w' => e = .returned (.bool (zO l m && q8 x y)) ∧ Below w.heap.size w w' := by
 obtain ⟨W, hW, hX, hY, hb⟩ := zZ w 26 [.slice A l.length c, .slice B x.length d, .int .i64 r, .int .i64 k] [.slice A' m.length c', .slice B' y.length d', .int .i64 r, .int .i64 k]
 have HS := Lib.hid (vQ A A' c c' l m W hl hm hp hq (hA.below hb) (hA'.below hb))
 have HE := Lib.hid (fun w' (h : Below W.heap.size W w') => QG B B' d d' x y w' kl km kp kq ((hB.below hb).below h) ((hB'.below hb).below h))
 have hrr : (r == r) = true := by simp
 have hkk : (k == k) = true := by simp
 have a0 := hX.cell (k := 0) rfl
 have b0 := hY.cell (k := 0) rfl
 rw [hW] at a0 b0
 clear hA hA' hB hB' hp hq kp kq
 generalize zO l m = e1 at *
 generalize q8 x y = e2 at *
 cases e1 with
 | false =>
  go_enter Tryz.func32, Tryz.ntmps32
  go_wp2_with fail
  rw [← hW]
  clear hW a0 b0
  refine ((HS.out)).mono ?_; rintro e_ w1 ⟨rfl, hb1⟩; dsimp only
  have hb2 := hb.trans (hb1.mono hb.size)
  go_wp2_with fail
  go_ret
  exact ⟨rfl, hb2⟩
 | true =>
  go_enter Tryz.func32, Tryz.ntmps32
  go_wp2_with fail
  rw [← hW]
  clear hW a0 b0
  refine ((HS.out)).mono ?_; rintro e_ w1 ⟨rfl, hb1⟩; dsimp only
  have hX1 := hX.below hb1
  have hY1 := hY.below hb1
  have HE1 := Lib.hid (HE.out w1 hb1)
  have a1 := hX1.cell (k := 1) rfl
  have a2 := hX1.cell (k := 2) rfl
  have a3 := hX1.cell (k := 3) rfl
  have b1 := hY1.cell (k := 1) rfl
  have b2 := hY1.cell (k := 2) rfl
  have b3 := hY1.cell (k := 3) rfl
  have hb2 := hb.trans (hb1.mono hb.size)
  go_wp2_with fail
  refine ((HE1.out)).mono ?_; rintro e_ w2 ⟨rfl, hb3⟩; dsimp only
  have hb4 := hb2.trans (hb3.mono hb2.size)
  go_wp2_with fail
  go_ret
  exact ⟨rfl, hb4⟩
end Go.Proofs.YtngfnjekjfeacaaGreat
