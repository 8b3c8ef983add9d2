/- Lemmas of a proof, made shorter by a program. Conditions: none, or as each states. -/
import Derived.Test.YtngfnjekjfeacaaGreatQI29
namespace Go.Proofs.YtngfnjekjfeacaaGreat
open Go.RowKit Go.Maps
set_option linter.unusedVariables false
set_option linter.unusedSimpArgs false
set_option maxRecDepth 100000
theorem xP (w : World) (e1 e2 : TypeId) (c1 c2 c3 c4 : List Value) : ∃ W, W = (((w.alloc (.cells c1.toArray e1)).alloc (.cells c2.toArray e2)).alloc (.cells c3.toArray e1)).alloc (.cells c4.toArray e2) ∧ Arr W w.heap.size e1 c1 ∧ Arr W (w.heap.size + 1) e2 c2 ∧ Arr W (w.heap.size + 1 + 1) e1 c3 ∧ Arr W (w.heap.size + 1 + 1 + 1) e2 c4 ∧ Below w.heap.size w W := by
 have b1 := (Below.refl w.heap.size w).alloc (Nat.le_refl _) (.cells c1.toArray e1)
 have b2 := b1.alloc b1.size (.cells c2.toArray e2)
 have b3 := b2.alloc b2.size (.cells c3.toArray e1)
 have b4 := b3.alloc b3.size (.cells c4.toArray e2)
 have a1 := ((((Arr.new w e1 c1)).alloc (.cells c2.toArray e2)).alloc (.cells c3.toArray e1)).alloc (.cells c4.toArray e2)
 have a2 := ((Arr.new (w.alloc (.cells c1.toArray e1)) e2 c2).alloc (.cells c3.toArray e1)).alloc (.cells c4.toArray e2)
 have a3 := (Arr.new ((w.alloc (.cells c1.toArray e1)).alloc (.cells c2.toArray e2)) e1 c3).alloc (.cells c4.toArray e2)
 have a4 := Arr.new (((w.alloc (.cells c1.toArray e1)).alloc (.cells c2.toArray e2)).alloc (.cells c3.toArray e1)) e2 c4
 simp only [World.size_alloc] at a2 a3 a4
 exact ⟨_, rfl, a1, a2, a3, a4, b4⟩
theorem yi {P : Program} {fn : Func} {p q : Tmp} {ty ty2 : TypeId} (h : fn.results = #[.cell p ty, .cell q ty2]) (tmps : Array Value) (w : World) (g g2 : Nat) (t t2 : TypeId) (cs cs2 : Array Value) (fr fr2 : Nat × Nat) (d d2 : TypeDesc)
  (hp : tmps.getD p undef = .pointer (some ⟨g, 0, none⟩)) (hg : w.heap[g]? = some (.cells cs t fr))
  (hu : P.underlying ty = some d) (hd : (match d with | .struct _ | .array _ _ => true | _ => false) = true) (hi : (P.info? ty).map (·.size) = some cs.size)
  (hp2 : tmps.getD q undef = .pointer (some ⟨g2, 0, none⟩)) (hg2 : w.heap[g2]? = some (.cells cs2 t2 fr2))
  (hu2 : P.underlying ty2 = some d2) (hd2 : (match d2 with | .struct _ | .array _ _ => true | _ => false) = true) (hi2 : (P.info? ty2).map (·.size) = some cs2.size) :
  (results fn tmps).run P w = .ok (.tuple #[.agg cs, .agg cs2]) w := by
 have hp' : tmps[p]?.getD undef = .pointer (some ⟨g, 0, none⟩) := by simpa using hp
 have hp2' : tmps[q]?.getD undef = .pointer (some ⟨g2, 0, none⟩) := by simpa using hp2
 simp [results, h, hp', hp2', asAddr, run_loadVar_row w g t ty cs fr d hg hu hd hi, run_loadVar_row w g2 t2 ty2 cs2 fr2 d2 hg2 hu2 hd2 hi2]
theorem yN {P : Program} {fn : Func} {p q u : Tmp} {ty ty2 : TypeId} (h : fn.results = #[.cell p ty, .cell q ty2, .tmp u]) (tmps : Array Value) (w : World) (g g2 : Nat) (t t2 : TypeId) (cs cs2 : Array Value) (fr fr2 : Nat × Nat) (d d2 : TypeDesc)
  (hp : tmps.getD p undef = .pointer (some ⟨g, 0, none⟩)) (hg : w.heap[g]? = some (.cells cs t fr))
  (hu : P.underlying ty = some d) (hd : (match d with | .struct _ | .array _ _ => true | _ => false) = true) (hi : (P.info? ty).map (·.size) = some cs.size)
  (hp2 : tmps.getD q undef = .pointer (some ⟨g2, 0, none⟩)) (hg2 : w.heap[g2]? = some (.cells cs2 t2 fr2))
  (hu2 : P.underlying ty2 = some d2) (hd2 : (match d2 with | .struct _ | .array _ _ => true | _ => false) = true) (hi2 : (P.info? ty2).map (·.size) = some cs2.size) :
  (results fn tmps).run P w = .ok (.tuple #[.agg cs, .agg cs2, tmps.getD u undef]) w := by
 have hp' : tmps[p]?.getD undef = .pointer (some ⟨g, 0, none⟩) := by simpa using hp
 have hp2' : tmps[q]?.getD undef = .pointer (some ⟨g2, 0, none⟩) := by simpa using hp2
 simp [results, h, hp', hp2', asAddr, run_loadVar_row w g t ty cs fr d hg hu hd hi, run_loadVar_row w g2 t2 ty2 cs2 fr2 d2 hg2 hu2 hd2 hi2]
theorem yM {P : Program} {fn : Func} {p q u z : Tmp} {ty ty2 : TypeId} (h : fn.results = #[.cell p ty, .cell q ty2, .tmp u, .tmp z]) (tmps : Array Value) (w : World) (g g2 : Nat) (t t2 : TypeId) (cs cs2 : Array Value) (fr fr2 : Nat × Nat) (d d2 : TypeDesc)
  (hp : tmps.getD p undef = .pointer (some ⟨g, 0, none⟩)) (hg : w.heap[g]? = some (.cells cs t fr))
  (hu : P.underlying ty = some d) (hd : (match d with | .struct _ | .array _ _ => true | _ => false) = true) (hi : (P.info? ty).map (·.size) = some cs.size)
  (hp2 : tmps.getD q undef = .pointer (some ⟨g2, 0, none⟩)) (hg2 : w.heap[g2]? = some (.cells cs2 t2 fr2))
  (hu2 : P.underlying ty2 = some d2) (hd2 : (match d2 with | .struct _ | .array _ _ => true | _ => false) = true) (hi2 : (P.info? ty2).map (·.size) = some cs2.size) :
  (results fn tmps).run P w = .ok (.tuple #[.agg cs, .agg cs2, tmps.getD u undef, tmps.getD z undef]) w := by
 have hp' : tmps[p]?.getD undef = .pointer (some ⟨g, 0, none⟩) := by simpa using hp
 have hp2' : tmps[q]?.getD undef = .pointer (some ⟨g2, 0, none⟩) := by simpa using hp2
 simp [results, h, hp', hp2', asAddr, run_loadVar_row w g t ty cs fr d hg hu hd hi, run_loadVar_row w g2 t2 ty2 cs2 fr2 d2 hg2 hu2 hd2 hi2]
abbrev YA (w : World) (g h : Nat) (u0 u1 u2 u3 x0 x1 x2 : Value) : World :=
 ((((((w.setCell ⟨g, 0, none⟩ u0).setCell ⟨g, 1, none⟩ u1).setCell ⟨g, 2, none⟩ u2).setCell ⟨g, 3, none⟩ u3).setCell ⟨h, 0, none⟩ x0).setCell ⟨h, 1, none⟩ x1).setCell ⟨h, 2, none⟩ x2
section
variable {w w' : World} {g h B : Nat} {e e' : TypeId} {u0 u1 u2 u3 x0 x1 x2 a0 a1 a2 a3 b0 b1 b2 : Value}
theorem Arr.all3 (hA : Arr w h e' [b0, b1, b2]) (x0 x1 x2 : Value) : Arr (((w.setCell ⟨h, 0, none⟩ x0).setCell ⟨h, 1, none⟩ x1).setCell ⟨h, 2, none⟩ x2) h e' [x0, x1, x2] :=
 ((hA.set (k := 0) (by simp) x0).set (k := 1) (by simp) x1).set (k := 2) (by simp) x2
theorem vr (hA : Arr w g e [a0, a1, a2, a3]) (hne : g ≠ h) : Arr (YA w g h u0 u1 u2 u3 x0 x1 x2) g e [u0, u1, u2, u3] :=
 (((hA.all4 u0 u1 u2 u3).other hne x0).other hne x1).other hne x2
theorem vj (hA : Arr w h e' [b0, b1, b2]) (hne : g ≠ h) : Arr (YA w g h u0 u1 u2 u3 x0 x1 x2) h e' [x0, x1, x2] :=
 ((((hA.other hne.symm u0).other hne.symm u1).other hne.symm u2).other hne.symm u3).all3 x0 x1 x2
theorem yp {base : Nat} {v1 v2 : Value} {s : StoP} {N : Nat → Prop} (ho : OwSt w base v1 v2 s N) (hg : N g) (hh : N h) (h1 : v1.ownBlock ≠ some g) (h2 : v2.ownBlock ≠ some g) (h3 : v1.ownBlock ≠ some h) (h4 : v2.ownBlock ≠ some h) : OwSt (YA w g h u0 u1 u2 u3 x0 x1 x2) base v1 v2 s N :=
 ((((((ho.setX hg h1 h2 u0).setX hg h1 h2 u1).setX hg h1 h2 u2).setX hg h1 h2 u3).setX hh h3 h4 x0).setX hh h3 h4 x1).setX hh h3 h4 x2
theorem kf {base n size : Nat} {t : TypeId} {v : Value} {xs : List Value} (ho : w.ownsRow base t size v n xs) (h1 : v.ownBlock ≠ some g) (h2 : v.ownBlock ≠ some h) : (YA w g h u0 u1 u2 u3 x0 x1 x2).ownsRow base t size v n xs :=
 zf (zf (zf (zf (zf (zf (zf ho h1) h1) h1) h1) h2) h2) h2
theorem qp {w0 : World} (hb : Below B w0 w) (hg : B ≤ g) (hh : B ≤ h) : Below B w0 (YA w g h u0 u1 u2 u3 x0 x1 x2) :=
 Below.setCell (Below.setCell (Below.setCell (Below.setCell (Below.setCell (Below.setCell (Below.setCell hb hg u0) hg u1) hg u2) hg u3) hh x0) hh x1) hh x2
end
abbrev QH (w : World) (g : Nat) (u0 u1 u2 u3 : Value) : World := (((w.setCell ⟨g, 0, none⟩ u0).setCell ⟨g, 1, none⟩ u1).setCell ⟨g, 2, none⟩ u2).setCell ⟨g, 3, none⟩ u3
abbrev X3 (w : World) (g : Nat) (u0 u1 u2 : Value) : World := ((w.setCell ⟨g, 0, none⟩ u0).setCell ⟨g, 1, none⟩ u1).setCell ⟨g, 2, none⟩ u2
section
variable {w w' : World} {g h B : Nat} {e : TypeId} {xs : List Value}
theorem Arr.other4 (hA : Arr w h e xs) (hne : h ≠ g) (u0 u1 u2 u3 : Value) : Arr (QH w g u0 u1 u2 u3) h e xs := (((hA.other hne u0).other hne u1).other hne u2).other hne u3
theorem OwSt.set4N {base : Nat} {v1 v2 : Value} {s : StoP} {N : Nat → Prop} (ho : OwSt w base v1 v2 s N) (hg : N g) (h1 : v1.ownBlock ≠ some g) (h2 : v2.ownBlock ≠ some g) (u0 u1 u2 u3 : Value) : OwSt (QH w g u0 u1 u2 u3) base v1 v2 s N :=
 (((ho.setX hg h1 h2 u0).setX hg h1 h2 u1).setX hg h1 h2 u2).setX hg h1 h2 u3
theorem OwSt.set3N {base : Nat} {v1 v2 : Value} {s : StoP} {N : Nat → Prop} (ho : OwSt w base v1 v2 s N) (hg : N g) (h1 : v1.ownBlock ≠ some g) (h2 : v2.ownBlock ≠ some g) (u0 u1 u2 : Value) : OwSt (X3 w g u0 u1 u2) base v1 v2 s N :=
 ((ho.setX hg h1 h2 u0).setX hg h1 h2 u1).setX hg h1 h2 u2
theorem qT {base n size : Nat} {t : TypeId} {v : Value} {ys : List Value} (ho : w.ownsRow base t size v n ys) (h1 : v.ownBlock ≠ some g) (u0 u1 u2 u3 : Value) : (QH w g u0 u1 u2 u3).ownsRow base t size v n ys := zf (zf (zf (zf ho h1) h1) h1) h1
theorem qx {base n size : Nat} {t : TypeId} {v : Value} {ys : List Value} (ho : w.ownsRow base t size v n ys) (h1 : v.ownBlock ≠ some g) (u0 u1 u2 : Value) : (X3 w g u0 u1 u2).ownsRow base t size v n ys := zf (zf (zf ho h1) h1) h1
theorem OwSt.drewX {base : Nat} {v1 v2 : Value} {s : StoP} {N : Nat → Prop} (ho : OwSt w base v1 v2 s N) : OwSt w.drew base v1 v2 s N := ho.below (Below.refl _ _).drew
theorem RwX.own_m {α : Type} {S : Shp α} {w : World} {e : TypeId} {base : Nat} {v : Value} {l : List α} {N : Nat → Prop} (h : RwX S e w base v l N) : ∃ xs, w.ownsRow base e S.size v l.length xs := by
 obtain ⟨ps, _, _, h3, _⟩ := h
 exact ⟨_, h3⟩
theorem OwSt.nb {base : Nat} {v1 v2 : Value} {s : StoP} {N : Nat → Prop} (ho : OwSt w base v1 v2 s N) (hA : Arr w g e xs) (h1 : 50 ≠ e) (h2 : 36 ≠ e) : v1.ownBlock ≠ some g ∧ v2.ownBlock ≠ some g := by
 obtain ⟨xs1, hx⟩ := ho.b.own_m
 obtain ⟨xs2, hy⟩ := ho.e.own_m
 exact ⟨zm hx hA h1, zm hy hA h2⟩
end
structure RdC (w : World) (A : Option Addr) (n : Nat) (c : ColP) : Prop where
 rd : Rd w 1 A c.grey.length (strs c.grey)
 cap : c.grey.length ≤ n
 max : n ≤ maxLen
theorem RdC.below {w w' : World} {A : Option Addr} {n : Nat} {c : ColP} (h : RdC w A n c) (hb : Below w.heap.size w w') : RdC w' A n c := ⟨h.rd.below hb, h.cap, h.max⟩
theorem RdC.of_own {w : World} {base : Nat} {v : Value} {c : ColP} (h : w.ownsRow base 9 1 v c.grey.length (strs c.grey)) : ∃ A n, v = .slice A c.grey.length n ∧ RdC w A n c := by
 obtain ⟨A, n, rfl, hs, _⟩ := Sl.of_own h
 exact ⟨A, n, rfl, hs.rd, hs.cap, hs.max⟩
abbrev coV (v : Value) (c : ColP) : Value := .agg #[.int .i64 (c.phase : Int), v, .string ⟨c.at_.toArray⟩]
structure StpW (W : World) (H base : Nat) (v1 v2 : Value) (r k : Nat) (t : StoP) (cc : List Value) (N : Nat → Prop) : Prop where
 s : Arr W H 26 [v1, v2, .int .i64 (r : Int), .int .i64 (k : Int)]
 c : Arr W (H + 1) 66 cc
 r : Arr W (H + 1 + 1) 26 [.slice none 0 0, .slice none 0 0, .int .i64 0, .int .i64 0]
 d : Arr W (H + 1 + 1 + 1) 66 [.int .i64 0, .slice none 0 0, .string ⟨#[]⟩]
 o : OwSt W base v1 v2 t (fun b => N b ∨ (H ≤ b ∧ b ≤ H + 3))
theorem StpW.below {W W' : World} {H base r k : Nat} {v1 v2 : Value} {t : StoP} {cc : List Value} {N : Nat → Prop} (h : StpW W H base v1 v2 r k t cc N) (hb : Below W.heap.size W W') : StpW W' H base v1 v2 r k t cc N :=
 ⟨h.s.below hb, h.c.below hb, h.r.below hb, h.d.below hb, h.o.below hb⟩
end Go.Proofs.YtngfnjekjfeacaaGreat
namespace Go.Proofs.YtngfnjekjfeacaaGreat
open Go.RowKit Go.Maps
set_option linter.unusedVariables false
set_option linter.unusedSimpArgs false
set_option maxRecDepth 100000
abbrev qv (g n : Nat) : Value := .slice (some ⟨g, 0, none⟩) n n
abbrev z4 : List Value := [.slice none 0 0, .slice none 0 0, .int .i64 0, .int .i64 0]
abbrev z3 : List Value := [.int .i64 0, .slice none 0 0, .string ⟨#[]⟩]
end Go.Proofs.YtngfnjekjfeacaaGreat
namespace Go.Proofs.YtngfnjekjfeacaaGreat
open Go.RowKit Go.Maps
set_option linter.unusedVariables false
set_option linter.unusedSimpArgs false
set_option maxRecDepth 100000
def zJ (bl : List BlobP) (L : List (List UInt8)) : List BlobP := bl.map fun b => if b.dig ∈ L then { b with mark := true } else b
theorem Z3 (bl : List BlobP) : zJ bl [] = bl := by simp [zJ]
theorem zM (bl : List BlobP) (L : List (List UInt8)) : (zJ bl L).length = bl.length := by simp [zJ]
theorem Qj (bl : List BlobP) (L : List (List UInt8)) : EqM bl (zJ bl L) := by
 unfold EqM zJ
 rw [List.map_map]
 refine List.map_congr_left fun b _ => ?_
 show NoM b = NoM (if b.dig ∈ L then { b with mark := true } else b)
 split <;> rfl
theorem yf (bl : List BlobP) (L : List (List UInt8)) (i : Nat) (h : i < bl.length) (h' : i < (zJ bl L).length) : (zJ bl L)[i] = if bl[i].dig ∈ L then { bl[i] with mark := true } else bl[i] := by
 simp [zJ]
theorem jo {bl : List BlobP} (hr : RisesBy (·.dig) bl) (L : List (List UInt8)) (d : List UInt8) {i : Nat} (hi : i < (zJ bl L).length) (hd : (zJ bl L)[i].dig = d) : (zJ bl L).set i { (zJ bl L)[i] with mark := true } = zJ bl (L ++ [d]) := by
 have hi' : i < bl.length := by rw [← zM bl L]; exact hi
 refine List.ext_getElem (by rw [List.length_set, zM, zM]) fun j h1 h2 => ?_
 have hj : j < bl.length := by rw [← zM bl (L ++ [d])]; exact h2
 have hdi : ∀ k (h : k < bl.length) (h' : k < (zJ bl L).length), (zJ bl L)[k].dig = bl[k].dig := fun k h h' => by
  rw [yf bl L k h h']; split <;> rfl
 rw [List.getElem_set, yf bl (L ++ [d]) j hj h2]
 by_cases hij : i = j
 ·subst hij
  rw [if_pos rfl, if_pos (by rw [← hdi i hi' hi, hd]; simp), yf bl L i hi' hi]
  split <;> rfl
 ·rw [if_neg hij, yf bl L j hj (by rw [zM]; exact hj)]
  have hne : bl[j].dig ≠ d := fun e => by
   rw [← hd, hdi i hi' hi] at e
   have hnd := hr.map.nodup
   have := (List.getElem_inj (xs := bl.map (·.dig)) (i := j) (j := i) (h₀ := by simpa using hj) (h₁ := by simpa using hi') hnd).1 (by simpa using e)
   exact hij this.symm
  by_cases hm : bl[j].dig ∈ L
  ·rw [if_pos hm, if_pos (by simp [hm])]
  ·rw [if_neg hm, if_neg (by simp [hm, hne])]
theorem RwX.set1' {α : Type} {S : Shp α} {e : TypeId} {w : World} {base g n cap i j : Nat} {u : Value} {y : α} {l : List α} {N : Nat → Prop} (h : RwX S e w base (.slice (some ⟨g, 0, none⟩) n cap) l N) (hn : n = l.length) (hi : i < l.length) (hj : j < S.size)
  (hR : ∀ W cs, S.R W l[i] cs → S.R W y (cs.set j u)) (hlead : ∀ b, ¬ leads b [u]) :
  (∃ v0, w.cell? ⟨g, i * S.size + j, none⟩ = some v0) ∧ w.frozen? ⟨g, i * S.size + j, none⟩ = false ∧
   RwX S e (w.setCell ⟨g, i * S.size + j, none⟩ u) base (.slice (some ⟨g, 0, none⟩) n cap) (l.set i y) N ∧ w.grownBy (w.setCell ⟨g, i * S.size + j, none⟩ u) (some g) := by
 subst hn; exact h.set1 hi hj hR hlead
set_option maxHeartbeats 8000000 in
theorem KD (A D : Option Addr) (c dc : Nat) (bl : List BlobP) (ds : List (List UInt8)) (w : World) (hl : bl.length ≤ 1000) (hcap : bl.length ≤ c) (hcm : c ≤ maxLen) (hri : RisesBy (·.dig) bl) (hdat : ∀ b ∈ bl, b.data.length ≤ 1000000) (hdig : ∀ x ∈ bl, x.dig.length ≤ 1000) (hrd : Rw BlobS w A bl) (hdn : ds.length ≤ 1000000) (hrd2 : Rd w 1 D ds.length (strs ds)) :
  Calls Tryz.prog 162 #[.slice A bl.length c, .slice D ds.length dc] w fun e w' => ∃ g L, e = .returned (.slice (some ⟨g, 0, none⟩) bl.length bl.length) ∧ StrL L (Rch bl ds) ∧ RwX BlobS 50 w' w.heap.size (.slice (some ⟨g, 0, none⟩) bl.length bl.length) (zJ bl L) (fun b => b < w.heap.size) ∧ Below w.heap.size w w' := by
 have HCP := Lib.hid (xU A c bl w (by omega) hdat hrd)
 have HFR := Lib.hid (fun W (h : Below w.heap.size w W) => uu A D c dc bl ds W hl hcap hcm hdig (hrd.below h) hdn (hrd2.below h))
 have HRI := Lib.hid hri
 clear hdat hdig hrd hdn hrd2 hri
 go_enter Tryz.func162, Tryz.ntmps162
 go_wp2_with fail
 refine ((HCP.out)).mono ?_; rintro e_ w1 ⟨q1, rfl, hx1, hb1⟩; dsimp only
 have HF1 := Lib.hid (HFR.out w1 hb1)
 clear HCP HFR
 go_wp2_with fail
 refine ((HF1.out)).mono ?_; rintro e_ w2 ⟨v2, L, rfl, hL, hLl, ho2, hb2⟩; dsimp only
 obtain ⟨AL, cL, rfl, _, hrL⟩ := Rd.of_own' ho2
 have hLb : ∀ a, AL = some a → w1.heap.size ≤ a.block := fun a e => by
  obtain ⟨A', c', e1, _, h⟩ := Sl.of_own ho2
  injection e1 with e1 _ _
  exact h a (by rw [← e1]; exact e)
 have hx2 := hx1.below hb2
 have hb12 := hb1.trans (hb2.mono hb1.size)
 have HRL := Lib.hid hrL
 have HL := Lib.hid hL
 have HLB := Lib.hid hLb
 have hq1 : q1 < w1.heap.size := (hx1.rwo.blk rfl).2
 have hL63 : (L.length : Int) ≤ 9223372036854775807 := by omega
 have hb63 : (bl.length : Int) ≤ 9223372036854775807 := by omega
 have hx2' : RwX BlobS 50 w2 w.heap.size (.slice (some ⟨q1, 0, none⟩) bl.length bl.length) (zJ bl []) (fun b => b < w.heap.size) := by rw [Z3]; exact hx2
 clear hx1 hb1 hb2 ho2 hL hrL hx2 HF1 hLb
 go_wp2_with fail
 go_loopg [16] L.length (fun gn i wr => ∃ k : Nat, gn = L.length - k ∧ i = .int .i64 k ∧ k ≤ L.length ∧ RwX BlobS 50 wr w.heap.size (.slice (some ⟨q1, 0, none⟩) bl.length bl.length) (zJ bl (L.take k)) (fun b => b < w.heap.size) ∧ Below w.heap.size w wr ∧ w2.grownBy wr (some q1))
 case atStart => exact ⟨0, rfl, rfl, by omega, hx2', hb12, World.grownBy.refl _ _⟩
 case round =>
  obtain ⟨k, hgk, rfl, hk, hx, hbk, hgr⟩ := hrel
  have HGK := Lib.hid hgk
  clear hgk hx2' hb12
  by_cases hlt : k < L.length
  rotate_left
  ·obtain rfl : k = L.length := by omega
   have hlb : decide (L.length < L.length) = false := by simp
   rw [List.take_length] at hx
   have HX := Lib.hid hx
   clear hx
   go_wp2_with fail
   go_ret
   exact ⟨_, L, rfl, HL.out, HX.out, hbk⟩
  have hlb : decide (k < L.length) = true := decide_eq_true hlt
  have hk0 : (0 : Int) ≤ (k : Int) := by omega
  have hk1 : (k : Int) < (L.length : Int) := by omega
  have hrLr : Rd wr 1 AL L.length (strs L) := HRL.out.keepb hgr.size (fun b hb ⟨a, e1, e2⟩ => hgr.block b hb (fun e => by
   injection e with e
   have := HLB.out a e1
   omega))
  obtain ⟨bb, off, hAb, _, hcell⟩ := hrLr.2 (by omega)
  subst hAb
  have c0 := hcell k _ (qy L k hlt)
  have hin : InB bl L[k] := ((HL.out.mem _).1 (List.getElem_mem hlt)).inB
  have hin2 : InB (zJ bl (L.take k)) L[k] := (Ye (Qj bl (L.take k))).2 hin
  obtain ⟨i, hfi⟩ : ∃ i, (zJ bl (L.take k)).findIdx? (fun b => b.dig == L[k]) = some i := by
   rw [un] at hin2
   exact Option.isSome_iff_exists.1 hin2
  have hi : i < (zJ bl (L.take k)).length := (List.findIdx?_eq_some_iff_getElem.1 hfi).1
  have hid : (zJ bl (L.take k))[i].dig = L[k] := by simpa using (List.findIdx?_eq_some_iff_getElem.1 hfi).2.1
  have hib : i < bl.length := by rw [← zM bl (L.take k)]; exact hi
  have hi0 : (0 : Int) ≤ (i : Int) := by omega
  have hi1 : (i : Int) < (bl.length : Int) := by omega
  have hsn := jo HRI.out (L.take k) L[k] hi hid
  have htk : L.take k ++ [L[k]] = L.take (k + 1) := (List.take_succ_eq_append_getElem hlt).symm
  rw [htk] at hsn
  have hfb := yg (some ⟨q1, 0, none⟩) bl.length (zJ bl (L.take k)) L[k] wr (by rw [zM]; omega) (by
   obtain ⟨A9, c9, e1, _, _, hrw⟩ := hx.rwo.rows
   injection e1 with e1 _ _
   subst e1; exact hrw)
  rw [hfi, zM] at hfb
  have HFB := Lib.hid hfb
  have HSN := Lib.hid hsn
  have HKL := Lib.hid hlt
  generalize hLk : L[k] = dk at *
  clear hLk hfb hsn htk hfi hin hin2 hcell hid
  go_wp2_with fail
  clear c0
  refine ((HFB.out)).mono ?_; rintro e_ w5 ⟨rfl, hb5⟩; dsimp only
  rw [Kn]
  have hx5 := hx.below hb5
  have hbk5 := hbk.trans (hb5.mono hbk.size)
  have hgr5 := QP hgr hb5
  obtain ⟨⟨v0, c3⟩, f3, hx6, hg6⟩ := hx5.set1' (i := i) (j := 3) (y := { (zJ bl (L.take k))[i] with mark := true }) (u := .bool true) (zM bl (L.take k)).symm hi (by show 3 < 4; omega) (fun W cs h => Qg _ true W cs h) (yK true)
  rw [HSN.out] at hx6
  have hbk6 := hbk5.grown hg6 hbk5.size (fun b e => by cases e; exact (hx5.rwo.blk rfl).1)
  have HX6 := Lib.hid hx6
  have HB6 := Lib.hid hbk6
  have HG6 := Lib.hid (hgr5.trans hg6)
  clear hx hx5 hx6 hbk hbk5 hbk6 hgr hgr5 hg6 hb5 hrLr
  simp only [show BlobS.size = 4 from rfl] at c3 f3 HX6 HB6 HG6
  go_wp2_with fail
  go_roundg (L.length - (k + 1))
  case measure => have := HGK.out; have := HKL.out; omega
  case rel => exact ⟨k + 1, rfl, by go_num, by have := HKL.out; omega, HX6.out, HB6.out, HG6.out⟩
end Go.Proofs.YtngfnjekjfeacaaGreat
namespace Go.Proofs.YtngfnjekjfeacaaGreat
open Go.RowKit Go.Maps
set_option linter.unusedVariables false
set_option linter.unusedSimpArgs false
set_option maxRecDepth 100000
end Go.Proofs.YtngfnjekjfeacaaGreat
namespace Go.Proofs.YtngfnjekjfeacaaGreat
open Go.RowKit
set_option linter.unusedVariables false
set_option linter.unusedSimpArgs false
noncomputable def Ko (bl : List BlobP) (ds : List (List UInt8)) : List (List UInt8) := (bl.filter (fun b => @decide (Rch bl ds b.dig) (Classical.propDecidable _))).map (·.dig)
theorem QM {bl : List BlobP} {ds : List (List UInt8)} {x : List UInt8} : x ∈ Ko bl ds ↔ Rch bl ds x := by
 unfold Ko
 rw [List.mem_map]
 constructor
 ·rintro ⟨b, hb, rfl⟩
  exact @of_decide_eq_true _ (Classical.propDecidable _) (List.mem_filter.1 hb).2
 ·intro h
  obtain ⟨b, hb, rfl⟩ := h.inB
  exact ⟨b, List.mem_filter.2 ⟨hb, @decide_eq_true _ (Classical.propDecidable _) h⟩, rfl⟩
theorem K9 {bl : List BlobP} (hr : RisesBy (·.dig) bl) (ds : List (List UInt8)) : StrL (Ko bl ds) (Rch bl ds) := by
 have h : Rises (Ko bl ds) := by
  have : RisesBy (·.dig) (bl.filter (fun b => @decide (Rch bl ds b.dig) (Classical.propDecidable _))) := List.Pairwise.filter _ hr
  exact this.map
 exact ⟨h.nodup, Zy h, fun x => QM⟩
noncomputable def zL (s : StoP) (c : ColP) (ds : List (List UInt8)) : StoP × ColP :=
 if c.phase = 1 then (s, ⟨1, uni (c.grey ++ ds), c.at_⟩) else if c.phase = 2 then ({ s with blobs := zJ s.blobs (Ko s.blobs ds) }, c) else (s, c)
theorem Y0 {s : StoP} {c : ColP} {ds : List (List UInt8)} (h : c.phase = 0) : zL s c ds = (s, c) := by unfold zL; rw [if_neg (by omega), if_neg (by omega)]
theorem YU {s : StoP} {c : ColP} {ds : List (List UInt8)} (h : c.phase = 1) : zL s c ds = (s, ⟨1, uni (c.grey ++ ds), c.at_⟩) := by unfold zL; rw [if_pos h]
theorem YY {s : StoP} {c : ColP} {ds : List (List UInt8)} (h : c.phase = 2) : zL s c ds = ({ s with blobs := zJ s.blobs (Ko s.blobs ds) }, c) := by unfold zL; rw [if_neg (by omega), if_pos h]
end Go.Proofs.YtngfnjekjfeacaaGreat
namespace Go.Proofs.YtngfnjekjfeacaaGreat
open Go.RowKit Go.Maps
set_option linter.unusedVariables false
set_option linter.unusedSimpArgs false
set_option maxRecDepth 100000
def Z0 (w : World) (l : List (List UInt8)) (f : FuncId) (x : Value) (p : List UInt8 → Bool) : Prop :=
 (∀ args W, (callFunc f args).run Tryz.prog W = .ok (.enter f args) W) ∧ ∀ (b : List UInt8) (W : World), b ∈ l → Below w.heap.size w W →
  Calls Tryz.prog f #[.string ⟨b.toArray⟩, x] W fun e w' => e = .returned (.bool (p b)) ∧ Below W.heap.size W w'
set_option maxHeartbeats 4000000 in
theorem Zw (A : Option Addr) (c : Nat) (l : List (List UInt8)) (f : FuncId) (x : Value) (p : List UInt8 → Bool) (w : World) (hl : l.length ≤ 1000000) (hA : Rd w 1 A l.length (strs l)) (HC : Z0 w l f x p) :
  Calls Tryz.prog 150 #[.slice A l.length c, .func (.func f) #[] #[x]] w fun e w' => e = .returned (.int .i64 (plc (l.findIdx? p))) ∧ Below w.heap.size w w' := by
 obtain ⟨hcf, hcc0⟩ := HC
 have HCC := Lib.hid hcc0
 clear hcc0
 generalize hR : l.findIdx? p = R
 have HR := Lib.hid hR
 clear hR
 go_enter Tryz.func150, Tryz.ntmps150
 go_wp2_with fail
 go_loopg [5, 8] l.length (fun gn u i wr => ∃ j : Nat, gn = l.length - j ∧ i = .int .i64 j ∧ j ≤ l.length ∧ (∀ k (h : k < l.length), k < j → p l[k] = false) ∧ Below w.heap.size w wr)
 case atStart => exact ⟨0, rfl, rfl, by omega, fun k _ h => absurd h (by omega), Below.refl _ _⟩
 case round =>
  obtain ⟨j, hgk, rfl, hj, hno, hbl⟩ := hrel
  have HGK := Lib.hid hgk
  have HNO := Lib.hid hno
  clear hgk hno
  by_cases hlt : j < l.length
  ·have hcc : decide (j < l.length) = true := decide_eq_true hlt
   obtain ⟨b, off, hAb, _, hcell⟩ := (hA.below hbl).2 (by omega)
   subst hAb
   have c0 := hcell j _ (qy l j hlt)
   have hcl := HCC.out l[j] wr (List.getElem_mem hlt) hbl
   have hj0 : (0 : Int) ≤ (j : Int) := by omega
   have hj1 : (j : Int) < (l.length : Int) := by omega
   cases hp : p l[j] with
   | true =>
    have HF := Lib.hid (show R = some j by
     rw [← HR.out, List.findIdx?_eq_some_iff_getElem]
     exact ⟨hlt, hp, fun k hk => by rw [HNO.out k (by omega) hk]; simp⟩)
    rw [hp] at hcl
    have HCL := Lib.hid hcl
    clear hp hcl hcell
    generalize l[j] = bl at *
    go_wp2_with fail
    refine ((HCL.out)).mono ?_; rintro e_ w5 ⟨rfl, hb5⟩; dsimp only
    have hb05 := hbl.trans (hb5.mono hbl.size)
    go_wp2_with fail
    go_ret
    rw [HF.out]
    exact ⟨rfl, hb05⟩
   | false =>
    have HN := Lib.hid (show ∀ k (h : k < l.length), k < j + 1 → p l[k] = false from fun k h hk => by
     rcases Nat.lt_or_ge k j with h1 | h1
     ·exact HNO.out k h h1
     ·have : k = j := by omega
      subst this; exact hp)
    rw [hp] at hcl
    have HCL := Lib.hid hcl
    clear hp hcl hcell
    generalize l[j] = bl at *
    go_wp2_with fail
    refine ((HCL.out)).mono ?_; rintro e_ w5 ⟨rfl, hb5⟩; dsimp only
    have hb05 := hbl.trans (hb5.mono hbl.size)
    go_wp2_with fail
    go_roundg (l.length - (j + 1))
    case measure => have := HGK.out; omega
    case rel => exact ⟨j + 1, rfl, by go_num, by omega, HN.out, hb05⟩
  ·obtain rfl : j = l.length := by omega
   have hcc : decide (l.length < l.length) = false := by simp
   have HF := Lib.hid (show R = none by
    rw [← HR.out, List.findIdx?_eq_none_iff]
    intro x hx
    obtain ⟨k, hk, rfl⟩ := List.mem_iff_getElem.1 hx
    exact HNO.out k hk hk)
   go_wp2_with fail
   go_ret
   rw [HF.out]
   exact ⟨rfl, hbl⟩
theorem KX (A : Option Addr) (c : Nat) (l : List (List UInt8)) (f : FuncId) (x : Value) (p : List UInt8 → Bool) (w : World) (hl : l.length ≤ 1000000) (hA : Rd w 1 A l.length (strs l)) (HC : Z0 w l f x p) :
  Calls Tryz.prog 151 #[.slice A l.length c, .func (.func f) #[] #[x]] w fun e w' => e = .returned (.bool (l.any p)) ∧ Below w.heap.size w w' := by
 have hI := Zw A c l f x p w hl hA HC
 clear HC
 have HI := Lib.hid hI
 clear hI
 have hany : l.any p = (l.findIdx? p).isSome := by rw [List.findIdx?_isSome]
 rw [hany]
 cases hf : l.findIdx? p with
 | none =>
  rw [hf] at HI
  go_enter Tryz.func151, Tryz.ntmps151
  go_wp2_with fail
  refine ((HI.out)).mono ?_; rintro e_ w1 ⟨rfl, hb1⟩; dsimp only
  go_wp2_with fail
  go_ret
  exact ⟨rfl, hb1⟩
 | some i =>
  rw [hf] at HI
  have hi : decide ((i : Int) ≥ 0) = true := decide_eq_true (by omega)
  have hi2 : decide ((0 : Int) ≤ (i : Int)) = true := decide_eq_true (by omega)
  go_enter Tryz.func151, Tryz.ntmps151
  go_wp2_with fail
  refine ((HI.out)).mono ?_; rintro e_ w1 ⟨rfl, hb1⟩; dsimp only
  go_wp2_with fail
  go_ret
  exact ⟨rfl, hb1⟩
theorem ZH (gk : Nat) (B : Option Addr) (d : Nat) (M l : List (List UInt8)) (w : World) (hk : w.cell? ⟨gk, 0, none⟩ = some (.slice B M.length d)) (hg : gk < w.heap.size) (hM : M.length ≤ 1000000) (hB : Rd w 1 B M.length (strs M)) : Z0 w l 152 (.pointer (some ⟨gk, 0, none⟩)) (fun s => !decide (s ∈ M)) := by
 refine ⟨fun _ _ => by kernel_rfl, fun b W hb hbel => ?_⟩
 have hk0 : W.cell? ⟨gk, 0, none⟩ = some (.slice B M.length d) := (hbel.cell (p := ⟨gk, 0, none⟩) hg).trans hk
 have HCT := Lib.hid (Y2 B d M b W (by omega) (hB.below hbel))
 dsimp only
 generalize decide (b ∈ M) = dv at *
 clear hk hB hbel
 go_enter Tryz.func152, Tryz.ntmps152
 go_wp2_with fail
 refine ((HCT.out)).mono ?_; rintro e_ wx ⟨rfl, rfl⟩; dsimp only
 go_wp2_with fail
 go_ret
 exact ⟨rfl, Below.refl _ _⟩
theorem vh (A B : Option Addr) (c d : Nat) (L M : List (List UInt8)) (w : World) (hl : L.length ≤ 1000000) (hm : M.length ≤ 1000000) (hA : Rd w 1 A L.length (strs L)) (hB : Rd w 1 B M.length (strs M)) (hsub : ∀ x ∈ L, x ∈ M) :
  Calls Tryz.prog 99 #[.slice A L.length c, .slice B M.length d] w fun e w' => e = .returned (.bool true) ∧ Below w.heap.size w w' := by
 have hb1 := (Below.refl w.heap.size w).alloc (Nat.le_refl _) (.cells #[.slice B M.length d] 29)
 have hbx : Arr (w.alloc (.cells #[.slice B M.length d] 29)) w.heap.size 29 [.slice B M.length d] := Arr.new w 29 _
 have hct := KX A c L _ (.pointer (some ⟨w.heap.size, 0, none⟩)) (fun s => !decide (s ∈ M)) _ hl (hA.below hb1) (ZH w.heap.size B d M L _ (hbx.cell (k := 0) rfl) hbx.lt hm (hB.below hb1))
 rw [show L.any (fun s => !decide (s ∈ M)) = false from List.any_eq_false.2 fun x hx => by simp [hsub x hx]] at hct
 have HCT := Lib.hid hct
 clear hct hbx hA hB hsub
 go_enter Tryz.func99, Tryz.ntmps99
 go_wp2_with fail
 refine ((HCT.out)).mono ?_; rintro e_ w2 ⟨rfl, hb2⟩; dsimp only
 go_wp2_with fail
 go_ret
 exact ⟨rfl, hb1.trans (hb2.mono hb1.size)⟩
theorem jr {P : Program} {w : World} {ops : Array Oper} {rest : List Oper} {o : Oper} {a : Act} {Q : Exit → Act → World → Prop} (hgd : o.guard = none) (s x : Operand) {t e e' : TypeId} {size bytes : Nat}
  (ho : o.op = .call { callee := .builtin .append, args := #[s, x], argTypes := #[t, t] }) (E : El P t e size bytes)
  {base : Nat} {v : Value} {n : Nat} {xs : List Value} (hs : a.eval s = v) (hown : w.ownsRow base e size v n xs) {H : Nat}
  {us : List Value} {m c : Nat} (hx : a.eval x = .slice (some ⟨H, 0, none⟩) m c) (hH : H = w.heap.size) (hl : us.length = m * size) (h1 : ∀ u ∈ us, u.oneCell' = true)
  (hb : (n + m) * bytes ≤ 140737488355328) (hbase : base ≤ w.heap.size)
  (h : ∀ v' w', w'.ownsRow base e size v' (n + m) (xs ++ us) → w.grownBy w' v.ownBlock → (v'.ownBlock = v.ownBlock ∨ ∃ g, v'.ownBlock = some g ∧ w.heap.size ≤ g) → wpList P ops Q rest (a.put o.dst v') w') :
  wpList P ops Q (o :: rest) a (w.alloc (.cells us.toArray e')) := by
 subst hH
 exact zi hgd s x ho E hs hown hx hl h1 hb hbase h
theorem QN (bl : List BlobP) (k : Nat) (h : k < bl.length) : mkd (bl.take (k + 1)) = mkd (bl.take k) ++ (if bl[k].mark then [bl[k].dig] else []) := by
 unfold mkd
 rw [List.take_succ_eq_append_getElem h, List.filter_append, List.map_append]
 congr 1
 by_cases hp : bl[k].mark = true
 ·rw [if_pos hp, List.filter_cons_of_pos hp]; rfl
 ·rw [if_neg hp, List.filter_cons_of_neg hp]; rfl
theorem uc (bl : List BlobP) : (mkd bl).length ≤ bl.length := by
 unfold mkd; rw [List.length_map]; exact List.length_filter_le _ _
set_option maxHeartbeats 4000000 in
theorem yk (A : Option Addr) (c : Nat) (bl : List BlobP) (w : World) (hl : bl.length ≤ 1000) (hA : Rw BlobS w A bl) :
  Calls Tryz.prog 94 #[.slice A bl.length c] w fun e w' => ∃ v, e = .returned v ∧ w'.ownsRow w.heap.size 9 1 v (mkd bl).length (strs (mkd bl)) ∧ Below w.heap.size w w' := by
 have HA := Lib.hid hA
 have hb63 : (bl.length : Int) ≤ 9223372036854775807 := by omega
 clear hA
 go_enter Tryz.func94, Tryz.ntmps94
 repeat' (fail_if_success (first|at_builtin|at_make));first|go_values|go_skip|go_guarded|go_step|go_upon|go_back
 go_loopg [3, 8] bl.length (fun gn u i wr => ∃ k : Nat, gn = bl.length - k ∧ i = .int .i64 k ∧ k ≤ bl.length ∧ wr.ownsRow w.heap.size 9 1 u (mkd (bl.take k)).length (strs (mkd (bl.take k))) ∧ Below w.heap.size w wr)
 case atStart => exact ⟨0, rfl, rfl, by omega, World.ownsRow_nil _ _ _ _, Below.refl _ _⟩
 case round =>
  obtain ⟨k, hgk, rfl, hk, hown, hbel⟩ := hrel
  have HGK := Lib.hid hgk
  clear hgk
  by_cases hlt : k < bl.length
  rotate_left
  ·obtain rfl : k = bl.length := by omega
   have hlb : decide (bl.length < bl.length) = false := by simp
   rw [List.take_length] at hown
   have HO := Lib.hid hown
   clear hown
   repeat' (fail_if_success (first|at_builtin|at_make));first|go_values|go_skip|go_guarded|go_step|go_upon|go_back
   go_ret
   exact ⟨_, rfl, HO.out, hbel⟩
  have hlb : decide (k < bl.length) = true := decide_eq_true hlt
  have hk0 : (0 : Int) ≤ (k : Int) := by omega
  have hk1 : (k : Int) < (bl.length : Int) := by omega
  obtain ⟨bq, oq, Bq, cq, hA, hbq, d0, d1, d2, d3, hsl⟩ := (HA.out.below hbel).blob_at k hlt
  subst hA
  have HSU := Lib.hid (QN bl k hlt)
  have HKL := Lib.hid hlt
  have hml := uc (bl.take k)
  rw [List.length_take] at hml
  generalize bl[k] = q at *
  generalize q.mark = qm at *
  have hbox : Arr (wr.alloc (.cells #[.string ⟨q.dig.toArray⟩, .slice Bq q.data.length cq, .int .i64 (q.pins : Int), .bool qm] 50)) wr.heap.size 50 [.string ⟨q.dig.toArray⟩, .slice Bq q.data.length cq, .int .i64 (q.pins : Int), .bool qm] := Arr.new wr 50 _
  have hbA := hbel.alloc hbel.size (.cells #[.string ⟨q.dig.toArray⟩, .slice Bq q.data.length cq, .int .i64 (q.pins : Int), .bool qm] 50)
  have hownA := hown.alloc (.cells #[.string ⟨q.dig.toArray⟩, .slice Bq q.data.length cq, .int .i64 (q.pins : Int), .bool qm] 50)
  have p0 := hbox.cell (k := 0) rfl
  have p3 := hbox.cell (k := 3) rfl
  clear hsl hown hbox
  cases qm with
  | false =>
   have hsu := HSU.out
   rw [if_neg (by decide), List.append_nil] at hsu
   have HSV := Lib.hid hsu
   have HOA := Lib.hid hownA
   clear hsu hownA
   repeat' (fail_if_success (first|at_builtin|at_make));first|go_values|go_skip|go_guarded|go_step|go_upon|go_back
   go_roundg (bl.length - (k + 1))
   case measure => have := HGK.out; have := HKL.out; omega
   case rel => exact ⟨k + 1, rfl, by go_num, by have := HKL.out; omega, by rw [HSV.out]; exact HOA.out, hbA⟩
  | true =>
   have hsu := HSU.out
   rw [if_pos rfl] at hsu
   have HSV := Lib.hid hsu
   have HSZ := Lib.hid (World.size_alloc wr (.cells #[.string ⟨q.dig.toArray⟩, .slice Bq q.data.length cq, .int .i64 (q.pins : Int), .bool true] 50)).symm
   clear hsu
   repeat' (fail_if_success (first|at_builtin|at_make));first|go_values|go_skip|go_guarded|go_step|go_upon|go_back
   clear d0 d1 d2 d3
   generalize (wr.alloc (.cells #[.string ⟨q.dig.toArray⟩, .slice Bq q.data.length cq, .int .i64 (q.pins : Int), .bool true] 50)) = wA at *
   refine jr rfl (.tmp 14) (.tmp 17) rfl va (by rfl) hownA (us := [.string ⟨q.dig.toArray⟩]) (by rfl) HSZ.out rfl (by intro u hu; rw [List.mem_singleton.1 hu]; rfl) (by omega) hbA.size ?_
   intro v9 w9 ho9 hg9 hv9
   have hb9 := ze hbA hownA (Nat.le_refl _) hg9
   have HO9 := Lib.hid ho9
   clear ho9 hg9 hv9 hownA p0 p3
   repeat' (fail_if_success (first|at_builtin|at_make));first|go_values|go_skip|go_guarded|go_step|go_upon|go_back
   go_roundg (bl.length - (k + 1))
   case measure => have := HGK.out; have := HKL.out; omega
   case rel => exact ⟨k + 1, rfl, by go_num, by have := HKL.out; omega, by rw [HSV.out, xV, List.length_append]; exact HO9.out, hb9⟩
end Go.Proofs.YtngfnjekjfeacaaGreat
namespace Go.Proofs.YtngfnjekjfeacaaGreat
open Go.RowKit
set_option linter.unusedVariables false
set_option linter.unusedSimpArgs false
set_option maxRecDepth 100000
def Zj (w : World) (g : Option Nat) (l : List (List UInt8)) (f : FuncId) (x : Value) (p : List UInt8 → Bool) : Prop :=
 (∀ args W, (callFunc f args).run Tryz.prog W = .ok (.enter f args) W) ∧ ∀ (b : List UInt8) (W : World), b ∈ l → w.grownBy W g →
  Calls Tryz.prog f #[.string ⟨b.toArray⟩, x] W fun e w' => e = .returned (.bool (p b)) ∧ Below W.heap.size W w'
theorem YS (w : World) : (zeroValue 9).run Tryz.prog w = .ok (.string ByteArray.empty) w := by kernel_rfl
theorem YK {w : World} {base g cap n : Nat} {xs : List Value} (h : w.ownsRow base 9 1 (.slice (some ⟨g, 0, none⟩) n cap) n xs) (i : Nat) (hi : i < n) :
  ∃ zs : List Value, zs.length = n - i ∧ (∀ ty c, (Builtin.clear_ #[29] ty #[.slice (some ⟨g, i, none⟩) (n - i) c]).run Tryz.prog w = .ok (.tuple #[]) (w.setCells g i zs)) ∧
   (w.setCells g i zs).ownsRow base 9 1 (.slice (some ⟨g, 0, none⟩) i cap) i (xs.take i) ∧ w.grownBy (w.setCells g i zs) (some g) := by
 have hl := xA (Value.string ByteArray.empty).cells (n - i)
 obtain ⟨k1, k2, k3, k4⟩ := Q7 h (by omega) hi (zs := (Builtin.zeroCells (Value.string ByteArray.empty).cells (n - i)).toList) hl
 simp only [Nat.mul_one] at k1 k2 k3 k4
 exact ⟨_, by rw [hl]; simp [Value.cells], fun ty c => vT w _ _ ty _ _ _ (by omega) Tryz.underlying29 YS rfl (xR _ _ (by simp [Value.cells]) (by intro u hu; simp [Value.cells] at hu; subst hu; rfl)) g _ c k3 k4, k1, k2⟩
set_option maxHeartbeats 8000000 in
theorem Ku (base : Nat) (v : Value) (l : List (List UInt8)) (f : FuncId) (x : Value) (p : List UInt8 → Bool) (w : World) (hl : l.length ≤ 1000000) (hx : w.ownsRow base 9 1 v l.length (strs l)) (HC : Zj w v.ownBlock l f x p) :
  Calls Tryz.prog 97 #[v, .func (.func f) #[] #[x]] w fun e w' => ∃ v', e = .returned v' ∧ w'.ownsRow base 9 1 v' (l.filter (fun b => !p b)).length (strs (l.filter (fun b => !p b))) ∧ w.grownBy w' v.ownBlock := by
 obtain ⟨hce, hcc0⟩ := HC
 have HCC := Lib.hid hcc0
 clear hcc0
 obtain ⟨A, cap, rfl, hlc, hrw⟩ := Rd.of_own' hx
 have HI := Lib.hid (Zw A cap l f x p w (by omega) hrw ⟨hce, fun b W hb hbl => HCC.out b W hb ⟨hbl.os, hbl.tape, hbl.output, hbl.size, fun k hk _ => hbl.block k hk⟩⟩)
 cases hf : l.findIdx? p with
 | none =>
  rw [hf] at HI
  have hall : l.filter (fun b => !p b) = l := List.filter_eq_self.2 fun b hb => by
   have := List.findIdx?_eq_none_iff.1 hf b hb
   rw [this]; rfl
  have HALL := Lib.hid hall
  have HX := Lib.hid hx
  clear hall hf hx hrw
  go_enter Tryz.func97, Tryz.ntmps97
  go_wp2_with fail
  refine ((HI.out)).mono ?_; rintro e_ w1 ⟨rfl, hb1⟩; dsimp only
  simp only [plc]
  go_wp2_with fail
  go_ret
  refine ⟨_, rfl, by rw [HALL.out]; exact za HX.out hb1, ⟨hb1.os, hb1.tape, hb1.output, hb1.size, fun k hk _ => hb1.block k hk⟩⟩
 | some i0 =>
  rw [hf] at HI
  simp only [plc] at HI
  obtain ⟨hi0, hpi, hno⟩ := List.findIdx?_eq_some_iff_getElem.1 hf
  have hkeep0 : (l.take (i0 + 1)).filter (fun b => !p b) = l.take i0 := by
   rw [List.take_succ_eq_append_getElem hi0, List.filter_append, List.filter_cons_of_neg (by rw [hpi]; simp)]
   rw [List.filter_nil, List.append_nil]
   refine List.filter_eq_self.2 fun b hb => ?_
   obtain ⟨k, hk, rfl⟩ := List.mem_iff_getElem.1 hb
   rw [List.length_take] at hk
   have := hno k (by omega)
   rw [List.getElem_take]
   simpa using this
  obtain ⟨g, cap', cs, e1, hbg, hA, hnc, -, -, -⟩ := jQ hx (by omega)
  injection e1 with e11 e12 e13
  clear e12
  subst e11 e13
  have hgw : g < w.heap.size := hA.lt
  have HGW := Lib.hid hgw
  have HK0 := Lib.hid hkeep0
  clear hkeep0 hno hf hA hrw hgw
  have hw1 : IntKind.i64.wrap ((i0 : Int) + 1) = (i0 : Int) + 1 := IntWalk.i64_in _ (by omega)
  have hm1 : ((i0 : Int) == -1) = false := by rw [beq_eq_false_iff_ne]; omega
  go_enter Tryz.func97, Tryz.ntmps97
  go_wp2_with fail
  refine ((HI.out)).mono ?_; rintro e_ w1 ⟨rfl, hb1⟩; dsimp only
  have hx1 := za hx hb1
  have HG1 := Lib.hid (show w.grownBy w1 (some g) from ⟨hb1.os, hb1.tape, hb1.output, hb1.size, fun k hk _ => hb1.block k hk⟩)
  clear hx hb1 HI
  go_wp2_with fail
  go_loopg [5, 6] (l.length - (i0 + 1)) (fun gn u v wr => ∃ (i j : Nat) (M : List (List UInt8)), gn = l.length - j ∧ u = .int .i64 i ∧ v = .int .i64 (j : Int) ∧ i < j ∧ j ≤ l.length ∧ M.length = l.length ∧ M.take i = (l.take j).filter (fun b => !p b) ∧ M.drop j = l.drop j ∧ wr.ownsRow base 9 1 (.slice (some ⟨g, 0, none⟩) l.length cap) l.length (strs M) ∧ w.grownBy wr (some g))
  case atStart => exact ⟨i0, i0 + 1, l, rfl, rfl, by go_num, by omega, by omega, rfl, HK0.out.symm, rfl, hx1, HG1.out⟩
  case round =>
   clear hx1
   obtain ⟨i, j, M, hgk, rfl, rfl, hij, hj, hM, hMt, hMd, hxr, hgr⟩ := hrel
   have HGK := Lib.hid hgk
   have HML := Lib.hid hM
   have HMT := Lib.hid hMt
   have HMD := Lib.hid hMd
   have HGR := Lib.hid hgr
   clear hgk hM hMt hMd hgr
   by_cases hlt : j < l.length
   ·have hjj : decide (j < l.length) = true := decide_eq_true hlt
    have hMj : j < M.length := by have := HML.out; omega
    have eMj : M[j] = l[j] := by
     have h1 := HMD.out
     rw [List.drop_eq_getElem_cons hMj, List.drop_eq_getElem_cons hlt] at h1
     injection h1
    obtain ⟨bq, oq, hq, -, d0⟩ := (Rd.of_own hxr).2 (by omega)
    injection hq with hq
    injection hq with hq1 hq2
    subst hq1 hq2
    have d0 := d0 j _ (qy M j hMj)
    rw [Nat.zero_add, eMj] at d0
    have hmem : l[j] ∈ l := List.getElem_mem hlt
    have hpt : (l.take (j + 1)).filter (fun b => !p b) = (l.take j).filter (fun b => !p b) ++ (if p l[j] then [] else [l[j]]) := by
     rw [List.take_succ_eq_append_getElem hlt, List.filter_append]
     congr 1
     cases hp : p l[j] with
     | true => rw [List.filter_cons_of_neg (by rw [hp]; simp)]; rfl
     | false => rw [List.filter_cons_of_pos (by rw [hp]; rfl)]; rfl
    have hMset : ∀ y, (M.set i y).drop (j + 1) = l.drop (j + 1) := fun y => by
     rw [List.drop_set, if_pos (by omega)]
     have h1 := HMD.out
     rw [List.drop_eq_getElem_cons hMj, List.drop_eq_getElem_cons hlt] at h1
     injection h1
    have hMs0 : M.drop (j + 1) = l.drop (j + 1) := by
     have h1 := HMD.out
     rw [List.drop_eq_getElem_cons hMj, List.drop_eq_getElem_cons hlt] at h1
     injection h1
    have hMtk : ∀ y, (M.set i y).take (i + 1) = M.take i ++ [y] := fun y => by
     have hi : i < (M.set i y).length := by rw [List.length_set]; omega
     rw [List.take_succ_eq_append_getElem hi, List.getElem_set_self, List.take_set]
     congr 1
     rw [List.set_eq_of_length_le (by rw [List.length_take]; omega)]
    have HPT := Lib.hid hpt
    have HMS := Lib.hid hMset
    have HMS0 := Lib.hid hMs0
    have HMK := Lib.hid hMtk
    have hwj : IntKind.i64.wrap ((j : Int) + 1) = (j : Int) + 1 := IntWalk.i64_in _ (by omega)
    have hwi : IntKind.i64.wrap ((i : Int) + 1) = (i : Int) + 1 := IntWalk.i64_in _ (by omega)
    have hcl := HCC.out l[j] wr hmem HGR.out
    clear hpt hMset hMs0 hMtk hmem eMj
    have hj0 : (0 : Int) ≤ (j : Int) := by omega
    have hj1 : (j : Int) < (l.length : Int) := by omega
    have hi0' : (0 : Int) ≤ (i : Int) := by omega
    have hi1' : (i : Int) < (l.length : Int) := by omega
    have hiM : i < (strs M).length := by rw [strs, List.length_map]; omega
    generalize l[j] = bl at *
    cases hp : p bl with
    | true =>
     rw [hp] at hcl
     have HCL := Lib.hid hcl
     have HPV := Lib.hid hp
     clear hcl hp
     go_wp2_with fail
     clear d0
     refine ((HCL.out)).mono ?_; rintro e_ wB ⟨rfl, hbB⟩; dsimp only
     have hxB := za hxr hbB
     have HGB := Lib.hid (HGR.out.trans (show wr.grownBy wB (some g) from ⟨hbB.os, hbB.tape, hbB.output, hbB.size, fun k hk _ => hbB.block k hk⟩))
     clear hxr hbB
     go_wp2_with fail
     go_roundg (l.length - (j + 1))
     case measure => have := HGK.out; omega
     case rel => exact ⟨i, j + 1, M, rfl, rfl, by go_num, by omega, by omega, HML.out, by rw [HPT.out, HPV.out, if_pos rfl, List.append_nil]; exact HMT.out, HMS0.out, hxB, HGB.out⟩
    | false =>
     rw [hp] at hcl
     have HCL := Lib.hid hcl
     have HPV := Lib.hid hp
     clear hcl hp
     generalize hsd : (⟨bl.toArray⟩ : ByteArray) = sd at *
     have HSD := Lib.hid hsd
     clear hsd
     go_wp2_with fail
     clear d0
     refine ((HCL.out)).mono ?_; rintro e_ wB ⟨rfl, hbB⟩; dsimp only
     have hxB := za hxr hbB
     have hgB := HGR.out.trans (show wr.grownBy wB (some g) from ⟨hbB.os, hbB.tape, hbB.output, hbB.size, fun k hk _ => hbB.block k hk⟩)
     obtain ⟨hx8, hg8, ⟨v0, q0⟩, p0⟩ := kG hxB hiM (.string sd)
     rw [show (strs M).set i (.string sd) = strs (M.set i bl) by rw [strs, strs, List.map_set, ← HSD.out]] at hx8
     have HG9 := Lib.hid (hgB.trans hg8)
     clear hxr hxB hgB hbB hg8
     go_wp2_with fail
     clear q0 p0
     generalize (wB.setCell ⟨g, i, none⟩ (.string sd)) = w8 at *
     go_roundg (l.length - (j + 1))
     case measure => have := HGK.out; omega
     case rel => exact ⟨i + 1, j + 1, M.set i bl, rfl, by go_num, by go_num, by omega, by omega, by rw [List.length_set]; exact HML.out, by rw [HPT.out, HPV.out, HMK.out, HMT.out]; rfl, HMS.out _, hx8, HG9.out⟩
   ·obtain rfl : j = l.length := by omega
    have hjj : decide (l.length < l.length) = false := by simp
    have hMl : M.take i = l.filter (fun b => !p b) := by rw [HMT.out, List.take_length]
    have hle : (l.filter (fun b => !p b)).length = i := by rw [← hMl, List.length_take]; have := HML.out; omega
    obtain ⟨zs, hzz, hclr, hx9, hg9⟩ := YK hxr i (by omega)
    have hi0' : (0 : Int) ≤ (i : Int) := by omega
    have hi1' : (i : Int) ≤ (l.length : Int) := by omega
    have hi2' : (i : Int) ≤ (cap : Int) := by omega
    have hce : ¬ cap = i := by omega
    have HX9 := Lib.hid hx9
    have HG9 := Lib.hid (HGR.out.trans hg9)
    have HLE := Lib.hid hle
    have HML2 := Lib.hid hMl
    clear hx9 hg9 hxr hle hMl
    go_wp2_with fail
    go_ret
    refine ⟨_, rfl, ?_, HG9.out⟩
    have h1 := HX9.out
    rw [show (strs M).take i = strs (l.filter (fun b => !p b)) by rw [strs, ← List.map_take, HML2.out]; rfl] at h1
    rw [HLE.out]
    exact h1
end Go.Proofs.YtngfnjekjfeacaaGreat
namespace Go.Proofs.YtngfnjekjfeacaaGreat
open Go.RowKit Go.Maps
set_option linter.unusedVariables false
set_option linter.unusedSimpArgs false
set_option maxRecDepth 100000
theorem X2 (d : List UInt8) (h : hexC d = 0) (W : World) : Calls Tryz.prog 80 #[.string ⟨d.toArray⟩] W fun e w' => e = .returned (.int .i64 0) ∧ Below W.heap.size W w' := by
 have hl := zV h
 have := qN ⟨d.toArray⟩ W (by show d.toArray.size ≤ _; rw [List.size_toArray]; omega)
 rw [show (⟨d.toArray⟩ : ByteArray).data.toList = d from rfl, h] at this
 exact this
set_option maxHeartbeats 8000000 in
theorem xT (Ag : Option Addr) (ng : Nat) (cp : ColP) (s : StoP) (w : World) (hgl : cp.grey.length ≤ 1000) (hg : GoodC s cp) (hc : RdC w Ag ng cp) :
  Calls Tryz.prog 93 #[coV (.slice Ag cp.grey.length ng) cp] w fun e w' => e = .returned (.int .i64 0) ∧ Below w.heap.size w w' := by
 obtain ⟨phase, grey, at_⟩ := cp
 have h1 := hg.ph
 have h2 := hg.gh
 have h3 := hg.ris
 have h4 := hg.ah
 have h5 := hg.g0
 have h6 := hg.a0
 clear hg
 simp only at h1 h2 h3 h4 h5 h6 hgl
 rcases (show phase = 0 ∨ phase = 1 ∨ phase = 2 by omega) with rfl | rfl | rfl
 ·obtain rfl := h5 (by omega)
  obtain rfl := h6 (by omega)
  clear h1 h2 h3 h4 h5 h6 hgl hc
  have hx : Arr (w.alloc (.cells #[.int .i64 0, .slice Ag 0 ng, .string ⟨#[]⟩] 66)) w.heap.size 66 [.int .i64 0, .slice Ag 0 ng, .string ⟨#[]⟩] := Arr.new w 66 _
  have hb := (Below.refl w.heap.size w).alloc (Nat.le_refl _) (.cells #[.int .i64 0, .slice Ag 0 ng, .string ⟨#[]⟩] 66)
  have x0 := hx.cell (k := 0) rfl
  have x1 := hx.cell (k := 1) rfl
  have x2 := hx.cell (k := 2) rfl
  go_enter Tryz.func93, Tryz.ntmps93
  go_wp2_with fail
  go_loopg [46] 1 (fun gn i wr => gn = 1 ∧ i = .int .i64 0 ∧ Below w.heap.size w wr)
  case atStart => exact ⟨rfl, rfl, hb⟩
  case round =>
   obtain ⟨hgk, rfl, hbl⟩ := hrel
   clear hgk
   go_wp2_with fail
   go_ret
   exact ⟨rfl, hbl⟩
 ·obtain rfl := h6 (by omega)
  clear h4 h5 h6
  have hx : Arr (w.alloc (.cells #[.int .i64 1, .slice Ag grey.length ng, .string ⟨#[]⟩] 66)) w.heap.size 66 [.int .i64 1, .slice Ag grey.length ng, .string ⟨#[]⟩] := Arr.new w 66 _
  have hb := (Below.refl w.heap.size w).alloc (Nat.le_refl _) (.cells #[.int .i64 1, .slice Ag grey.length ng, .string ⟨#[]⟩] 66)
  have hrd := hc.rd.below hb
  simp only at hrd
  have hg63 : (grey.length : Int) ≤ 9223372036854775807 := by omega
  have x0 := hx.cell (k := 0) rfl
  have x1 := hx.cell (k := 1) rfl
  have x2 := hx.cell (k := 2) rfl
  have HX := Lib.hid hx
  have HRD := Lib.hid hrd
  have H2 := Lib.hid h2
  have H3 := Lib.hid h3
  clear h1 h2 h3 hc hx hrd
  go_enter Tryz.func93, Tryz.ntmps93
  go_wp2_with fail
  generalize (w.alloc (.cells #[.int .i64 1, .slice Ag grey.length ng, .string ⟨#[]⟩] 66)) = w0 at *
  clear x0 x1 x2
  go_loopg [46] grey.length (fun gn i wr => ∃ j : Nat, gn = grey.length - j ∧ i = .int .i64 j ∧ j ≤ grey.length ∧ Below w0.heap.size w0 wr)
  case atStart => exact ⟨0, rfl, rfl, by omega, Below.refl _ _⟩
  case round =>
   obtain ⟨j, hgk, rfl, hj, hbl⟩ := hrel
   have HGK := Lib.hid hgk
   clear hgk
   by_cases hlt : j < grey.length
   rotate_left
   ·obtain rfl : j = grey.length := by omega
    have hlb : decide (grey.length < grey.length) = false := by simp
    go_wp2_with fail
    go_ret
    exact ⟨rfl, hb.trans (hbl.mono hb.size)⟩
   have hlb : decide (j < grey.length) = true := decide_eq_true hlt
   have hj0 : (0 : Int) ≤ (j : Int) := by omega
   have hj1 : (j : Int) < (grey.length : Int) := by omega
   have hrd2 := HRD.out.below hbl
   obtain ⟨b, off, hAb, hbb, hcell⟩ := hrd2.2 (by omega)
   subst hAb
   have c0 := hcell j _ (qy grey j hlt)
   have HHX := Lib.hid (X2 grey[j] (H2.out _ (List.getElem_mem hlt)) wr)
   have HKL := Lib.hid hlt
   by_cases hj00 : 0 < j
   ·have hq := List.pairwise_iff_getElem.1 H3.out (j - 1) j (by omega) hlt (by omega)
    have c1 := hcell (j - 1) _ (qy grey (j - 1) (by omega))
    generalize grey[j - 1] = q at *
    generalize grey[j] = p at *
    have hkb : decide (0 < (j : Int)) = true := decide_eq_true (by omega)
    have hkc : decide ((j : Int) > 0) = true := decide_eq_true (by omega)
    have hkd : decide (0 < j) = true := decide_eq_true hj00
    have hm1 : IntKind.i64.wrap ((j : Int) - 1) = (j : Int) - 1 := IntWalk.i64_in _ (by omega)
    have hm2 : ((j : Int) - 1).toNat = j - 1 := by omega
    have hm3 : (0 : Int) ≤ (j : Int) - 1 := by omega
    have hm4 : (j : Int) - 1 < (grey.length : Int) := by omega
    have hm5 : (1 : Int) ≤ (j : Int) := by omega
    obtain ⟨sq, hsq⟩ : ∃ s : ByteArray, s = ⟨q.toArray⟩ := ⟨_, rfl⟩
    obtain ⟨sp, hsp⟩ : ∃ s : ByteArray, s = ⟨p.toArray⟩ := ⟨_, rfl⟩
    rw [← hsq] at c1
    rw [← hsp] at c0 HHX
    have l1 : Op.bytesLess sp.toList sq.toList = false := by
     rw [hsp, hsq, ByteArray.toList_eq, ByteArray.toList_eq]; exact kM hq
    have l2 : (sp.toList == sq.toList) = false := by
     rw [hsp, hsq, ByteArray.toList_eq, ByteArray.toList_eq, beq_eq_false_iff_ne]; exact (kY hq).symm
    have HCL := Lib.hid (show ∀ W, Below w0.heap.size w0 W → W.cell? ⟨w.heap.size, 1, none⟩ = some (.slice (some ⟨b, off, none⟩) grey.length ng) from fun W h => (HX.out.below h).cell (k := 1) rfl)
    have HBB := Lib.hid hbb
    clear hsq hsp hq hcell hrd2 hbb
    go_wp2_with fail
    clear c0
    refine ((HHX.out)).mono ?_; rintro e_ w5 ⟨rfl, hb5⟩; dsimp only
    have hb05 := hbl.trans (hb5.mono hbl.size)
    have c2 := (hb5.cell (p := ⟨b, off + (j - 1), none⟩) HBB.out).trans c1
    have x1 := HCL.out _ hb05
    clear c1
    go_wp2_with fail
    go_roundg (grey.length - (j + 1))
    case measure => have := HGK.out; have := HKL.out; omega
    case rel => exact ⟨j + 1, rfl, by go_num, by have := HKL.out; omega, hb05⟩
   ·have hkb : decide (0 < (j : Int)) = false := decide_eq_false (by omega)
    have hkc : decide ((j : Int) > 0) = false := decide_eq_false (by omega)
    have hkd : decide (0 < j) = false := decide_eq_false hj00
    clear hcell hrd2 hbb
    go_wp2_with fail
    refine ((HHX.out)).mono ?_; rintro e_ w5 ⟨rfl, hb5⟩; dsimp only
    have hb05 := hbl.trans (hb5.mono hbl.size)
    go_wp2_with fail
    go_roundg (grey.length - (j + 1))
    case measure => have := HGK.out; have := HKL.out; omega
    case rel => exact ⟨j + 1, rfl, by go_num, by have := HKL.out; omega, hb05⟩
 ·obtain rfl := h5 (by omega)
  rcases h4 with rfl | h4
  ·clear h1 h2 h3 h5 h6 hgl hc
   have hx : Arr (w.alloc (.cells #[.int .i64 2, .slice Ag 0 ng, .string ⟨#[]⟩] 66)) w.heap.size 66 [.int .i64 2, .slice Ag 0 ng, .string ⟨#[]⟩] := Arr.new w 66 _
   have hb := (Below.refl w.heap.size w).alloc (Nat.le_refl _) (.cells #[.int .i64 2, .slice Ag 0 ng, .string ⟨#[]⟩] 66)
   have x0 := hx.cell (k := 0) rfl
   have x1 := hx.cell (k := 1) rfl
   have x2 := hx.cell (k := 2) rfl
   go_enter Tryz.func93, Tryz.ntmps93
   go_wp2_with fail
   go_loopg [46] 1 (fun gn i wr => gn = 1 ∧ i = .int .i64 0 ∧ Below w.heap.size w wr)
   case atStart => exact ⟨rfl, rfl, hb⟩
   case round =>
    obtain ⟨hgk, rfl, hbl⟩ := hrel
    clear hgk
    go_wp2_with fail
    go_ret
    exact ⟨rfl, hbl⟩
  ·clear h1 h2 h3 h5 h6 hgl hc
   by_cases hem : at_ = []
   ·subst hem; exact absurd h4 (by decide)
   have HH := fun W => X2 at_ h4 W
   have hne : (⟨at_.toArray⟩ : ByteArray).toList.isEmpty = false := by
    rw [ByteArray.toList_eq]; cases at_ with
    | nil => exact absurd rfl hem
    | cons a l => rfl
   obtain ⟨ds, hds⟩ : ∃ s : ByteArray, s = ⟨at_.toArray⟩ := ⟨_, rfl⟩
   simp only [coV]
   rw [← hds] at hne HH ⊢
   clear hds h4 hem
   have HHX := Lib.hid HH
   clear HH
   have hx : Arr (w.alloc (.cells #[.int .i64 2, .slice Ag 0 ng, .string ds] 66)) w.heap.size 66 [.int .i64 2, .slice Ag 0 ng, .string ds] := Arr.new w 66 _
   have hb := (Below.refl w.heap.size w).alloc (Nat.le_refl _) (.cells #[.int .i64 2, .slice Ag 0 ng, .string ds] 66)
   have x0 := hx.cell (k := 0) rfl
   have x1 := hx.cell (k := 1) rfl
   have x2 := hx.cell (k := 2) rfl
   go_enter Tryz.func93, Tryz.ntmps93
   go_wp2_with fail
   refine ((HHX.out _)).mono ?_; rintro e_ w5 ⟨rfl, hb5⟩; dsimp only
   have x0' := (hx.below hb5).cell (k := 0) rfl
   have x1' := (hx.below hb5).cell (k := 1) rfl
   have x2' := (hx.below hb5).cell (k := 2) rfl
   have hb05 := hb.trans (hb5.mono hb.size)
   go_wp2_with fail
   go_loopg [46] 1 (fun gn i wr => gn = 1 ∧ i = .int .i64 0 ∧ Below w.heap.size w wr)
   case atStart => exact ⟨rfl, rfl, hb05⟩
   case round =>
    obtain ⟨hgk, rfl, hbl⟩ := hrel
    clear hgk
    go_wp2_with fail
    go_ret
    exact ⟨rfl, hbl⟩
end Go.Proofs.YtngfnjekjfeacaaGreat
namespace Go.Proofs.YtngfnjekjfeacaaGreat
open Go.RowKit Go.Maps
set_option linter.unusedVariables false
set_option linter.unusedSimpArgs false
set_option maxRecDepth 100000
theorem Q4 {bl : List BlobP} {d : List UInt8} {L : List (List UInt8)} (h : StrL L (Rch bl [d])) : ((L.length : Int) == 0) = !(bl.any (fun b => b.dig == d)) := by
 cases ha : bl.any (fun b => b.dig == d) with
 | true =>
  obtain ⟨b, hb, e⟩ := List.any_eq_true.1 ha
  have hm := (h.mem d).2 (.root (List.mem_singleton.2 rfl) ⟨b, hb, by simpa using e⟩)
  have := List.length_pos_of_mem hm
  rw [beq_eq_false_iff_ne.2 (by omega)]; rfl
 | false =>
  have hn : L = [] := by
   cases L with
   | nil => rfl
   | cons x L =>
    exfalso
    have hx := (h.mem x).1 (by simp)
    have key : ∀ y, Rch bl [d] y → InB bl d := fun y hy => by
     induction hy with
     | root h1 h2 => rw [List.mem_singleton] at h1; subst h1; exact h2
     | step _ _ _ ih => exact ih
    obtain ⟨b, hb, e⟩ := key x hx
    have := List.any_eq_false.1 ha b hb
    simp [e] at this
  rw [hn]; rfl
set_option maxHeartbeats 4000000 in
theorem KN (gs c : Nat) (A : Option Addr) (bl : List BlobP) (d : List UInt8) (w : World) (hl : bl.length ≤ 1000) (hcap : bl.length ≤ c) (hcm : c ≤ maxLen) (hdig : ∀ x ∈ bl, x.dig.length ≤ 1000) (hrd : Rw BlobS w A bl) (hx : w.cell? ⟨gs, 0, none⟩ = some (.slice A bl.length c)) :
  Calls Tryz.prog 98 #[.string ⟨d.toArray⟩, .pointer (some ⟨gs, 0, none⟩)] w fun e w' => e = .returned (.bool (!(bl.any (fun b => b.dig == d)))) ∧ Below w.heap.size w w' := by
 have hb1 := (Below.refl w.heap.size w).alloc (Nat.le_refl _) (.cells #[.string ⟨d.toArray⟩] 9)
 have hbx : Arr (w.alloc (.cells #[.string ⟨d.toArray⟩] 9)) w.heap.size 9 (strs [d]) := Arr.new w 9 _
 have HFR := Lib.hid (uu A (some ⟨w.heap.size, 0, none⟩) c 1 bl [d] _ hl hcap hcm hdig (hrd.below hb1) (by simp) (Rd.of_arr hbx rfl rfl))
 clear hrd hbx
 go_enter Tryz.func98, Tryz.ntmps98
 go_wp2_with fail
 refine ((HFR.out)).mono ?_; rintro e_ w2 ⟨v, L, rfl, hL, hLl, hown, hb2⟩; dsimp only
 obtain ⟨Av, cv, rfl, -, -⟩ := Rd.of_own' hown
 have hfn := Q4 hL
 go_wp2_with fail
 go_ret
 rw [← hfn]
 exact ⟨rfl, hb1.trans (hb2.mono hb1.size)⟩
theorem jk (w w0 : World) (g : Option Nat) (gs c : Nat) (A : Option Addr) (bl : List BlobP) (l : List (List UInt8)) (hl : bl.length ≤ 1000) (hcap : bl.length ≤ c) (hcm : c ≤ maxLen) (hdig : ∀ x ∈ bl, x.dig.length ≤ 1000) (hrd : Rw BlobS w0 A bl) (hx : w0.cell? ⟨gs, 0, none⟩ = some (.slice A bl.length c)) (hgs : gs < w0.heap.size) (hB : ∀ W, w.grownBy W g → Below w0.heap.size w0 W) :
  Zj w g l 98 (.pointer (some ⟨gs, 0, none⟩)) (fun d => !(bl.any (fun b => b.dig == d))) := by
 refine ⟨fun _ _ => by kernel_rfl, fun b W _ hbel => ?_⟩
 have h := hB W hbel
 exact KN gs c A bl b W hl hcap hcm hdig (hrd.below h) ((h.cell (p := ⟨gs, 0, none⟩) hgs).trans hx)
def prt (bl : List BlobP) : List (List UInt8) := (bl.filter (·.mark)).flatMap fun b => (yB b.data).1.map (·.dig)
theorem uV (bl : List BlobP) (k : Nat) (h : k < bl.length) : prt (bl.take (k + 1)) = prt (bl.take k) ++ (if bl[k].mark then (yB bl[k].data).1.map (·.dig) else []) := by
 unfold prt
 rw [List.take_succ_eq_append_getElem h, List.filter_append, List.flatMap_append]
 congr 1
 by_cases hp : bl[k].mark = true
 ·rw [if_pos hp, List.filter_cons_of_pos hp]; simp
 ·rw [if_neg hp, List.filter_cons_of_neg hp]; rfl
theorem jZ (bl : List BlobP) : ∀ k, k ≤ bl.length → (prt (bl.take k)).length ≤ 8 * k
 | 0, _ => by simp [prt]
 | k + 1, h => by
  have ih := jZ bl k (by omega)
  rw [uV bl k (by omega), List.length_append]
  have := yh (bl[k]'(by omega)).data
  split
  ·rw [List.length_map]; omega
  ·simp only [List.length_nil]; omega
theorem Yi {s : StoP} {cp : ColP} {R : List (List UInt8)} (hg : GoodS s) (hc : GoodC s cp) (hp : cp.phase = 1) (hR : StrL R (fun x => x ∈ rts s)) : ∀ x ∈ (R ++ prt s.blobs).filter (fun d => !(!(s.blobs.any (fun b => b.dig == d)))), x ∈ mkd s.blobs ++ cp.grey := by
 intro x hx
 obtain ⟨h1, h2⟩ := List.mem_filter.1 hx
 rw [Bool.not_not] at h2
 obtain ⟨b, hb, e⟩ := List.any_eq_true.1 h2
 have hin : InB s.blobs x := ⟨b, hb, by simpa using e⟩
 rw [List.mem_append]
 rcases List.mem_append.1 h1 with h | h
 ·exact hc.mr hp x ((hR.mem x).1 h) hin
 ·obtain ⟨y, hy, hyx⟩ := List.mem_flatMap.1 h
  obtain ⟨hy1, hy2⟩ := List.mem_filter.1 hy
  exact hc.mb hp y hy1 (by simpa using hy2) x (by rw [xL hg.b.ris hy1]; exact hyx) hin
end Go.Proofs.YtngfnjekjfeacaaGreat
