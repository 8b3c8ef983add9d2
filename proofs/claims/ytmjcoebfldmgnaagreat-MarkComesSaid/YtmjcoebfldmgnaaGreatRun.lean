/- evict.Run. Conditions: a store that may be, a number of bytes that may be. -/
import Derived.Test.YtmjcoebfldmgnaaGreatCle
import Derived.Test.YtmjcoebfldmgnaaGreatEvP
namespace Go.Proofs.YtmjcoebfldmgnaaGreat
open Go.RowKit
set_option linter.unusedVariables false
set_option linter.unusedSimpArgs false
set_option maxRecDepth 100000

theorem own_ne2 {w : World} {base base' size size' n n' : Nat} {e e' : TypeId} {v v' : Value} {xs xs' : List Value} (h : w.ownsRow base e size v n xs) (h' : w.ownsRow base' e' size' v' n' xs') (hne : e ≠ e') : ∀ b, v.ownBlock = some b → v'.ownBlock ≠ some b := fun b hb hb' => by
  rcases h.2 with ⟨rfl, _⟩ | ⟨g, cap, cur, rfl, _, h2, _⟩
  · cases hb
  · cases hb
    rcases h'.2 with ⟨rfl, _⟩ | ⟨g', cap', cur', rfl, _, h3, _⟩
    · cases hb'
    · cases hb'
      have h4 := Eq.trans (Eq.symm h2) h3
      simp only [Option.some.injEq, Obj.cells.injEq] at h4
      exact hne h4.2.1
theorem RwX.own {α : Type} {S : Shp α} {w : World} {e : TypeId} {base : Nat} {v : Value} {l : List α} {N : Nat → Prop} (h : RwX S e w base v l N) : ∃ xs, w.ownsRow base e S.size v l.length xs := by
  obtain ⟨ps, _, _, h3, _⟩ := h
  exact ⟨_, h3⟩
theorem OwSt.turnE {w w' : World} {base : Nat} {v1 v2 v2' : Value} {s : StoP} {N : Nat → Prop} {l : List EntP} (h : OwSt w base v1 v2 s N) (hb : RwX EntS 45 w' base v2' l (fun g => N g ∨ v1.ownBlock = some g)) (hg : w.grownBy w' v2.ownBlock) (ho : v2'.ownBlock = v2.ownBlock) :
    OwSt w' base v1 v2' { s with ents := l } N :=
  ⟨by rw [ho]; exact h.b.other hg (fun b e1 e2 => h.ne b e2 e1) (fun b e => .inr e), hb, fun g e1 e2 => h.ne g e1 (by rw [← ho]; exact e2)⟩
/-- while Run goes on: the store's box, its rows, the keys that are gone -/
structure RunW (w : World) (B G : Nat) (v1 v2 v3 : Value) (t : StoP) (g : List (List UInt8)) : Prop where
  box : Arr w G 26 [v1, v2, .int .i64 (t.room : Int), .int .i64 (t.clock : Int)]
  st : OwSt w B v1 v2 t (fun b => b < B ∨ b = G ∨ v3.ownBlock = some b)
  gone : w.ownsRow B 9 1 v3 g.length (strs g)
  gB : B ≤ G
section
variable {w w' : World} {B G : Nat} {v1 v2 v3 v1' v2' v3' : Value} {t : StoP} {g : List (List UInt8)}
theorem RunW.below (h : RunW w B G v1 v2 v3 t g) (hb : Below w.heap.size w w') : RunW w' B G v1 v2 v3 t g := ⟨h.box.below hb, h.st.below hb, own_below h.gone hb, h.gB⟩
theorem RunW.n1 (h : RunW w B G v1 v2 v3 t g) : ∀ b, v3.ownBlock = some b → v1.ownBlock ≠ some b := by
  obtain ⟨xs, hx⟩ := h.st.b.own
  exact own_ne2 h.gone hx (by decide)
theorem RunW.n2 (h : RunW w B G v1 v2 v3 t g) : ∀ b, v3.ownBlock = some b → v2.ownBlock ≠ some b := by
  obtain ⟨xs, hx⟩ := h.st.e.own
  exact own_ne2 h.gone hx (by decide)
theorem RunW.n3 (h : RunW w B G v1 v2 v3 t g) : v3.ownBlock ≠ some G := own_ne h.gone h.box (by decide)
theorem RunW.n4 (h : RunW w B G v1 v2 v3 t g) : v1.ownBlock ≠ some G := by
  obtain ⟨xs, hx⟩ := h.st.b.own
  exact own_ne hx h.box (by decide)
theorem RunW.n5 (h : RunW w B G v1 v2 v3 t g) : v2.ownBlock ≠ some G := by
  obtain ⟨xs, hx⟩ := h.st.e.own
  exact own_ne hx h.box (by decide)
theorem RunW.lt (h : RunW w B G v1 v2 v3 t g) : G < w.heap.size := h.box.lt
/-- one key more -/
theorem RunW.key (h : RunW w B G v1 v2 v3 t g) {g' : List (List UInt8)} (ho : w'.ownsRow B 9 1 v3' g'.length (strs g')) (hg : w.grownBy w' v3.ownBlock) (hv : v3'.ownBlock = v3.ownBlock ∨ ∃ b, v3'.ownBlock = some b ∧ w.heap.size ≤ b) : RunW w' B G v1 v2 v3' t g' := by
  have h1 : OwSt w B v1 v2 t (fun b => b < B ∨ b = G ∨ v3'.ownBlock = some b ∨ v3.ownBlock = some b) := h.st.wider fun b hb => by
    rcases hb with hb | hb | hb | hb
    · exact .inl (.inl hb)
    · exact .inl (.inr (.inl hb))
    · rcases hv with e | ⟨b', e, hb'⟩
      · exact .inl (.inr (.inr (by rw [← e]; exact hb)))
      · rw [e] at hb; cases hb; exact .inr hb'
    · exact .inl (.inr (.inr hb))
  have h2 : OwSt w' B v1 v2 t (fun b => b < B ∨ b = G ∨ v3'.ownBlock = some b ∨ v3.ownBlock = some b) :=
    ⟨h1.b.other hg (fun b e => h.n1 b e) (fun b e => .inl (.inr (.inr (.inr e)))), h1.e.other hg (fun b e => h.n2 b e) (fun b e => .inl (.inr (.inr (.inr e)))), h1.ne⟩
  exact ⟨h.box.grown hg h.n3, h2.mono (fun b hb => hb.imp id (fun h => h.imp id .inl)), ho, h.gB⟩
/-- one entry less -/
theorem RunW.del (h : RunW w B G v1 v2 v3 t g) {l : List EntP} (hx : RwX EntS 45 w' B v2' l (fun b => (b < B ∨ b = G ∨ v3.ownBlock = some b) ∨ v1.ownBlock = some b)) (hg : w.grownBy w' v2.ownBlock) (ho : v2'.ownBlock = v2.ownBlock) :
    RunW (w'.setCell ⟨G, 1, none⟩ v2') B G v1 v2' v3 { t with ents := l } g := by
  have h1 := h.st.turnE hx hg ho
  have hb := (h.box.grown hg h.n5).set (k := 1) (by simp) v2'
  have n5 : v2'.ownBlock ≠ some G := by rw [ho]; exact h.n5
  have hgn := h.gone.kept hg (by
    cases hb : v3.ownBlock with
    | none => exact .inl rfl
    | some b => exact .inr (fun e => h.n2 b hb e.symm))
  exact ⟨hb, h1.setX (.inr (.inl rfl)) h.n4 n5 v2', own_other hgn h.n3, h.gB⟩
/-- cleaned -/
theorem RunW.cln_ (h : RunW w B G v1 v2 v3 t g) (hx : OwSt w' B v1' v2 (cln t) (fun b => b < B ∨ b = G ∨ v3.ownBlock = some b)) (hg : w.grownBy w' v1.ownBlock) (ho : v1'.ownBlock = v1.ownBlock) :
    RunW ((((w'.setCell ⟨G, 0, none⟩ v1').setCell ⟨G, 1, none⟩ v2).setCell ⟨G, 2, none⟩ (.int .i64 (t.room : Int))).setCell ⟨G, 3, none⟩ (.int .i64 (t.clock : Int))) B G v1' v2 v3 (cln t) g := by
  have hb := (h.box.grown hg h.n4).all4 v1' v2 (.int .i64 (t.room : Int)) (.int .i64 (t.clock : Int))
  have n4 : v1'.ownBlock ≠ some G := by rw [ho]; exact h.n4
  have hgn := h.gone.kept hg (by
    cases hb : v3.ownBlock with
    | none => exact .inl rfl
    | some b => exact .inr (fun e => h.n1 b hb e.symm))
  refine ⟨hb, ?_, own_other (own_other (own_other (own_other hgn h.n3) h.n3) h.n3) h.n3, h.gB⟩
  exact (((hx.setX (.inr (.inl rfl)) n4 h.n5 _).setX (.inr (.inl rfl)) n4 h.n5 _).setX (.inr (.inl rfl)) n4 h.n5 _).setX (.inr (.inl rfl)) n4 h.n5 _
end
/-- what evict.Run answers -/
noncomputable def RunA (e : Ending) (w w' : World) (s : StoP) : Option (StoP × List (List UInt8)) → Prop
  | some (t, g) => ∃ A c B d v3, e = .returned (.tuple #[.agg #[.slice A t.blobs.length c, .slice B t.ents.length d, .int .i64 (s.room : Int), .int .i64 (s.clock : Int)], v3, .int .i64 0]) ∧ RdSt w' A c B d t ∧ w'.ownsRow w.heap.size 9 1 v3 g.length (strs g)
  | none => e = .returned (.tuple #[.agg #[.slice none 0 0, .slice none 0 0, .int .i64 0, .int .i64 0], .slice none 0 0, .int .i64 10])
/-- the same, with whose memory it is -/
noncomputable def RunB (e : Ending) (w w' : World) (s : StoP) : Option (StoP × List (List UInt8)) → Prop
  | some (t, g) => ∃ v1 v2 v3, e = .returned (.tuple #[.agg #[v1, v2, .int .i64 (s.room : Int), .int .i64 (s.clock : Int)], v3, .int .i64 0]) ∧ OwSt w' w.heap.size v1 v2 t (fun b => b < w.heap.size) ∧ w'.ownsRow w.heap.size 9 1 v3 g.length (strs g)
  | none => e = .returned (.tuple #[.agg #[.slice none 0 0, .slice none 0 0, .int .i64 0, .int .i64 0], .slice none 0 0, .int .i64 10])
set_option maxHeartbeats 16000000 in
theorem RunO_ok (A : Option Addr) (c : Nat) (B : Option Addr) (d : Nat) (s : StoP) (more : Nat) (w : World) (hmore : more ≤ 4000) (hg : GoodS s) (hr : RdSt w A c B d s) :
    Calls Tryz.prog 23 #[.agg #[.slice A s.blobs.length c, .slice B s.ents.length d, .int .i64 (s.room : Int), .int .i64 (s.clock : Int)], .int .i64 (more : Int)] w fun e w' =>
      RunB e w w' s (evRun more s) ∧ Below w.heap.size w w' := by
  have hlb : s.blobs.length ≤ 24 := hg.b.len
  have hle : s.ents.length ≤ 10 := hg.e.len
  have hus := hg.used
  have HRO := Lib.hid hg.room
  have HGD := Lib.hid hg
  obtain ⟨w0, hw0, hS, hR, hb0⟩ := two_new w 26 [.slice A s.blobs.length c, .slice B s.ents.length d, .int .i64 (s.room : Int), .int .i64 (s.clock : Int)] [.slice none 0 0, .slice none 0 0, .int .i64 0, .int .i64 0]
  have hr0 := hr.below hb0
  obtain ⟨H, hH⟩ : ∃ H, H = w.heap.size := ⟨_, rfl⟩
  have HCK := Lib.hid (CheckS_ok A c B d s w0 hg hr0)
  rw [← hH] at hS hR hb0 ⊢
  have hHl : H < w0.heap.size := hS.lt
  have hHr : H + 1 < w0.heap.size := hR.lt
  have x0 := hS.cell (k := 0) rfl
  have x1 := hS.cell (k := 1) rfl
  have x2 := hS.cell (k := 2) rfl
  have x3 := hS.cell (k := 3) rfl
  rw [hw0, hH] at x0 x1 x2 x3
  have HPL := Lib.hid (show ∀ b ∈ s.blobs, b.data.length ≤ 1000000 from fun b hb => by have := (hg.b.one b hb).2.1; omega)
  have HQL := Lib.hid (show ∀ x ∈ s.ents, x.parts.length ≤ 1000000 from fun x hx => by have := (chk_zero (hg.e.one x hx).2.1).1; omega)
  clear hg hr
  go_enter Tryz.func23, Tryz.ntmps23
  repeat' ((fail_if_success at_builtin); (fail_if_success at_make); (first | go_values | go_skip | go_guarded | go_step | go_upon | go_back))
  rw [← hw0, ← hH]
  have HH := Lib.hid hH
  clear hw0 hH x0 x1 x2 x3
  refine ((HCK.out)).mono ?_; rintro e_ w1 ⟨rfl, hb1⟩; dsimp only
  have hr1 := hr0.below hb1
  have hS1 := hS.below hb1
  have z0 := hS1.cell (k := 0) rfl
  have z2 := hS1.cell (k := 2) rfl
  have HLK := Lib.hid (Lacks_ok A c s.blobs s.room more w1 (by omega) (by have := HRO.out; omega) HRO.out hmore hr1.b)
  clear hr0 hS HCK
  repeat' ((fail_if_success at_builtin); (fail_if_success at_make); (first | go_values | go_skip | go_guarded | go_step | go_upon | go_back))
  clear z0 z2
  refine ((HLK.out)).mono ?_; rintro e_ w2 ⟨rfl, hb2⟩; dsimp only
  have hc2 := hb1.trans (hb2.mono hb1.size)
  have hr2 := hr1.below hb2
  have hS2 := hS1.below hb2
  have z0 := hS2.cell (k := 0) rfl
  have z1 := hS2.cell (k := 1) rfl
  have z2 := hS2.cell (k := 2) rfl
  have z3 := hS2.cell (k := 3) rfl
  have HCP := Lib.hid (CopyS_ok A c B d s w2 (by omega) (by omega) HPL.out HQL.out hr2)
  clear hr1 hS1 hb1 hb2 HLK
  repeat' ((fail_if_success at_builtin); (fail_if_success at_make); (first | go_values | go_skip | go_guarded | go_step | go_upon | go_back))
  clear z0 z1 z2 z3
  refine ((HCP.out)).mono ?_; rintro e_ w3 ⟨q1, q2, rfl, ho3, hb3⟩; dsimp only
  have hc3 := hc2.trans (hb3.mono hc2.size)
  have ho3 := ho3.lower (base' := w0.heap.size) hc2.size
  obtain ⟨G, hG⟩ : ∃ G, G = w3.heap.size := ⟨_, rfl⟩
  have HRW := Lib.hid (show RunW (w3.alloc (.cells #[.slice (some ⟨q1, 0, none⟩) s.blobs.length s.blobs.length, .slice (some ⟨q2, 0, none⟩) s.ents.length s.ents.length, .int .i64 (s.room : Int), .int .i64 (s.clock : Int)] 26)) w0.heap.size G (.slice (some ⟨q1, 0, none⟩) s.blobs.length s.blobs.length) (.slice (some ⟨q2, 0, none⟩) s.ents.length s.ents.length) (.slice none 0 0) s [] by
    refine ⟨by rw [hG]; exact Arr.new w3 26 _, ?_, World.ownsRow_nil _ _ _ _, by rw [hG]; exact hc3.size⟩
    refine (ho3.wider fun b hb => ?_).below ((Below.refl w3.heap.size w3).alloc (Nat.le_refl _) _)
    rcases hb with hb | hb | hb
    · exact .inl (Nat.lt_of_lt_of_le hb hc2.size)
    · exact .inr (by rw [hb, hG]; exact Nat.le_refl _)
    · cases hb)
  have HBK := Lib.hid (hc3.alloc hc3.size (.cells #[.slice (some ⟨q1, 0, none⟩) s.blobs.length s.blobs.length, .slice (some ⟨q2, 0, none⟩) s.ents.length s.ents.length, .int .i64 (s.room : Int), .int .i64 (s.clock : Int)] 26))
  have HRES := Lib.hid (show ∀ W, Below w0.heap.size w0 W → Arr W (H + 1) 26 [.slice none 0 0, .slice none 0 0, .int .i64 0, .int .i64 0] from fun W h => hR.below h)
  have HB0 := Lib.hid hb0
  have HG := Lib.hid hG
  clear hS2 hR hc2 hc3 ho3 hb3 hr2 HCP hb0 hG
  repeat' ((fail_if_success at_builtin); (fail_if_success at_make); (first | go_values | go_skip | go_guarded | go_step | go_upon | go_back))
  rw [← HG.out]
  generalize (w3.alloc (.cells #[.slice (some ⟨q1, 0, none⟩) s.blobs.length s.blobs.length, .slice (some ⟨q2, 0, none⟩) s.ents.length s.ents.length, .int .i64 (s.room : Int), .int .i64 (s.clock : Int)] 26)) = w4 at *
  go_loopg [8, 11, 12] (s.ents.length + 1) (fun gn u8 u11 u12 wr => ∃ (t : StoP) (g : List (List UInt8)) (v1 v2 v3 : Value) (f : Bool) (lk : Nat), gn = t.ents.length + (if f then 1 else 0) ∧ u8 = .int .i64 (lk : Int) ∧ u11 = v3 ∧ u12 = .bool f ∧ lk = usd t.blobs + more - t.room ∧ GoodS t ∧ RunW wr w0.heap.size G v1 v2 v3 t g ∧ Below w0.heap.size w0 wr ∧ (if f then t = s ∧ g = [] else evGo more (t.ents.length + 1) t g = evRun more s) ∧ t.room = s.room ∧ t.clock = s.clock ∧ g.length + t.ents.length ≤ 10)
  case atStart => exact ⟨s, [], _, _, _, true, _, rfl, rfl, rfl, rfl, rfl, HGD.out, HRW.out, HBK.out, ⟨rfl, rfl⟩, rfl, rfl, by simpa using hle⟩
  case round =>
    obtain ⟨t, g, v1, v2, v3, f, lk, hgn, rfl, rfl, rfl, hlk, hgt, RW, hbk, hev, hrm, hck, hgl⟩ := hrel
    have HGN := Lib.hid hgn
    have HLKE := Lib.hid hlk
    have HT := Lib.hid hgt
    have HEV0 := Lib.hid hev
    have HRM := Lib.hid hrm
    have HCK2 := Lib.hid hck
    have hlt := hgt.e.len
    have hlkm : lk ≤ 100000 := by have := hgt.used; have := hgt.room; omega
    clear hgn hlk hgt hev hrm hck HRW HBK
    rcases Nat.eq_zero_or_pos lk with h0 | h0
    · have hd0 : decide ((lk : Int) > 0) = false := decide_eq_false (by omega)
      have hd1 : decide ((0 : Int) < (lk : Int)) = false := decide_eq_false (by omega)
      have hd2 : decide (0 < lk) = false := decide_eq_false (by omega)
      have HEN := Lib.hid (show evRun more s = some (t, g) by
        have hev := HEV0.out
        have h1 : usd t.blobs + more ≤ t.room := by have := HLKE.out; omega
        cases f with
        | true =>
          obtain ⟨rfl, rfl⟩ : t = s ∧ g = [] := hev
          unfold evRun; rw [if_pos h1]
        | false =>
          have hev' : evGo more (t.ents.length + 1) t g = evRun more s := hev
          rw [← hev', evGo, if_pos h1])
      obtain ⟨A6, c6, B6, d6, e61, e62, hrd6⟩ := RW.st.rows
      subst e61 e62
      have hbx := RW.box
      rw [HRM.out, HCK2.out] at hbx
      have b0 := hbx.cell (k := 0) rfl
      have b1 := hbx.cell (k := 1) rfl
      have b2 := hbx.cell (k := 2) rfl
      have b3 := hbx.cell (k := 3) rfl
      have hcp := CopyS_ok A6 c6 B6 d6 t wr (by have := HT.out.b.len; omega) (by omega) (fun b hb => by have := (HT.out.b.one b hb).2.1; omega) (fun x hx => by have := (chk_zero (HT.out.e.one x hx).2.1).1; omega) hrd6
      rw [HRM.out, HCK2.out] at hcp
      have HCP := Lib.hid hcp
      have HGO := Lib.hid RW.gone
      have HBK9 := Lib.hid hbk
      clear hcp hbx hrd6 RW hbk
      repeat' ((fail_if_success at_builtin); (fail_if_success at_make); (first | go_values | go_skip | go_guarded | go_step | go_upon | go_back))
      clear b0 b1 b2 b3
      refine ((HCP.out)).mono ?_; rintro e_ w9 ⟨g1, g2, rfl, ho9, hb9⟩; dsimp only
      have hbk9 := HBK9.out.trans (hb9.mono HBK9.out.size)
      have hR9 := HRES.out _ hbk9
      have hb19 := HB0.out.trans (hbk9.mono (Nat.le_of_lt hHl))
      obtain ⟨A9, c9, B9, d9, e91, e92, hrd9⟩ := ho9.rows
      have hgo9 := own_below HGO.out hb9
      have n1 : u11.ownBlock ≠ some (H + 1) := own_ne hgo9 hR9 (by decide)
      have f0 := hR9.frozen 0
      have f1 := hR9.frozen 1
      have f2 := hR9.frozen 2
      have f3 := hR9.frozen 3
      have y0 := hR9.cell (k := 0) rfl
      have y1 := hR9.cell (k := 1) rfl
      have y2 := hR9.cell (k := 2) rfl
      have y3 := hR9.cell (k := 3) rfl
      have hfin := hR9.all4 (.slice (some ⟨g1, 0, none⟩) t.blobs.length t.blobs.length) (.slice (some ⟨g2, 0, none⟩) t.ents.length t.ents.length) (.int .i64 (s.room : Int)) (.int .i64 (s.clock : Int))
      have hwb := HBK9.out.size
      have hoF := (((ho9.set (g := H + 1) (k := 0) (by omega) (by omega) (.slice (some ⟨g1, 0, none⟩) t.blobs.length t.blobs.length)).set (g := H + 1) (k := 1) (by omega) (by omega) (.slice (some ⟨g2, 0, none⟩) t.ents.length t.ents.length)).set (g := H + 1) (k := 2) (by omega) (by omega) (.int .i64 (s.room : Int))).set (g := H + 1) (k := 3) (by omega) (by omega) (.int .i64 (s.clock : Int))
      have hbF := (((hb19.setCell (p := ⟨H + 1, 0, none⟩) (by simp only; omega) (.slice (some ⟨g1, 0, none⟩) t.blobs.length t.blobs.length)).setCell (p := ⟨H + 1, 1, none⟩) (by simp only; omega) (.slice (some ⟨g2, 0, none⟩) t.ents.length t.ents.length)).setCell (p := ⟨H + 1, 2, none⟩) (by simp only; omega) (.int .i64 (s.room : Int))).setCell (p := ⟨H + 1, 3, none⟩) (by simp only; omega) (.int .i64 (s.clock : Int))
      have HGO9 := Lib.hid (own_lower (own_other (k := 3) (u := .int .i64 (s.clock : Int)) (own_other (k := 2) (u := .int .i64 (s.room : Int)) (own_other (k := 1) (u := .slice (some ⟨g2, 0, none⟩) t.ents.length t.ents.length) (own_other (k := 0) (u := .slice (some ⟨g1, 0, none⟩) t.blobs.length t.blobs.length) hgo9 n1) n1) n1) n1) (Nat.le_of_lt hHl))
      have HOF := Lib.hid hoF
      have HBF := Lib.hid hbF
      have HFIN := Lib.hid hfin
      clear hfin hoF hbF hgo9 ho9 hb9 hbk9 hR9 hb19 e91 e92 hrd9 hwb n1
      repeat' ((fail_if_success at_builtin); (fail_if_success at_make); (first | go_values | go_skip | go_guarded | go_step | go_upon | go_back))
      refine bodyPost_ret (res_cell_tmp2 rfl _ _ (H + 1) _ _ _ _ (by rfl) HFIN.out Tryz.underlying26 rfl (by kernel_rfl)) rfl ?_
      rw [HEN.out]
      have hwr : H ≤ wr.heap.size := by have := HBK9.out.size; omega
      refine ⟨⟨_, _, u11, rfl, (HOF.out.lower (by rw [← HH.out]; exact hwr)).mono (fun b hb => ?_), by rw [← HH.out]; exact HGO9.out⟩, HBF.out⟩
      rw [← HH.out] at hb; omega
    · have hd0 : decide ((lk : Int) > 0) = true := decide_eq_true (by omega)
      have hd1 : decide ((0 : Int) < (lk : Int)) = true := decide_eq_true (by omega)
      have hd2 : decide (0 < lk) = true := decide_eq_true (by omega)
      have HNF := Lib.hid (show ¬ usd t.blobs + more ≤ t.room by have := HLKE.out; omega)
      cases f with
      | true =>
        have HEV := Lib.hid (show evGo more ((cln t).ents.length + 1) (cln t) g = evRun more s by
          obtain ⟨rfl, rfl⟩ : t = s ∧ g = [] := HEV0.out
          unfold evRun; rw [if_neg HNF.out]; rfl)
        have HMS := Lib.hid (show (cln t).ents.length < gk by rw [cln_ents]; have := HGN.out; rw [if_pos rfl] at this; omega)
        have HGL := Lib.hid hgl
        obtain ⟨A1, c1, B2, d2, e1, e2, _⟩ := RW.st.rows
        subst e1 e2
        have hcln := clean_ok w0.heap.size (.slice A1 t.blobs.length c1) (.slice B2 t.ents.length d2) t wr _ HT.out RW.st
        simp only [stV, cln_room, cln_clock] at hcln
        rw [HRM.out, HCK2.out] at hcln
        have HCL := Lib.hid hcln
        clear hcln
        have hbx := RW.box
        rw [HRM.out, HCK2.out] at hbx
        have b0 := hbx.cell (k := 0) rfl
        have b1 := hbx.cell (k := 1) rfl
        have b2 := hbx.cell (k := 2) rfl
        have b3 := hbx.cell (k := 3) rfl
        clear hbx
        have HRW := Lib.hid RW
        clear RW
        repeat' ((fail_if_success at_builtin); (fail_if_success at_make); (first | go_values | go_skip | go_guarded | go_step | go_upon | go_back))
        clear b0 b1 b2 b3
        refine ((HCL.out)).mono ?_; rintro e_ w6 ⟨v1', rfl, ho6, hg6, hob6⟩; dsimp only
        have hv1b : ∀ b, ((.slice A1 t.blobs.length c1) : Value).ownBlock = some b → w0.heap.size ≤ b := fun b e => (HRW.out.st.b.rwo.blk e).1
        have hbk6 := hbk.grown hg6 hbk.size hv1b
        have hbx6 := HRW.out.box.grown hg6 HRW.out.n4
        have RW6 := HRW.out.cln_ ho6 hg6 hob6
        rw [HRM.out, HCK2.out] at hbx6 RW6
        have f0 := hbx6.frozen 0
        have f1 := hbx6.frozen 1
        have f2 := hbx6.frozen 2
        have f3 := hbx6.frozen 3
        have b0 := hbx6.cell (k := 0) rfl
        have b1 := hbx6.cell (k := 1) rfl
        have b2 := hbx6.cell (k := 2) rfl
        have b3 := hbx6.cell (k := 3) rfl
        have hHG : w0.heap.size ≤ G := HRW.out.gB
        have hbk7 := (((hbk6.setCell (p := ⟨G, 0, none⟩) hHG v1').setCell (p := ⟨G, 1, none⟩) hHG (.slice B2 t.ents.length d2)).setCell (p := ⟨G, 2, none⟩) hHG (.int .i64 (s.room : Int))).setCell (p := ⟨G, 3, none⟩) hHG (.int .i64 (s.clock : Int))
        clear hbx6 hbk6 ho6 hg6 hob6
        obtain ⟨A6, c6, B6, d6, e61, e62, hrd6⟩ := RW6.st.rows
        have hgt := HT.out
        have hgt6 := cln_good hgt
        have hus6 := hgt6.used
        have hrm6 := hgt6.room
        have hln6 := hgt6.b.len
        have HLK := Lib.hid (show ∀ W, Rw BlobS W A6 (cln t).blobs → Calls Tryz.prog 65 #[.slice A6 (cln t).blobs.length c6, .int .i64 (s.room : Int), .int .i64 (more : Int)] W fun e w' => e = .returned (.tuple #[.int .i64 ((usd (cln t).blobs + more - s.room : Nat) : Int), .int .i64 0]) ∧ Below W.heap.size W w' from fun W h => Lacks_ok A6 c6 (cln t).blobs s.room more W (by omega) (by rw [cln_room] at hus6 hrm6; omega) HRO.out hmore h)
        subst e61
        clear e62
        clear hgt hgt6 hus6 hrm6
        repeat' ((fail_if_success at_builtin); (fail_if_success at_make); (first | go_values | go_skip | go_guarded | go_step | go_upon | go_back))
        clear f0 f1 f2 f3 b0 b1 b2 b3
        generalize ((((w6.setCell ⟨G, 0, none⟩ (.slice A6 (cln t).blobs.length c6)).setCell ⟨G, 1, none⟩ (.slice B2 t.ents.length d2)).setCell ⟨G, 2, none⟩ (.int .i64 (s.room : Int))).setCell ⟨G, 3, none⟩ (.int .i64 (s.clock : Int))) = w7 at *
        refine ((HLK.out _ hrd6.b)).mono ?_; rintro e_ w8 ⟨rfl, hb8⟩; dsimp only
        have hbk8 := hbk7.trans (hb8.mono hbk7.size)
        have RW8 := RW6.below hb8
        have HR8 := Lib.hid RW8
        have HBK8 := Lib.hid hbk8
        have HGT := Lib.hid (cln_good HT.out)
        clear RW6 RW8 hrd6 hb8 hbk7 hbk8 HCL HLK hln6
        repeat' ((fail_if_success at_builtin); (fail_if_success at_make); (first | go_values | go_skip | go_guarded | go_step | go_upon | go_back))
        go_roundg (cln t).ents.length
        case measure => exact HMS.out
        case rel => exact ⟨cln t, g, .slice A6 (cln t).blobs.length c6, (.slice B2 t.ents.length d2), u11, false, _, rfl, rfl, rfl, rfl, by rw [cln_room, HRM.out], HGT.out, HR8.out, HBK8.out, HEV.out, HRM.out, HCK2.out, by rw [cln_ents]; exact HGL.out⟩
      | false =>
        have hev' : evGo more (t.ents.length + 1) t g = evRun more s := HEV0.out
        rw [evGo, if_neg HNF.out] at hev'
        obtain ⟨A1, c1, B2, d2, e1, e2, hrd1⟩ := RW.st.rows
        subst e2
        clear e1
        have HOL := Lib.hid (Oldest_ok B2 d2 t.ents wr (by omega) hrd1.e)
        have b1 := RW.box.cell (k := 1) rfl
        cases ho : oldK t.ents t.ents.length with
        | none =>
          rw [ho] at hev' HOL
          have HEV := Lib.hid hev'
          have HRW := Lib.hid RW
          clear hev' hrd1 RW
          repeat' ((fail_if_success at_builtin); (fail_if_success at_make); (first | go_values | go_skip | go_guarded | go_step | go_upon | go_back))
          clear b1
          refine ((HOL.out)).mono ?_; rintro e_ w5 ⟨rfl, hb5⟩; dsimp only
          rw [fndR]
          have hbk9 := hbk.trans (hb5.mono hbk.size)
          have hR9 := HRES.out _ hbk9
          have hb19 := HB0.out.trans (hbk9.mono (Nat.le_of_lt hHl))
          have f0 := hR9.frozen 0
          have f1 := hR9.frozen 1
          have f2 := hR9.frozen 2
          have f3 := hR9.frozen 3
          have y0 := hR9.cell (k := 0) rfl
          have y1 := hR9.cell (k := 1) rfl
          have y2 := hR9.cell (k := 2) rfl
          have y3 := hR9.cell (k := 3) rfl
          have hfin := hR9.all4 (.slice none 0 0) (.slice none 0 0) (.int .i64 0) (.int .i64 0)
          have hbF := (((hb19.setCell (p := ⟨H + 1, 0, none⟩) (by simp only; omega) (.slice none 0 0)).setCell (p := ⟨H + 1, 1, none⟩) (by simp only; omega) (.slice none 0 0)).setCell (p := ⟨H + 1, 2, none⟩) (by simp only; omega) (.int .i64 0)).setCell (p := ⟨H + 1, 3, none⟩) (by simp only; omega) (.int .i64 0)
          have HBF := Lib.hid hbF
          have HFIN := Lib.hid hfin
          clear hfin hbF hbk9 hR9 hb19 hb5 hbk
          repeat' ((fail_if_success at_builtin); (fail_if_success at_make); (first | go_values | go_skip | go_guarded | go_step | go_upon | go_back))
          refine bodyPost_ret (res_cell_tmp2 rfl _ _ (H + 1) _ _ _ _ (by rfl) HFIN.out Tryz.underlying26 rfl (by kernel_rfl)) rfl ?_
          rw [← HEV.out]
          exact ⟨rfl, HBF.out⟩
        | some i0 =>
          have hi := (oldK_lt t.ents _ i0 ho).2
          rw [ho] at hev' HOL
          simp only [List.getElem?_eq_getElem hi] at hev'
          have hlen0 : 0 < t.ents.length := by omega
          obtain ⟨g2, d2', e2, _, _, _, _⟩ := RW.st.e.rwo.nonnil hlen0
          injection e2 with e21 e22 e23
          subst e21 e23
          clear e22
          have HEV2 := Lib.hid hev'
          have HO := Lib.hid ho
          clear hev' ho hrd1
          repeat' ((fail_if_success at_builtin); (fail_if_success at_make); (first | go_values | go_skip | go_guarded | go_step | go_upon | go_back))
          clear b1
          refine ((HOL.out)).mono ?_; rintro e_ w5 ⟨rfl, hb5⟩; dsimp only
          rw [fndR]
          have hbk5 := hbk.trans (hb5.mono hbk.size)
          have RW5 := RW.below hb5
          obtain ⟨A1', c1', B2', d2'', e1, e2, hrd5⟩ := RW5.st.rows
          clear e1
          cases e2
          have b1 := RW5.box.cell (k := 1) rfl
          obtain ⟨b, off, Bx, cc, e9, hbb, y0, y1, y2, y3, _⟩ := hrd5.e.ent_at i0 hi
          cases e9
          have hi0 : (0 : Int) ≤ (i0 : Int) := by omega
          have hi1 : (i0 : Int) < (t.ents.length : Int) := by omega
          have hw1 : IntKind.i64.wrap ((i0 : Int) + 1) = (i0 : Int) + 1 := IntWalk.i64_in _ (by omega)
          have HRW5 := Lib.hid RW5
          have hgn5 := RW5.gone
          have HBK5 := Lib.hid hbk5
          have hB5 : w0.heap.size ≤ w5.heap.size := hbk5.size
          obtain ⟨kx, hkx⟩ : ∃ k, k = t.ents[i0].key := ⟨_, rfl⟩
          rw [← hkx] at y0 HEV2
          have HKX := Lib.hid hkx
          simp only [Nat.zero_add] at y0
          clear hb5 hbk hbk5 RW RW5 hrd5 hbb hkx y1 y2 y3
          repeat' ((fail_if_success at_builtin); (fail_if_success at_make); (first | go_values | go_skip | go_guarded | go_step | go_upon | go_back))
          refine wpList_apN rfl (.tmp 49) (.tmp 56) rfl elStrS (by rfl) hgn5 (us := [.string ⟨kx.toArray⟩]) (by rfl) rfl (by intro u hu; rw [List.mem_singleton.1 hu]; rfl) (by omega) hB5 ?_
          intro v9 w9 ho9 hg9 hv9
          clear y0 b1
          have ho9' : w9.ownsRow w0.heap.size 9 1 v9 (g ++ [kx]).length (strs (g ++ [kx])) := by rw [strs_app, List.length_append]; exact ho9
          have RW9 := HRW5.out.key ho9' hg9 hv9
          have hbk9 := HBK5.out.grown hg9 hB5 (fun b e => (hgn5.lt b e).1)
          have b1 := RW9.box.cell (k := 1) rfl
          have f1 := RW9.box.frozen 1
          have HRW9 := Lib.hid RW9
          have HDL := Lib.hid (DelE_ok g2 i0 t.ents w0.heap.size d2 w9 _ hi RW9.st.e)
          have hB9 : w0.heap.size ≤ w9.heap.size := hbk9.size
          clear ho9 ho9' hg9 hv9 RW9 hgn5 f1
          repeat' ((fail_if_success at_builtin); (fail_if_success at_make); (first | go_values | go_skip | go_guarded | go_step | go_upon | go_back))
          clear b1
          refine ((HDL.out)).mono ?_; rintro e_ w10 ⟨rfl, hx10, hg10⟩; dsimp only
          have hbx10 := HRW9.out.box.grown hg10 HRW9.out.n5
          rw [HRM.out, HCK2.out] at hbx10
          have b0 := hbx10.cell (k := 0) rfl
          have b1 := hbx10.cell (k := 1) rfl
          have b2 := hbx10.cell (k := 2) rfl
          have b3 := hbx10.cell (k := 3) rfl
          have f1 := hbx10.frozen 1
          have RW := HRW9.out.del hx10 hg10 rfl
          have hbkA := (hbk9.grown hg10 hB9 (fun b e => by cases e; exact (HRW9.out.st.e.rwo.blk rfl).1)).setCell (p := ⟨G, 1, none⟩) HRW9.out.gB (.slice (some ⟨g2, 0, none⟩) (t.ents.eraseIdx i0).length d2)
          have HT1 := Lib.hid (drop_good HT.out (List.eraseIdx_sublist t.ents i0))
          have HEV := Lib.hid (show evGo more ((cln { t with ents := t.ents.eraseIdx i0 }).ents.length + 1) (cln { t with ents := t.ents.eraseIdx i0 }) (g ++ [kx]) = evRun more s by
            rw [cln_ents]
            show evGo more ((t.ents.eraseIdx i0).length + 1) _ _ = _
            rw [List.length_eraseIdx_of_lt hi, Nat.sub_add_cancel hlen0]
            exact HEV2.out)
          have HMS := Lib.hid (show (cln { t with ents := t.ents.eraseIdx i0 }).ents.length < gk by
            rw [cln_ents]
            show (t.ents.eraseIdx i0).length < gk
            rw [List.length_eraseIdx_of_lt hi]
            have := HGN.out
            rw [if_neg (by decide)] at this
            omega)
          have HGL := Lib.hid (show (g ++ [kx]).length + (t.ents.eraseIdx i0).length ≤ 10 by
            rw [List.length_eraseIdx_of_lt hi, List.length_append]
            simp only [List.length_cons, List.length_nil]
            omega)
          have hlt1 : (t.ents.eraseIdx i0).length ≤ 10 := by rw [List.length_eraseIdx_of_lt hi]; omega
          obtain ⟨A1, c1, _, _, e1, _, _⟩ := HRW9.out.st.rows
          subst e1
          clear hx10 hg10 hbk9 HEV2 HDL HOL hbx10
          repeat' ((fail_if_success at_builtin); (fail_if_success at_make); (first | go_values | go_skip | go_guarded | go_step | go_upon | go_back))
          clear b0 b1 b2 b3 f1
          generalize hwx : (w10.setCell ⟨G, 1, none⟩ (.slice (some ⟨g2, 0, none⟩) (t.ents.eraseIdx i0).length d2)) = w11 at *
          clear hwx
          have HRM1 := Lib.hid (show ({ t with ents := t.ents.eraseIdx i0 } : StoP).room = s.room from HRM.out)
          have HCK3 := Lib.hid (show ({ t with ents := t.ents.eraseIdx i0 } : StoP).clock = s.clock from HCK2.out)
          have hlt1' : ({ t with ents := t.ents.eraseIdx i0 } : StoP).ents.length ≤ 10 := hlt1
          have HGL := Lib.hid (show (g ++ [kx]).length + ({ t with ents := t.ents.eraseIdx i0 } : StoP).ents.length ≤ 10 from HGL.out)
          clear HT HRM HCK2 hlt1 hlt
          generalize ({ t with ents := t.ents.eraseIdx i0 } : StoP) = t1 at *
          generalize (g ++ [kx]) = gn1 at *
          have HT := HT1
          have HRM := HRM1
          have HCK2 := HCK3
          have hlt := hlt1'
          have hbk := hbkA
          clear HT1 HRM1 HCK3 hlt1' hbkA
          have hcln := clean_ok w0.heap.size (.slice A1 t.blobs.length c1) (.slice (some ⟨g2, 0, none⟩) (t.ents.eraseIdx i0).length d2) t1 w11 _ HT.out RW.st
          simp only [stV, cln_room, cln_clock] at hcln
          rw [HRM.out, HCK2.out] at hcln
          have HCL := Lib.hid hcln
          clear hcln
          have hbx := RW.box
          rw [HRM.out, HCK2.out] at hbx
          have b0 := hbx.cell (k := 0) rfl
          have b1 := hbx.cell (k := 1) rfl
          have b2 := hbx.cell (k := 2) rfl
          have b3 := hbx.cell (k := 3) rfl
          clear hbx
          have HRW := Lib.hid RW
          clear RW
          repeat' ((fail_if_success at_builtin); (fail_if_success at_make); (first | go_values | go_skip | go_guarded | go_step | go_upon | go_back))
          clear b0 b1 b2 b3
          refine ((HCL.out)).mono ?_; rintro e_ w6 ⟨v1', rfl, ho6, hg6, hob6⟩; dsimp only
          have hv1b : ∀ b, ((.slice A1 t.blobs.length c1) : Value).ownBlock = some b → w0.heap.size ≤ b := fun b e => (HRW.out.st.b.rwo.blk e).1
          have hbk6 := hbk.grown hg6 hbk.size hv1b
          have hbx6 := HRW.out.box.grown hg6 HRW.out.n4
          have RW6 := HRW.out.cln_ ho6 hg6 hob6
          rw [HRM.out, HCK2.out] at hbx6 RW6
          have f0 := hbx6.frozen 0
          have f1 := hbx6.frozen 1
          have f2 := hbx6.frozen 2
          have f3 := hbx6.frozen 3
          have b0 := hbx6.cell (k := 0) rfl
          have b1 := hbx6.cell (k := 1) rfl
          have b2 := hbx6.cell (k := 2) rfl
          have b3 := hbx6.cell (k := 3) rfl
          have hHG : w0.heap.size ≤ G := HRW.out.gB
          have hbk7 := (((hbk6.setCell (p := ⟨G, 0, none⟩) hHG v1').setCell (p := ⟨G, 1, none⟩) hHG (.slice (some ⟨g2, 0, none⟩) (t.ents.eraseIdx i0).length d2)).setCell (p := ⟨G, 2, none⟩) hHG (.int .i64 (s.room : Int))).setCell (p := ⟨G, 3, none⟩) hHG (.int .i64 (s.clock : Int))
          clear hbx6 hbk6 ho6 hg6 hob6
          obtain ⟨A6, c6, B6, d6, e61, e62, hrd6⟩ := RW6.st.rows
          have hgt := HT.out
          have hgt6 := cln_good hgt
          have hus6 := hgt6.used
          have hrm6 := hgt6.room
          have hln6 := hgt6.b.len
          have HLK := Lib.hid (show ∀ W, Rw BlobS W A6 (cln t1).blobs → Calls Tryz.prog 65 #[.slice A6 (cln t1).blobs.length c6, .int .i64 (s.room : Int), .int .i64 (more : Int)] W fun e w' => e = .returned (.tuple #[.int .i64 ((usd (cln t1).blobs + more - s.room : Nat) : Int), .int .i64 0]) ∧ Below W.heap.size W w' from fun W h => Lacks_ok A6 c6 (cln t1).blobs s.room more W (by omega) (by rw [cln_room] at hus6 hrm6; omega) HRO.out hmore h)
          subst e61
          clear e62
          clear hgt hgt6 hus6 hrm6
          repeat' ((fail_if_success at_builtin); (fail_if_success at_make); (first | go_values | go_skip | go_guarded | go_step | go_upon | go_back))
          clear f0 f1 f2 f3 b0 b1 b2 b3
          generalize ((((w6.setCell ⟨G, 0, none⟩ (.slice A6 (cln t1).blobs.length c6)).setCell ⟨G, 1, none⟩ (.slice (some ⟨g2, 0, none⟩) (t.ents.eraseIdx i0).length d2)).setCell ⟨G, 2, none⟩ (.int .i64 (s.room : Int))).setCell ⟨G, 3, none⟩ (.int .i64 (s.clock : Int))) = w7 at *
          refine ((HLK.out _ hrd6.b)).mono ?_; rintro e_ w8 ⟨rfl, hb8⟩; dsimp only
          have hbk8 := hbk7.trans (hb8.mono hbk7.size)
          have RW8 := RW6.below hb8
          have HR8 := Lib.hid RW8
          have HBK8 := Lib.hid hbk8
          have HGT := Lib.hid (cln_good HT.out)
          clear RW6 RW8 hrd6 hb8 hbk7 hbk8 HCL HLK hln6
          repeat' ((fail_if_success at_builtin); (fail_if_success at_make); (first | go_values | go_skip | go_guarded | go_step | go_upon | go_back))
          go_roundg (cln t1).ents.length
          case measure => exact HMS.out
          case rel => exact ⟨cln t1, gn1, .slice A6 (cln t1).blobs.length c6, (.slice (some ⟨g2, 0, none⟩) (t.ents.eraseIdx i0).length d2), v9, false, _, rfl, rfl, rfl, rfl, by rw [cln_room, HRM.out], HGT.out, HR8.out, HBK8.out, HEV.out, HRM.out, HCK2.out, by rw [cln_ents]; exact HGL.out⟩
theorem Run_ok (A : Option Addr) (c : Nat) (B : Option Addr) (d : Nat) (s : StoP) (more : Nat) (w : World) (hmore : more ≤ 4000) (hg : GoodS s) (hr : RdSt w A c B d s) :
    Calls Tryz.prog 23 #[.agg #[.slice A s.blobs.length c, .slice B s.ents.length d, .int .i64 (s.room : Int), .int .i64 (s.clock : Int)], .int .i64 (more : Int)] w fun e w' =>
      RunA e w w' s (evRun more s) ∧ Below w.heap.size w w' := by
  refine (RunO_ok A c B d s more w hmore hg hr).mono ?_
  rintro e w' ⟨h, hb⟩
  refine ⟨?_, hb⟩
  cases hev : evRun more s with
  | none => rw [hev] at h; exact h
  | some p =>
    obtain ⟨t, g⟩ := p
    rw [hev] at h
    obtain ⟨v1, v2, v3, rfl, ho, hg3⟩ := h
    obtain ⟨A9, c9, B9, d9, e1, e2, hrd⟩ := ho.rows
    subst e1 e2
    exact ⟨_, _, _, _, v3, rfl, hrd, hg3⟩
end Go.Proofs.YtmjcoebfldmgnaaGreat
