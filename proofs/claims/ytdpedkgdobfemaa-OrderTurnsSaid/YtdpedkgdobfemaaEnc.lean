/- manifest.Encode. Conditions: the strings' sizes. Plain laws of listed parts and manifests. No condition. -/
import Derived.Test.YtdpedkgdobfemaaMem
import Derived.Test.YtdpedkgdobfemaaMChk
import Derived.Test.YtdpedkgdobfemaaText
import Derived.ArgAppend
import Derived.Lib.SlBytesConst
/-! manifest.Encode. Conditions: the strings' sizes -/
namespace Go.Proofs.Ytdpedkgdobfemaa
open Go.RowKit
set_option linter.unusedVariables false
set_option linter.unusedSimpArgs false
set_option maxRecDepth 20000

def encP (p : PartP) : List UInt8 := txt p.name ++ (hexB p.dig).1 ++ num p.size
/-- a manifest's bytes -/
def enc (l : List PartP) : List UInt8 := [65, 77, 49] ++ num l.length ++ l.flatMap encP

/-- a slice that reads as these bytes: of one's own, or full -/
def BoxV (W : World) (base : Nat) (v : Value) (X : List UInt8) : Prop :=
  W.ownsRow base 5 1 v X.length (bys X) ∨ (∃ g, v = .slice (some ⟨g, 0, none⟩) X.length X.length ∧ Rd W 1 (some ⟨g, 0, none⟩) X.length (bys X))
theorem elU8i : ∃ (i : TypeInfo) (z : Value), Try.prog.info? 5 = some i ∧ i.zero = some z ∧ i.size = 1 ∧ i.bytes = 1 ∧ z.cells.size = 1 := elU8.ex

theorem BoxV.below {W W' : World} {base : Nat} {v : Value} {X : List UInt8} (h : BoxV W base v X) (hb : Below W.heap.size W W') : BoxV W' base v X :=
  h.imp (fun h => own_below h hb) (fun ⟨g, e, h⟩ => ⟨g, e, h.below hb⟩)
theorem BoxV.lt {W : World} {base : Nat} {v : Value} {X : List UInt8} (h : BoxV W base v X) (h0 : 0 < X.length) : ∀ k, v.ownBlock = some k → k < W.heap.size := fun k hk => by
  rcases h with h | ⟨g, rfl, hr⟩
  · exact (h.lt k hk).2
  · obtain ⟨b, off, e, hb, _⟩ := hr.2 h0
    injection hk with hk; injection e with e; injection e with e1
    simp only at hk
    omega
theorem add_ok (A : Option Addr) (n c : Nat) (l : List UInt8) (E : Int) (gb base : Nat) (v : Value) (X : List UInt8) (w : World) (hl : l.length = n) (h0 : 0 < n) (hr : Rd w 1 A n (bys l)) (hbox : Arr w gb 25 [v]) (hv : BoxV w base v X)
    (hbase : base ≤ gb) (hX : X.length + n ≤ 1000000) (hne : v.ownBlock ≠ some gb) :
    Calls Try.prog 49 #[.slice A n c, .int .i64 E, .pointer (some ⟨gb, 0, none⟩)] w fun e w' => e = .returned (.tuple #[]) ∧ ∃ v', Arr w' gb 25 [v'] ∧ w'.ownsRow base 5 1 v' (X ++ l).length (bys (X ++ l)) ∧ v'.ownBlock ≠ some gb ∧ Below base w w' ∧
      w.heap.size ≤ w'.heap.size ∧ (∀ k, k < w.heap.size → k ≠ gb → v.ownBlock ≠ some k → w'.heap[k]? = w.heap[k]? ∧ v'.ownBlock ≠ some k) := by
  have hgl := hbox.lt
  have c0 := hbox.cell (k := 0) rfl
  have f0 := hbox.frozen 0
  rcases hv with hown | ⟨g, rfl, hrd⟩
  · go_enter Try.func49, Try.ntmps49
    repeat' ((fail_if_success at_builtin); (fail_if_success at_make); (first | go_values | go_skip | go_guarded | go_step | go_upon | go_back))
    refine wpList_ap rfl (.tmp 5) (.tmp 6) rfl elU8 (by rfl) hown (by rfl) hr (bys_one _) (by omega) (by omega) ?_
    intro v1 w1 ho1 hg1 hw1
    have hgr : ∀ k, k < w.heap.size → v.ownBlock ≠ some k → w1.heap[k]? = w.heap[k]? := fun k hk hn => hg1.block k hk (by simpa using Ne.symm hn)
    have q1 : Arr w1 gb 25 [v] := (hgr gb hgl hne).trans hbox
    have hsz1 := hg1.size
    have c1 := q1.cell (k := 0) rfl
    have f1 := q1.frozen 0
    have q2 := q1.set (k := 0) (by simp) v1
    have hne1 : v1.ownBlock ≠ some gb := by
      rcases hw1 with h | h
      · rw [h]; exact hne
      · rw [h]; intro e; injection e with e; omega
    have hnk : ∀ k, k < w.heap.size → v.ownBlock ≠ some k → v1.ownBlock ≠ some k := fun k hk hn => by
      rcases hw1 with h | h
      · rw [h]; exact hn
      · rw [h]; intro e; injection e with e; omega
    have hlt1 := ho1.lt
    have hb1 : Below base w w1 := ⟨hg1.os, hg1.tape, hg1.output, hg1.size, fun k hk => by
      rcases Nat.lt_or_ge k w.heap.size with h | h
      · exact hgr k h (fun e => by have := (hown.lt k e).1; omega)
      · omega⟩
    obtain ⟨A1, cp1, rfl, hcp1, hrd1⟩ := Rd.of_own' ho1
    repeat' ((fail_if_success at_builtin); (fail_if_success at_make); (first | go_values | go_skip | go_guarded | go_step | go_upon | go_back))
    go_end0
    refine ⟨rfl, _, q2, ?_, hne1, Below.setCell hb1 hbase _, by rw [World.size_setCell]; exact hsz1, fun k hk hkg hkv => ⟨(Below.heap_setCell _ _ _ k hkg).trans (hgr k hk hkv), hnk k hk hkv⟩⟩
    rw [bys_app, List.length_append, hl]
    exact own_other ho1 hne1
  · go_enter Try.func49, Try.ntmps49
    repeat' ((fail_if_success at_builtin); (fail_if_success at_make); (first | go_values | go_skip | go_guarded | go_step | go_upon | go_back))
    obtain ⟨i0, z0, hi, hz, hs, hby, hzs⟩ := elU8i
    obtain ⟨b, off, rfl, hbl, hcl⟩ := hr.2 h0
    refine wpList_append_grows w rfl (.tmp 5) (.tmp 6) 25 rfl 5 i0 z0 1 1 Try.underlying25 hi hz hs hby hzs (by omega) (some ⟨g, 0, none⟩) X.length X.length (bys X) (by rfl) (by simp) (by rw [bys_len]; omega) (fun b1 hb1 j u hj => ?_) ⟨b, off, none⟩ n c (bys l) (by rfl) (by rw [bys_len]; omega) (fun j u hj => by rw [Addr.add_mid]; exact hcl j u hj) (bys_one _) (by omega) (by simp [maxLen]; omega) (by omega) ?_
    · cases hb1
      obtain ⟨b', off', e', _, hcl'⟩ := hrd.2 (by have := (List.getElem?_eq_some_iff.1 hj).1; rw [bys_len] at this; omega)
      cases e'
      rw [Addr.add_mid]; exact hcl' j u hj
    intro v1 w1 ho1 hg1
    have hgr : ∀ k, k < w.heap.size → w1.heap[k]? = w.heap[k]? := fun k hk => hg1.block k hk (by simp)
    have q1 : Arr w1 gb 25 [Value.slice (some ⟨g, 0, none⟩) X.length X.length] := (hgr gb hgl).trans hbox
    have hsz1 := hg1.size
    have c1 := q1.cell (k := 0) rfl
    have f1 := q1.frozen 0
    have q2 := q1.set (k := 0) (by simp) v1
    have hne1 : v1.ownBlock ≠ some gb := fun e => by have := (ho1.lt gb e).1; omega
    have hb1 : Below base w w1 := ⟨hg1.os, hg1.tape, hg1.output, hg1.size, fun k hk => hgr k (by omega)⟩
    obtain ⟨A1, cp1, rfl, hcp1, hrd1⟩ := Rd.of_own' ho1
    repeat' ((fail_if_success at_builtin); (fail_if_success at_make); (first | go_values | go_skip | go_guarded | go_step | go_upon | go_back))
    go_end0
    refine ⟨rfl, _, q2, ?_, hne1, Below.setCell hb1 hbase _, by rw [World.size_setCell]; exact hsz1, fun k hk hkg hkv => ⟨(Below.heap_setCell _ _ _ k hkg).trans (hgr k hk), fun e => by have := (ho1.lt k e).1; omega⟩⟩
    rw [bys_app, List.length_append, hl]
    exact own_lower (own_other ho1 hne1) (by omega)

theorem unhx_len : ∀ (l r : List UInt8), unhx l = some r → l.length = 2 * r.length := fun l r h => by
  have := hexs_unhx l r h
  rw [← this, hexs_len]
theorem hexC_zero {d : List UInt8} (h : hexC d = 0) : (hexB d).2 = 0 ∧ (hexB d).1.length = 32 := by
  unfold hexC at h
  by_cases h64 : d.length = 64
  · rw [if_neg (by omega)] at h
    refine ⟨h, ?_⟩
    unfold hexB at h ⊢
    rw [if_neg (by omega), if_neg (by omega)] at h ⊢
    cases hu : unhx d with
    | none => rw [hu] at h; cases h
    | some r => have := unhx_len d r hu; simp only []; omega
  · rw [if_pos h64] at h; cases h
theorem nameC_zero {s : List UInt8} (h : nameC s = 0) : 1 ≤ s.length ∧ s.length ≤ 12 := by
  unfold nameC at h
  by_cases hb : s.length < 1 ∨ 12 < s.length
  · rw [if_pos hb] at h; cases h
  · omega
theorem chkGo_zero : ∀ (l : List PartP) (q : Option (List UInt8)), chkGo q l = 0 → ∀ p ∈ l, nameC p.name = 0 ∧ hexC p.dig = 0 ∧ p.size ≤ 300
  | [], _, _, p, hp => by cases hp
  | x :: l, q, h, p, hp => by
    rw [chkGo_cons] at h
    by_cases h1 : nameC x.name = 0
    · rw [if_neg (fun e => e h1)] at h
      have key : ∀ bb : Bool, (if bb = true then 6 else if hexC x.dig ≠ 0 then hexC x.dig else if 300 < x.size then 4 else chkGo (some x.name) l) = 0 → nameC p.name = 0 ∧ hexC p.dig = 0 ∧ p.size ≤ 300 := fun bb h => by
        cases bb with
        | true => rw [if_pos rfl] at h; exact absurd h (by decide)
        | false =>
          rw [if_neg (by decide)] at h
          by_cases h2 : hexC x.dig = 0
          · rw [if_neg (fun e => e h2)] at h
            by_cases h3 : 300 < x.size
            · rw [if_pos h3] at h; exact absurd h (by decide)
            · rw [if_neg h3] at h
              rcases List.mem_cons.1 hp with rfl | hp
              · exact ⟨h1, h2, by omega⟩
              · exact chkGo_zero l _ h p hp
          · rw [if_pos h2] at h; exact absurd h h2
      exact key _ h
    · rw [if_pos h1] at h; exact absurd h h1
theorem chk_zero {l : List PartP} (h : chk l = 0) : l.length ≤ 8 ∧ ∀ p ∈ l, nameC p.name = 0 ∧ hexC p.dig = 0 ∧ p.size ≤ 300 := by
  unfold chk at h
  by_cases hb : 8 < l.length
  · rw [if_pos hb] at h; cases h
  · rw [if_neg hb] at h; exact ⟨by omega, chkGo_zero l none h⟩
theorem encP_len {p : PartP} (h : nameC p.name = 0 ∧ hexC p.dig = 0 ∧ p.size ≤ 300) : 1 ≤ (txt p.name).length ∧ (txt p.name).length ≤ 14 ∧ 1 ≤ (num p.size).length ∧ (num p.size).length ≤ 2 ∧ (encP p).length ≤ 48 := by
  have h1 := nameC_zero h.1
  have h2 := txt_len p.name (by omega)
  have h3 := hexC_zero h.2.1
  have h4 := num_len p.size 1 (by omega)
  simp only [encP, List.length_append]
  omega
theorem flat_len (l : List PartP) (h : ∀ p ∈ l, nameC p.name = 0 ∧ hexC p.dig = 0 ∧ p.size ≤ 300) : (l.flatMap encP).length ≤ 48 * l.length := by
  induction l with
  | nil => simp
  | cons x l ih =>
    have h1 := (encP_len (h x (by simp))).2.2.2.2
    have h2 := ih (fun p hp => h p (by simp [hp]))
    simp only [List.flatMap_cons, List.length_append, List.length_cons]; omega
theorem hBytes_of {d : List UInt8} {t : ByteArray} (htd : t.data.toList = d) (h : hexC d = 0) (w : World) (hs : t.size ≤ 140737488351232) :
    Calls Try.prog 30 #[.string t] w fun e w' => ∃ A c, e = .returned (.tuple #[.slice A (hexB d).1.length c, .int .i64 0]) ∧ OwnB 5 w.heap.size w' A c (hexB d).1 ∧ Below w.heap.size w w' :=
  hBytes_at 0 rfl (by rw [htd]; exact Prod.ext rfl (hexC_zero h).1) w hs

theorem Encode_bad (A : Option Addr) (n c : Nat) (l : List PartP) (w : World) (hl : l.length = n) (hc : n ≤ c) (hm : n ≤ 9223372036854775807) (hok : PartsOk l) (hr : Rd w 3 A n (pcs l)) (hchk : chk l ≠ 0) :
    Calls Try.prog 32 #[.slice A n c] w fun e w' => e = .returned (.tuple #[.slice none 0 0, .int .i64 (chk l)]) ∧ Below w.heap.size w w' := by
  have HC := Lib.hid (Check_ok A n c l w hl hc hm hok hr)
  have hb : ((chk l : Int) != 0) = true := by rw [bne_iff_ne]; omega
  clear hchk hl
  go_enter Try.func32, Try.ntmps32
  repeat' ((fail_if_success at_builtin); (fail_if_success at_make); (first | go_values | go_skip | go_guarded | go_step | go_upon | go_back))
  refine ((HC.out)).mono ?_; rintro e_ w1 ⟨rfl, hb1⟩; dsimp only
  repeat' ((fail_if_success at_builtin); (fail_if_success at_make); (first | go_values | go_skip | go_guarded | go_step | go_upon | go_back))
  go_ret2
  exact ⟨rfl, hb1⟩

set_option maxHeartbeats 4000000 in
theorem Encode_ok (A : Option Addr) (n c : Nat) (l : List PartP) (w : World) (hl : l.length = n) (hc : n ≤ c) (hr : Rd w 3 A n (pcs l)) (hchk : chk l = 0) :
    Calls Try.prog 32 #[.slice A n c] w fun e w' => ∃ A' c', e = .returned (.tuple #[.slice A' (enc l).length c', .int .i64 0]) ∧ OwnB 5 w.heap.size w' A' c' (enc l) ∧ Below w.heap.size w w' := by
  have hz := chk_zero hchk
  have hn8 : n ≤ 8 := by omega
  have hok : PartsOk l := fun p hp => by
    have h := hz.2 p hp
    have h1 := nameC_zero h.1
    have h2 : p.dig.length = 64 := by
      have := h.2.1; unfold hexC at this; split at this
      · cases this
      · omega
    exact ⟨by omega, by omega, by omega⟩
  have hck := Check_ok A n c l w hl hc (by omega) hok hr
  rw [hchk, show ((0 : Nat) : Int) = 0 from rfl] at hck
  have HC := Lib.hid hck
  have HZ := Lib.hid hz
  have HL := Lib.hid hl
  have hkc := fun (w : World) (C : Array Value) (n c : Nat) => Lib.run_convert_bytes_const (P := Try.prog) w 25 5 C n c Try.underlying25 Try.underlying5
  have hnl := num_len n 0 (by omega)
  clear hok hck hz hl hchk
  go_enter Try.func32, Try.ntmps32
  repeat' ((fail_if_success at_builtin); (fail_if_success at_make); (first | go_values | go_skip | go_guarded | go_step | go_upon | go_back))
  refine ((HC.out)).mono ?_; rintro e_ w1 ⟨rfl, hb1⟩; dsimp only
  repeat' ((fail_if_success at_builtin); (fail_if_success at_make); (first | go_values | go_skip | go_guarded | go_step | go_upon | go_back))
  have q0 : Rd ((w1.alloc (.cells #[.int .u8 65, .int .u8 77, .int .u8 49] 5 (3, 4))).alloc (.cells #[.slice (some ⟨w1.heap.size, 0, none⟩) 3 3] 25)) 1 (some ⟨w1.heap.size, 0, none⟩) 3 (bys [65, 77, 49]) := by
    refine Rd.alloc (w := w1.alloc _) ⟨rfl, fun _ => ⟨_, 0, rfl, by simp, fun j u hu => ?_⟩⟩ _
    rw [← hu, Nat.zero_add]
    have h1 : (w1.alloc (.cells #[.int .u8 65, .int .u8 77, .int .u8 49] 5 (3, 4))).heap[w1.heap.size]? = some (.cells #[.int .u8 65, .int .u8 77, .int .u8 49] 5 (3, 4)) := World.alloc_heap_new w1 _
    simp only [World.cell?, h1, Option.isSome_none, Bool.false_eq_true, if_false]
    simp [bys]
  have qb : Arr ((w1.alloc (.cells #[.int .u8 65, .int .u8 77, .int .u8 49] 5 (3, 4))).alloc (.cells #[.slice (some ⟨w1.heap.size, 0, none⟩) 3 3] 25)) (w1.heap.size + 1) 25 [.slice (some ⟨w1.heap.size, 0, none⟩) 3 3] := by
    have := Arr.new (w1.alloc (.cells #[.int .u8 65, .int .u8 77, .int .u8 49] 5 (3, 4))) 25 [.slice (some ⟨w1.heap.size, 0, none⟩) 3 3]
    rw [World.size_alloc] at this
    exact this
  have hb2 := (hb1.alloc hb1.size (.cells #[.int .u8 65, .int .u8 77, .int .u8 49] 5 (3, 4))).alloc (by have := hb1.size; simp; omega) (.cells #[.slice (some ⟨w1.heap.size, 0, none⟩) 3 3] 25)
  have hsz1 := hb1.size
  clear hb1 HC hkc
  generalize ((w1.alloc (.cells #[.int .u8 65, .int .u8 77, .int .u8 49] 5 (3, 4))).alloc (.cells #[.slice (some ⟨w1.heap.size, 0, none⟩) 3 3] 25)) = w2 at *
  generalize w1.heap.size = g0 at *
  have hgb : w.heap.size ≤ g0 + 1 := by omega
  generalize hgbe : g0 + 1 = gb at *
  have hgne : g0 ≠ gb := by omega
  refine ((Number_own n n rfl _ (by omega))).mono ?_; rintro e_ w3 ⟨A3, c3, rfl, ho3, hb3⟩; dsimp only
  have qb3 := qb.below hb3
  have q03 := q0.below hb3
  have hb4 := hb2.trans (hb3.mono hb2.size)
  clear qb q0 hb2 hb3 hgbe
  repeat' ((fail_if_success at_builtin); (fail_if_success at_make); (first | go_values | go_skip | go_guarded | go_step | go_upon | go_back))
  refine ((add_ok A3 _ c3 (num n) 0 gb w.heap.size _ [65, 77, 49] _ rfl (by omega) ho3.rd qb3 (.inr ⟨g0, rfl, q03⟩) hgb (by simp; omega) (by simpa [Value.ownBlock] using hgne))).mono ?_; rintro e_ w4 ⟨rfl, v4, qb4, ho4, hne4, hb5, _, _⟩; dsimp only
  have hb6 := hb4.trans hb5
  have hx4 : BoxV w4 w.heap.size v4 ([65, 77, 49] ++ num n ++ (l.take 0).flatMap encP) := by
    rw [List.take_zero, List.flatMap_nil, List.append_nil]; exact .inl ho4
  clear ho4 hb5 qb3 q03 hb4 ho3
  repeat' ((fail_if_success at_builtin); (fail_if_success at_make); (first | go_values | go_skip | go_guarded | go_step | go_upon | go_back))
  go_loopg [26] n (fun gn i wr => ∃ k v, gn = n - k ∧ i = .int .i64 ((k : Nat) : Int) ∧ k ≤ n ∧ Arr wr gb 25 [v] ∧ BoxV wr w.heap.size v ([65, 77, 49] ++ num n ++ (l.take k).flatMap encP) ∧ v.ownBlock ≠ some gb ∧ Below w.heap.size w wr)
  case atStart => exact ⟨0, v4, rfl, rfl, by omega, qb4, hx4, hne4, hb6⟩
  case round =>
    clear qb4 hx4 hne4 hb6
    obtain ⟨k, v, hgk, rfl, hk, qb, hx, hne, hbel⟩ := hrel
    have HGK := Lib.hid hgk
    clear hgk
    by_cases hlt : k < n
    · have hkl : k < l.length := by have := HL.out; omega
      have hpz := HZ.out.2 l[k] (List.getElem_mem hkl)
      have hel := encP_len hpz
      have hfl := flat_len (l.take k) (fun p hp => HZ.out.2 p (List.mem_of_mem_take hp))
      rw [List.length_take] at hfl
      have hsn : (l.take (k + 1)).flatMap encP = (l.take k).flatMap encP ++ encP l[k] := by
        rw [List.take_succ_eq_append_getElem hkl, List.flatMap_append, List.flatMap_cons, List.flatMap_nil, List.append_nil]
      obtain ⟨b, off, rfl, hbw, hcell⟩ := (hr.below hbel).2 (by omega)
      have hat := fun j (hj : j < 3) => pcs_at l k j hkl hj
      generalize l[k] = p at *
      have c0 := hcell (k * 3 + 0) _ (hat 0 (by omega))
      have c1 := hcell (k * 3 + 1) _ (hat 1 (by omega))
      have c2 := hcell (k * 3 + 2) _ (hat 2 (by omega))
      rw [Nat.add_zero] at c0
      rw [show off + (k * 3 + 1) = off + k * 3 + 1 by omega] at c1
      rw [show off + (k * 3 + 2) = off + k * 3 + 2 by omega] at c2
      obtain ⟨pn, pd, psz⟩ := p
      dsimp only [pcell, List.getElem?_cons_zero, List.getElem?_cons_succ] at c0 c1 c2 hpz hel
      obtain ⟨s, hs⟩ : ∃ s : ByteArray, s = ⟨pn.toArray⟩ := ⟨_, rfl⟩
      obtain ⟨t, ht⟩ : ∃ t : ByteArray, t = ⟨pd.toArray⟩ := ⟨_, rfl⟩
      have hsd : s.data.toList = pn := by rw [hs]
      have htd : t.data.toList = pd := by rw [ht]
      rw [← hs] at c0
      rw [← ht] at c1
      have hnz := nameC_zero hpz.1
      have hdz := hexC_zero hpz.2.1
      have hssz : s.size ≤ 2000 := by have : s.size = pn.length := by rw [hs]; rfl
                                      omega
      have htsz : t.size ≤ 140737488351232 := by
        have h64 := hpz.2.1
        have : t.size = pd.length := by rw [ht]; rfl
        unfold hexC at h64; split at h64
        · cases h64
        · omega
      have hT := fun w' => wText_ok s w' hssz
      rw [hsd] at hT
      have HT := Lib.hid hT
      have HB := Lib.hid (fun w' => hBytes_of htd hpz.2.1 w' htsz)
      have hp3 : psz ≤ 300 := hpz.2.2
      have HN := Lib.hid (fun w' => Number_own psz psz rfl w' (by omega))
      have HSN := Lib.hid hsn
      have HEL := Lib.hid hel
      have HDZ := Lib.hid hdz
      have hsz := hbel.size
      have hX : ([65, 77, 49] ++ num n ++ (l.take k).flatMap encP).length ≤ 500 := by simp only [List.length_append, List.length_cons, List.length_nil]; omega
      generalize hXe : [65, 77, 49] ++ num n ++ (l.take k).flatMap encP = X at *
      have HXE := Lib.hid hXe
      clear hat hcell hsn hel hdz hT hpz hnz hs ht hsd htd hfl hXe
      have hX0 : 0 < X.length := by rw [← HXE.out]; simp only [List.length_append, List.length_cons, List.length_nil]; omega
      repeat' ((fail_if_success at_builtin); (fail_if_success at_make); (first | go_values | go_skip | go_guarded | go_step | go_upon | go_back))
      have qp := Arr.new wr 40 [.string s, .string t, .int .i64 psz]
      have hba : Below wr.heap.size wr (wr.alloc (.cells [Value.string s, .string t, .int .i64 psz].toArray 40)) := (Below.refl _ _).alloc (Nat.le_refl _) _
      have qb1 := qb.below hba
      have hx1 := hx.below hba
      have hbl1 := hbel.trans (hba.mono hsz)
      have hvg : v.ownBlock ≠ some wr.heap.size := fun e => by have := hx.lt hX0 _ e; omega
      have hgl := qb.lt
      change Calls _ _ _ (wr.alloc (.cells [Value.string s, .string t, .int .i64 psz].toArray 40)) _
      clear c0 c1 c2 qb hx hbel hba
      generalize (wr.alloc (.cells [Value.string s, .string t, .int .i64 psz].toArray 40)) = wa at *
      generalize wr.heap.size = gp at *
      have hpg : gp ≠ gb := by omega
      have he1 := HEL.out.1
      have he2 := HEL.out.2.1
      have he3 := HEL.out.2.2.1
      have he4 := HEL.out.2.2.2.1
      have he5 : 32 ≤ (hexB pd).1.length := Nat.le_of_eq HDZ.out.2.symm
      have he6 : (hexB pd).1.length ≤ 32 := Nat.le_of_eq HDZ.out.2
      refine ((HT.out _)).mono ?_; rintro e_ w5 ⟨A5, c5, rfl, ho5, hb5⟩; dsimp only
      have qp5 := qp.below hb5
      have qb5 := qb1.below hb5
      have hx5 := hx1.below hb5
      have hbl5 := hbl1.trans (hb5.mono hbl1.size)
      clear qp qb1 hx1 hbl1
      repeat' ((fail_if_success at_builtin); (fail_if_success at_make); (first | go_values | go_skip | go_guarded | go_step | go_upon | go_back))
      refine ((add_ok A5 _ c5 (txt pn) 0 gb w.heap.size v X _ rfl (by omega) ho5.rd qb5 hx5 hgb (by omega) hne)).mono ?_; rintro e_ w6 ⟨rfl, v6, qb6, ho6, hne6, hb6, hs6, hk6⟩; dsimp only
      have hbl6 := hbl5.trans hb6
      have hk6g := hk6 gp qp5.lt hpg hvg
      have qp6 : Arr w6 gp _ _ := hk6g.1.trans qp5
      have hvg6 := hk6g.2
      have f1 := qp6.cell (k := 1) rfl
      clear qp5 qb5 hx5 hbl5 hk6 hk6g ho5 hb5 hne hvg
      repeat' ((fail_if_success at_builtin); (fail_if_success at_make); (first | go_values | go_skip | go_guarded | go_step | go_upon | go_back))
      refine ((HB.out _)).mono ?_; rintro e_ w7 ⟨A7, c7, rfl, ho7, hb7⟩; dsimp only
      have qp7 := qp6.below hb7
      have qb7 := qb6.below hb7
      have hx7 : BoxV w7 w.heap.size v6 (X ++ txt pn) := .inl (own_below ho6 hb7)
      have hbl7 := hbl6.trans (hb7.mono hbl6.size)
      clear qp6 qb6 ho6 hbl6 f1
      repeat' ((fail_if_success at_builtin); (fail_if_success at_make); (first | go_values | go_skip | go_guarded | go_step | go_upon | go_back))
      refine ((add_ok A7 _ c7 (hexB pd).1 0 gb w.heap.size v6 (X ++ txt pn) _ rfl (by omega) ho7.rd qb7 hx7 hgb (by simp only [List.length_append]; omega) hne6)).mono ?_; rintro e_ w8 ⟨rfl, v8, qb8, ho8, hne8, hb8, hs8, hk8⟩; dsimp only
      have hbl8 := hbl7.trans hb8
      have hk8g := hk8 gp qp7.lt hpg hvg6
      have qp8 : Arr w8 gp _ _ := hk8g.1.trans qp7
      have f2 := qp8.cell (k := 2) rfl
      clear qp7 qb7 hx7 hbl7 hk8 hk8g ho7 hb7 hne6
      repeat' ((fail_if_success at_builtin); (fail_if_success at_make); (first | go_values | go_skip | go_guarded | go_step | go_upon | go_back))
      refine ((HN.out _)).mono ?_; rintro e_ w9 ⟨A9, c9, rfl, ho9, hb9⟩; dsimp only
      have qb9 := qb8.below hb9
      have hx9 : BoxV w9 w.heap.size v8 (X ++ txt pn ++ (hexB pd).1) := .inl (own_below ho8 hb9)
      have hbl9 := hbl8.trans (hb9.mono hbl8.size)
      clear qp8 qb8 ho8 hbl8 f2
      repeat' ((fail_if_success at_builtin); (fail_if_success at_make); (first | go_values | go_skip | go_guarded | go_step | go_upon | go_back))
      refine ((add_ok A9 _ c9 (num psz) 0 gb w.heap.size v8 (X ++ txt pn ++ (hexB pd).1) _ rfl (by omega) ho9.rd qb9 hx9 hgb (by simp only [List.length_append]; omega) hne8)).mono ?_; rintro e_ w10 ⟨rfl, v10, qb10, ho10, hne10, hb10, hs10, hk10⟩; dsimp only
      have hbl10 := hbl9.trans hb10
      clear hk10
      repeat' ((fail_if_success at_builtin); (fail_if_success at_make); (first | go_values | go_skip | go_guarded | go_step | go_upon | go_back))
      go_roundg (n - (k + 1))
      case measure => have := HGK.out; omega
      case rel =>
        refine ⟨k + 1, v10, rfl, by go_num, by omega, qb10, .inl ?_, hne10, hbl10⟩
        rw [HSN.out, ← List.append_assoc, HXE.out]
        have e : X ++ encP ⟨pn, pd, psz⟩ = X ++ txt pn ++ (hexB pd).1 ++ num psz := by simp [encP]
        rw [e]; exact ho10
    · obtain rfl : k = n := by omega
      have hle : l.take k = l := List.take_of_length_le (by have := HL.out; omega)
      have hfin : [65, 77, 49] ++ num k ++ (l.take k).flatMap encP = enc l := by rw [hle, enc, HL.out]
      have hfl := flat_len l HZ.out.2
      rw [hfin] at hx
      have hel : (enc l).length ≤ 500 := by simp only [enc, List.length_append, List.length_cons, List.length_nil, HL.out]; have := HL.out; omega
      have hrd : ∃ A1 c1, v = .slice A1 (enc l).length c1 ∧ (enc l).length ≤ c1 ∧ Rd wr 1 A1 (enc l).length (bys (enc l)) := by
        rcases hx with h | ⟨g, rfl, h⟩
        · obtain ⟨A1, c1, rfl, h1, h2⟩ := Rd.of_own' h
          exact ⟨A1, c1, rfl, h1, h2⟩
        · exact ⟨_, _, rfl, Nat.le_refl _, h⟩
      obtain ⟨A1, cc1, rfl, hcc1, hrd1⟩ := hrd
      have d0 := qb.cell (k := 0) rfl
      clear hfin hle hx
      generalize hY : enc l = Y at *
      have HY := Lib.hid hY
      clear hY
      repeat' ((fail_if_success at_builtin); (fail_if_success at_make); (first | go_values | go_skip | go_guarded | go_step | go_upon | go_back))
      refine ((Clone_ok A1 _ cc1 Y _ rfl hcc1 (by omega) hrd1)).mono ?_; rintro e_ w5 ⟨v5, rfl, ho5, hb5⟩; dsimp only
      have hb6 := hbel.trans (hb5.mono hbel.size)
      obtain ⟨A6, c6, rfl, ho6⟩ := OwnB.of rfl ho5
      repeat' ((fail_if_success at_builtin); (fail_if_success at_make); (first | go_values | go_skip | go_guarded | go_step | go_upon | go_back))
      go_ret2
      rw [HY.out]
      exact ⟨A6, c6, rfl, ho6.lower hbel.size, hb6⟩
end Go.Proofs.Ytdpedkgdobfemaa
/-! Plain laws of listed parts and manifests. No condition -/
namespace Go.Proofs.Ytdpedkgdobfemaa
open Go.RowKit
set_option linter.unusedVariables false

theorem name_i : ∀ i, i < 8 → nameC [110, UInt8.ofNat (97 + i)] = 0 := by
  have key : ∀ i : Fin 8, nameC [110, UInt8.ofNat (97 + i.val)] = 0 := by decide +kernel
  exact fun i h => key ⟨i, h⟩
theorem le_ij : ∀ i j, i < 8 → j < i → leS [110, UInt8.ofNat (97 + i)] [110, UInt8.ofNat (97 + j)] = false := by
  have key : ∀ i j : Fin 8, j.val < i.val → leS [110, UInt8.ofNat (97 + i.val)] [110, UInt8.ofNat (97 + j.val)] = false := by decide +kernel
  exact fun i j h h' => key ⟨i, h⟩ ⟨j, by omega⟩ h'
theorem chkGo_step {q : Option (List UInt8)} {p : PartP} {r : List PartP} (h1 : nameC p.name = 0) (h2 : ∀ n, q = some n → leS p.name n = false) (h3 : hexC p.dig = 0) (h4 : p.size ≤ 300) : chkGo q (p :: r) = chkGo (some p.name) r := by
  rw [chkGo_cons, if_neg (fun e => e h1)]
  cases q with
  | none => simp only []; rw [if_neg (by decide), if_neg (fun e => e h3), if_neg (by omega)]
  | some n => simp only [h2 n rfl]; rw [if_neg (by decide), if_neg (fun e => e h3), if_neg (by omega)]
theorem chk_lstGo : ∀ (l : List RawP) (i : Nat) (q : Option (List UInt8)), (q = none ∨ ∃ j, j < i ∧ q = some [110, UInt8.ofNat (97 + j)]) → chkGo q (lstGo i l) = 0
  | [], i, q, _ => rfl
  | r :: l, i, q, hq => by
    simp only [lstGo]
    by_cases hi : i < 8
    · rw [if_pos hi, chkGo_step (p := partOf i r) (name_i i hi) (fun n hn => ?_) (hexC_sha _) (by have := pk_lt r.a (m := 301) (by omega); simp only [partOf]; omega)]
      · exact chk_lstGo l (i + 1) _ (.inr ⟨i, by omega, rfl⟩)
      · rcases hq with h | ⟨j, hj, h⟩
        · rw [h] at hn; cases hn
        · rw [h] at hn; cases hn; exact le_ij i j hi hj
    · rw [if_neg hi]; rfl
theorem chk_lst (l : List RawP) : chk (lst l) = 0 := by
  have := lst_le l
  rw [chk, if_neg (by omega)]
  exact chk_lstGo l 0 none (.inl rfl)

/-- what a list of parts that may be says of its first one -/
theorem chkGo_inv {q : Option (List UInt8)} {p : PartP} {r : List PartP} (h : chkGo q (p :: r) = 0) : nameC p.name = 0 ∧ (∀ n, q = some n → leS p.name n = false) ∧ hexC p.dig = 0 ∧ p.size ≤ 300 ∧ chkGo (some p.name) r = 0 := by
  have h0 := chkGo_zero _ _ h p (by simp)
  rw [chkGo_cons, if_neg (fun e => e h0.1)] at h
  cases q with
  | none =>
    simp only [] at h
    rw [if_neg (by decide), if_neg (fun e => e h0.2.1), if_neg (by omega)] at h
    exact ⟨h0.1, (fun n hn => by cases hn), h0.2.1, h0.2.2, h⟩
  | some m =>
    simp only [] at h
    cases hb : leS p.name m with
    | true => rw [if_pos hb] at h; cases h
    | false =>
      rw [if_neg (by rw [hb]; decide), if_neg (fun e => e h0.2.1), if_neg (by omega)] at h
      exact ⟨h0.1, (fun n hn => by cases hn; exact hb), h0.2.1, h0.2.2, h⟩
theorem chkGo_take : ∀ (l : List PartP) (q : Option (List UInt8)) (k : Nat), chkGo q l = 0 → chkGo q (l.take k) = 0
  | _, _, 0, _ => rfl
  | [], _, _ + 1, _ => rfl
  | p :: l, q, k + 1, h => by
    obtain ⟨h1, h2, h3, h4, h5⟩ := chkGo_inv h
    rw [List.take_succ_cons, chkGo_step h1 h2 h3 h4]
    exact chkGo_take l _ k h5
theorem chkGo_none {l : List PartP} {q : Option (List UInt8)} (h : chkGo q l = 0) : chkGo none l = 0 := by
  cases l with
  | nil => rfl
  | cons p l =>
    obtain ⟨h1, h2, h3, h4, h5⟩ := chkGo_inv h
    rw [chkGo_step h1 (fun n hn => by cases hn) h3 h4]; exact h5
theorem chkGo_drop : ∀ (l : List PartP) (q : Option (List UInt8)) (k : Nat), chkGo q l = 0 → chkGo none (l.drop k) = 0
  | l, _, 0, h => chkGo_none h
  | [], _, _ + 1, _ => rfl
  | p :: l, q, k + 1, h => by
    obtain ⟨h1, h2, h3, h4, h5⟩ := chkGo_inv h
    exact chkGo_drop l _ k h5
theorem chk_take {l : List PartP} (h : chk l = 0) (k : Nat) : chk (l.take k) = 0 := by
  have h1 := (chk_zero h).1
  rw [chk, if_neg (by omega)] at h
  rw [chk, if_neg (by rw [List.length_take]; omega)]
  exact chkGo_take l none k h
theorem chk_drop {l : List PartP} (h : chk l = 0) (k : Nat) : chk (l.drop k) = 0 := by
  have h1 := (chk_zero h).1
  rw [chk, if_neg (by omega)] at h
  rw [chk, if_neg (by rw [List.length_drop]; omega)]
  exact chkGo_drop l none k h
theorem enc_small (l : List PartP) (h : l.length ≤ 8) : enc l = [65, 77, 49, UInt8.ofNat l.length] ++ l.flatMap encP := by
  rw [enc, num_small (by omega)]; simp
theorem enc_drop4 (l : List PartP) (h : l.length ≤ 8) : (enc l).drop 4 = l.flatMap encP := by rw [enc_small l h]; rfl
theorem enc_length (l : List PartP) (h : l.length ≤ 8) : (enc l).length = 4 + (l.flatMap encP).length := by rw [enc_small l h]; simp; omega
theorem flat_split (l : List PartP) (k : Nat) : l.flatMap encP = (l.take k).flatMap encP ++ (l.drop k).flatMap encP := by
  rw [← List.flatMap_append, List.take_append_drop]
end Go.Proofs.Ytdpedkgdobfemaa
