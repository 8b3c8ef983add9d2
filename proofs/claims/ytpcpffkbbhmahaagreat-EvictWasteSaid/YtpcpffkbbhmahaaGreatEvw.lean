/- evict.Waste; the walk of EvictWaste. Conditions: the sizes. -/
import Derived.Test.YtpcpffkbbhmahaaGreatRrt
namespace Go.Proofs.YtpcpffkbbhmahaaGreat
open Go.RowKit Go.Maps
set_option linter.unusedVariables false
set_option linter.unusedSimpArgs false
set_option maxRecDepth 100000

/-- the digests of blobs that are not on the list -/
def wst (bl : List BlobP) (L : List (List UInt8)) : List (List UInt8) := (bl.filter (fun b => !decide (b.dig ∈ L))).map (·.dig)
theorem wst_succ (bl : List BlobP) (L : List (List UInt8)) (k : Nat) (h : k < bl.length) : wst (bl.take (k + 1)) L = wst (bl.take k) L ++ (if bl[k].dig ∈ L then [] else [bl[k].dig]) := by
  unfold wst
  rw [List.take_succ_eq_append_getElem h, List.filter_append, List.map_append]
  congr 1
  by_cases hp : bl[k].dig ∈ L
  · rw [if_pos hp, List.filter_cons_of_neg (by simpa using hp)]; rfl
  · rw [if_neg hp, List.filter_cons_of_pos (by simpa using hp)]; rfl
theorem wst_len (bl : List BlobP) (L : List (List UInt8)) : (wst bl L).length ≤ bl.length := by
  unfold wst; rw [List.length_map]; exact List.length_filter_le _ _
theorem mem_wst {bl : List BlobP} {L : List (List UInt8)} {x : List UInt8} : x ∈ wst bl L ↔ InB bl x ∧ x ∉ L := by
  unfold wst
  rw [List.mem_map]
  constructor
  · rintro ⟨b, hb, rfl⟩
    obtain ⟨h1, h2⟩ := List.mem_filter.1 hb
    exact ⟨⟨b, h1, rfl⟩, by simpa using h2⟩
  · rintro ⟨⟨b, hb, rfl⟩, h⟩
    exact ⟨b, List.mem_filter.2 ⟨hb, by simpa using h⟩, rfl⟩
theorem rises_nd {bl : List BlobP} (hr : RisesBy (·.dig) bl) : (bl.map (·.dig)).Nodup := by
  refine List.pairwise_map.2 (hr.imp fun {a b} h e => ?_)
  have h' : Op.bytesLess a.dig b.dig = true := h
  rw [e, bl_irr] at h'; cases h'
/-- what is come to and the waste are all there is -/
theorem wst_sum {bl : List BlobP} {L : List (List UInt8)} (hr : RisesBy (·.dig) bl) (hn : L.Nodup) (hL : ∀ x ∈ L, InB bl x) : (wst bl L).length + L.length = bl.length := by
  have hnd := rises_nd hr
  have h1 : L.Perm ((bl.map (·.dig)).filter (fun x => decide (x ∈ L))) := (List.perm_ext_iff_of_nodup hn (hnd.filter _)).2 fun x => by
    rw [List.mem_filter, List.mem_map]
    constructor
    · intro hx; obtain ⟨b, hb, e⟩ := hL x hx; exact ⟨⟨b, hb, e⟩, by simpa using hx⟩
    · intro h; simpa using h.2
  have h2 : (wst bl L) = (bl.map (·.dig)).filter (fun x => !decide (x ∈ L)) := by
    unfold wst
    rw [List.filter_map]; rfl
  rw [h2, h1.length_eq]
  have h3 : ∀ l : List (List UInt8), (l.filter (fun x => !decide (x ∈ L))).length + (l.filter (fun x => decide (x ∈ L))).length = l.length := fun l => by
    induction l with
    | nil => rfl
    | cons x l ih =>
      by_cases hx : x ∈ L
      · rw [List.filter_cons_of_neg (by simpa using hx), List.filter_cons_of_pos (by simpa using hx)]; simp only [List.length_cons]; omega
      · rw [List.filter_cons_of_pos (by simpa using hx), List.filter_cons_of_neg (by simpa using hx)]; simp only [List.length_cons]; omega
  have := h3 (bl.map (·.dig))
  rw [List.length_map] at this
  exact this
set_option maxHeartbeats 4000000 in
theorem Waste_ok (A B : Option Addr) (c d : Nat) (s : StoP) (w : World) (hg : GoodS s) (hrd : RdSt w A c B d s) :
    Calls Tryz.prog 5 #[.agg #[.slice A s.blobs.length c, .slice B s.ents.length d, .int .i64 (s.room : Int), .int .i64 (s.clock : Int)]] w fun e w' => ∃ v L, e = .returned (.tuple #[v, .int .i64 0]) ∧ StrL L (Rch s.blobs (rts s)) ∧ w'.ownsRow w.heap.size 9 1 v (wst s.blobs L).length (strs (wst s.blobs L)) ∧ Below w.heap.size w w' := by
  have HGS := Lib.hid hg
  have hbl := hg.b.len
  have hx0 : Arr (w.alloc (.cells #[.slice A s.blobs.length c, .slice B s.ents.length d, .int .i64 (s.room : Int), .int .i64 (s.clock : Int)] 26)) w.heap.size 26 [.slice A s.blobs.length c, .slice B s.ents.length d, .int .i64 (s.room : Int), .int .i64 (s.clock : Int)] := Arr.new w 26 _
  have hb0 := (Below.refl w.heap.size w).alloc (Nat.le_refl _) (.cells #[.slice A s.blobs.length c, .slice B s.ents.length d, .int .i64 (s.room : Int), .int .i64 (s.clock : Int)] 26)
  have hrd1 := hrd.below hb0
  have hb63 : (s.blobs.length : Int) ≤ 9223372036854775807 := by omega
  have q0 := hx0.cell (k := 0) rfl
  have q1 := hx0.cell (k := 1) rfl
  have q2 := hx0.cell (k := 2) rfl
  have q3 := hx0.cell (k := 3) rfl
  clear hg hrd
  go_enter Tryz.func5, Tryz.ntmps5
  repeat' ((fail_if_success at_builtin); (fail_if_success at_make); (first | go_values | go_skip | go_guarded | go_step | go_upon | go_back))
  generalize (w.alloc (.cells #[.slice A s.blobs.length c, .slice B s.ents.length d, .int .i64 (s.room : Int), .int .i64 (s.clock : Int)] 26)) = w1 at *
  obtain ⟨gS, hgS⟩ : ∃ g, g = w.heap.size := ⟨_, rfl⟩
  rw [← hgS] at hx0 q0 q1 q2 q3 ⊢
  have HgS := Lib.hid hgS
  clear hgS
  refine ((CheckS_ok A c B d s w1 HGS.out hrd1)).mono ?_; rintro e_ w2 ⟨rfl, hb2⟩; dsimp only
  have hx2 := hx0.below hb2
  have hb02 := hb0.trans (hb2.mono hb0.size)
  have hrd2 := hrd1.below hb2
  clear q0 q1 q2 q3 hx0 hb0 hrd1 hb2
  have q0 := hx2.cell (k := 0) rfl
  have q1 := hx2.cell (k := 1) rfl
  have q2 := hx2.cell (k := 2) rfl
  have q3 := hx2.cell (k := 3) rfl
  repeat' ((fail_if_success at_builtin); (fail_if_success at_make); (first | go_values | go_skip | go_guarded | go_step | go_upon | go_back))
  refine ((All_ok A B c d s (s.room : Int) (s.clock : Int) w2 HGS.out.rts hrd2)).mono ?_; rintro e_ w3 ⟨v3, L, rfl, hL, hLl, ho3, hb3⟩; dsimp only
  have hx3 := hx2.below hb3
  have hb03 := hb02.trans (hb3.mono hb02.size)
  have HRD3 := Lib.hid (hrd2.below hb3)
  obtain ⟨AL, cL, rfl, hcL, hrL⟩ := Rd.of_own' ho3
  have HL := Lib.hid hL
  have HRL := Lib.hid hrL
  have hLn : L.length ≤ 24 := by omega
  clear q0 q1 q2 q3 hx2 hrd2 hb02 hb3 ho3 hL hrL
  have q0 := hx3.cell (k := 0) rfl
  have hB0 : ∀ bb off, AL = some ⟨bb, off, none⟩ → 0 < L.length → bb < w3.heap.size := fun bb off e h0 => by
    obtain ⟨b', o', e', hb', _⟩ := HRL.out.2 h0
    rw [e] at e'; cases e'; exact hb'
  repeat' ((fail_if_success at_builtin); (fail_if_success at_make); (first | go_values | go_skip | go_guarded | go_step | go_upon | go_back))
  clear q0
  go_loopg [6, 19] s.blobs.length (fun gn u i wr => ∃ k : Nat, gn = s.blobs.length - k ∧ i = .int .i64 k ∧ k ≤ s.blobs.length ∧ wr.ownsRow w3.heap.size 9 1 u (wst (s.blobs.take k) L).length (strs (wst (s.blobs.take k) L)) ∧ Below w3.heap.size w3 wr)
  case atStart => exact ⟨0, rfl, rfl, by omega, by rw [List.take_zero]; exact World.ownsRow_nil _ _ _ _, Below.refl _ _⟩
  case round =>
    obtain ⟨k, hgk, rfl, hk, hown, hbel⟩ := hrel
    have HGK := Lib.hid hgk
    clear hgk
    by_cases hlt : k < s.blobs.length
    rotate_left
    · obtain rfl : k = s.blobs.length := by omega
      have hlb : decide (s.blobs.length < s.blobs.length) = false := by simp
      rw [List.take_length] at hown
      have HOW := Lib.hid hown
      have HB9 := Lib.hid (hb03.trans (hbel.mono hb03.size))
      have HS3 := Lib.hid hb03.size
      clear hown
      repeat' ((fail_if_success at_builtin); (fail_if_success at_make); (first | go_values | go_skip | go_guarded | go_step | go_upon | go_back))
      have e9 := HgS.out
      subst e9
      go_ret2
      exact ⟨_, L, rfl, HL.out, own_lower HOW.out HS3.out, HB9.out⟩
    have hlb : decide (k < s.blobs.length) = true := decide_eq_true hlt
    have hk0 : (0 : Int) ≤ (k : Int) := by omega
    have hk1 : (k : Int) < (s.blobs.length : Int) := by omega
    obtain ⟨bq, oq, Bq, cq, hA, hbq, d0, d1, d2, d3, hsl⟩ := (HRD3.out.b.below hbel).blob_at k hlt
    subst hA
    have HKL := Lib.hid hlt
    have HSU := Lib.hid (wst_succ s.blobs L k hlt)
    have hwl := wst_len (s.blobs.take k) L
    rw [List.length_take] at hwl
    generalize s.blobs[k] = q at *
    have hbox : Arr (wr.alloc (.cells #[.string ⟨q.dig.toArray⟩, .slice Bq q.data.length cq, .int .i64 (q.pins : Int), .bool q.mark] 35)) wr.heap.size 35 [.string ⟨q.dig.toArray⟩, .slice Bq q.data.length cq, .int .i64 (q.pins : Int), .bool q.mark] := Arr.new wr 35 _
    have hbA := hbel.alloc hbel.size (.cells #[.string ⟨q.dig.toArray⟩, .slice Bq q.data.length cq, .int .i64 (q.pins : Int), .bool q.mark] 35)
    have hownA := hown.alloc (.cells #[.string ⟨q.dig.toArray⟩, .slice Bq q.data.length cq, .int .i64 (q.pins : Int), .bool q.mark] 35)
    have p0 := hbox.cell (k := 0) rfl
    have hct := Has_str AL cL L q.dig _ (by omega) (HRL.out.below hbA)
    clear hsl hown
    by_cases hin : q.dig ∈ L
    · rw [decide_eq_true hin] at hct
      have HCT := Lib.hid hct
      have hsu := HSU.out
      rw [if_pos hin, List.append_nil] at hsu
      have HSV := Lib.hid hsu
      have HOA := Lib.hid hownA
      clear hct hin hsu hownA hbox
      repeat' ((fail_if_success at_builtin); (fail_if_success at_make); (first | go_values | go_skip | go_guarded | go_step | go_upon | go_back))
      refine ((HCT.out)).mono ?_; rintro e_ wx ⟨rfl, rfl⟩; dsimp only
      repeat' ((fail_if_success at_builtin); (fail_if_success at_make); (first | go_values | go_skip | go_guarded | go_step | go_upon | go_back))
      go_roundg (s.blobs.length - (k + 1))
      case measure => have := HGK.out; have := HKL.out; omega
      case rel => exact ⟨k + 1, rfl, by go_num, by have := HKL.out; omega, by rw [HSV.out]; exact HOA.out, hbA⟩
    · rw [decide_eq_false hin] at hct
      have HCT := Lib.hid hct
      have hsu := HSU.out
      rw [if_neg hin] at hsu
      have HSV := Lib.hid hsu
      clear hct hin hsu
      repeat' ((fail_if_success at_builtin); (fail_if_success at_make); (first | go_values | go_skip | go_guarded | go_step | go_upon | go_back))
      clear d0 d1 d2 d3
      refine ((HCT.out)).mono ?_; rintro e_ wx ⟨rfl, rfl⟩; dsimp only
      generalize (wr.alloc (.cells #[.string ⟨q.dig.toArray⟩, .slice Bq q.data.length cq, .int .i64 (q.pins : Int), .bool q.mark] 35)) = wA at *
      repeat' ((fail_if_success at_builtin); (fail_if_success at_make); (first | go_values | go_skip | go_guarded | go_step | go_upon | go_back))
      refine wpList_apN rfl (.tmp 28) (.tmp 31) rfl elStrS (by rfl) hownA (us := [.string ⟨q.dig.toArray⟩]) (by rfl) rfl (by intro u hu; rw [List.mem_singleton.1 hu]; rfl) (by omega) hbA.size ?_
      intro v9 w9 ho9 hg9 hv9
      have hb9 := below_own hbA hownA (Nat.le_refl _) hg9
      have HO9 := Lib.hid ho9
      clear ho9 hg9 hv9 hownA p0 hbox
      repeat' ((fail_if_success at_builtin); (fail_if_success at_make); (first | go_values | go_skip | go_guarded | go_step | go_upon | go_back))
      go_roundg (s.blobs.length - (k + 1))
      case measure => have := HGK.out; have := HKL.out; omega
      case rel => exact ⟨k + 1, rfl, by go_num, by have := HKL.out; omega, by rw [HSV.out, strs_app, List.length_append]; exact HO9.out, hb9⟩
theorem rts_nil (b : BlobP) (h : b.pins = 0) (r c : Nat) : rts ⟨[b], [], r, c⟩ = [] := by
  unfold rts rtsE rtsB
  simp [h]
theorem wst_one (b : BlobP) (h : b.pins = 0) (r c : Nat) (L : List (List UInt8)) (hL : StrL L (Rch [b] (rts ⟨[b], [], r, c⟩))) : (wst [b] L).length = 1 := by
  have h0 : L = [] := by
    cases L with
    | nil => rfl
    | cons x L =>
      have h1 := (hL.mem x).1 (by simp)
      rw [rts_nil b h] at h1
      have key : ∀ y, Rch [b] [] y → False := fun y hy => by
        induction hy with
        | root h1 _ => cases h1
        | step _ _ _ ih => exact ih
      exact (key _ h1).elim
  subst h0
  simp [wst]
theorem one_goodD (D : List UInt8) (hD : D = shaS []) : GoodS ⟨[⟨D, [], 0, false⟩], [], 0, 0⟩ := by
  have hb : GoodB [(⟨D, [], 0, false⟩ : BlobP)] := by
    refine ⟨by simp, ?_, List.pairwise_singleton _ _⟩
    intro b hb
    rw [List.mem_singleton.1 hb]
    exact ⟨hD, by show 0 ≤ 300; omega, by show 0 ≤ 5; omega⟩
  have he : GoodE [] := by
    refine ⟨by simp, ?_, List.Pairwise.nil⟩
    intro x hx; cases hx
  refine ⟨hb, he, by show 0 ≤ 4000; omega, by show usd [(⟨D, [], 0, false⟩ : BlobP)] ≤ 0; simp [usd], by show 0 ≤ 1099511627776; omega, ?_⟩
  intro x hx; cases hx
theorem one_good : GoodS ⟨[⟨shaS [], [], 0, false⟩], [], 0, 0⟩ := one_goodD _ rfl
set_option maxHeartbeats 8000000 in
theorem EvictWaste_walk (A : Option Addr) (n c : Nat) (l : List RawP) (w : World) (hl : l.length = n) (hc : n ≤ c) (hm : c ≤ maxLen) (hok : ∀ r ∈ l, RawOk r) (hr : Rd w 4 A n (rcs l)) :
    Calls Tryz.prog 3 #[.slice A n c] w fun e w' => e = .returned (.bool true) ∧ Below w.heap.size w w' := by
  have HS := Lib.hid (Store_ok A n c l w hl hc hm hok hr)
  have HGS := Lib.hid (sto_good l)
  clear hok hl hr hc hm
  generalize sto l = s at *
  have hbl := HGS.out.b.len
  have hel := HGS.out.e.len
  have HDG := Lib.hid (fun W => Digest_ok none 0 0 [] W rfl (Nat.le_refl _) (by omega) Rd.nil_)
  go_enter Tryz.func3, Tryz.ntmps3
  repeat' ((fail_if_success at_builtin); (fail_if_success at_make); (first | go_values | go_skip | go_guarded | go_step | go_upon | go_back))
  refine ((HS.out)).mono ?_; rintro e_ w1 ⟨v1, v2, rfl, hb, he, hb1⟩; dsimp only
  obtain ⟨Ab, cb, rfl, hcb1, hcb2, hRb⟩ := hb.rows
  obtain ⟨Ae, ce, rfl, hce1, hce2, hRe⟩ := he.rows
  have hrd1 : RdSt w1 Ab cb Ae ce s := ⟨hRb, hRe, hcb1, hcb2, hce1, hce2⟩
  have hA2 : Arr (w1.alloc (.cells #[.slice Ab s.blobs.length cb, .slice Ae s.ents.length ce, .int .i64 (s.room : Int), .int .i64 (s.clock : Int)] 26)) w1.heap.size 26 [.slice Ab s.blobs.length cb, .slice Ae s.ents.length ce, .int .i64 (s.room : Int), .int .i64 (s.clock : Int)] := Arr.new w1 26 _
  have hb2 := (Below.refl w1.heap.size w1).alloc (Nat.le_refl _) (.cells #[.slice Ab s.blobs.length cb, .slice Ae s.ents.length ce, .int .i64 (s.room : Int), .int .i64 (s.clock : Int)] 26)
  have hb12 := hb1.trans (hb2.mono hb1.size)
  have hrd2 := hrd1.below hb2
  have q0 := hA2.cell (k := 0) rfl
  have q1 := hA2.cell (k := 1) rfl
  have q2 := hA2.cell (k := 2) rfl
  have q3 := hA2.cell (k := 3) rfl
  clear hb he hRb hRe hrd1 hb2 hb1
  repeat' ((fail_if_success at_builtin); (fail_if_success at_make); (first | go_values | go_skip | go_guarded | go_step | go_upon | go_back))
  generalize w1.alloc (.cells #[.slice Ab s.blobs.length cb, .slice Ae s.ents.length ce, .int .i64 (s.room : Int), .int .i64 (s.clock : Int)] 26) = w2 at *
  generalize w1.heap.size = gs at *
  clear q0 q1 q2 q3
  refine ((Waste_ok Ab Ae cb ce s w2 HGS.out hrd2)).mono ?_; rintro e_ w3 ⟨v3, L, rfl, hL, ho3, hb3⟩; dsimp only
  have hb13 := hb12.trans (hb3.mono hb12.size)
  have hA3 := hA2.below hb3
  have hrd3 := hrd2.below hb3
  obtain ⟨AW, cW, rfl, hcW, hrW⟩ := Rd.of_own' ho3
  have HL := Lib.hid hL
  have HWL := Lib.hid (wst_sum HGS.out.b.ris hL.nd (fun x hx => ((hL.mem x).1 hx).inB))
  clear hA2 hrd2 hb12 hb3 ho3 hL
  repeat' ((fail_if_success at_builtin); (fail_if_success at_make); (first | go_values | go_skip | go_guarded | go_step | go_upon | go_back))
  refine ((HDG.out _)).mono ?_; rintro e_ w4 ⟨rfl, hb4⟩; dsimp only
  have hb14 := hb13.trans (hb4.mono hb13.size)
  have hA4 := hA3.below hb4
  have hrd4 := hrd3.below hb4
  have hrW4 := hrW.below hb4
  clear hA3 hrd3 hb13 hb4 hrW
  have hx5 : Arr (w4.alloc (.cells #[.string ⟨(shaS []).toArray⟩, .slice none 0 0, .int .i64 0, .bool false] 35)) w4.heap.size 35 [.string ⟨(shaS []).toArray⟩, .slice none 0 0, .int .i64 0, .bool false] := Arr.new w4 35 _
  have hbn := (Below.refl w4.heap.size w4).alloc (Nat.le_refl _) (.cells #[.string ⟨(shaS []).toArray⟩, .slice none 0 0, .int .i64 0, .bool false] 35)
  have hrd5 : RdSt (w4.alloc (.cells #[.string ⟨(shaS []).toArray⟩, .slice none 0 0, .int .i64 0, .bool false] 35)) (some ⟨w4.heap.size, 0, none⟩) 1 none 0 ⟨[⟨shaS [], [], 0, false⟩], [], 0, 0⟩ :=
    ⟨⟨[(⟨shaS [], [], 0, false⟩, blcell ⟨shaS [], [], 0, false⟩ none 0)], rfl, fun p hp => by rw [List.mem_singleton.1 hp]; exact ⟨none, 0, rfl, Sl.nil_ _ _⟩, Rd.of_arr hx5 rfl rfl⟩, Rw.nil_, Nat.le_refl _, by simp [maxLen], Nat.le_refl _, Nat.zero_le _⟩
  have hb15 := hb14.trans (hbn.mono hb14.size)
  have hA5 := hA4.below hbn
  have hrd5s := hrd4.below hbn
  have hrW5 := hrW4.below hbn
  have HWO := Lib.hid (Waste_ok (some ⟨w4.heap.size, 0, none⟩) none 1 0 ⟨[⟨shaS [], [], 0, false⟩], [], 0, 0⟩ _ one_good hrd5)
  clear hx5 hbn hrd5 hA4 hrd4 hrW4 hb14
  repeat' ((fail_if_success at_builtin); (fail_if_success at_make); (first | go_values | go_skip | go_guarded | go_step | go_upon | go_back))
  generalize (w4.alloc (.cells #[.string ⟨(shaS []).toArray⟩, .slice none 0 0, .int .i64 0, .bool false] 35)) = w5 at *
  generalize w4.heap.size = g5 at *
  refine ((HWO.out)).mono ?_; rintro e_ w6 ⟨v6, L6, rfl, hL6, ho6, hb6⟩; dsimp only
  have h1 := wst_one ⟨shaS [], [], 0, false⟩ rfl 0 0 L6 hL6
  dsimp only at ho6
  obtain ⟨A6, c6, rfl, _, _⟩ := Rd.of_own' ho6
  have hb16 := hb15.trans (hb6.mono hb15.size)
  have hA6 := hA5.below hb6
  have hrd6 := hrd5s.below hb6
  have hrW6 := hrW5.below hb6
  rw [h1]
  have q0 := hA6.cell (k := 0) rfl
  have q1 := hA6.cell (k := 1) rfl
  have q2 := hA6.cell (k := 2) rfl
  have q3 := hA6.cell (k := 3) rfl
  clear h1 ho6 hL6 HWO hA5 hrd5s hrW5 hb15 hb6
  repeat' ((fail_if_success at_builtin); (fail_if_success at_make); (first | go_values | go_skip | go_guarded | go_step | go_upon | go_back))
  clear q0 q1 q2 q3
  refine ((All_ok Ab Ae cb ce s (s.room : Int) (s.clock : Int) w6 HGS.out.rts hrd6)).mono ?_; rintro e_ w7 ⟨v7, L7, rfl, hL7, hLl, ho7, hb7⟩; dsimp only
  have hLL : L7 = L := StrL.uniq hL7 HL.out
  subst hLL
  have hb17 := hb16.trans (hb7.mono hb16.size)
  have HA7 := Lib.hid (hA6.below hb7)
  have HRD7 := Lib.hid (hrd6.below hb7)
  have HRW := Lib.hid (hrW6.below hb7)
  obtain ⟨AL, cL, rfl, hcL, hrL⟩ := Rd.of_own' ho7
  have HRL := Lib.hid hrL
  have hLn : L7.length ≤ 24 := by omega
  have hWn := wst_len s.blobs L7
  clear hA6 hrd6 hrW6 hb16 hb7 ho7 hL7 hrL
  have q0 := HA7.out.cell (k := 0) rfl
  have hb63 : (s.blobs.length : Int) ≤ 9223372036854775807 := by omega
  repeat' ((fail_if_success at_builtin); (fail_if_success at_make); (first | go_values | go_skip | go_guarded | go_step | go_upon | go_back))
  clear q0
  go_loopg [42] s.blobs.length (fun gn i wr => ∃ k : Nat, gn = s.blobs.length - k ∧ i = .int .i64 k ∧ k ≤ s.blobs.length ∧ Below w7.heap.size w7 wr)
  case atStart => exact ⟨0, rfl, rfl, by omega, Below.refl _ _⟩
  case round =>
    obtain ⟨k, hgk, rfl, hk, hbel⟩ := hrel
    have HGK := Lib.hid hgk
    clear hgk
    by_cases hlt : k < s.blobs.length
    rotate_left
    · obtain rfl : k = s.blobs.length := by omega
      have hlb : decide (s.blobs.length < s.blobs.length) = false := by simp
      have q0 := (HA7.out.below hbel).cell (k := 0) rfl
      have hsm := HWL.out
      have hw1 : IntKind.i64.wrap (((wst s.blobs L7).length : Int) + (L7.length : Int)) = (s.blobs.length : Int) := by rw [IntWalk.i64_in _ (by omega)]; omega
      repeat' ((fail_if_success at_builtin); (fail_if_success at_make); (first | go_values | go_skip | go_guarded | go_step | go_upon | go_back))
      go_ret
      exact ⟨by simp, hb17.trans (hbel.mono hb17.size)⟩
    have hlb : decide (k < s.blobs.length) = true := decide_eq_true hlt
    have hk0 : (0 : Int) ≤ (k : Int) := by omega
    have hk1 : (k : Int) < (s.blobs.length : Int) := by omega
    obtain ⟨bq, oq, Bq, cq, hA, hbq, d0, d1, d2, d3, hsl⟩ := (HRD7.out.b.below hbel).blob_at k hlt
    subst hA
    have HKL := Lib.hid hlt
    have HMB := Lib.hid (List.getElem_mem hlt)
    generalize s.blobs[k] = q at *
    have hbox : Arr (wr.alloc (.cells #[.string ⟨q.dig.toArray⟩, .slice Bq q.data.length cq, .int .i64 (q.pins : Int), .bool q.mark] 35)) wr.heap.size 35 [.string ⟨q.dig.toArray⟩, .slice Bq q.data.length cq, .int .i64 (q.pins : Int), .bool q.mark] := Arr.new wr 35 _
    have hbA := hbel.alloc hbel.size (.cells #[.string ⟨q.dig.toArray⟩, .slice Bq q.data.length cq, .int .i64 (q.pins : Int), .bool q.mark] 35)
    have hmw : decide (q.dig ∈ wst s.blobs L7) = !decide (q.dig ∈ L7) := by
      by_cases h : q.dig ∈ L7
      · rw [decide_eq_true h, decide_eq_false (fun h2 => (mem_wst.1 h2).2 h)]; rfl
      · rw [decide_eq_false h, decide_eq_true (mem_wst.2 ⟨⟨q, HMB.out, rfl⟩, h⟩)]; rfl
    have HMW := Lib.hid hmw
    clear hsl hmw
    repeat' ((fail_if_success at_builtin); (fail_if_success at_make); (first | go_values | go_skip | go_guarded | go_step | go_upon | go_back))
    clear d0 d1 d2 d3
    generalize hgq : wr.heap.size = gq at *
    generalize (wr.alloc (.cells #[.string ⟨q.dig.toArray⟩, .slice Bq q.data.length cq, .int .i64 (q.pins : Int), .bool q.mark] 35)) = wA at *
    have HSB := Lib.hid (show ∀ w', Below wA.heap.size wA w' → w'.cell? ⟨gq, 0, none⟩ = some (.string ⟨q.dig.toArray⟩) from fun w' h => (hbox.below h).cell (k := 0) rfl)
    have HBA := Lib.hid hbA
    clear hbox hgq hbA hbel hbq
    --HELD
    refine wp_region_held_drew (S := (fun w' => w'.cell? ⟨gq, 0, none⟩ = some (.string ⟨q.dig.toArray⟩))) (by kernel_rfl) ?_ (fun hHeld => ?_)
    · exact HSB.out _ (Below.refl _ wA).drew
    have hB := (Below.refl wA.heap.size wA).drew
    generalize wA.drew = wn0 at *
    refine wpAnyH_take (i := 0) (oi := _) (v := ?_) rfl (by kernel_rfl) (by kernel_rfl) (by kernel_rfl) (fun _ _ _ h => h) (Or.inl ⟨by rfl, ?_⟩) (by assumption) ?_
    rotate_left
    · (intro w hSw; (try dsimp only at hSw); go_simp; try (with_reducible rfl))
    try simp only [List.getElem_toArray, List.getElem_cons_zero, List.getElem_cons_succ, Act.put, List.setIfInBounds_toArray, List.set_cons_zero, List.set_cons_succ]
    refine wpAnyH_take (i := 1) (oi := _) (v := ?_) rfl (by kernel_rfl) (by kernel_rfl) (by kernel_rfl) (fun _ _ _ h => h) (Or.inl ⟨by rfl, ?_⟩) (by assumption) ?_
    rotate_left
    · (intro w hSw; (try dsimp only at hSw); go_simp; try (with_reducible rfl))
    try simp only [List.getElem_toArray, List.getElem_cons_zero, List.getElem_cons_succ, Act.put, List.setIfInBounds_toArray, List.set_cons_zero, List.set_cons_succ]
    refine wpAnyH_take (i := 2) (oi := _) (v := ?_) rfl (by kernel_rfl) (by kernel_rfl) (by kernel_rfl) (fun _ _ _ h => h) (Or.inl ⟨by rfl, ?_⟩) (by assumption) ?_
    rotate_left
    · (intro w hSw; (try dsimp only at hSw); go_simp; try (with_reducible rfl))
    try simp only [List.getElem_toArray, List.getElem_cons_zero, List.getElem_cons_succ, Act.put, List.setIfInBounds_toArray, List.set_cons_zero, List.set_cons_succ]
    refine wpAnyH_take (i := 4) (oi := _) (v := ?_) rfl (by kernel_rfl) (by kernel_rfl) (by kernel_rfl) (fun _ _ _ h => h) (Or.inl ⟨by rfl, ?_⟩) (by assumption) ?_
    rotate_left
    · (intro w hSw; (try dsimp only at hSw); go_simp; try (with_reducible rfl))
    try simp only [List.getElem_toArray, List.getElem_cons_zero, List.getElem_cons_succ, Act.put, List.setIfInBounds_toArray, List.set_cons_zero, List.set_cons_succ]
    refine wpAnyH_take (i := 5) (oi := _) (v := ?_) rfl (by kernel_rfl) (by kernel_rfl) (by kernel_rfl) (fun _ _ _ h => h) (Or.inl ⟨by rfl, ?_⟩) (by assumption) ?_
    rotate_left
    · (intro w hSw; (try dsimp only at hSw); go_simp; try (with_reducible rfl))
    try simp only [List.getElem_toArray, List.getElem_cons_zero, List.getElem_cons_succ, Act.put, List.setIfInBounds_toArray, List.set_cons_zero, List.set_cons_succ]
    refine wpAnyH_take (i := 6) (oi := _) (v := ?_) rfl (by kernel_rfl) (by kernel_rfl) (by kernel_rfl) (fun _ _ _ h => h) (Or.inl ⟨by rfl, ?_⟩) (by assumption) ?_
    rotate_left
    · (intro w hSw; (try dsimp only at hSw); go_simp; try (with_reducible rfl))
    try simp only [List.getElem_toArray, List.getElem_cons_zero, List.getElem_cons_succ, Act.put, List.setIfInBounds_toArray, List.set_cons_zero, List.set_cons_succ]
    refine wpAnyH_ready (rs := [3]) (by kernel_rfl) (by simp) ?_
    refine AllReadyH.cons (o := _) rfl (fun K hK => ?_) ?_
    ·
      go_simp
      refine (Has_str AW cW (wst s.blobs L7) q.dig wn0 (by omega) (HRW.out.below (HBA.out.trans (hB.mono HBA.out.size)))).mono ?_
      rintro e5 w5 ⟨rfl, h5⟩
      replace h5 := h5.symm
      subst h5
      dsimp only
      refine outG hK ?_ (Below wn0.heap.size wn0) (fun W => True) ?_ ?_ (fun wn1 hHeld hst hnew => ?_)
      · (exact hHeld)
      · (exact Below.refl _ _)
      · (trivial)
      have hB := hB.trans (hst.mono hB.size)
      clear hst
      clear hK K
      try simp only [List.getElem_toArray, List.getElem_cons_zero, List.getElem_cons_succ, Act.put, List.setIfInBounds_toArray, List.set_cons_zero, List.set_cons_succ]
      refine wpAnyH_ready (rs := [7]) (by kernel_rfl) (by simp) ?_
      refine AllReadyH.cons (o := _) rfl (fun K hK => ?_) ?_
      ·
        go_simp
        refine (Has_str AL cL L7 q.dig wn1 (by omega) (HRL.out.below (HBA.out.trans (hB.mono HBA.out.size)))).mono ?_
        rintro e5 w5 ⟨rfl, h5⟩
        replace h5 := h5.symm
        subst h5
        dsimp only
        refine outG hK ?_ (Below wn1.heap.size wn1) (fun W => True) ?_ ?_ (fun wn2 hHeld hst hnew => ?_)
        · (exact hHeld)
        · (exact Below.refl _ _)
        · (trivial)
        have hB := hB.trans (hst.mono hB.size)
        clear hst
        clear hK K
        try simp only [List.getElem_toArray, List.getElem_cons_zero, List.getElem_cons_succ, Act.put, List.setIfInBounds_toArray, List.set_cons_zero, List.set_cons_succ]
        refine wpAnyH_take (i := 8) (oi := _) (v := ?_) rfl (by kernel_rfl) (by kernel_rfl) (by kernel_rfl) (fun _ _ _ h => h) (Or.inl ⟨by rfl, ?_⟩) (by assumption) ?_
        rotate_left
        · (intro w hSw; (try dsimp only at hSw); go_simp; try (with_reducible rfl))
        try simp only [List.getElem_toArray, List.getElem_cons_zero, List.getElem_cons_succ, Act.put, List.setIfInBounds_toArray, List.set_cons_zero, List.set_cons_succ]
        refine wpAnyH_done (by kernel_rfl) ?_ _
        try dsimp only [Exit.then]
        clear hHeld
        rw [HMW.out]
        have hBz := HBA.out.trans (hB.mono HBA.out.size)
        clear hB
        by_cases hin : q.dig ∈ L7
        · rw [decide_eq_true hin, show (!true) = false from rfl]
          clear hin
          repeat' ((fail_if_success at_builtin); (fail_if_success at_make); (first | go_values | go_skip | go_guarded | go_step | go_upon | go_back))
          go_roundg (s.blobs.length - (k + 1))
          case measure => have := HGK.out; have := HKL.out; omega
          case rel => exact ⟨k + 1, rfl, by go_num, by have := HKL.out; omega, hBz⟩
        · rw [decide_eq_false hin, show (!false) = true from rfl]
          clear hin
          repeat' ((fail_if_success at_builtin); (fail_if_success at_make); (first | go_values | go_skip | go_guarded | go_step | go_upon | go_back))
          go_roundg (s.blobs.length - (k + 1))
          case measure => have := HGK.out; have := HKL.out; omega
          case rel => exact ⟨k + 1, rfl, by go_num, by have := HKL.out; omega, hBz⟩
      exact AllReadyH.nil
    exact AllReadyH.nil
    --HELDEND
end Go.Proofs.YtpcpffkbbhmahaaGreat
