/- The walk of listed. Conditions: the slice's size. -/
import Derived.Test.YtooohfckhepcmaaPart
import Derived.Deep.RegionHeld3
import Derived.StillTactics
import Derived.Laws.IdiomStrings
import Derived.Deep.DrawnRows
namespace Go.Proofs.Ytooohfckhepcmaa
open Go.RowKit
set_option linter.unusedVariables false
set_option linter.unusedSimpArgs false
set_option maxRecDepth 20000

attribute [local go_sem ↓] Go.wp_at_zero Go.wp_at_succ
theorem bcell {W w1 : World} (hb : Below W.heap.size W w1) : (∀ b o, b < W.heap.size → w1.cell? ⟨b, o, none⟩ = W.cell? ⟨b, o, none⟩) ∧ (∀ b o, b < W.heap.size → w1.frozen? ⟨b, o, none⟩ = W.frozen? ⟨b, o, none⟩) :=
  ⟨fun b o h => hb.cell (p := ⟨b, o, none⟩) h, fun b o h => hb.frozen (p := ⟨b, o, none⟩) h⟩
theorem conv_one (x : Int) (w : World) (g : Nat) (h : w.cell? ⟨g, 0, none⟩ = some (.int .u8 x)) (h0 : 0 ≤ x) (h1 : x < 256) :
    (convert 25 9 (.slice (some ⟨g, 0, none⟩) 1 1)).run Try.prog w = .ok (.string ⟨#[UInt8.ofNat x.toNat]⟩) w :=
  run_convert_bytes_back w 25 9 5 ⟨g, 0, none⟩ 1 [UInt8.ofNat x.toNat] Try.underlying25 Try.underlying5 Try.underlying9 (fun j hj => by
    have : j = 0 := by simpa using hj
    subst this
    simp only [List.getElem_cons_zero]
    have e : ((UInt8.ofNat x.toNat).toNat : Int) = x := by rw [UInt8.toNat_ofNat']; omega
    rw [e]
    exact h)
theorem Rd_bytes (w : World) (s : ByteArray) (cap : Nat) (e : TypeId) (fr : Nat × Nat) : Rd (w.alloc (.cells (bytesRow s cap) e fr)) 1 (some ⟨w.heap.size, 0, none⟩) s.size (bys s.data.toList) := by
  have hsz : s.data.toList.length = s.size := by rw [Array.length_toList]; rfl
  refine ⟨by rw [bys_len, hsz]; omega, fun _ => ⟨_, 0, rfl, by simp, fun j u hu => ?_⟩⟩
  have hj := (List.getElem?_eq_some_iff.1 hu).1
  rw [bys_len, hsz] at hj
  rw [← hu, Nat.zero_add]
  have h1 : (w.alloc (.cells (bytesRow s cap) e fr)).heap[w.heap.size]? = some (.cells (bytesRow s cap) e fr) := World.alloc_heap_new w _
  simp only [World.cell?, h1, Option.isSome_none, Bool.false_eq_true, if_false]
  simp [bytesRow, bys, Array.getElem?_append, hj]
theorem cellAt {w W : World} {g o : Nat} {v : Value} (hst : Below w.heap.size w W) (hl : g < w.heap.size) (h : w.cell? ⟨g, o, none⟩ = some v) : W.cell? ⟨g, o, none⟩ = some v := (hst.cell (p := ⟨g, o, none⟩) hl).trans h
theorem outG {P : Program} {md : Region.Mode} {ops : Array Oper} {Q : Exit → Act → World → Prop} {S : World → Prop} {fuel : Nat} {listed : Array Bool} {K : Act → World → Prop}
    (hK : Shut (∀ a w, S w → (S w → wpAnyH P md ops Q S fuel listed a w) → K a w)) {a : Act} {w : World} (hS : S w) (A B : World → Prop) (ha : A w) (hb : B w) (h : ∀ W, S W → A W → B W → wpAnyH P md ops Q S fuel listed a W) : K a w :=
  hK.out _ _ hS (fun h' => h w h' ha hb)
theorem Rd.drewR {w : World} {size n : Nat} {A : Option Addr} {xs : List Value} (h : Rd w size A n xs) : Rd w.drew size A n xs := h
theorem Digest_q (s : ByteArray) (A : Option Addr) (c : Nat) (W : World) (hc : s.size ≤ c) (hm : s.size ≤ 140737488351232) (hr : Rd W 1 A s.size (bys s.data.toList)) :
    Calls Try.prog 48 #[.slice A s.size c] W fun e w' => e = .returned (.string ⟨(shaS s.data.toList).toArray⟩) ∧ Below W.heap.size W w' :=
  Digest_ok A s.size c s.data.toList W (by rw [Array.length_toList]; rfl) hc hm hr

set_option maxHeartbeats 4000000 in
theorem listed_ok (A : Option Addr) (n c : Nat) (l : List RawP) (w : World) (hl : l.length = n) (hc : n ≤ c) (hm : c ≤ maxLen) (hok : ∀ r ∈ l, RawOk r) (hr : Rd w 4 A n (rcs l)) :
    Calls Try.prog 40 #[.slice A n c] w fun e w' => ∃ v, e = .returned v ∧ w'.ownsRow w.heap.size 40 3 v (lst l).length (pcs (lst l)) ∧ Below w.heap.size w w' := by
  have hn63 : n ≤ 9223372036854775807 := by unfold maxLen at hm; omega
  have HOK := Lib.hid hok
  have HL := Lib.hid hl
  clear hok hl hm
  go_enter Try.func40, Try.ntmps40
  repeat' ((fail_if_success at_builtin); (fail_if_success at_make); (first | go_values | go_skip | go_guarded | go_step | go_upon | go_back))
  go_loopg [3, 8] n (fun gn v i wr => ∃ k : Nat, gn = n - k ∧ i = .int .i64 k ∧ k ≤ n ∧ wr.ownsRow w.heap.size 40 3 v (lst (l.take k)).length (pcs (lst (l.take k))) ∧ Below w.heap.size w wr)
  case atStart => exact ⟨0, rfl, rfl, by omega, World.ownsRow_nil _ _ _ _, Below.refl _ _⟩
  case round =>
    obtain ⟨k, hgk, rfl, hk, hown, hbel⟩ := hrel
    have HGK := Lib.hid hgk
    clear hgk
    by_cases hlt : k < n
    · have hkl : k < l.length := by have := HL.out; omega
      have hsn := lst_snoc l k hkl
      obtain ⟨b, off, rfl, hbw, hcell⟩ := (hr.below hbel).2 (by omega)
      have hat := fun j (hj : j < 4) => rcs_at l k j hkl hj
      have hrok := HOK.out l[k] (List.getElem_mem hkl)
      generalize l[k] = r at *
      have c0 := hcell (k * 4 + 0) _ (hat 0 (by omega))
      have c1 := hcell (k * 4 + 1) _ (hat 1 (by omega))
      have c2 := hcell (k * 4 + 2) _ (hat 2 (by omega))
      have c3 := hcell (k * 4 + 3) _ (hat 3 (by omega))
      obtain ⟨rk, ra, rb, rt⟩ := r
      have HSN := Lib.hid hsn
      have HR := Lib.hid hrok
      clear hsn hat hcell hrok
      rw [Nat.add_zero] at c0
      rw [show off + (k * 4 + 1) = off + k * 4 + 1 by omega] at c1
      rw [show off + (k * 4 + 2) = off + k * 4 + 2 by omega] at c2
      rw [show off + (k * 4 + 3) = off + k * 4 + 3 by omega] at c3
      have hll := lst_le (l.take k)
      generalize hX : lst (l.take k) = X at *
      have HX := Lib.hid hX
      have hsz := hbel.size
      clear hX hkl
      by_cases hk8 : k < 8
      · have hk8i : (k : Int) < 8 := by omega
        have hk8b : decide ((k : Int) < 8) = true := by simpa using hk8i
        have hcv := fun (w' : World) (g : Nat) (h : w'.cell? ⟨g, 0, none⟩ = some (.int .u8 (97 + (k : Int)))) => conv_one (97 + (k : Int)) w' g h (by omega) (by omega)
        have hsb := fun (w' : World) => run_bytes_of_string (P := Try.prog) w' 9 25 5 rt Try.underlying9 Try.underlying25 Try.underlying5
        have hw1 : IntKind.i64.wrap (97 + (k : Int)) = 97 + (k : Int) := IntWalk.i64_in _ (by omega)
        have hw2 : IntKind.u8.wrap (97 + (k : Int)) = 97 + (k : Int) := by rw [IntKind.wrap_u8]; omega
        have HT := HR.out.t
        have ha0 := HR.out.a0
        have ha1 := HR.out.a1
        dsimp only at HT ha0 ha1
        repeat' ((fail_if_success at_builtin); (fail_if_success at_make); (first | go_values | go_skip | go_guarded | go_step | go_upon | go_back))
        have hne : u3.ownBlock ≠ some wr.heap.size := fun he => by have := (hown.lt _ he).2; omega
        have hown1 := hown.alloc (.cells #[.int .i64 rk, .int .i64 ra, .int .i64 rb, .string rt] 60)
        have hbel1 := hbel.alloc hsz (.cells #[.int .i64 rk, .int .i64 ra, .int .i64 rb, .string rt] 60)
        have d1 : (wr.alloc (.cells #[.int .i64 rk, .int .i64 ra, .int .i64 rb, .string rt] 60)).cell? ⟨wr.heap.size, 1, none⟩ = some (.int .i64 ra) := by simp
        have d3 : (wr.alloc (.cells #[.int .i64 rk, .int .i64 ra, .int .i64 rb, .string rt] 60)).cell? ⟨wr.heap.size, 3, none⟩ = some (.string rt) := by simp
        have hlt2 : wr.heap.size < (wr.alloc (.cells #[.int .i64 rk, .int .i64 ra, .int .i64 rb, .string rt] 60)).heap.size := by simp
        clear hown hbel c0 c1 c2 c3
        generalize (wr.alloc (.cells #[.int .i64 rk, .int .i64 ra, .int .i64 rb, .string rt] 60)) = wa at *
        generalize wr.heap.size = gr at *
        have HOWN := Lib.hid hown1
        have HBEL := Lib.hid hbel1
        have hsw := hbel1.size
        have HNE := Lib.hid hne
        clear hown1 hbel1 hne
        have hmk : ∀ W : World, Below wa.heap.size wa W → W.cell? ⟨gr, 1, none⟩ = some (.int .i64 ra) ∧ W.cell? ⟨gr, 3, none⟩ = some (.string rt) := fun W h => ⟨(h.cell (p := ⟨gr, 1, none⟩) hlt2).trans d1, (h.cell (p := ⟨gr, 3, none⟩) hlt2).trans d3⟩
        have HMK := Lib.hid hmk
        clear hmk hbw hr d1 d3
        --HELD
        refine wp_region_held_drew (S := (fun w' => w'.cell? ⟨gr, 1, none⟩ = some (.int .i64 ra) ∧ w'.cell? ⟨gr, 3, none⟩ = some (.string rt))) (by kernel_rfl) ?_ (fun hHeld => ?_)
        · exact HMK.out _ (Below.refl _ wa).drew
        have hB := (Below.refl wa.heap.size wa).drew
        generalize wa.drew = wn0 at *
        refine wpAnyH_take (i := 0) (oi := _) (v := ?_) rfl (by kernel_rfl) (by kernel_rfl) (by kernel_rfl) (fun _ _ _ h => h) (Or.inl ⟨by rfl, ?_⟩) (by assumption) ?_
        rotate_left
        · (intro w hSw; (try dsimp only at hSw); go_simp; try (with_reducible rfl))
        try simp only [Act.put, List.setIfInBounds_toArray, List.set_cons_zero, List.set_cons_succ]
        refine wpAnyH_take (i := 1) (oi := _) (v := ?_) rfl (by kernel_rfl) (by kernel_rfl) (by kernel_rfl) (fun _ _ _ h => h) (Or.inl ⟨by rfl, ?_⟩) (by assumption) ?_
        rotate_left
        · (intro w hSw; (try dsimp only at hSw); go_simp; try (with_reducible rfl))
        try simp only [Act.put, List.setIfInBounds_toArray, List.set_cons_zero, List.set_cons_succ]
        refine wpAnyH_take (i := 2) (oi := _) (v := ?_) rfl (by kernel_rfl) (by kernel_rfl) (by kernel_rfl) (fun _ _ _ h => h) (Or.inl ⟨by rfl, ?_⟩) (by assumption) ?_
        rotate_left
        · (intro w hSw; (try dsimp only at hSw); go_simp; try (with_reducible rfl))
        try simp only [Act.put, List.setIfInBounds_toArray, List.set_cons_zero, List.set_cons_succ]
        refine wpAnyH_take (i := 3) (oi := _) (v := ?_) rfl (by kernel_rfl) (by kernel_rfl) (by kernel_rfl) (fun _ _ _ h => h) (Or.inl ⟨by rfl, ?_⟩) (by assumption) ?_
        rotate_left
        · (intro w hSw; (try dsimp only at hSw); go_simp; try (with_reducible rfl))
        try simp only [Act.put, List.setIfInBounds_toArray, List.set_cons_zero, List.set_cons_succ]
        refine wpAnyH_take (i := 7) (oi := _) (v := ?_) rfl (by kernel_rfl) (by kernel_rfl) (by kernel_rfl) (fun _ _ _ h => h) (Or.inl ⟨by rfl, ?_⟩) (by assumption) ?_
        rotate_left
        · (intro w hSw; (try dsimp only at hSw); go_simp; try (with_reducible rfl))
        try simp only [Act.put, List.setIfInBounds_toArray, List.set_cons_zero, List.set_cons_succ]
        refine wpAnyH_take (i := 8) (oi := _) (v := ?_) rfl (by kernel_rfl) (by kernel_rfl) (by kernel_rfl) (fun _ _ _ h => h) (Or.inl ⟨by rfl, ?_⟩) (by assumption) ?_
        rotate_left
        · (intro w hSw; (try dsimp only at hSw); go_simp; try (with_reducible rfl))
        try simp only [Act.put, List.setIfInBounds_toArray, List.set_cons_zero, List.set_cons_succ]
        refine wpAnyH_take (i := 11) (oi := _) (v := ?_) rfl (by kernel_rfl) (by kernel_rfl) (by kernel_rfl) (fun _ _ _ h => h) (Or.inl ⟨by rfl, ?_⟩) (by assumption) ?_
        rotate_left
        · (intro w hSw; (try dsimp only at hSw); go_simp; try (with_reducible rfl))
        try simp only [Act.put, List.setIfInBounds_toArray, List.set_cons_zero, List.set_cons_succ]
        refine wpAnyH_take (i := 12) (oi := _) (v := ?_) rfl (by kernel_rfl) (by kernel_rfl) (by kernel_rfl) (fun _ _ _ h => h) (Or.inl ⟨by rfl, ?_⟩) (by assumption) ?_
        rotate_left
        · (intro w hSw; (try dsimp only at hSw); go_simp; try (with_reducible rfl))
        try simp only [Act.put, List.setIfInBounds_toArray, List.set_cons_zero, List.set_cons_succ]
        refine wpAnyH_ready (rs := [4, 9]) (by kernel_rfl) (by simp) ?_
        refine AllReadyH.cons (o := _) rfl (fun K hK => ?_) ?_
        ·
          go_simp
          refine outG hK ?_ (Below wn0.heap.size wn0) (fun W => W.cell? ⟨wn0.heap.size, 0, none⟩ = some (.int .u8 (97 + (k : Int))) ∧ wn0.heap.size < W.heap.size) ?_ ?_ (fun wn1 hHeld hst hnew => ?_)
          · ((try dsimp only); exact HMK.out _ (hB.trans (Below.mono (show Below wn0.heap.size wn0 _ from by (first | exact (Below.refl _ _).alloc (Nat.le_refl _) _ | exact ((Below.refl _ _).alloc (Nat.le_refl _) _).drew | exact hb5 | exact Below.refl _ _)) hB.size)))
          · (first | exact (Below.refl _ _).alloc (Nat.le_refl _) _ | exact ((Below.refl _ _).alloc (Nat.le_refl _) _).drew | exact hb5 | exact Below.refl _ _)
          · (simp)
          have hB := hB.trans (hst.mono hB.size)
          obtain ⟨h4, l4⟩ := hnew
          clear hst
          clear hK K
          try simp only [Act.put, List.setIfInBounds_toArray, List.set_cons_zero, List.set_cons_succ]
          refine wpAnyH_ready (rs := [5, 9]) (by kernel_rfl) (by simp) ?_
          refine AllReadyH.cons (o := _) rfl (fun K hK => ?_) ?_
          ·
            have q5 := hcv wn1 _ h4
            go_simp
            clear q5
            refine outG hK ?_ (Below wn1.heap.size wn1) (fun W => True) ?_ ?_ (fun wn2 hHeld hst hnew => ?_)
            · ((try dsimp only); exact HMK.out _ (hB.trans (Below.mono (show Below wn1.heap.size wn1 _ from by (first | exact (Below.refl _ _).alloc (Nat.le_refl _) _ | exact ((Below.refl _ _).alloc (Nat.le_refl _) _).drew | exact hb5 | exact Below.refl _ _)) hB.size)))
            · (first | exact (Below.refl _ _).alloc (Nat.le_refl _) _ | exact ((Below.refl _ _).alloc (Nat.le_refl _) _).drew | exact hb5 | exact Below.refl _ _)
            · (trivial)
            have hB := hB.trans (hst.mono hB.size)
            clear hst
            clear hK K
            try simp only [Act.put, List.setIfInBounds_toArray, List.set_cons_zero, List.set_cons_succ]
            refine wpAnyH_take (i := 6) (oi := _) (v := ?_) rfl (by kernel_rfl) (by kernel_rfl) (by kernel_rfl) (fun _ _ _ h => h) (Or.inl ⟨by rfl, ?_⟩) (by assumption) ?_
            rotate_left
            · (intro w hSw; (try dsimp only at hSw); go_simp; try (with_reducible rfl))
            try simp only [Act.put, List.setIfInBounds_toArray, List.set_cons_zero, List.set_cons_succ]
            refine wpAnyH_ready (rs := [9]) (by kernel_rfl) (by simp) ?_
            refine AllReadyH.cons (o := _) rfl (fun K hK => ?_) ?_
            ·
              have q9 := hsb wn2
              go_simp
              clear q9
              refine outG hK ?_ (Below wn2.heap.size wn2) (fun W => Rd W 1 (some ⟨wn2.heap.size, 0, none⟩) rt.size (bys rt.data.toList)) ?_ ?_ (fun wn3 hHeld hst hnew => ?_)
              · ((try dsimp only); exact HMK.out _ (hB.trans (Below.mono (show Below wn2.heap.size wn2 _ from by (first | exact (Below.refl _ _).alloc (Nat.le_refl _) _ | exact ((Below.refl _ _).alloc (Nat.le_refl _) _).drew | exact hb5 | exact Below.refl _ _)) hB.size)))
              · (first | exact (Below.refl _ _).alloc (Nat.le_refl _) _ | exact ((Below.refl _ _).alloc (Nat.le_refl _) _).drew | exact hb5 | exact Below.refl _ _)
              · (exact Rd_bytes _ _ _ _ _)
              have hB := hB.trans (hst.mono hB.size)
              have h9 := hnew
              clear hst
              clear hK K
              try simp only [Act.put, List.setIfInBounds_toArray, List.set_cons_zero, List.set_cons_succ]
              refine wpAnyH_ready (rs := [10]) (by kernel_rfl) (by simp) ?_
              refine AllReadyH.cons (o := _) rfl (fun K hK => ?_) ?_
              ·
                go_simp
                refine (Digest_q rt _ _ _ (grownCap_ge _ _ _ _) HT h9).mono ?_
                rintro e5 w5 ⟨rfl, hb5⟩
                dsimp only
                refine outG hK ?_ (Below wn3.heap.size wn3) (fun W => True) ?_ ?_ (fun wn4 hHeld hst hnew => ?_)
                · ((try dsimp only); exact HMK.out _ (hB.trans (Below.mono (show Below wn3.heap.size wn3 _ from by (first | exact (Below.refl _ _).alloc (Nat.le_refl _) _ | exact ((Below.refl _ _).alloc (Nat.le_refl _) _).drew | exact hb5 | exact Below.refl _ _)) hB.size)))
                · (first | exact (Below.refl _ _).alloc (Nat.le_refl _) _ | exact ((Below.refl _ _).alloc (Nat.le_refl _) _).drew | exact hb5 | exact Below.refl _ _)
                · (trivial)
                have hB := hB.trans (hst.mono hB.size)
                clear hst
                clear hK K
                try simp only [Act.put, List.setIfInBounds_toArray, List.set_cons_zero, List.set_cons_succ]
                refine wpAnyH_ready (rs := [13]) (by kernel_rfl) (by simp) ?_
                refine AllReadyH.cons (o := _) rfl (fun K hK => ?_) ?_
                ·
                  go_simp
                  refine (Picked_ok ra 301 301 rfl _ ha0 ha1 (by omega) (by omega)).mono ?_
                  rintro e6 w6 ⟨rfl, rfl⟩
                  dsimp only
                  refine outG hK ?_ (Below wn4.heap.size wn4) (fun W => True) ?_ ?_ (fun wn5 hHeld hst hnew => ?_)
                  · ((try dsimp only); exact HMK.out _ (hB.trans (Below.mono (show Below wn4.heap.size wn4 _ from by (first | exact (Below.refl _ _).alloc (Nat.le_refl _) _ | exact ((Below.refl _ _).alloc (Nat.le_refl _) _).drew | exact hb5 | exact Below.refl _ _)) hB.size)))
                  · (first | exact (Below.refl _ _).alloc (Nat.le_refl _) _ | exact ((Below.refl _ _).alloc (Nat.le_refl _) _).drew | exact hb5 | exact Below.refl _ _)
                  · (trivial)
                  have hB := hB.trans (hst.mono hB.size)
                  clear hst
                  clear hK K
                  try simp only [Act.put, List.setIfInBounds_toArray, List.set_cons_zero, List.set_cons_succ]
                  refine wpAnyH_take (i := 14) (oi := _) (v := ?_) rfl (by kernel_rfl) (by kernel_rfl) (by kernel_rfl) (fun _ _ _ h => h) (Or.inl ⟨by rfl, ?_⟩) (by assumption) ?_
                  rotate_left
                  · (intro w hSw; (try dsimp only at hSw); go_simp; try (with_reducible rfl))
                  try simp only [Act.put, List.setIfInBounds_toArray, List.set_cons_zero, List.set_cons_succ]
                  refine wpAnyH_ready (rs := [15]) (by kernel_rfl) (by simp) ?_
                  refine AllReadyH.cons (o := _) rfl (fun K hK => ?_) ?_
                  ·
                    go_simp
                    refine outG hK ?_ (Below wn5.heap.size wn5) (fun W => Rd W 3 (some ⟨wn5.heap.size, 0, none⟩) 1 (pcs [partOf k ⟨rk, ra, rb, rt⟩])) ?_ ?_ (fun wn6 hHeld hst hnew => ?_)
                    · ((try dsimp only); exact HMK.out _ (hB.trans (Below.mono (show Below wn5.heap.size wn5 _ from by (first | exact (Below.refl _ _).alloc (Nat.le_refl _) _ | exact ((Below.refl _ _).alloc (Nat.le_refl _) _).drew | exact hb5 | exact Below.refl _ _)) hB.size)))
                    · (first | exact (Below.refl _ _).alloc (Nat.le_refl _) _ | exact ((Below.refl _ _).alloc (Nat.le_refl _) _).drew | exact hb5 | exact Below.refl _ _)
                    · (exact Rd.newN (pcs [partOf k ⟨rk, ra, rb, rt⟩]) rfl)
                    have hB := hB.trans (hst.mono hB.size)
                    have h15 := hnew
                    clear hst
                    clear hK K
                    try simp only [Act.put, List.setIfInBounds_toArray, List.set_cons_zero, List.set_cons_succ]
                    refine wpAnyH_ready (rs := [16]) (by kernel_rfl) (by simp) ?_
                    refine AllReadyH.cons (o := _) rfl (fun K hK => ?_) ?_
                    ·
                      refine step_ap rfl (.tmp 15) (.tmp 30) rfl elPart (by rfl) (own_below HOWN.out hB) (by rfl) h15 (pcs_one _) (by omega) (by have := hB.size; omega) ?_
                      intro v7 w7 ho7 hg7 _
                      refine outG hK ?_ (fun W => W.ownsRow w.heap.size 40 3 v7 (X.length + 1) (pcs (X ++ [partOf k ⟨rk, ra, rb, rt⟩]))) (Below w.heap.size w) ?_ ?_ (fun wn7 hHeld hF hG => ?_)
                      · (try dsimp only); exact ⟨hg7.cell (HMK.out _ hB).1 (Ne.symm HNE.out), hg7.cell (HMK.out _ hB).2 (Ne.symm HNE.out)⟩
                      · rw [pcs_app]; exact ho7
                      · exact below_own (HBEL.out.trans (hB.mono hsw)) (own_below HOWN.out hB) (Nat.le_refl _) hg7
                      clear hK K
                      try simp only [Act.put, List.setIfInBounds_toArray, List.set_cons_zero, List.set_cons_succ]
                      refine wpAnyH_take (i := 17) (oi := _) (v := ?_) rfl (by kernel_rfl) (by kernel_rfl) (by kernel_rfl) (fun _ _ _ h => h) (Or.inl ⟨by rfl, ?_⟩) (by assumption) ?_
                      rotate_left
                      · (intro w hSw; (try dsimp only at hSw); go_simp; try (with_reducible rfl))
                      try simp only [Act.put, List.setIfInBounds_toArray, List.set_cons_zero, List.set_cons_succ]
                      refine wpAnyH_done (by kernel_rfl) ?_ _
                      clear hHeld hB
                      repeat' ((fail_if_success at_builtin); (fail_if_success at_make); (first | go_values | go_skip | go_guarded | go_step | go_upon | go_back))
                      go_roundg (n - (k + 1))
                      case measure => have := HGK.out; omega
                      case rel =>
                        refine ⟨k + 1, rfl, by go_num, by omega, ?_, hG⟩
                        rw [HSN.out, if_pos hk8, List.length_append]
                        exact hF
                    exact AllReadyH.nil
                  exact AllReadyH.nil
                exact AllReadyH.nil
              exact AllReadyH.nil
            exact AllReadyH.nil
          refine AllReadyH.cons (o := _) rfl (fun K hK => ?_) ?_
          ·
            have q9 := hsb wn1
            go_simp
            clear q9
            refine outG hK ?_ (Below wn1.heap.size wn1) (fun W => Rd W 1 (some ⟨wn1.heap.size, 0, none⟩) rt.size (bys rt.data.toList)) ?_ ?_ (fun wn8 hHeld hst hnew => ?_)
            · ((try dsimp only); exact HMK.out _ (hB.trans (Below.mono (show Below wn1.heap.size wn1 _ from by (first | exact (Below.refl _ _).alloc (Nat.le_refl _) _ | exact ((Below.refl _ _).alloc (Nat.le_refl _) _).drew | exact hb5 | exact Below.refl _ _)) hB.size)))
            · (first | exact (Below.refl _ _).alloc (Nat.le_refl _) _ | exact ((Below.refl _ _).alloc (Nat.le_refl _) _).drew | exact hb5 | exact Below.refl _ _)
            · (exact Rd_bytes _ _ _ _ _)
            have h4 := cellAt hst l4 h4
            have l4 := Nat.lt_of_lt_of_le l4 hst.size
            have hB := hB.trans (hst.mono hB.size)
            have h9 := hnew
            clear hst
            clear hK K
            try simp only [Act.put, List.setIfInBounds_toArray, List.set_cons_zero, List.set_cons_succ]
            refine wpAnyH_ready (rs := [5, 10]) (by kernel_rfl) (by simp) ?_
            refine AllReadyH.cons (o := _) rfl (fun K hK => ?_) ?_
            ·
              have q5 := hcv wn8 _ h4
              go_simp
              clear q5
              refine outG hK ?_ (Below wn8.heap.size wn8) (fun W => True) ?_ ?_ (fun wn9 hHeld hst hnew => ?_)
              · ((try dsimp only); exact HMK.out _ (hB.trans (Below.mono (show Below wn8.heap.size wn8 _ from by (first | exact (Below.refl _ _).alloc (Nat.le_refl _) _ | exact ((Below.refl _ _).alloc (Nat.le_refl _) _).drew | exact hb5 | exact Below.refl _ _)) hB.size)))
              · (first | exact (Below.refl _ _).alloc (Nat.le_refl _) _ | exact ((Below.refl _ _).alloc (Nat.le_refl _) _).drew | exact hb5 | exact Below.refl _ _)
              · (trivial)
              have h9 := h9.below hst
              have hB := hB.trans (hst.mono hB.size)
              clear hst
              clear hK K
              try simp only [Act.put, List.setIfInBounds_toArray, List.set_cons_zero, List.set_cons_succ]
              refine wpAnyH_take (i := 6) (oi := _) (v := ?_) rfl (by kernel_rfl) (by kernel_rfl) (by kernel_rfl) (fun _ _ _ h => h) (Or.inl ⟨by rfl, ?_⟩) (by assumption) ?_
              rotate_left
              · (intro w hSw; (try dsimp only at hSw); go_simp; try (with_reducible rfl))
              try simp only [Act.put, List.setIfInBounds_toArray, List.set_cons_zero, List.set_cons_succ]
              refine wpAnyH_ready (rs := [10]) (by kernel_rfl) (by simp) ?_
              refine AllReadyH.cons (o := _) rfl (fun K hK => ?_) ?_
              ·
                go_simp
                refine (Digest_q rt _ _ _ (grownCap_ge _ _ _ _) HT h9).mono ?_
                rintro e5 w5 ⟨rfl, hb5⟩
                dsimp only
                refine outG hK ?_ (Below wn9.heap.size wn9) (fun W => True) ?_ ?_ (fun wn10 hHeld hst hnew => ?_)
                · ((try dsimp only); exact HMK.out _ (hB.trans (Below.mono (show Below wn9.heap.size wn9 _ from by (first | exact (Below.refl _ _).alloc (Nat.le_refl _) _ | exact ((Below.refl _ _).alloc (Nat.le_refl _) _).drew | exact hb5 | exact Below.refl _ _)) hB.size)))
                · (first | exact (Below.refl _ _).alloc (Nat.le_refl _) _ | exact ((Below.refl _ _).alloc (Nat.le_refl _) _).drew | exact hb5 | exact Below.refl _ _)
                · (trivial)
                have hB := hB.trans (hst.mono hB.size)
                clear hst
                clear hK K
                try simp only [Act.put, List.setIfInBounds_toArray, List.set_cons_zero, List.set_cons_succ]
                refine wpAnyH_ready (rs := [13]) (by kernel_rfl) (by simp) ?_
                refine AllReadyH.cons (o := _) rfl (fun K hK => ?_) ?_
                ·
                  go_simp
                  refine (Picked_ok ra 301 301 rfl _ ha0 ha1 (by omega) (by omega)).mono ?_
                  rintro e6 w6 ⟨rfl, rfl⟩
                  dsimp only
                  refine outG hK ?_ (Below wn10.heap.size wn10) (fun W => True) ?_ ?_ (fun wn11 hHeld hst hnew => ?_)
                  · ((try dsimp only); exact HMK.out _ (hB.trans (Below.mono (show Below wn10.heap.size wn10 _ from by (first | exact (Below.refl _ _).alloc (Nat.le_refl _) _ | exact ((Below.refl _ _).alloc (Nat.le_refl _) _).drew | exact hb5 | exact Below.refl _ _)) hB.size)))
                  · (first | exact (Below.refl _ _).alloc (Nat.le_refl _) _ | exact ((Below.refl _ _).alloc (Nat.le_refl _) _).drew | exact hb5 | exact Below.refl _ _)
                  · (trivial)
                  have hB := hB.trans (hst.mono hB.size)
                  clear hst
                  clear hK K
                  try simp only [Act.put, List.setIfInBounds_toArray, List.set_cons_zero, List.set_cons_succ]
                  refine wpAnyH_take (i := 14) (oi := _) (v := ?_) rfl (by kernel_rfl) (by kernel_rfl) (by kernel_rfl) (fun _ _ _ h => h) (Or.inl ⟨by rfl, ?_⟩) (by assumption) ?_
                  rotate_left
                  · (intro w hSw; (try dsimp only at hSw); go_simp; try (with_reducible rfl))
                  try simp only [Act.put, List.setIfInBounds_toArray, List.set_cons_zero, List.set_cons_succ]
                  refine wpAnyH_ready (rs := [15]) (by kernel_rfl) (by simp) ?_
                  refine AllReadyH.cons (o := _) rfl (fun K hK => ?_) ?_
                  ·
                    go_simp
                    refine outG hK ?_ (Below wn11.heap.size wn11) (fun W => Rd W 3 (some ⟨wn11.heap.size, 0, none⟩) 1 (pcs [partOf k ⟨rk, ra, rb, rt⟩])) ?_ ?_ (fun wn12 hHeld hst hnew => ?_)
                    · ((try dsimp only); exact HMK.out _ (hB.trans (Below.mono (show Below wn11.heap.size wn11 _ from by (first | exact (Below.refl _ _).alloc (Nat.le_refl _) _ | exact ((Below.refl _ _).alloc (Nat.le_refl _) _).drew | exact hb5 | exact Below.refl _ _)) hB.size)))
                    · (first | exact (Below.refl _ _).alloc (Nat.le_refl _) _ | exact ((Below.refl _ _).alloc (Nat.le_refl _) _).drew | exact hb5 | exact Below.refl _ _)
                    · (exact Rd.newN (pcs [partOf k ⟨rk, ra, rb, rt⟩]) rfl)
                    have hB := hB.trans (hst.mono hB.size)
                    have h15 := hnew
                    clear hst
                    clear hK K
                    try simp only [Act.put, List.setIfInBounds_toArray, List.set_cons_zero, List.set_cons_succ]
                    refine wpAnyH_ready (rs := [16]) (by kernel_rfl) (by simp) ?_
                    refine AllReadyH.cons (o := _) rfl (fun K hK => ?_) ?_
                    ·
                      refine step_ap rfl (.tmp 15) (.tmp 30) rfl elPart (by rfl) (own_below HOWN.out hB) (by rfl) h15 (pcs_one _) (by omega) (by have := hB.size; omega) ?_
                      intro v7 w7 ho7 hg7 _
                      refine outG hK ?_ (fun W => W.ownsRow w.heap.size 40 3 v7 (X.length + 1) (pcs (X ++ [partOf k ⟨rk, ra, rb, rt⟩]))) (Below w.heap.size w) ?_ ?_ (fun wn13 hHeld hF hG => ?_)
                      · (try dsimp only); exact ⟨hg7.cell (HMK.out _ hB).1 (Ne.symm HNE.out), hg7.cell (HMK.out _ hB).2 (Ne.symm HNE.out)⟩
                      · rw [pcs_app]; exact ho7
                      · exact below_own (HBEL.out.trans (hB.mono hsw)) (own_below HOWN.out hB) (Nat.le_refl _) hg7
                      clear hK K
                      try simp only [Act.put, List.setIfInBounds_toArray, List.set_cons_zero, List.set_cons_succ]
                      refine wpAnyH_take (i := 17) (oi := _) (v := ?_) rfl (by kernel_rfl) (by kernel_rfl) (by kernel_rfl) (fun _ _ _ h => h) (Or.inl ⟨by rfl, ?_⟩) (by assumption) ?_
                      rotate_left
                      · (intro w hSw; (try dsimp only at hSw); go_simp; try (with_reducible rfl))
                      try simp only [Act.put, List.setIfInBounds_toArray, List.set_cons_zero, List.set_cons_succ]
                      refine wpAnyH_done (by kernel_rfl) ?_ _
                      clear hHeld hB
                      repeat' ((fail_if_success at_builtin); (fail_if_success at_make); (first | go_values | go_skip | go_guarded | go_step | go_upon | go_back))
                      go_roundg (n - (k + 1))
                      case measure => have := HGK.out; omega
                      case rel =>
                        refine ⟨k + 1, rfl, by go_num, by omega, ?_, hG⟩
                        rw [HSN.out, if_pos hk8, List.length_append]
                        exact hF
                    exact AllReadyH.nil
                  exact AllReadyH.nil
                exact AllReadyH.nil
              exact AllReadyH.nil
            refine AllReadyH.cons (o := _) rfl (fun K hK => ?_) ?_
            ·
              go_simp
              refine (Digest_q rt _ _ _ (grownCap_ge _ _ _ _) HT h9).mono ?_
              rintro e5 w5 ⟨rfl, hb5⟩
              dsimp only
              refine outG hK ?_ (Below wn8.heap.size wn8) (fun W => True) ?_ ?_ (fun wn14 hHeld hst hnew => ?_)
              · ((try dsimp only); exact HMK.out _ (hB.trans (Below.mono (show Below wn8.heap.size wn8 _ from by (first | exact (Below.refl _ _).alloc (Nat.le_refl _) _ | exact ((Below.refl _ _).alloc (Nat.le_refl _) _).drew | exact hb5 | exact Below.refl _ _)) hB.size)))
              · (first | exact (Below.refl _ _).alloc (Nat.le_refl _) _ | exact ((Below.refl _ _).alloc (Nat.le_refl _) _).drew | exact hb5 | exact Below.refl _ _)
              · (trivial)
              have h4 := cellAt hst l4 h4
              have l4 := Nat.lt_of_lt_of_le l4 hst.size
              have hB := hB.trans (hst.mono hB.size)
              clear hst
              clear hK K
              try simp only [Act.put, List.setIfInBounds_toArray, List.set_cons_zero, List.set_cons_succ]
              refine wpAnyH_ready (rs := [5, 13]) (by kernel_rfl) (by simp) ?_
              refine AllReadyH.cons (o := _) rfl (fun K hK => ?_) ?_
              ·
                have q5 := hcv wn14 _ h4
                go_simp
                clear q5
                refine outG hK ?_ (Below wn14.heap.size wn14) (fun W => True) ?_ ?_ (fun wn15 hHeld hst hnew => ?_)
                · ((try dsimp only); exact HMK.out _ (hB.trans (Below.mono (show Below wn14.heap.size wn14 _ from by (first | exact (Below.refl _ _).alloc (Nat.le_refl _) _ | exact ((Below.refl _ _).alloc (Nat.le_refl _) _).drew | exact hb5 | exact Below.refl _ _)) hB.size)))
                · (first | exact (Below.refl _ _).alloc (Nat.le_refl _) _ | exact ((Below.refl _ _).alloc (Nat.le_refl _) _).drew | exact hb5 | exact Below.refl _ _)
                · (trivial)
                have hB := hB.trans (hst.mono hB.size)
                clear hst
                clear hK K
                try simp only [Act.put, List.setIfInBounds_toArray, List.set_cons_zero, List.set_cons_succ]
                refine wpAnyH_take (i := 6) (oi := _) (v := ?_) rfl (by kernel_rfl) (by kernel_rfl) (by kernel_rfl) (fun _ _ _ h => h) (Or.inl ⟨by rfl, ?_⟩) (by assumption) ?_
                rotate_left
                · (intro w hSw; (try dsimp only at hSw); go_simp; try (with_reducible rfl))
                try simp only [Act.put, List.setIfInBounds_toArray, List.set_cons_zero, List.set_cons_succ]
                refine wpAnyH_ready (rs := [13]) (by kernel_rfl) (by simp) ?_
                refine AllReadyH.cons (o := _) rfl (fun K hK => ?_) ?_
                ·
                  go_simp
                  refine (Picked_ok ra 301 301 rfl _ ha0 ha1 (by omega) (by omega)).mono ?_
                  rintro e6 w6 ⟨rfl, rfl⟩
                  dsimp only
                  refine outG hK ?_ (Below wn15.heap.size wn15) (fun W => True) ?_ ?_ (fun wn16 hHeld hst hnew => ?_)
                  · ((try dsimp only); exact HMK.out _ (hB.trans (Below.mono (show Below wn15.heap.size wn15 _ from by (first | exact (Below.refl _ _).alloc (Nat.le_refl _) _ | exact ((Below.refl _ _).alloc (Nat.le_refl _) _).drew | exact hb5 | exact Below.refl _ _)) hB.size)))
                  · (first | exact (Below.refl _ _).alloc (Nat.le_refl _) _ | exact ((Below.refl _ _).alloc (Nat.le_refl _) _).drew | exact hb5 | exact Below.refl _ _)
                  · (trivial)
                  have hB := hB.trans (hst.mono hB.size)
                  clear hst
                  clear hK K
                  try simp only [Act.put, List.setIfInBounds_toArray, List.set_cons_zero, List.set_cons_succ]
                  refine wpAnyH_take (i := 14) (oi := _) (v := ?_) rfl (by kernel_rfl) (by kernel_rfl) (by kernel_rfl) (fun _ _ _ h => h) (Or.inl ⟨by rfl, ?_⟩) (by assumption) ?_
                  rotate_left
                  · (intro w hSw; (try dsimp only at hSw); go_simp; try (with_reducible rfl))
                  try simp only [Act.put, List.setIfInBounds_toArray, List.set_cons_zero, List.set_cons_succ]
                  refine wpAnyH_ready (rs := [15]) (by kernel_rfl) (by simp) ?_
                  refine AllReadyH.cons (o := _) rfl (fun K hK => ?_) ?_
                  ·
                    go_simp
                    refine outG hK ?_ (Below wn16.heap.size wn16) (fun W => Rd W 3 (some ⟨wn16.heap.size, 0, none⟩) 1 (pcs [partOf k ⟨rk, ra, rb, rt⟩])) ?_ ?_ (fun wn17 hHeld hst hnew => ?_)
                    · ((try dsimp only); exact HMK.out _ (hB.trans (Below.mono (show Below wn16.heap.size wn16 _ from by (first | exact (Below.refl _ _).alloc (Nat.le_refl _) _ | exact ((Below.refl _ _).alloc (Nat.le_refl _) _).drew | exact hb5 | exact Below.refl _ _)) hB.size)))
                    · (first | exact (Below.refl _ _).alloc (Nat.le_refl _) _ | exact ((Below.refl _ _).alloc (Nat.le_refl _) _).drew | exact hb5 | exact Below.refl _ _)
                    · (exact Rd.newN (pcs [partOf k ⟨rk, ra, rb, rt⟩]) rfl)
                    have hB := hB.trans (hst.mono hB.size)
                    have h15 := hnew
                    clear hst
                    clear hK K
                    try simp only [Act.put, List.setIfInBounds_toArray, List.set_cons_zero, List.set_cons_succ]
                    refine wpAnyH_ready (rs := [16]) (by kernel_rfl) (by simp) ?_
                    refine AllReadyH.cons (o := _) rfl (fun K hK => ?_) ?_
                    ·
                      refine step_ap rfl (.tmp 15) (.tmp 30) rfl elPart (by rfl) (own_below HOWN.out hB) (by rfl) h15 (pcs_one _) (by omega) (by have := hB.size; omega) ?_
                      intro v7 w7 ho7 hg7 _
                      refine outG hK ?_ (fun W => W.ownsRow w.heap.size 40 3 v7 (X.length + 1) (pcs (X ++ [partOf k ⟨rk, ra, rb, rt⟩]))) (Below w.heap.size w) ?_ ?_ (fun wn18 hHeld hF hG => ?_)
                      · (try dsimp only); exact ⟨hg7.cell (HMK.out _ hB).1 (Ne.symm HNE.out), hg7.cell (HMK.out _ hB).2 (Ne.symm HNE.out)⟩
                      · rw [pcs_app]; exact ho7
                      · exact below_own (HBEL.out.trans (hB.mono hsw)) (own_below HOWN.out hB) (Nat.le_refl _) hg7
                      clear hK K
                      try simp only [Act.put, List.setIfInBounds_toArray, List.set_cons_zero, List.set_cons_succ]
                      refine wpAnyH_take (i := 17) (oi := _) (v := ?_) rfl (by kernel_rfl) (by kernel_rfl) (by kernel_rfl) (fun _ _ _ h => h) (Or.inl ⟨by rfl, ?_⟩) (by assumption) ?_
                      rotate_left
                      · (intro w hSw; (try dsimp only at hSw); go_simp; try (with_reducible rfl))
                      try simp only [Act.put, List.setIfInBounds_toArray, List.set_cons_zero, List.set_cons_succ]
                      refine wpAnyH_done (by kernel_rfl) ?_ _
                      clear hHeld hB
                      repeat' ((fail_if_success at_builtin); (fail_if_success at_make); (first | go_values | go_skip | go_guarded | go_step | go_upon | go_back))
                      go_roundg (n - (k + 1))
                      case measure => have := HGK.out; omega
                      case rel =>
                        refine ⟨k + 1, rfl, by go_num, by omega, ?_, hG⟩
                        rw [HSN.out, if_pos hk8, List.length_append]
                        exact hF
                    exact AllReadyH.nil
                  exact AllReadyH.nil
                exact AllReadyH.nil
              refine AllReadyH.cons (o := _) rfl (fun K hK => ?_) ?_
              ·
                go_simp
                refine (Picked_ok ra 301 301 rfl _ ha0 ha1 (by omega) (by omega)).mono ?_
                rintro e6 w6 ⟨rfl, rfl⟩
                dsimp only
                refine outG hK ?_ (Below wn14.heap.size wn14) (fun W => True) ?_ ?_ (fun wn19 hHeld hst hnew => ?_)
                · ((try dsimp only); exact HMK.out _ (hB.trans (Below.mono (show Below wn14.heap.size wn14 _ from by (first | exact (Below.refl _ _).alloc (Nat.le_refl _) _ | exact ((Below.refl _ _).alloc (Nat.le_refl _) _).drew | exact hb5 | exact Below.refl _ _)) hB.size)))
                · (first | exact (Below.refl _ _).alloc (Nat.le_refl _) _ | exact ((Below.refl _ _).alloc (Nat.le_refl _) _).drew | exact hb5 | exact Below.refl _ _)
                · (trivial)
                have h4 := cellAt hst l4 h4
                have l4 := Nat.lt_of_lt_of_le l4 hst.size
                have hB := hB.trans (hst.mono hB.size)
                clear hst
                clear hK K
                try simp only [Act.put, List.setIfInBounds_toArray, List.set_cons_zero, List.set_cons_succ]
                refine wpAnyH_ready (rs := [5]) (by kernel_rfl) (by simp) ?_
                refine AllReadyH.cons (o := _) rfl (fun K hK => ?_) ?_
                ·
                  have q5 := hcv wn19 _ h4
                  go_simp
                  clear q5
                  refine outG hK ?_ (Below wn19.heap.size wn19) (fun W => True) ?_ ?_ (fun wn20 hHeld hst hnew => ?_)
                  · ((try dsimp only); exact HMK.out _ (hB.trans (Below.mono (show Below wn19.heap.size wn19 _ from by (first | exact (Below.refl _ _).alloc (Nat.le_refl _) _ | exact ((Below.refl _ _).alloc (Nat.le_refl _) _).drew | exact hb5 | exact Below.refl _ _)) hB.size)))
                  · (first | exact (Below.refl _ _).alloc (Nat.le_refl _) _ | exact ((Below.refl _ _).alloc (Nat.le_refl _) _).drew | exact hb5 | exact Below.refl _ _)
                  · (trivial)
                  have hB := hB.trans (hst.mono hB.size)
                  clear hst
                  clear hK K
                  try simp only [Act.put, List.setIfInBounds_toArray, List.set_cons_zero, List.set_cons_succ]
                  refine wpAnyH_take (i := 6) (oi := _) (v := ?_) rfl (by kernel_rfl) (by kernel_rfl) (by kernel_rfl) (fun _ _ _ h => h) (Or.inl ⟨by rfl, ?_⟩) (by assumption) ?_
                  rotate_left
                  · (intro w hSw; (try dsimp only at hSw); go_simp; try (with_reducible rfl))
                  try simp only [Act.put, List.setIfInBounds_toArray, List.set_cons_zero, List.set_cons_succ]
                  refine wpAnyH_take (i := 14) (oi := _) (v := ?_) rfl (by kernel_rfl) (by kernel_rfl) (by kernel_rfl) (fun _ _ _ h => h) (Or.inl ⟨by rfl, ?_⟩) (by assumption) ?_
                  rotate_left
                  · (intro w hSw; (try dsimp only at hSw); go_simp; try (with_reducible rfl))
                  try simp only [Act.put, List.setIfInBounds_toArray, List.set_cons_zero, List.set_cons_succ]
                  refine wpAnyH_ready (rs := [15]) (by kernel_rfl) (by simp) ?_
                  refine AllReadyH.cons (o := _) rfl (fun K hK => ?_) ?_
                  ·
                    go_simp
                    refine outG hK ?_ (Below wn20.heap.size wn20) (fun W => Rd W 3 (some ⟨wn20.heap.size, 0, none⟩) 1 (pcs [partOf k ⟨rk, ra, rb, rt⟩])) ?_ ?_ (fun wn21 hHeld hst hnew => ?_)
                    · ((try dsimp only); exact HMK.out _ (hB.trans (Below.mono (show Below wn20.heap.size wn20 _ from by (first | exact (Below.refl _ _).alloc (Nat.le_refl _) _ | exact ((Below.refl _ _).alloc (Nat.le_refl _) _).drew | exact hb5 | exact Below.refl _ _)) hB.size)))
                    · (first | exact (Below.refl _ _).alloc (Nat.le_refl _) _ | exact ((Below.refl _ _).alloc (Nat.le_refl _) _).drew | exact hb5 | exact Below.refl _ _)
                    · (exact Rd.newN (pcs [partOf k ⟨rk, ra, rb, rt⟩]) rfl)
                    have hB := hB.trans (hst.mono hB.size)
                    have h15 := hnew
                    clear hst
                    clear hK K
                    try simp only [Act.put, List.setIfInBounds_toArray, List.set_cons_zero, List.set_cons_succ]
                    refine wpAnyH_ready (rs := [16]) (by kernel_rfl) (by simp) ?_
                    refine AllReadyH.cons (o := _) rfl (fun K hK => ?_) ?_
                    ·
                      refine step_ap rfl (.tmp 15) (.tmp 30) rfl elPart (by rfl) (own_below HOWN.out hB) (by rfl) h15 (pcs_one _) (by omega) (by have := hB.size; omega) ?_
                      intro v7 w7 ho7 hg7 _
                      refine outG hK ?_ (fun W => W.ownsRow w.heap.size 40 3 v7 (X.length + 1) (pcs (X ++ [partOf k ⟨rk, ra, rb, rt⟩]))) (Below w.heap.size w) ?_ ?_ (fun wn22 hHeld hF hG => ?_)
                      · (try dsimp only); exact ⟨hg7.cell (HMK.out _ hB).1 (Ne.symm HNE.out), hg7.cell (HMK.out _ hB).2 (Ne.symm HNE.out)⟩
                      · rw [pcs_app]; exact ho7
                      · exact below_own (HBEL.out.trans (hB.mono hsw)) (own_below HOWN.out hB) (Nat.le_refl _) hg7
                      clear hK K
                      try simp only [Act.put, List.setIfInBounds_toArray, List.set_cons_zero, List.set_cons_succ]
                      refine wpAnyH_take (i := 17) (oi := _) (v := ?_) rfl (by kernel_rfl) (by kernel_rfl) (by kernel_rfl) (fun _ _ _ h => h) (Or.inl ⟨by rfl, ?_⟩) (by assumption) ?_
                      rotate_left
                      · (intro w hSw; (try dsimp only at hSw); go_simp; try (with_reducible rfl))
                      try simp only [Act.put, List.setIfInBounds_toArray, List.set_cons_zero, List.set_cons_succ]
                      refine wpAnyH_done (by kernel_rfl) ?_ _
                      clear hHeld hB
                      repeat' ((fail_if_success at_builtin); (fail_if_success at_make); (first | go_values | go_skip | go_guarded | go_step | go_upon | go_back))
                      go_roundg (n - (k + 1))
                      case measure => have := HGK.out; omega
                      case rel =>
                        refine ⟨k + 1, rfl, by go_num, by omega, ?_, hG⟩
                        rw [HSN.out, if_pos hk8, List.length_append]
                        exact hF
                    exact AllReadyH.nil
                  exact AllReadyH.nil
                exact AllReadyH.nil
              exact AllReadyH.nil
            exact AllReadyH.nil
          exact AllReadyH.nil
        refine AllReadyH.cons (o := _) rfl (fun K hK => ?_) ?_
        ·
          have q9 := hsb wn0
          go_simp
          clear q9
          refine outG hK ?_ (Below wn0.heap.size wn0) (fun W => Rd W 1 (some ⟨wn0.heap.size, 0, none⟩) rt.size (bys rt.data.toList)) ?_ ?_ (fun wn23 hHeld hst hnew => ?_)
          · ((try dsimp only); exact HMK.out _ (hB.trans (Below.mono (show Below wn0.heap.size wn0 _ from by (first | exact (Below.refl _ _).alloc (Nat.le_refl _) _ | exact ((Below.refl _ _).alloc (Nat.le_refl _) _).drew | exact hb5 | exact Below.refl _ _)) hB.size)))
          · (first | exact (Below.refl _ _).alloc (Nat.le_refl _) _ | exact ((Below.refl _ _).alloc (Nat.le_refl _) _).drew | exact hb5 | exact Below.refl _ _)
          · (exact Rd_bytes _ _ _ _ _)
          have hB := hB.trans (hst.mono hB.size)
          have h9 := hnew
          clear hst
          clear hK K
          try simp only [Act.put, List.setIfInBounds_toArray, List.set_cons_zero, List.set_cons_succ]
          refine wpAnyH_ready (rs := [4, 10]) (by kernel_rfl) (by simp) ?_
          refine AllReadyH.cons (o := _) rfl (fun K hK => ?_) ?_
          ·
            go_simp
            refine outG hK ?_ (Below wn23.heap.size wn23) (fun W => W.cell? ⟨wn23.heap.size, 0, none⟩ = some (.int .u8 (97 + (k : Int))) ∧ wn23.heap.size < W.heap.size) ?_ ?_ (fun wn24 hHeld hst hnew => ?_)
            · ((try dsimp only); exact HMK.out _ (hB.trans (Below.mono (show Below wn23.heap.size wn23 _ from by (first | exact (Below.refl _ _).alloc (Nat.le_refl _) _ | exact ((Below.refl _ _).alloc (Nat.le_refl _) _).drew | exact hb5 | exact Below.refl _ _)) hB.size)))
            · (first | exact (Below.refl _ _).alloc (Nat.le_refl _) _ | exact ((Below.refl _ _).alloc (Nat.le_refl _) _).drew | exact hb5 | exact Below.refl _ _)
            · (simp)
            have h9 := h9.below hst
            have hB := hB.trans (hst.mono hB.size)
            obtain ⟨h4, l4⟩ := hnew
            clear hst
            clear hK K
            try simp only [Act.put, List.setIfInBounds_toArray, List.set_cons_zero, List.set_cons_succ]
            refine wpAnyH_ready (rs := [5, 10]) (by kernel_rfl) (by simp) ?_
            refine AllReadyH.cons (o := _) rfl (fun K hK => ?_) ?_
            ·
              have q5 := hcv wn24 _ h4
              go_simp
              clear q5
              refine outG hK ?_ (Below wn24.heap.size wn24) (fun W => True) ?_ ?_ (fun wn25 hHeld hst hnew => ?_)
              · ((try dsimp only); exact HMK.out _ (hB.trans (Below.mono (show Below wn24.heap.size wn24 _ from by (first | exact (Below.refl _ _).alloc (Nat.le_refl _) _ | exact ((Below.refl _ _).alloc (Nat.le_refl _) _).drew | exact hb5 | exact Below.refl _ _)) hB.size)))
              · (first | exact (Below.refl _ _).alloc (Nat.le_refl _) _ | exact ((Below.refl _ _).alloc (Nat.le_refl _) _).drew | exact hb5 | exact Below.refl _ _)
              · (trivial)
              have h9 := h9.below hst
              have hB := hB.trans (hst.mono hB.size)
              clear hst
              clear hK K
              try simp only [Act.put, List.setIfInBounds_toArray, List.set_cons_zero, List.set_cons_succ]
              refine wpAnyH_take (i := 6) (oi := _) (v := ?_) rfl (by kernel_rfl) (by kernel_rfl) (by kernel_rfl) (fun _ _ _ h => h) (Or.inl ⟨by rfl, ?_⟩) (by assumption) ?_
              rotate_left
              · (intro w hSw; (try dsimp only at hSw); go_simp; try (with_reducible rfl))
              try simp only [Act.put, List.setIfInBounds_toArray, List.set_cons_zero, List.set_cons_succ]
              refine wpAnyH_ready (rs := [10]) (by kernel_rfl) (by simp) ?_
              refine AllReadyH.cons (o := _) rfl (fun K hK => ?_) ?_
              ·
                go_simp
                refine (Digest_q rt _ _ _ (grownCap_ge _ _ _ _) HT h9).mono ?_
                rintro e5 w5 ⟨rfl, hb5⟩
                dsimp only
                refine outG hK ?_ (Below wn25.heap.size wn25) (fun W => True) ?_ ?_ (fun wn26 hHeld hst hnew => ?_)
                · ((try dsimp only); exact HMK.out _ (hB.trans (Below.mono (show Below wn25.heap.size wn25 _ from by (first | exact (Below.refl _ _).alloc (Nat.le_refl _) _ | exact ((Below.refl _ _).alloc (Nat.le_refl _) _).drew | exact hb5 | exact Below.refl _ _)) hB.size)))
                · (first | exact (Below.refl _ _).alloc (Nat.le_refl _) _ | exact ((Below.refl _ _).alloc (Nat.le_refl _) _).drew | exact hb5 | exact Below.refl _ _)
                · (trivial)
                have hB := hB.trans (hst.mono hB.size)
                clear hst
                clear hK K
                try simp only [Act.put, List.setIfInBounds_toArray, List.set_cons_zero, List.set_cons_succ]
                refine wpAnyH_ready (rs := [13]) (by kernel_rfl) (by simp) ?_
                refine AllReadyH.cons (o := _) rfl (fun K hK => ?_) ?_
                ·
                  go_simp
                  refine (Picked_ok ra 301 301 rfl _ ha0 ha1 (by omega) (by omega)).mono ?_
                  rintro e6 w6 ⟨rfl, rfl⟩
                  dsimp only
                  refine outG hK ?_ (Below wn26.heap.size wn26) (fun W => True) ?_ ?_ (fun wn27 hHeld hst hnew => ?_)
                  · ((try dsimp only); exact HMK.out _ (hB.trans (Below.mono (show Below wn26.heap.size wn26 _ from by (first | exact (Below.refl _ _).alloc (Nat.le_refl _) _ | exact ((Below.refl _ _).alloc (Nat.le_refl _) _).drew | exact hb5 | exact Below.refl _ _)) hB.size)))
                  · (first | exact (Below.refl _ _).alloc (Nat.le_refl _) _ | exact ((Below.refl _ _).alloc (Nat.le_refl _) _).drew | exact hb5 | exact Below.refl _ _)
                  · (trivial)
                  have hB := hB.trans (hst.mono hB.size)
                  clear hst
                  clear hK K
                  try simp only [Act.put, List.setIfInBounds_toArray, List.set_cons_zero, List.set_cons_succ]
                  refine wpAnyH_take (i := 14) (oi := _) (v := ?_) rfl (by kernel_rfl) (by kernel_rfl) (by kernel_rfl) (fun _ _ _ h => h) (Or.inl ⟨by rfl, ?_⟩) (by assumption) ?_
                  rotate_left
                  · (intro w hSw; (try dsimp only at hSw); go_simp; try (with_reducible rfl))
                  try simp only [Act.put, List.setIfInBounds_toArray, List.set_cons_zero, List.set_cons_succ]
                  refine wpAnyH_ready (rs := [15]) (by kernel_rfl) (by simp) ?_
                  refine AllReadyH.cons (o := _) rfl (fun K hK => ?_) ?_
                  ·
                    go_simp
                    refine outG hK ?_ (Below wn27.heap.size wn27) (fun W => Rd W 3 (some ⟨wn27.heap.size, 0, none⟩) 1 (pcs [partOf k ⟨rk, ra, rb, rt⟩])) ?_ ?_ (fun wn28 hHeld hst hnew => ?_)
                    · ((try dsimp only); exact HMK.out _ (hB.trans (Below.mono (show Below wn27.heap.size wn27 _ from by (first | exact (Below.refl _ _).alloc (Nat.le_refl _) _ | exact ((Below.refl _ _).alloc (Nat.le_refl _) _).drew | exact hb5 | exact Below.refl _ _)) hB.size)))
                    · (first | exact (Below.refl _ _).alloc (Nat.le_refl _) _ | exact ((Below.refl _ _).alloc (Nat.le_refl _) _).drew | exact hb5 | exact Below.refl _ _)
                    · (exact Rd.newN (pcs [partOf k ⟨rk, ra, rb, rt⟩]) rfl)
                    have hB := hB.trans (hst.mono hB.size)
                    have h15 := hnew
                    clear hst
                    clear hK K
                    try simp only [Act.put, List.setIfInBounds_toArray, List.set_cons_zero, List.set_cons_succ]
                    refine wpAnyH_ready (rs := [16]) (by kernel_rfl) (by simp) ?_
                    refine AllReadyH.cons (o := _) rfl (fun K hK => ?_) ?_
                    ·
                      refine step_ap rfl (.tmp 15) (.tmp 30) rfl elPart (by rfl) (own_below HOWN.out hB) (by rfl) h15 (pcs_one _) (by omega) (by have := hB.size; omega) ?_
                      intro v7 w7 ho7 hg7 _
                      refine outG hK ?_ (fun W => W.ownsRow w.heap.size 40 3 v7 (X.length + 1) (pcs (X ++ [partOf k ⟨rk, ra, rb, rt⟩]))) (Below w.heap.size w) ?_ ?_ (fun wn29 hHeld hF hG => ?_)
                      · (try dsimp only); exact ⟨hg7.cell (HMK.out _ hB).1 (Ne.symm HNE.out), hg7.cell (HMK.out _ hB).2 (Ne.symm HNE.out)⟩
                      · rw [pcs_app]; exact ho7
                      · exact below_own (HBEL.out.trans (hB.mono hsw)) (own_below HOWN.out hB) (Nat.le_refl _) hg7
                      clear hK K
                      try simp only [Act.put, List.setIfInBounds_toArray, List.set_cons_zero, List.set_cons_succ]
                      refine wpAnyH_take (i := 17) (oi := _) (v := ?_) rfl (by kernel_rfl) (by kernel_rfl) (by kernel_rfl) (fun _ _ _ h => h) (Or.inl ⟨by rfl, ?_⟩) (by assumption) ?_
                      rotate_left
                      · (intro w hSw; (try dsimp only at hSw); go_simp; try (with_reducible rfl))
                      try simp only [Act.put, List.setIfInBounds_toArray, List.set_cons_zero, List.set_cons_succ]
                      refine wpAnyH_done (by kernel_rfl) ?_ _
                      clear hHeld hB
                      repeat' ((fail_if_success at_builtin); (fail_if_success at_make); (first | go_values | go_skip | go_guarded | go_step | go_upon | go_back))
                      go_roundg (n - (k + 1))
                      case measure => have := HGK.out; omega
                      case rel =>
                        refine ⟨k + 1, rfl, by go_num, by omega, ?_, hG⟩
                        rw [HSN.out, if_pos hk8, List.length_append]
                        exact hF
                    exact AllReadyH.nil
                  exact AllReadyH.nil
                exact AllReadyH.nil
              exact AllReadyH.nil
            refine AllReadyH.cons (o := _) rfl (fun K hK => ?_) ?_
            ·
              go_simp
              refine (Digest_q rt _ _ _ (grownCap_ge _ _ _ _) HT h9).mono ?_
              rintro e5 w5 ⟨rfl, hb5⟩
              dsimp only
              refine outG hK ?_ (Below wn24.heap.size wn24) (fun W => True) ?_ ?_ (fun wn30 hHeld hst hnew => ?_)
              · ((try dsimp only); exact HMK.out _ (hB.trans (Below.mono (show Below wn24.heap.size wn24 _ from by (first | exact (Below.refl _ _).alloc (Nat.le_refl _) _ | exact ((Below.refl _ _).alloc (Nat.le_refl _) _).drew | exact hb5 | exact Below.refl _ _)) hB.size)))
              · (first | exact (Below.refl _ _).alloc (Nat.le_refl _) _ | exact ((Below.refl _ _).alloc (Nat.le_refl _) _).drew | exact hb5 | exact Below.refl _ _)
              · (trivial)
              have h4 := cellAt hst l4 h4
              have l4 := Nat.lt_of_lt_of_le l4 hst.size
              have hB := hB.trans (hst.mono hB.size)
              clear hst
              clear hK K
              try simp only [Act.put, List.setIfInBounds_toArray, List.set_cons_zero, List.set_cons_succ]
              refine wpAnyH_ready (rs := [5, 13]) (by kernel_rfl) (by simp) ?_
              refine AllReadyH.cons (o := _) rfl (fun K hK => ?_) ?_
              ·
                have q5 := hcv wn30 _ h4
                go_simp
                clear q5
                refine outG hK ?_ (Below wn30.heap.size wn30) (fun W => True) ?_ ?_ (fun wn31 hHeld hst hnew => ?_)
                · ((try dsimp only); exact HMK.out _ (hB.trans (Below.mono (show Below wn30.heap.size wn30 _ from by (first | exact (Below.refl _ _).alloc (Nat.le_refl _) _ | exact ((Below.refl _ _).alloc (Nat.le_refl _) _).drew | exact hb5 | exact Below.refl _ _)) hB.size)))
                · (first | exact (Below.refl _ _).alloc (Nat.le_refl _) _ | exact ((Below.refl _ _).alloc (Nat.le_refl _) _).drew | exact hb5 | exact Below.refl _ _)
                · (trivial)
                have hB := hB.trans (hst.mono hB.size)
                clear hst
                clear hK K
                try simp only [Act.put, List.setIfInBounds_toArray, List.set_cons_zero, List.set_cons_succ]
                refine wpAnyH_take (i := 6) (oi := _) (v := ?_) rfl (by kernel_rfl) (by kernel_rfl) (by kernel_rfl) (fun _ _ _ h => h) (Or.inl ⟨by rfl, ?_⟩) (by assumption) ?_
                rotate_left
                · (intro w hSw; (try dsimp only at hSw); go_simp; try (with_reducible rfl))
                try simp only [Act.put, List.setIfInBounds_toArray, List.set_cons_zero, List.set_cons_succ]
                refine wpAnyH_ready (rs := [13]) (by kernel_rfl) (by simp) ?_
                refine AllReadyH.cons (o := _) rfl (fun K hK => ?_) ?_
                ·
                  go_simp
                  refine (Picked_ok ra 301 301 rfl _ ha0 ha1 (by omega) (by omega)).mono ?_
                  rintro e6 w6 ⟨rfl, rfl⟩
                  dsimp only
                  refine outG hK ?_ (Below wn31.heap.size wn31) (fun W => True) ?_ ?_ (fun wn32 hHeld hst hnew => ?_)
                  · ((try dsimp only); exact HMK.out _ (hB.trans (Below.mono (show Below wn31.heap.size wn31 _ from by (first | exact (Below.refl _ _).alloc (Nat.le_refl _) _ | exact ((Below.refl _ _).alloc (Nat.le_refl _) _).drew | exact hb5 | exact Below.refl _ _)) hB.size)))
                  · (first | exact (Below.refl _ _).alloc (Nat.le_refl _) _ | exact ((Below.refl _ _).alloc (Nat.le_refl _) _).drew | exact hb5 | exact Below.refl _ _)
                  · (trivial)
                  have hB := hB.trans (hst.mono hB.size)
                  clear hst
                  clear hK K
                  try simp only [Act.put, List.setIfInBounds_toArray, List.set_cons_zero, List.set_cons_succ]
                  refine wpAnyH_take (i := 14) (oi := _) (v := ?_) rfl (by kernel_rfl) (by kernel_rfl) (by kernel_rfl) (fun _ _ _ h => h) (Or.inl ⟨by rfl, ?_⟩) (by assumption) ?_
                  rotate_left
                  · (intro w hSw; (try dsimp only at hSw); go_simp; try (with_reducible rfl))
                  try simp only [Act.put, List.setIfInBounds_toArray, List.set_cons_zero, List.set_cons_succ]
                  refine wpAnyH_ready (rs := [15]) (by kernel_rfl) (by simp) ?_
                  refine AllReadyH.cons (o := _) rfl (fun K hK => ?_) ?_
                  ·
                    go_simp
                    refine outG hK ?_ (Below wn32.heap.size wn32) (fun W => Rd W 3 (some ⟨wn32.heap.size, 0, none⟩) 1 (pcs [partOf k ⟨rk, ra, rb, rt⟩])) ?_ ?_ (fun wn33 hHeld hst hnew => ?_)
                    · ((try dsimp only); exact HMK.out _ (hB.trans (Below.mono (show Below wn32.heap.size wn32 _ from by (first | exact (Below.refl _ _).alloc (Nat.le_refl _) _ | exact ((Below.refl _ _).alloc (Nat.le_refl _) _).drew | exact hb5 | exact Below.refl _ _)) hB.size)))
                    · (first | exact (Below.refl _ _).alloc (Nat.le_refl _) _ | exact ((Below.refl _ _).alloc (Nat.le_refl _) _).drew | exact hb5 | exact Below.refl _ _)
                    · (exact Rd.newN (pcs [partOf k ⟨rk, ra, rb, rt⟩]) rfl)
                    have hB := hB.trans (hst.mono hB.size)
                    have h15 := hnew
                    clear hst
                    clear hK K
                    try simp only [Act.put, List.setIfInBounds_toArray, List.set_cons_zero, List.set_cons_succ]
                    refine wpAnyH_ready (rs := [16]) (by kernel_rfl) (by simp) ?_
                    refine AllReadyH.cons (o := _) rfl (fun K hK => ?_) ?_
                    ·
                      refine step_ap rfl (.tmp 15) (.tmp 30) rfl elPart (by rfl) (own_below HOWN.out hB) (by rfl) h15 (pcs_one _) (by omega) (by have := hB.size; omega) ?_
                      intro v7 w7 ho7 hg7 _
                      refine outG hK ?_ (fun W => W.ownsRow w.heap.size 40 3 v7 (X.length + 1) (pcs (X ++ [partOf k ⟨rk, ra, rb, rt⟩]))) (Below w.heap.size w) ?_ ?_ (fun wn34 hHeld hF hG => ?_)
                      · (try dsimp only); exact ⟨hg7.cell (HMK.out _ hB).1 (Ne.symm HNE.out), hg7.cell (HMK.out _ hB).2 (Ne.symm HNE.out)⟩
                      · rw [pcs_app]; exact ho7
                      · exact below_own (HBEL.out.trans (hB.mono hsw)) (own_below HOWN.out hB) (Nat.le_refl _) hg7
                      clear hK K
                      try simp only [Act.put, List.setIfInBounds_toArray, List.set_cons_zero, List.set_cons_succ]
                      refine wpAnyH_take (i := 17) (oi := _) (v := ?_) rfl (by kernel_rfl) (by kernel_rfl) (by kernel_rfl) (fun _ _ _ h => h) (Or.inl ⟨by rfl, ?_⟩) (by assumption) ?_
                      rotate_left
                      · (intro w hSw; (try dsimp only at hSw); go_simp; try (with_reducible rfl))
                      try simp only [Act.put, List.setIfInBounds_toArray, List.set_cons_zero, List.set_cons_succ]
                      refine wpAnyH_done (by kernel_rfl) ?_ _
                      clear hHeld hB
                      repeat' ((fail_if_success at_builtin); (fail_if_success at_make); (first | go_values | go_skip | go_guarded | go_step | go_upon | go_back))
                      go_roundg (n - (k + 1))
                      case measure => have := HGK.out; omega
                      case rel =>
                        refine ⟨k + 1, rfl, by go_num, by omega, ?_, hG⟩
                        rw [HSN.out, if_pos hk8, List.length_append]
                        exact hF
                    exact AllReadyH.nil
                  exact AllReadyH.nil
                exact AllReadyH.nil
              refine AllReadyH.cons (o := _) rfl (fun K hK => ?_) ?_
              ·
                go_simp
                refine (Picked_ok ra 301 301 rfl _ ha0 ha1 (by omega) (by omega)).mono ?_
                rintro e6 w6 ⟨rfl, rfl⟩
                dsimp only
                refine outG hK ?_ (Below wn30.heap.size wn30) (fun W => True) ?_ ?_ (fun wn35 hHeld hst hnew => ?_)
                · ((try dsimp only); exact HMK.out _ (hB.trans (Below.mono (show Below wn30.heap.size wn30 _ from by (first | exact (Below.refl _ _).alloc (Nat.le_refl _) _ | exact ((Below.refl _ _).alloc (Nat.le_refl _) _).drew | exact hb5 | exact Below.refl _ _)) hB.size)))
                · (first | exact (Below.refl _ _).alloc (Nat.le_refl _) _ | exact ((Below.refl _ _).alloc (Nat.le_refl _) _).drew | exact hb5 | exact Below.refl _ _)
                · (trivial)
                have h4 := cellAt hst l4 h4
                have l4 := Nat.lt_of_lt_of_le l4 hst.size
                have hB := hB.trans (hst.mono hB.size)
                clear hst
                clear hK K
                try simp only [Act.put, List.setIfInBounds_toArray, List.set_cons_zero, List.set_cons_succ]
                refine wpAnyH_ready (rs := [5]) (by kernel_rfl) (by simp) ?_
                refine AllReadyH.cons (o := _) rfl (fun K hK => ?_) ?_
                ·
                  have q5 := hcv wn35 _ h4
                  go_simp
                  clear q5
                  refine outG hK ?_ (Below wn35.heap.size wn35) (fun W => True) ?_ ?_ (fun wn36 hHeld hst hnew => ?_)
                  · ((try dsimp only); exact HMK.out _ (hB.trans (Below.mono (show Below wn35.heap.size wn35 _ from by (first | exact (Below.refl _ _).alloc (Nat.le_refl _) _ | exact ((Below.refl _ _).alloc (Nat.le_refl _) _).drew | exact hb5 | exact Below.refl _ _)) hB.size)))
                  · (first | exact (Below.refl _ _).alloc (Nat.le_refl _) _ | exact ((Below.refl _ _).alloc (Nat.le_refl _) _).drew | exact hb5 | exact Below.refl _ _)
                  · (trivial)
                  have hB := hB.trans (hst.mono hB.size)
                  clear hst
                  clear hK K
                  try simp only [Act.put, List.setIfInBounds_toArray, List.set_cons_zero, List.set_cons_succ]
                  refine wpAnyH_take (i := 6) (oi := _) (v := ?_) rfl (by kernel_rfl) (by kernel_rfl) (by kernel_rfl) (fun _ _ _ h => h) (Or.inl ⟨by rfl, ?_⟩) (by assumption) ?_
                  rotate_left
                  · (intro w hSw; (try dsimp only at hSw); go_simp; try (with_reducible rfl))
                  try simp only [Act.put, List.setIfInBounds_toArray, List.set_cons_zero, List.set_cons_succ]
                  refine wpAnyH_take (i := 14) (oi := _) (v := ?_) rfl (by kernel_rfl) (by kernel_rfl) (by kernel_rfl) (fun _ _ _ h => h) (Or.inl ⟨by rfl, ?_⟩) (by assumption) ?_
                  rotate_left
                  · (intro w hSw; (try dsimp only at hSw); go_simp; try (with_reducible rfl))
                  try simp only [Act.put, List.setIfInBounds_toArray, List.set_cons_zero, List.set_cons_succ]
                  refine wpAnyH_ready (rs := [15]) (by kernel_rfl) (by simp) ?_
                  refine AllReadyH.cons (o := _) rfl (fun K hK => ?_) ?_
                  ·
                    go_simp
                    refine outG hK ?_ (Below wn36.heap.size wn36) (fun W => Rd W 3 (some ⟨wn36.heap.size, 0, none⟩) 1 (pcs [partOf k ⟨rk, ra, rb, rt⟩])) ?_ ?_ (fun wn37 hHeld hst hnew => ?_)
                    · ((try dsimp only); exact HMK.out _ (hB.trans (Below.mono (show Below wn36.heap.size wn36 _ from by (first | exact (Below.refl _ _).alloc (Nat.le_refl _) _ | exact ((Below.refl _ _).alloc (Nat.le_refl _) _).drew | exact hb5 | exact Below.refl _ _)) hB.size)))
                    · (first | exact (Below.refl _ _).alloc (Nat.le_refl _) _ | exact ((Below.refl _ _).alloc (Nat.le_refl _) _).drew | exact hb5 | exact Below.refl _ _)
                    · (exact Rd.newN (pcs [partOf k ⟨rk, ra, rb, rt⟩]) rfl)
                    have hB := hB.trans (hst.mono hB.size)
                    have h15 := hnew
                    clear hst
                    clear hK K
                    try simp only [Act.put, List.setIfInBounds_toArray, List.set_cons_zero, List.set_cons_succ]
                    refine wpAnyH_ready (rs := [16]) (by kernel_rfl) (by simp) ?_
                    refine AllReadyH.cons (o := _) rfl (fun K hK => ?_) ?_
                    ·
                      refine step_ap rfl (.tmp 15) (.tmp 30) rfl elPart (by rfl) (own_below HOWN.out hB) (by rfl) h15 (pcs_one _) (by omega) (by have := hB.size; omega) ?_
                      intro v7 w7 ho7 hg7 _
                      refine outG hK ?_ (fun W => W.ownsRow w.heap.size 40 3 v7 (X.length + 1) (pcs (X ++ [partOf k ⟨rk, ra, rb, rt⟩]))) (Below w.heap.size w) ?_ ?_ (fun wn38 hHeld hF hG => ?_)
                      · (try dsimp only); exact ⟨hg7.cell (HMK.out _ hB).1 (Ne.symm HNE.out), hg7.cell (HMK.out _ hB).2 (Ne.symm HNE.out)⟩
                      · rw [pcs_app]; exact ho7
                      · exact below_own (HBEL.out.trans (hB.mono hsw)) (own_below HOWN.out hB) (Nat.le_refl _) hg7
                      clear hK K
                      try simp only [Act.put, List.setIfInBounds_toArray, List.set_cons_zero, List.set_cons_succ]
                      refine wpAnyH_take (i := 17) (oi := _) (v := ?_) rfl (by kernel_rfl) (by kernel_rfl) (by kernel_rfl) (fun _ _ _ h => h) (Or.inl ⟨by rfl, ?_⟩) (by assumption) ?_
                      rotate_left
                      · (intro w hSw; (try dsimp only at hSw); go_simp; try (with_reducible rfl))
                      try simp only [Act.put, List.setIfInBounds_toArray, List.set_cons_zero, List.set_cons_succ]
                      refine wpAnyH_done (by kernel_rfl) ?_ _
                      clear hHeld hB
                      repeat' ((fail_if_success at_builtin); (fail_if_success at_make); (first | go_values | go_skip | go_guarded | go_step | go_upon | go_back))
                      go_roundg (n - (k + 1))
                      case measure => have := HGK.out; omega
                      case rel =>
                        refine ⟨k + 1, rfl, by go_num, by omega, ?_, hG⟩
                        rw [HSN.out, if_pos hk8, List.length_append]
                        exact hF
                    exact AllReadyH.nil
                  exact AllReadyH.nil
                exact AllReadyH.nil
              exact AllReadyH.nil
            exact AllReadyH.nil
          refine AllReadyH.cons (o := _) rfl (fun K hK => ?_) ?_
          ·
            go_simp
            refine (Digest_q rt _ _ _ (grownCap_ge _ _ _ _) HT h9).mono ?_
            rintro e5 w5 ⟨rfl, hb5⟩
            dsimp only
            refine outG hK ?_ (Below wn23.heap.size wn23) (fun W => True) ?_ ?_ (fun wn39 hHeld hst hnew => ?_)
            · ((try dsimp only); exact HMK.out _ (hB.trans (Below.mono (show Below wn23.heap.size wn23 _ from by (first | exact (Below.refl _ _).alloc (Nat.le_refl _) _ | exact ((Below.refl _ _).alloc (Nat.le_refl _) _).drew | exact hb5 | exact Below.refl _ _)) hB.size)))
            · (first | exact (Below.refl _ _).alloc (Nat.le_refl _) _ | exact ((Below.refl _ _).alloc (Nat.le_refl _) _).drew | exact hb5 | exact Below.refl _ _)
            · (trivial)
            have hB := hB.trans (hst.mono hB.size)
            clear hst
            clear hK K
            try simp only [Act.put, List.setIfInBounds_toArray, List.set_cons_zero, List.set_cons_succ]
            refine wpAnyH_ready (rs := [4, 13]) (by kernel_rfl) (by simp) ?_
            refine AllReadyH.cons (o := _) rfl (fun K hK => ?_) ?_
            ·
              go_simp
              refine outG hK ?_ (Below wn39.heap.size wn39) (fun W => W.cell? ⟨wn39.heap.size, 0, none⟩ = some (.int .u8 (97 + (k : Int))) ∧ wn39.heap.size < W.heap.size) ?_ ?_ (fun wn40 hHeld hst hnew => ?_)
              · ((try dsimp only); exact HMK.out _ (hB.trans (Below.mono (show Below wn39.heap.size wn39 _ from by (first | exact (Below.refl _ _).alloc (Nat.le_refl _) _ | exact ((Below.refl _ _).alloc (Nat.le_refl _) _).drew | exact hb5 | exact Below.refl _ _)) hB.size)))
              · (first | exact (Below.refl _ _).alloc (Nat.le_refl _) _ | exact ((Below.refl _ _).alloc (Nat.le_refl _) _).drew | exact hb5 | exact Below.refl _ _)
              · (simp)
              have hB := hB.trans (hst.mono hB.size)
              obtain ⟨h4, l4⟩ := hnew
              clear hst
              clear hK K
              try simp only [Act.put, List.setIfInBounds_toArray, List.set_cons_zero, List.set_cons_succ]
              refine wpAnyH_ready (rs := [5, 13]) (by kernel_rfl) (by simp) ?_
              refine AllReadyH.cons (o := _) rfl (fun K hK => ?_) ?_
              ·
                have q5 := hcv wn40 _ h4
                go_simp
                clear q5
                refine outG hK ?_ (Below wn40.heap.size wn40) (fun W => True) ?_ ?_ (fun wn41 hHeld hst hnew => ?_)
                · ((try dsimp only); exact HMK.out _ (hB.trans (Below.mono (show Below wn40.heap.size wn40 _ from by (first | exact (Below.refl _ _).alloc (Nat.le_refl _) _ | exact ((Below.refl _ _).alloc (Nat.le_refl _) _).drew | exact hb5 | exact Below.refl _ _)) hB.size)))
                · (first | exact (Below.refl _ _).alloc (Nat.le_refl _) _ | exact ((Below.refl _ _).alloc (Nat.le_refl _) _).drew | exact hb5 | exact Below.refl _ _)
                · (trivial)
                have hB := hB.trans (hst.mono hB.size)
                clear hst
                clear hK K
                try simp only [Act.put, List.setIfInBounds_toArray, List.set_cons_zero, List.set_cons_succ]
                refine wpAnyH_take (i := 6) (oi := _) (v := ?_) rfl (by kernel_rfl) (by kernel_rfl) (by kernel_rfl) (fun _ _ _ h => h) (Or.inl ⟨by rfl, ?_⟩) (by assumption) ?_
                rotate_left
                · (intro w hSw; (try dsimp only at hSw); go_simp; try (with_reducible rfl))
                try simp only [Act.put, List.setIfInBounds_toArray, List.set_cons_zero, List.set_cons_succ]
                refine wpAnyH_ready (rs := [13]) (by kernel_rfl) (by simp) ?_
                refine AllReadyH.cons (o := _) rfl (fun K hK => ?_) ?_
                ·
                  go_simp
                  refine (Picked_ok ra 301 301 rfl _ ha0 ha1 (by omega) (by omega)).mono ?_
                  rintro e6 w6 ⟨rfl, rfl⟩
                  dsimp only
                  refine outG hK ?_ (Below wn41.heap.size wn41) (fun W => True) ?_ ?_ (fun wn42 hHeld hst hnew => ?_)
                  · ((try dsimp only); exact HMK.out _ (hB.trans (Below.mono (show Below wn41.heap.size wn41 _ from by (first | exact (Below.refl _ _).alloc (Nat.le_refl _) _ | exact ((Below.refl _ _).alloc (Nat.le_refl _) _).drew | exact hb5 | exact Below.refl _ _)) hB.size)))
                  · (first | exact (Below.refl _ _).alloc (Nat.le_refl _) _ | exact ((Below.refl _ _).alloc (Nat.le_refl _) _).drew | exact hb5 | exact Below.refl _ _)
                  · (trivial)
                  have hB := hB.trans (hst.mono hB.size)
                  clear hst
                  clear hK K
                  try simp only [Act.put, List.setIfInBounds_toArray, List.set_cons_zero, List.set_cons_succ]
                  refine wpAnyH_take (i := 14) (oi := _) (v := ?_) rfl (by kernel_rfl) (by kernel_rfl) (by kernel_rfl) (fun _ _ _ h => h) (Or.inl ⟨by rfl, ?_⟩) (by assumption) ?_
                  rotate_left
                  · (intro w hSw; (try dsimp only at hSw); go_simp; try (with_reducible rfl))
                  try simp only [Act.put, List.setIfInBounds_toArray, List.set_cons_zero, List.set_cons_succ]
                  refine wpAnyH_ready (rs := [15]) (by kernel_rfl) (by simp) ?_
                  refine AllReadyH.cons (o := _) rfl (fun K hK => ?_) ?_
                  ·
                    go_simp
                    refine outG hK ?_ (Below wn42.heap.size wn42) (fun W => Rd W 3 (some ⟨wn42.heap.size, 0, none⟩) 1 (pcs [partOf k ⟨rk, ra, rb, rt⟩])) ?_ ?_ (fun wn43 hHeld hst hnew => ?_)
                    · ((try dsimp only); exact HMK.out _ (hB.trans (Below.mono (show Below wn42.heap.size wn42 _ from by (first | exact (Below.refl _ _).alloc (Nat.le_refl _) _ | exact ((Below.refl _ _).alloc (Nat.le_refl _) _).drew | exact hb5 | exact Below.refl _ _)) hB.size)))
                    · (first | exact (Below.refl _ _).alloc (Nat.le_refl _) _ | exact ((Below.refl _ _).alloc (Nat.le_refl _) _).drew | exact hb5 | exact Below.refl _ _)
                    · (exact Rd.newN (pcs [partOf k ⟨rk, ra, rb, rt⟩]) rfl)
                    have hB := hB.trans (hst.mono hB.size)
                    have h15 := hnew
                    clear hst
                    clear hK K
                    try simp only [Act.put, List.setIfInBounds_toArray, List.set_cons_zero, List.set_cons_succ]
                    refine wpAnyH_ready (rs := [16]) (by kernel_rfl) (by simp) ?_
                    refine AllReadyH.cons (o := _) rfl (fun K hK => ?_) ?_
                    ·
                      refine step_ap rfl (.tmp 15) (.tmp 30) rfl elPart (by rfl) (own_below HOWN.out hB) (by rfl) h15 (pcs_one _) (by omega) (by have := hB.size; omega) ?_
                      intro v7 w7 ho7 hg7 _
                      refine outG hK ?_ (fun W => W.ownsRow w.heap.size 40 3 v7 (X.length + 1) (pcs (X ++ [partOf k ⟨rk, ra, rb, rt⟩]))) (Below w.heap.size w) ?_ ?_ (fun wn44 hHeld hF hG => ?_)
                      · (try dsimp only); exact ⟨hg7.cell (HMK.out _ hB).1 (Ne.symm HNE.out), hg7.cell (HMK.out _ hB).2 (Ne.symm HNE.out)⟩
                      · rw [pcs_app]; exact ho7
                      · exact below_own (HBEL.out.trans (hB.mono hsw)) (own_below HOWN.out hB) (Nat.le_refl _) hg7
                      clear hK K
                      try simp only [Act.put, List.setIfInBounds_toArray, List.set_cons_zero, List.set_cons_succ]
                      refine wpAnyH_take (i := 17) (oi := _) (v := ?_) rfl (by kernel_rfl) (by kernel_rfl) (by kernel_rfl) (fun _ _ _ h => h) (Or.inl ⟨by rfl, ?_⟩) (by assumption) ?_
                      rotate_left
                      · (intro w hSw; (try dsimp only at hSw); go_simp; try (with_reducible rfl))
                      try simp only [Act.put, List.setIfInBounds_toArray, List.set_cons_zero, List.set_cons_succ]
                      refine wpAnyH_done (by kernel_rfl) ?_ _
                      clear hHeld hB
                      repeat' ((fail_if_success at_builtin); (fail_if_success at_make); (first | go_values | go_skip | go_guarded | go_step | go_upon | go_back))
                      go_roundg (n - (k + 1))
                      case measure => have := HGK.out; omega
                      case rel =>
                        refine ⟨k + 1, rfl, by go_num, by omega, ?_, hG⟩
                        rw [HSN.out, if_pos hk8, List.length_append]
                        exact hF
                    exact AllReadyH.nil
                  exact AllReadyH.nil
                exact AllReadyH.nil
              refine AllReadyH.cons (o := _) rfl (fun K hK => ?_) ?_
              ·
                go_simp
                refine (Picked_ok ra 301 301 rfl _ ha0 ha1 (by omega) (by omega)).mono ?_
                rintro e6 w6 ⟨rfl, rfl⟩
                dsimp only
                refine outG hK ?_ (Below wn40.heap.size wn40) (fun W => True) ?_ ?_ (fun wn45 hHeld hst hnew => ?_)
                · ((try dsimp only); exact HMK.out _ (hB.trans (Below.mono (show Below wn40.heap.size wn40 _ from by (first | exact (Below.refl _ _).alloc (Nat.le_refl _) _ | exact ((Below.refl _ _).alloc (Nat.le_refl _) _).drew | exact hb5 | exact Below.refl _ _)) hB.size)))
                · (first | exact (Below.refl _ _).alloc (Nat.le_refl _) _ | exact ((Below.refl _ _).alloc (Nat.le_refl _) _).drew | exact hb5 | exact Below.refl _ _)
                · (trivial)
                have h4 := cellAt hst l4 h4
                have l4 := Nat.lt_of_lt_of_le l4 hst.size
                have hB := hB.trans (hst.mono hB.size)
                clear hst
                clear hK K
                try simp only [Act.put, List.setIfInBounds_toArray, List.set_cons_zero, List.set_cons_succ]
                refine wpAnyH_ready (rs := [5]) (by kernel_rfl) (by simp) ?_
                refine AllReadyH.cons (o := _) rfl (fun K hK => ?_) ?_
                ·
                  have q5 := hcv wn45 _ h4
                  go_simp
                  clear q5
                  refine outG hK ?_ (Below wn45.heap.size wn45) (fun W => True) ?_ ?_ (fun wn46 hHeld hst hnew => ?_)
                  · ((try dsimp only); exact HMK.out _ (hB.trans (Below.mono (show Below wn45.heap.size wn45 _ from by (first | exact (Below.refl _ _).alloc (Nat.le_refl _) _ | exact ((Below.refl _ _).alloc (Nat.le_refl _) _).drew | exact hb5 | exact Below.refl _ _)) hB.size)))
                  · (first | exact (Below.refl _ _).alloc (Nat.le_refl _) _ | exact ((Below.refl _ _).alloc (Nat.le_refl _) _).drew | exact hb5 | exact Below.refl _ _)
                  · (trivial)
                  have hB := hB.trans (hst.mono hB.size)
                  clear hst
                  clear hK K
                  try simp only [Act.put, List.setIfInBounds_toArray, List.set_cons_zero, List.set_cons_succ]
                  refine wpAnyH_take (i := 6) (oi := _) (v := ?_) rfl (by kernel_rfl) (by kernel_rfl) (by kernel_rfl) (fun _ _ _ h => h) (Or.inl ⟨by rfl, ?_⟩) (by assumption) ?_
                  rotate_left
                  · (intro w hSw; (try dsimp only at hSw); go_simp; try (with_reducible rfl))
                  try simp only [Act.put, List.setIfInBounds_toArray, List.set_cons_zero, List.set_cons_succ]
                  refine wpAnyH_take (i := 14) (oi := _) (v := ?_) rfl (by kernel_rfl) (by kernel_rfl) (by kernel_rfl) (fun _ _ _ h => h) (Or.inl ⟨by rfl, ?_⟩) (by assumption) ?_
                  rotate_left
                  · (intro w hSw; (try dsimp only at hSw); go_simp; try (with_reducible rfl))
                  try simp only [Act.put, List.setIfInBounds_toArray, List.set_cons_zero, List.set_cons_succ]
                  refine wpAnyH_ready (rs := [15]) (by kernel_rfl) (by simp) ?_
                  refine AllReadyH.cons (o := _) rfl (fun K hK => ?_) ?_
                  ·
                    go_simp
                    refine outG hK ?_ (Below wn46.heap.size wn46) (fun W => Rd W 3 (some ⟨wn46.heap.size, 0, none⟩) 1 (pcs [partOf k ⟨rk, ra, rb, rt⟩])) ?_ ?_ (fun wn47 hHeld hst hnew => ?_)
                    · ((try dsimp only); exact HMK.out _ (hB.trans (Below.mono (show Below wn46.heap.size wn46 _ from by (first | exact (Below.refl _ _).alloc (Nat.le_refl _) _ | exact ((Below.refl _ _).alloc (Nat.le_refl _) _).drew | exact hb5 | exact Below.refl _ _)) hB.size)))
                    · (first | exact (Below.refl _ _).alloc (Nat.le_refl _) _ | exact ((Below.refl _ _).alloc (Nat.le_refl _) _).drew | exact hb5 | exact Below.refl _ _)
                    · (exact Rd.newN (pcs [partOf k ⟨rk, ra, rb, rt⟩]) rfl)
                    have hB := hB.trans (hst.mono hB.size)
                    have h15 := hnew
                    clear hst
                    clear hK K
                    try simp only [Act.put, List.setIfInBounds_toArray, List.set_cons_zero, List.set_cons_succ]
                    refine wpAnyH_ready (rs := [16]) (by kernel_rfl) (by simp) ?_
                    refine AllReadyH.cons (o := _) rfl (fun K hK => ?_) ?_
                    ·
                      refine step_ap rfl (.tmp 15) (.tmp 30) rfl elPart (by rfl) (own_below HOWN.out hB) (by rfl) h15 (pcs_one _) (by omega) (by have := hB.size; omega) ?_
                      intro v7 w7 ho7 hg7 _
                      refine outG hK ?_ (fun W => W.ownsRow w.heap.size 40 3 v7 (X.length + 1) (pcs (X ++ [partOf k ⟨rk, ra, rb, rt⟩]))) (Below w.heap.size w) ?_ ?_ (fun wn48 hHeld hF hG => ?_)
                      · (try dsimp only); exact ⟨hg7.cell (HMK.out _ hB).1 (Ne.symm HNE.out), hg7.cell (HMK.out _ hB).2 (Ne.symm HNE.out)⟩
                      · rw [pcs_app]; exact ho7
                      · exact below_own (HBEL.out.trans (hB.mono hsw)) (own_below HOWN.out hB) (Nat.le_refl _) hg7
                      clear hK K
                      try simp only [Act.put, List.setIfInBounds_toArray, List.set_cons_zero, List.set_cons_succ]
                      refine wpAnyH_take (i := 17) (oi := _) (v := ?_) rfl (by kernel_rfl) (by kernel_rfl) (by kernel_rfl) (fun _ _ _ h => h) (Or.inl ⟨by rfl, ?_⟩) (by assumption) ?_
                      rotate_left
                      · (intro w hSw; (try dsimp only at hSw); go_simp; try (with_reducible rfl))
                      try simp only [Act.put, List.setIfInBounds_toArray, List.set_cons_zero, List.set_cons_succ]
                      refine wpAnyH_done (by kernel_rfl) ?_ _
                      clear hHeld hB
                      repeat' ((fail_if_success at_builtin); (fail_if_success at_make); (first | go_values | go_skip | go_guarded | go_step | go_upon | go_back))
                      go_roundg (n - (k + 1))
                      case measure => have := HGK.out; omega
                      case rel =>
                        refine ⟨k + 1, rfl, by go_num, by omega, ?_, hG⟩
                        rw [HSN.out, if_pos hk8, List.length_append]
                        exact hF
                    exact AllReadyH.nil
                  exact AllReadyH.nil
                exact AllReadyH.nil
              exact AllReadyH.nil
            refine AllReadyH.cons (o := _) rfl (fun K hK => ?_) ?_
            ·
              go_simp
              refine (Picked_ok ra 301 301 rfl _ ha0 ha1 (by omega) (by omega)).mono ?_
              rintro e6 w6 ⟨rfl, rfl⟩
              dsimp only
              refine outG hK ?_ (Below wn39.heap.size wn39) (fun W => True) ?_ ?_ (fun wn49 hHeld hst hnew => ?_)
              · ((try dsimp only); exact HMK.out _ (hB.trans (Below.mono (show Below wn39.heap.size wn39 _ from by (first | exact (Below.refl _ _).alloc (Nat.le_refl _) _ | exact ((Below.refl _ _).alloc (Nat.le_refl _) _).drew | exact hb5 | exact Below.refl _ _)) hB.size)))
              · (first | exact (Below.refl _ _).alloc (Nat.le_refl _) _ | exact ((Below.refl _ _).alloc (Nat.le_refl _) _).drew | exact hb5 | exact Below.refl _ _)
              · (trivial)
              have hB := hB.trans (hst.mono hB.size)
              clear hst
              clear hK K
              try simp only [Act.put, List.setIfInBounds_toArray, List.set_cons_zero, List.set_cons_succ]
              refine wpAnyH_ready (rs := [4]) (by kernel_rfl) (by simp) ?_
              refine AllReadyH.cons (o := _) rfl (fun K hK => ?_) ?_
              ·
                go_simp
                refine outG hK ?_ (Below wn49.heap.size wn49) (fun W => W.cell? ⟨wn49.heap.size, 0, none⟩ = some (.int .u8 (97 + (k : Int))) ∧ wn49.heap.size < W.heap.size) ?_ ?_ (fun wn50 hHeld hst hnew => ?_)
                · ((try dsimp only); exact HMK.out _ (hB.trans (Below.mono (show Below wn49.heap.size wn49 _ from by (first | exact (Below.refl _ _).alloc (Nat.le_refl _) _ | exact ((Below.refl _ _).alloc (Nat.le_refl _) _).drew | exact hb5 | exact Below.refl _ _)) hB.size)))
                · (first | exact (Below.refl _ _).alloc (Nat.le_refl _) _ | exact ((Below.refl _ _).alloc (Nat.le_refl _) _).drew | exact hb5 | exact Below.refl _ _)
                · (simp)
                have hB := hB.trans (hst.mono hB.size)
                obtain ⟨h4, l4⟩ := hnew
                clear hst
                clear hK K
                try simp only [Act.put, List.setIfInBounds_toArray, List.set_cons_zero, List.set_cons_succ]
                refine wpAnyH_ready (rs := [5]) (by kernel_rfl) (by simp) ?_
                refine AllReadyH.cons (o := _) rfl (fun K hK => ?_) ?_
                ·
                  have q5 := hcv wn50 _ h4
                  go_simp
                  clear q5
                  refine outG hK ?_ (Below wn50.heap.size wn50) (fun W => True) ?_ ?_ (fun wn51 hHeld hst hnew => ?_)
                  · ((try dsimp only); exact HMK.out _ (hB.trans (Below.mono (show Below wn50.heap.size wn50 _ from by (first | exact (Below.refl _ _).alloc (Nat.le_refl _) _ | exact ((Below.refl _ _).alloc (Nat.le_refl _) _).drew | exact hb5 | exact Below.refl _ _)) hB.size)))
                  · (first | exact (Below.refl _ _).alloc (Nat.le_refl _) _ | exact ((Below.refl _ _).alloc (Nat.le_refl _) _).drew | exact hb5 | exact Below.refl _ _)
                  · (trivial)
                  have hB := hB.trans (hst.mono hB.size)
                  clear hst
                  clear hK K
                  try simp only [Act.put, List.setIfInBounds_toArray, List.set_cons_zero, List.set_cons_succ]
                  refine wpAnyH_take (i := 6) (oi := _) (v := ?_) rfl (by kernel_rfl) (by kernel_rfl) (by kernel_rfl) (fun _ _ _ h => h) (Or.inl ⟨by rfl, ?_⟩) (by assumption) ?_
                  rotate_left
                  · (intro w hSw; (try dsimp only at hSw); go_simp; try (with_reducible rfl))
                  try simp only [Act.put, List.setIfInBounds_toArray, List.set_cons_zero, List.set_cons_succ]
                  refine wpAnyH_take (i := 14) (oi := _) (v := ?_) rfl (by kernel_rfl) (by kernel_rfl) (by kernel_rfl) (fun _ _ _ h => h) (Or.inl ⟨by rfl, ?_⟩) (by assumption) ?_
                  rotate_left
                  · (intro w hSw; (try dsimp only at hSw); go_simp; try (with_reducible rfl))
                  try simp only [Act.put, List.setIfInBounds_toArray, List.set_cons_zero, List.set_cons_succ]
                  refine wpAnyH_ready (rs := [15]) (by kernel_rfl) (by simp) ?_
                  refine AllReadyH.cons (o := _) rfl (fun K hK => ?_) ?_
                  ·
                    go_simp
                    refine outG hK ?_ (Below wn51.heap.size wn51) (fun W => Rd W 3 (some ⟨wn51.heap.size, 0, none⟩) 1 (pcs [partOf k ⟨rk, ra, rb, rt⟩])) ?_ ?_ (fun wn52 hHeld hst hnew => ?_)
                    · ((try dsimp only); exact HMK.out _ (hB.trans (Below.mono (show Below wn51.heap.size wn51 _ from by (first | exact (Below.refl _ _).alloc (Nat.le_refl _) _ | exact ((Below.refl _ _).alloc (Nat.le_refl _) _).drew | exact hb5 | exact Below.refl _ _)) hB.size)))
                    · (first | exact (Below.refl _ _).alloc (Nat.le_refl _) _ | exact ((Below.refl _ _).alloc (Nat.le_refl _) _).drew | exact hb5 | exact Below.refl _ _)
                    · (exact Rd.newN (pcs [partOf k ⟨rk, ra, rb, rt⟩]) rfl)
                    have hB := hB.trans (hst.mono hB.size)
                    have h15 := hnew
                    clear hst
                    clear hK K
                    try simp only [Act.put, List.setIfInBounds_toArray, List.set_cons_zero, List.set_cons_succ]
                    refine wpAnyH_ready (rs := [16]) (by kernel_rfl) (by simp) ?_
                    refine AllReadyH.cons (o := _) rfl (fun K hK => ?_) ?_
                    ·
                      refine step_ap rfl (.tmp 15) (.tmp 30) rfl elPart (by rfl) (own_below HOWN.out hB) (by rfl) h15 (pcs_one _) (by omega) (by have := hB.size; omega) ?_
                      intro v7 w7 ho7 hg7 _
                      refine outG hK ?_ (fun W => W.ownsRow w.heap.size 40 3 v7 (X.length + 1) (pcs (X ++ [partOf k ⟨rk, ra, rb, rt⟩]))) (Below w.heap.size w) ?_ ?_ (fun wn53 hHeld hF hG => ?_)
                      · (try dsimp only); exact ⟨hg7.cell (HMK.out _ hB).1 (Ne.symm HNE.out), hg7.cell (HMK.out _ hB).2 (Ne.symm HNE.out)⟩
                      · rw [pcs_app]; exact ho7
                      · exact below_own (HBEL.out.trans (hB.mono hsw)) (own_below HOWN.out hB) (Nat.le_refl _) hg7
                      clear hK K
                      try simp only [Act.put, List.setIfInBounds_toArray, List.set_cons_zero, List.set_cons_succ]
                      refine wpAnyH_take (i := 17) (oi := _) (v := ?_) rfl (by kernel_rfl) (by kernel_rfl) (by kernel_rfl) (fun _ _ _ h => h) (Or.inl ⟨by rfl, ?_⟩) (by assumption) ?_
                      rotate_left
                      · (intro w hSw; (try dsimp only at hSw); go_simp; try (with_reducible rfl))
                      try simp only [Act.put, List.setIfInBounds_toArray, List.set_cons_zero, List.set_cons_succ]
                      refine wpAnyH_done (by kernel_rfl) ?_ _
                      clear hHeld hB
                      repeat' ((fail_if_success at_builtin); (fail_if_success at_make); (first | go_values | go_skip | go_guarded | go_step | go_upon | go_back))
                      go_roundg (n - (k + 1))
                      case measure => have := HGK.out; omega
                      case rel =>
                        refine ⟨k + 1, rfl, by go_num, by omega, ?_, hG⟩
                        rw [HSN.out, if_pos hk8, List.length_append]
                        exact hF
                    exact AllReadyH.nil
                  exact AllReadyH.nil
                exact AllReadyH.nil
              exact AllReadyH.nil
            exact AllReadyH.nil
          exact AllReadyH.nil
        exact AllReadyH.nil
        --HELDEND
      · repeat' ((fail_if_success at_builtin); (fail_if_success at_make); (first | go_values | go_skip | go_guarded | go_step | go_upon | go_back))
        go_roundg (n - (k + 1))
        case measure => have := HGK.out; omega
        case rel =>
          refine ⟨k + 1, rfl, by go_num, by omega, ?_, ?_⟩
          · rw [HSN.out, if_neg hk8, List.append_nil]; exact hown.alloc _
          · exact hbel.alloc hsz _
    · obtain rfl : k = n := by omega
      rw [List.take_of_length_le (by have := HL.out; omega)] at hown
      repeat' ((fail_if_success at_builtin); (fail_if_success at_make); (first | go_values | go_skip | go_guarded | go_step | go_upon | go_back))
      go_ret
      exact ⟨_, rfl, hown, hbel⟩
end Go.Proofs.Ytooohfckhepcmaa
