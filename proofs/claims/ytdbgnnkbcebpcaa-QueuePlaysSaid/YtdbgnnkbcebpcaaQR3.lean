/- The document's queue (ref25): Add. -/
import Derived.Test.YtdbgnnkbcebpcaaQR2
set_option linter.unusedVariables false
set_option linter.unusedSimpArgs false
namespace Go.Proofs.Ytdbgnnkbcebpcaa
open Go.RowKit

theorem own_allocE {w : World} {base size n : Nat} {e : TypeId} {v : Value} {vs : List Value} {o : Obj} (h : w.ownsRow base e size v n vs) : (w.alloc o).ownsRow base e size v n vs := own_upd h ((Upd.refl [] w).alloc o) (fun k _ hm => by cases hm)
theorem own_drewE {w : World} {base size n : Nat} {e : TypeId} {v : Value} {vs : List Value} (h : w.ownsRow base e size v n vs) : w.drew.ownsRow base e size v n vs := h
theorem own_grE {w : World} {p : Regrown} {base size n : Nat} {e : TypeId} {v : Value} {vs : List Value} (h : w.ownsRow base e size v n vs) : (gr w p).ownsRow base e size v n vs := own_upd h (upd_gr w p) (fun k _ hm => by cases hm)
theorem list_src {W : World} {g : Nat} {c : List Value} {t : TypeId} {fr : Nat × Nat} (h : W.heap[g]? = some (.cells c.toArray t fr)) : ∀ j u, c[j]? = some u → W.cell? ⟨g, 0 + j, none⟩ = some u := fun j u hj => by rw [Nat.zero_add, cell_of_heap h]; simpa using hj
section
variable {w : World} {v : Value} {L : List QW}
def rqaddB (x : QW) (L : List QW) : Bool := decide (0 ≤ x.t) && decide (x.t < 16) && decide (qpl x.t 0 L < 0)
def RQAddPost (w : World) (x : QW) (L : List QW) (e : Ending) (w' : World) : Prop := (∃ v', e = .returned (.tuple #[v', .bool (rqaddB x L)]) ∧ RQ 58 w' v' (if rqaddB x L then L ++ [x] else L)) ∧ Upd [] w w'
set_option maxRecDepth 100000 in
set_option maxHeartbeats 4000000 in
theorem rqadd_c (x : QW) (h : RQ 58 w v L) (hl : L.length ≤ 1000) :
    Calls Try.prog 20 #[v, .agg x.A] w (RQAddPost w x L) := by
  obtain ⟨a, cap, rfl, hcp⟩ := h.shape
  have HP := Lib.hid (fun (w1 : World) (hu : Upd [] w w1) => rqplace_c x.t (h.upd hu) hl)
  have HR := Lib.hid h
  have HL := Lib.hid hl
  have HCP := Lib.hid hcp
  clear h hcp hl
  obtain ⟨t, k, o, m⟩ := x
  unfold QW.A
  simp only at HP
  rcases h0 : decide (0 ≤ t) with _ | _
  · have HQ := Lib.hid (show rqaddB ⟨t, k, o, m⟩ L = false by simp [rqaddB, h0])
    have ht : t < 0 := by simpa using h0
    clear h0
    go_enter Try.func20, Try.ntmps20
    go_wp2
    go_ret2
    unfold RQAddPost
    rw [HQ.out]
    exact ⟨⟨_, by simp, HR.out.upd ((Upd.refl [] w).alloc _)⟩, (Upd.refl [] w).alloc _⟩
  have ht0 : 0 ≤ t := by simpa using h0
  have ht0' : ¬ t < 0 := by omega
  rcases h1 : decide (t < 16) with _ | _
  · have HQ := Lib.hid (show rqaddB ⟨t, k, o, m⟩ L = false by simp [rqaddB, h1])
    have ht : 15 < t := by have : ¬ t < 16 := by simpa using h1
                           omega
    clear h0 h1
    go_enter Try.func20, Try.ntmps20
    go_wp2
    go_ret2
    unfold RQAddPost
    rw [HQ.out]
    exact ⟨⟨_, by simp, HR.out.upd ((Upd.refl [] w).alloc _)⟩, (Upd.refl [] w).alloc _⟩
  have ht1 : t < 16 := by simpa using h1
  have ht1' : ¬ 15 < t := by omega
  rcases h2 : decide (qpl t 0 L < 0) with _ | _
  · have HQ := Lib.hid (show rqaddB ⟨t, k, o, m⟩ L = false by simp [rqaddB, h2])
    have ht : 0 ≤ qpl t 0 L := by have : ¬ qpl t 0 L < 0 := by simpa using h2
                                  omega
    clear h0 h1 h2
    generalize qpl t 0 L = z at *
    go_enter Try.func20, Try.ntmps20
    go_wp2_with (go_at_call 24; refine (HP.out _ ((Upd.refl _ _).alloc _)).mono ?_; rintro e w1 ⟨rfl, hu⟩; obtain ⟨p1, rfl⟩ := hu.grown; clear hu)
    go_ret2
    unfold RQAddPost
    rw [HQ.out]
    exact ⟨⟨_, by simp, HR.out.upd (((Upd.refl [] w).alloc _).grE _)⟩, ((Upd.refl [] w).alloc _).grE _⟩
  have HQ := Lib.hid (show rqaddB ⟨t, k, o, m⟩ L = true by simp [rqaddB, h2, h0, h1])
  have ht : qpl t 0 L = -1 := by have := qpl_bounds t L 0; have : qpl t 0 L < 0 := by simpa using h2
                                 omega
  obtain ⟨ip, hip, hi0, hi1, hi2⟩ := info_parts info_rwait
  clear h0 h1 h2
  rw [ht] at HP
  clear ht
  go_enter Try.func20, Try.ntmps20
  go_wp2_with (go_at_call 24; refine (HP.out _ ((Upd.refl _ _).alloc _)).mono ?_; rintro e w1 ⟨rfl, hu⟩; obtain ⟨p1, rfl⟩ := hu.grown; clear hu)
  generalize hX : gr (w.alloc (.cells #[.int .i64 t, .int .i64 k, .int .i64 o, .int .u32 m] 58)) p1 = X
  have hBX : X.heap[w.heap.size]? = some (.cells [.int .i64 t, .int .i64 k, .int .i64 o, .int .u32 m].toArray 58) := by rw [← hX]; exact heap_grE (heap_alloc_new w _)
  have HBX := Lib.hid hBX
  have HUX := Lib.hid (show Upd [] w X by rw [← hX]; exact ((Upd.refl [] w).alloc _).grE p1)
  have hlX := heap_lt hBX
  have f0 := cell_of_heap hBX 0
  have f1 := cell_of_heap hBX 1
  have f2 := cell_of_heap hBX 2
  have f3 := cell_of_heap hBX 3
  simp at f0 f1 f2 f3
  clear hX hBX
  refine wp_region_any (by kernel_rfl) ?_
  change wpAny _ _ _ _ _ _ _ (World.drew _)
  refine wpAny_take (i := 1) (v := .slice a L.length cap) rfl (by kernel_rfl) (by kernel_rfl) (by kernel_rfl) (fun _ _ _ h => h) (Or.inl ⟨by rfl, ?_⟩) ?_
  · intro w1
    go_simp
  (try simp only [Act.put, List.setIfInBounds_toArray, List.set_cons_zero, List.set_cons_succ])
  refine wpAny_ready (rs := [0, 3]) (by kernel_rfl) (by simp) ?_
  refine AllReady.cons rfl (fun K hK => ?_) (AllReady.cons rfl (fun K hK => ?_) AllReady.nil)
  · go_simp
    refine hK _ _ ?_
    clear hK K
    refine wpAny_ready (rs := [2, 3]) (by kernel_rfl) (by simp) ?_
    refine AllReady.cons rfl (fun K hK => ?_) (AllReady.cons rfl (fun K hK => ?_) AllReady.nil)
    · have HO0 := Lib.hid (show ((X.drew.alloc (.cells #[] 58))).ownsRow X.heap.size 58 4 (.slice (some ⟨X.heap.size, 0, none⟩) 0 0) 0 [] from (own_empty' (by simp) (by simp)))
      have HUW := Lib.hid (show Upd [] X (X.drew.alloc (.cells #[] 58)) from ((Upd.refl [] X).drew.alloc _))
      refine step_append_reads rfl (.tmp 22) (.tmp 23) 57 rfl X.heap.size 58 ip _ 4 32 Try.underlying57 hip hi0 hi1 hi2 rfl (by decide) (.slice (some ⟨X.heap.size, 0, none⟩) 0 0) 0 [] rfl HO0.out a L.length cap (flatW L) rfl (flatW_len L) (HR.out.src (HUX.out.trans HUW.out)) HCP.out (flatW_one L) (by have := HL.out; simp only [maxLen]; omega) (by have := HL.out; omega) HUW.out.size ?_
      intro p2 c2 w2 hp2 hown2 hgrow2
      replace hgrow2 : ((X.drew.alloc (.cells #[] 58))).grownBy w2 (Value.slice (some ⟨X.heap.size, 0, none⟩) 0 0).ownBlock := hgrow2
      have HU2 := Lib.hid (own_start HUW.out HO0.out hgrow2 (Nat.le_refl _))
      have hbx2 := HU2.out.keepb HBX.out (by simp)
      have f0 := cell_of_heap hbx2 0
      have f1 := cell_of_heap hbx2 1
      have f2 := cell_of_heap hbx2 2
      have f3 := cell_of_heap hbx2 3
      have lb2 := heap_lt hbx2
      simp at f0 f1 f2 f3
      rw [Nat.zero_add, List.nil_append] at hown2
      have HO2 := Lib.hid hown2
      clear hown2 hgrow2 hbx2
      (try rw [Nat.zero_add])
      refine hK _ _ ?_
      clear hK K
      (try simp only [Act.put, List.setIfInBounds_toArray, List.set_cons_zero, List.set_cons_succ])
      refine wpAny_ready (rs := [3]) (by kernel_rfl) (by simp) ?_
      refine AllReady.cons rfl (fun K hK => ?_) AllReady.nil
      go_simp
      refine hK _ _ ?_
      clear hK K
      refine wpAny_ready (rs := [4]) (by kernel_rfl) (by simp) ?_
      refine AllReady.cons rfl (fun K hK => ?_) AllReady.nil
      go_simp
      refine hK _ _ ?_
      clear hK K
      refine wpAny_ready (rs := [5]) (by kernel_rfl) (by simp) ?_
      refine AllReady.cons rfl (fun K hK => ?_) AllReady.nil
      have HO5 := Lib.hid (show ((w2.alloc (.cells [.int .i64 t, .int .i64 k, .int .i64 o, .int .u32 m].toArray 58))).ownsRow X.heap.size 58 4 (.slice p2 L.length c2) L.length (flatW L) from own_allocE HO2.out)
      have HU5 := Lib.hid (show Upd [] X (w2.alloc (.cells [.int .i64 t, .int .i64 k, .int .i64 o, .int .u32 m].toArray 58)) from HU2.out.alloc _)
      refine step_append_reads rfl (.tmp 24) (.tmp 26) 57 rfl X.heap.size 58 ip _ 4 32 Try.underlying57 hip hi0 hi1 hi2 rfl (by decide) (.slice p2 L.length c2) L.length (flatW L) rfl HO5.out (some ⟨w2.heap.size, 0, none⟩) 1 1 [.int .i64 t, .int .i64 k, .int .i64 o, .int .u32 m] rfl rfl (fun _ => ⟨_, 0, rfl, list_src (heap_alloc_new w2 _)⟩) (fun h => by cases h) (fun u hu => by simp at hu; rcases hu with rfl | rfl | rfl | rfl <;> rfl) (by have := HL.out; simp only [maxLen]; omega) (by have := HL.out; omega) HU5.out.size ?_
      intro p3 c3 w3 hp3 hown3 hgrow3
      have HU3 := Lib.hid (own_start HU5.out HO5.out hgrow3 (Nat.le_refl _))
      have HO3 := Lib.hid hown3
      clear hown3 hgrow3
      refine hK _ _ ?_
      clear hK K
      (try simp only [Act.put, List.setIfInBounds_toArray, List.set_cons_zero, List.set_cons_succ])
      refine wpAny_ready (rs := [6]) (by kernel_rfl) (by simp) ?_
      refine AllReady.cons rfl (fun K hK => ?_) AllReady.nil
      go_simp
      refine hK _ _ ?_
      clear hK K
      refine wpAny_ready (rs := [7]) (by kernel_rfl) (by simp) ?_
      refine AllReady.cons rfl (fun K hK => ?_) AllReady.nil
      go_simp
      refine hK _ _ ?_
      clear hK K
      refine wpAny_done (by kernel_rfl) ?_ _
      go_wp2
      go_ret2
      unfold RQAddPost
      rw [HQ.out]
      refine ⟨⟨.slice p3 (L.length + 1) c3, by simp, ?_⟩, HUX.out.trans HU3.out⟩
      refine World.ownsRow.mono (base := X.heap.size) ?_ (Nat.zero_le _)
      simp only [if_true, flatW_snoc, List.length_append]
      exact HO3.out
    · go_simp
      refine hK _ _ ?_
      clear hK K
      refine wpAny_ready (rs := [2, 4]) (by kernel_rfl) (by simp) ?_
      refine AllReady.cons rfl (fun K hK => ?_) (AllReady.cons rfl (fun K hK => ?_) AllReady.nil)
      · have HO0 := Lib.hid (show ((X.drew.alloc (.cells #[] 58))).ownsRow X.heap.size 58 4 (.slice (some ⟨X.heap.size, 0, none⟩) 0 0) 0 [] from (own_empty' (by simp) (by simp)))
        have HUW := Lib.hid (show Upd [] X (X.drew.alloc (.cells #[] 58)) from ((Upd.refl [] X).drew.alloc _))
        refine step_append_reads rfl (.tmp 22) (.tmp 23) 57 rfl X.heap.size 58 ip _ 4 32 Try.underlying57 hip hi0 hi1 hi2 rfl (by decide) (.slice (some ⟨X.heap.size, 0, none⟩) 0 0) 0 [] rfl HO0.out a L.length cap (flatW L) rfl (flatW_len L) (HR.out.src (HUX.out.trans HUW.out)) HCP.out (flatW_one L) (by have := HL.out; simp only [maxLen]; omega) (by have := HL.out; omega) HUW.out.size ?_
        intro p2 c2 w2 hp2 hown2 hgrow2
        replace hgrow2 : ((X.drew.alloc (.cells #[] 58))).grownBy w2 (Value.slice (some ⟨X.heap.size, 0, none⟩) 0 0).ownBlock := hgrow2
        have HU2 := Lib.hid (own_start HUW.out HO0.out hgrow2 (Nat.le_refl _))
        have hbx2 := HU2.out.keepb HBX.out (by simp)
        have f0 := cell_of_heap hbx2 0
        have f1 := cell_of_heap hbx2 1
        have f2 := cell_of_heap hbx2 2
        have f3 := cell_of_heap hbx2 3
        have lb2 := heap_lt hbx2
        simp at f0 f1 f2 f3
        rw [Nat.zero_add, List.nil_append] at hown2
        have HO2 := Lib.hid hown2
        clear hown2 hgrow2 hbx2
        (try rw [Nat.zero_add])
        refine hK _ _ ?_
        clear hK K
        (try simp only [Act.put, List.setIfInBounds_toArray, List.set_cons_zero, List.set_cons_succ])
        refine wpAny_ready (rs := [4]) (by kernel_rfl) (by simp) ?_
        refine AllReady.cons rfl (fun K hK => ?_) AllReady.nil
        go_simp
        refine hK _ _ ?_
        clear hK K
        refine wpAny_ready (rs := [5]) (by kernel_rfl) (by simp) ?_
        refine AllReady.cons rfl (fun K hK => ?_) AllReady.nil
        have HO5 := Lib.hid (show ((w2.alloc (.cells [.int .i64 t, .int .i64 k, .int .i64 o, .int .u32 m].toArray 58))).ownsRow X.heap.size 58 4 (.slice p2 L.length c2) L.length (flatW L) from own_allocE HO2.out)
        have HU5 := Lib.hid (show Upd [] X (w2.alloc (.cells [.int .i64 t, .int .i64 k, .int .i64 o, .int .u32 m].toArray 58)) from HU2.out.alloc _)
        refine step_append_reads rfl (.tmp 24) (.tmp 26) 57 rfl X.heap.size 58 ip _ 4 32 Try.underlying57 hip hi0 hi1 hi2 rfl (by decide) (.slice p2 L.length c2) L.length (flatW L) rfl HO5.out (some ⟨w2.heap.size, 0, none⟩) 1 1 [.int .i64 t, .int .i64 k, .int .i64 o, .int .u32 m] rfl rfl (fun _ => ⟨_, 0, rfl, list_src (heap_alloc_new w2 _)⟩) (fun h => by cases h) (fun u hu => by simp at hu; rcases hu with rfl | rfl | rfl | rfl <;> rfl) (by have := HL.out; simp only [maxLen]; omega) (by have := HL.out; omega) HU5.out.size ?_
        intro p3 c3 w3 hp3 hown3 hgrow3
        have HU3 := Lib.hid (own_start HU5.out HO5.out hgrow3 (Nat.le_refl _))
        have HO3 := Lib.hid hown3
        clear hown3 hgrow3
        refine hK _ _ ?_
        clear hK K
        (try simp only [Act.put, List.setIfInBounds_toArray, List.set_cons_zero, List.set_cons_succ])
        refine wpAny_ready (rs := [6]) (by kernel_rfl) (by simp) ?_
        refine AllReady.cons rfl (fun K hK => ?_) AllReady.nil
        go_simp
        refine hK _ _ ?_
        clear hK K
        refine wpAny_ready (rs := [7]) (by kernel_rfl) (by simp) ?_
        refine AllReady.cons rfl (fun K hK => ?_) AllReady.nil
        go_simp
        refine hK _ _ ?_
        clear hK K
        refine wpAny_done (by kernel_rfl) ?_ _
        go_wp2
        go_ret2
        unfold RQAddPost
        rw [HQ.out]
        refine ⟨⟨.slice p3 (L.length + 1) c3, by simp, ?_⟩, HUX.out.trans HU3.out⟩
        refine World.ownsRow.mono (base := X.heap.size) ?_ (Nat.zero_le _)
        simp only [if_true, flatW_snoc, List.length_append]
        exact HO3.out
      · go_simp
        refine hK _ _ ?_
        clear hK K
        refine wpAny_ready (rs := [2]) (by kernel_rfl) (by simp) ?_
        refine AllReady.cons rfl (fun K hK => ?_) AllReady.nil
        have HO0 := Lib.hid (show (((X.drew.alloc (.cells #[] 58)).alloc (.cells [.int .i64 t, .int .i64 k, .int .i64 o, .int .u32 m].toArray 58))).ownsRow X.heap.size 58 4 (.slice (some ⟨X.heap.size, 0, none⟩) 0 0) 0 [] from (own_allocE (own_empty' (by simp) (by simp))))
        have HUW := Lib.hid (show Upd [] X ((X.drew.alloc (.cells #[] 58)).alloc (.cells [.int .i64 t, .int .i64 k, .int .i64 o, .int .u32 m].toArray 58)) from (((Upd.refl [] X).drew.alloc _).alloc _))
        have HB4 := Lib.hid (show (((X.drew.alloc (.cells #[] 58)).alloc (.cells [.int .i64 t, .int .i64 k, .int .i64 o, .int .u32 m].toArray 58))).heap[X.heap.size + 1]? = some (.cells [.int .i64 t, .int .i64 k, .int .i64 o, .int .u32 m].toArray 58 (0, 0)) from heap_alloc_at _ (by simp))
        refine step_append_reads rfl (.tmp 22) (.tmp 23) 57 rfl X.heap.size 58 ip _ 4 32 Try.underlying57 hip hi0 hi1 hi2 rfl (by decide) (.slice (some ⟨X.heap.size, 0, none⟩) 0 0) 0 [] rfl HO0.out a L.length cap (flatW L) rfl (flatW_len L) (HR.out.src (HUX.out.trans HUW.out)) HCP.out (flatW_one L) (by have := HL.out; simp only [maxLen]; omega) (by have := HL.out; omega) HUW.out.size ?_
        intro p2 c2 w2 hp2 hown2 hgrow2
        replace hgrow2 : (((X.drew.alloc (.cells #[] 58)).alloc (.cells [.int .i64 t, .int .i64 k, .int .i64 o, .int .u32 m].toArray 58))).grownBy w2 (Value.slice (some ⟨X.heap.size, 0, none⟩) 0 0).ownBlock := hgrow2
        have HU2 := Lib.hid (own_start HUW.out HO0.out hgrow2 (Nat.le_refl _))
        have HB42 := Lib.hid ((hgrow2.block _ (heap_lt HB4.out) (by simp [Value.ownBlock])).trans HB4.out)
        have hbx2 := HU2.out.keepb HBX.out (by simp)
        have f0 := cell_of_heap hbx2 0
        have f1 := cell_of_heap hbx2 1
        have f2 := cell_of_heap hbx2 2
        have f3 := cell_of_heap hbx2 3
        have lb2 := heap_lt hbx2
        simp at f0 f1 f2 f3
        rw [Nat.zero_add, List.nil_append] at hown2
        have HO2 := Lib.hid hown2
        clear hown2 hgrow2 hbx2
        (try rw [Nat.zero_add])
        refine hK _ _ ?_
        clear hK K
        (try simp only [Act.put, List.setIfInBounds_toArray, List.set_cons_zero, List.set_cons_succ])
        refine wpAny_ready (rs := [5]) (by kernel_rfl) (by simp) ?_
        refine AllReady.cons rfl (fun K hK => ?_) AllReady.nil
        have HO5 := Lib.hid (show (w2).ownsRow X.heap.size 58 4 (.slice p2 L.length c2) L.length (flatW L) from HO2.out)
        have HU5 := Lib.hid (show Upd [] X w2 from HU2.out)
        refine step_append_reads rfl (.tmp 24) (.tmp 26) 57 rfl X.heap.size 58 ip _ 4 32 Try.underlying57 hip hi0 hi1 hi2 rfl (by decide) (.slice p2 L.length c2) L.length (flatW L) rfl HO5.out (some ⟨X.heap.size + 1, 0, none⟩) 1 1 [.int .i64 t, .int .i64 k, .int .i64 o, .int .u32 m] rfl rfl (fun _ => ⟨_, 0, rfl, list_src (HB42.out)⟩) (fun h => by cases h) (fun u hu => by simp at hu; rcases hu with rfl | rfl | rfl | rfl <;> rfl) (by have := HL.out; simp only [maxLen]; omega) (by have := HL.out; omega) HU5.out.size ?_
        intro p3 c3 w3 hp3 hown3 hgrow3
        have HU3 := Lib.hid (own_start HU5.out HO5.out hgrow3 (Nat.le_refl _))
        have HO3 := Lib.hid hown3
        clear hown3 hgrow3
        refine hK _ _ ?_
        clear hK K
        (try simp only [Act.put, List.setIfInBounds_toArray, List.set_cons_zero, List.set_cons_succ])
        refine wpAny_ready (rs := [6]) (by kernel_rfl) (by simp) ?_
        refine AllReady.cons rfl (fun K hK => ?_) AllReady.nil
        go_simp
        refine hK _ _ ?_
        clear hK K
        refine wpAny_ready (rs := [7]) (by kernel_rfl) (by simp) ?_
        refine AllReady.cons rfl (fun K hK => ?_) AllReady.nil
        go_simp
        refine hK _ _ ?_
        clear hK K
        refine wpAny_done (by kernel_rfl) ?_ _
        go_wp2
        go_ret2
        unfold RQAddPost
        rw [HQ.out]
        refine ⟨⟨.slice p3 (L.length + 1) c3, by simp, ?_⟩, HUX.out.trans HU3.out⟩
        refine World.ownsRow.mono (base := X.heap.size) ?_ (Nat.zero_le _)
        simp only [if_true, flatW_snoc, List.length_append]
        exact HO3.out
  · go_simp
    refine hK _ _ ?_
    clear hK K
    refine wpAny_ready (rs := [0, 4]) (by kernel_rfl) (by simp) ?_
    refine AllReady.cons rfl (fun K hK => ?_) (AllReady.cons rfl (fun K hK => ?_) AllReady.nil)
    · go_simp
      refine hK _ _ ?_
      clear hK K
      refine wpAny_ready (rs := [2, 4]) (by kernel_rfl) (by simp) ?_
      refine AllReady.cons rfl (fun K hK => ?_) (AllReady.cons rfl (fun K hK => ?_) AllReady.nil)
      · have HO0 := Lib.hid (show ((X.drew.alloc (.cells #[] 58))).ownsRow X.heap.size 58 4 (.slice (some ⟨X.heap.size, 0, none⟩) 0 0) 0 [] from (own_empty' (by simp) (by simp)))
        have HUW := Lib.hid (show Upd [] X (X.drew.alloc (.cells #[] 58)) from ((Upd.refl [] X).drew.alloc _))
        refine step_append_reads rfl (.tmp 22) (.tmp 23) 57 rfl X.heap.size 58 ip _ 4 32 Try.underlying57 hip hi0 hi1 hi2 rfl (by decide) (.slice (some ⟨X.heap.size, 0, none⟩) 0 0) 0 [] rfl HO0.out a L.length cap (flatW L) rfl (flatW_len L) (HR.out.src (HUX.out.trans HUW.out)) HCP.out (flatW_one L) (by have := HL.out; simp only [maxLen]; omega) (by have := HL.out; omega) HUW.out.size ?_
        intro p2 c2 w2 hp2 hown2 hgrow2
        replace hgrow2 : ((X.drew.alloc (.cells #[] 58))).grownBy w2 (Value.slice (some ⟨X.heap.size, 0, none⟩) 0 0).ownBlock := hgrow2
        have HU2 := Lib.hid (own_start HUW.out HO0.out hgrow2 (Nat.le_refl _))
        have hbx2 := HU2.out.keepb HBX.out (by simp)
        have f0 := cell_of_heap hbx2 0
        have f1 := cell_of_heap hbx2 1
        have f2 := cell_of_heap hbx2 2
        have f3 := cell_of_heap hbx2 3
        have lb2 := heap_lt hbx2
        simp at f0 f1 f2 f3
        rw [Nat.zero_add, List.nil_append] at hown2
        have HO2 := Lib.hid hown2
        clear hown2 hgrow2 hbx2
        (try rw [Nat.zero_add])
        refine hK _ _ ?_
        clear hK K
        (try simp only [Act.put, List.setIfInBounds_toArray, List.set_cons_zero, List.set_cons_succ])
        refine wpAny_ready (rs := [4]) (by kernel_rfl) (by simp) ?_
        refine AllReady.cons rfl (fun K hK => ?_) AllReady.nil
        go_simp
        refine hK _ _ ?_
        clear hK K
        refine wpAny_ready (rs := [5]) (by kernel_rfl) (by simp) ?_
        refine AllReady.cons rfl (fun K hK => ?_) AllReady.nil
        have HO5 := Lib.hid (show ((w2.alloc (.cells [.int .i64 t, .int .i64 k, .int .i64 o, .int .u32 m].toArray 58))).ownsRow X.heap.size 58 4 (.slice p2 L.length c2) L.length (flatW L) from own_allocE HO2.out)
        have HU5 := Lib.hid (show Upd [] X (w2.alloc (.cells [.int .i64 t, .int .i64 k, .int .i64 o, .int .u32 m].toArray 58)) from HU2.out.alloc _)
        refine step_append_reads rfl (.tmp 24) (.tmp 26) 57 rfl X.heap.size 58 ip _ 4 32 Try.underlying57 hip hi0 hi1 hi2 rfl (by decide) (.slice p2 L.length c2) L.length (flatW L) rfl HO5.out (some ⟨w2.heap.size, 0, none⟩) 1 1 [.int .i64 t, .int .i64 k, .int .i64 o, .int .u32 m] rfl rfl (fun _ => ⟨_, 0, rfl, list_src (heap_alloc_new w2 _)⟩) (fun h => by cases h) (fun u hu => by simp at hu; rcases hu with rfl | rfl | rfl | rfl <;> rfl) (by have := HL.out; simp only [maxLen]; omega) (by have := HL.out; omega) HU5.out.size ?_
        intro p3 c3 w3 hp3 hown3 hgrow3
        have HU3 := Lib.hid (own_start HU5.out HO5.out hgrow3 (Nat.le_refl _))
        have HO3 := Lib.hid hown3
        clear hown3 hgrow3
        refine hK _ _ ?_
        clear hK K
        (try simp only [Act.put, List.setIfInBounds_toArray, List.set_cons_zero, List.set_cons_succ])
        refine wpAny_ready (rs := [6]) (by kernel_rfl) (by simp) ?_
        refine AllReady.cons rfl (fun K hK => ?_) AllReady.nil
        go_simp
        refine hK _ _ ?_
        clear hK K
        refine wpAny_ready (rs := [7]) (by kernel_rfl) (by simp) ?_
        refine AllReady.cons rfl (fun K hK => ?_) AllReady.nil
        go_simp
        refine hK _ _ ?_
        clear hK K
        refine wpAny_done (by kernel_rfl) ?_ _
        go_wp2
        go_ret2
        unfold RQAddPost
        rw [HQ.out]
        refine ⟨⟨.slice p3 (L.length + 1) c3, by simp, ?_⟩, HUX.out.trans HU3.out⟩
        refine World.ownsRow.mono (base := X.heap.size) ?_ (Nat.zero_le _)
        simp only [if_true, flatW_snoc, List.length_append]
        exact HO3.out
      · go_simp
        refine hK _ _ ?_
        clear hK K
        refine wpAny_ready (rs := [2]) (by kernel_rfl) (by simp) ?_
        refine AllReady.cons rfl (fun K hK => ?_) AllReady.nil
        have HO0 := Lib.hid (show (((X.drew.alloc (.cells #[] 58)).alloc (.cells [.int .i64 t, .int .i64 k, .int .i64 o, .int .u32 m].toArray 58))).ownsRow X.heap.size 58 4 (.slice (some ⟨X.heap.size, 0, none⟩) 0 0) 0 [] from (own_allocE (own_empty' (by simp) (by simp))))
        have HUW := Lib.hid (show Upd [] X ((X.drew.alloc (.cells #[] 58)).alloc (.cells [.int .i64 t, .int .i64 k, .int .i64 o, .int .u32 m].toArray 58)) from (((Upd.refl [] X).drew.alloc _).alloc _))
        have HB4 := Lib.hid (show (((X.drew.alloc (.cells #[] 58)).alloc (.cells [.int .i64 t, .int .i64 k, .int .i64 o, .int .u32 m].toArray 58))).heap[X.heap.size + 1]? = some (.cells [.int .i64 t, .int .i64 k, .int .i64 o, .int .u32 m].toArray 58 (0, 0)) from heap_alloc_at _ (by simp))
        refine step_append_reads rfl (.tmp 22) (.tmp 23) 57 rfl X.heap.size 58 ip _ 4 32 Try.underlying57 hip hi0 hi1 hi2 rfl (by decide) (.slice (some ⟨X.heap.size, 0, none⟩) 0 0) 0 [] rfl HO0.out a L.length cap (flatW L) rfl (flatW_len L) (HR.out.src (HUX.out.trans HUW.out)) HCP.out (flatW_one L) (by have := HL.out; simp only [maxLen]; omega) (by have := HL.out; omega) HUW.out.size ?_
        intro p2 c2 w2 hp2 hown2 hgrow2
        replace hgrow2 : (((X.drew.alloc (.cells #[] 58)).alloc (.cells [.int .i64 t, .int .i64 k, .int .i64 o, .int .u32 m].toArray 58))).grownBy w2 (Value.slice (some ⟨X.heap.size, 0, none⟩) 0 0).ownBlock := hgrow2
        have HU2 := Lib.hid (own_start HUW.out HO0.out hgrow2 (Nat.le_refl _))
        have HB42 := Lib.hid ((hgrow2.block _ (heap_lt HB4.out) (by simp [Value.ownBlock])).trans HB4.out)
        have hbx2 := HU2.out.keepb HBX.out (by simp)
        have f0 := cell_of_heap hbx2 0
        have f1 := cell_of_heap hbx2 1
        have f2 := cell_of_heap hbx2 2
        have f3 := cell_of_heap hbx2 3
        have lb2 := heap_lt hbx2
        simp at f0 f1 f2 f3
        rw [Nat.zero_add, List.nil_append] at hown2
        have HO2 := Lib.hid hown2
        clear hown2 hgrow2 hbx2
        (try rw [Nat.zero_add])
        refine hK _ _ ?_
        clear hK K
        (try simp only [Act.put, List.setIfInBounds_toArray, List.set_cons_zero, List.set_cons_succ])
        refine wpAny_ready (rs := [5]) (by kernel_rfl) (by simp) ?_
        refine AllReady.cons rfl (fun K hK => ?_) AllReady.nil
        have HO5 := Lib.hid (show (w2).ownsRow X.heap.size 58 4 (.slice p2 L.length c2) L.length (flatW L) from HO2.out)
        have HU5 := Lib.hid (show Upd [] X w2 from HU2.out)
        refine step_append_reads rfl (.tmp 24) (.tmp 26) 57 rfl X.heap.size 58 ip _ 4 32 Try.underlying57 hip hi0 hi1 hi2 rfl (by decide) (.slice p2 L.length c2) L.length (flatW L) rfl HO5.out (some ⟨X.heap.size + 1, 0, none⟩) 1 1 [.int .i64 t, .int .i64 k, .int .i64 o, .int .u32 m] rfl rfl (fun _ => ⟨_, 0, rfl, list_src (HB42.out)⟩) (fun h => by cases h) (fun u hu => by simp at hu; rcases hu with rfl | rfl | rfl | rfl <;> rfl) (by have := HL.out; simp only [maxLen]; omega) (by have := HL.out; omega) HU5.out.size ?_
        intro p3 c3 w3 hp3 hown3 hgrow3
        have HU3 := Lib.hid (own_start HU5.out HO5.out hgrow3 (Nat.le_refl _))
        have HO3 := Lib.hid hown3
        clear hown3 hgrow3
        refine hK _ _ ?_
        clear hK K
        (try simp only [Act.put, List.setIfInBounds_toArray, List.set_cons_zero, List.set_cons_succ])
        refine wpAny_ready (rs := [6]) (by kernel_rfl) (by simp) ?_
        refine AllReady.cons rfl (fun K hK => ?_) AllReady.nil
        go_simp
        refine hK _ _ ?_
        clear hK K
        refine wpAny_ready (rs := [7]) (by kernel_rfl) (by simp) ?_
        refine AllReady.cons rfl (fun K hK => ?_) AllReady.nil
        go_simp
        refine hK _ _ ?_
        clear hK K
        refine wpAny_done (by kernel_rfl) ?_ _
        go_wp2
        go_ret2
        unfold RQAddPost
        rw [HQ.out]
        refine ⟨⟨.slice p3 (L.length + 1) c3, by simp, ?_⟩, HUX.out.trans HU3.out⟩
        refine World.ownsRow.mono (base := X.heap.size) ?_ (Nat.zero_le _)
        simp only [if_true, flatW_snoc, List.length_append]
        exact HO3.out
    · go_simp
      refine hK _ _ ?_
      clear hK K
      refine wpAny_ready (rs := [0]) (by kernel_rfl) (by simp) ?_
      refine AllReady.cons rfl (fun K hK => ?_) AllReady.nil
      go_simp
      refine hK _ _ ?_
      clear hK K
      refine wpAny_ready (rs := [2]) (by kernel_rfl) (by simp) ?_
      refine AllReady.cons rfl (fun K hK => ?_) AllReady.nil
      have HO0 := Lib.hid (show (((X.drew.alloc (.cells [.int .i64 t, .int .i64 k, .int .i64 o, .int .u32 m].toArray 58)).alloc (.cells #[] 58))).ownsRow X.heap.size 58 4 (.slice (some ⟨X.heap.size + 1, 0, none⟩) 0 0) 0 [] from (own_empty' (by simp) (by simp)))
      have HUW := Lib.hid (show Upd [] X ((X.drew.alloc (.cells [.int .i64 t, .int .i64 k, .int .i64 o, .int .u32 m].toArray 58)).alloc (.cells #[] 58)) from (((Upd.refl [] X).drew.alloc _).alloc _))
      have HB4 := Lib.hid (show (((X.drew.alloc (.cells [.int .i64 t, .int .i64 k, .int .i64 o, .int .u32 m].toArray 58)).alloc (.cells #[] 58))).heap[X.heap.size]? = some (.cells [.int .i64 t, .int .i64 k, .int .i64 o, .int .u32 m].toArray 58 (0, 0)) from heap_alloc' (heap_alloc_at _ (by simp)))
      refine step_append_reads rfl (.tmp 22) (.tmp 23) 57 rfl X.heap.size 58 ip _ 4 32 Try.underlying57 hip hi0 hi1 hi2 rfl (by decide) (.slice (some ⟨X.heap.size + 1, 0, none⟩) 0 0) 0 [] rfl HO0.out a L.length cap (flatW L) rfl (flatW_len L) (HR.out.src (HUX.out.trans HUW.out)) HCP.out (flatW_one L) (by have := HL.out; simp only [maxLen]; omega) (by have := HL.out; omega) HUW.out.size ?_
      intro p2 c2 w2 hp2 hown2 hgrow2
      replace hgrow2 : (((X.drew.alloc (.cells [.int .i64 t, .int .i64 k, .int .i64 o, .int .u32 m].toArray 58)).alloc (.cells #[] 58))).grownBy w2 (Value.slice (some ⟨X.heap.size + 1, 0, none⟩) 0 0).ownBlock := hgrow2
      have HU2 := Lib.hid (own_start HUW.out HO0.out hgrow2 (Nat.le_refl _))
      have HB42 := Lib.hid ((hgrow2.block _ (heap_lt HB4.out) (by simp [Value.ownBlock])).trans HB4.out)
      have hbx2 := HU2.out.keepb HBX.out (by simp)
      have f0 := cell_of_heap hbx2 0
      have f1 := cell_of_heap hbx2 1
      have f2 := cell_of_heap hbx2 2
      have f3 := cell_of_heap hbx2 3
      have lb2 := heap_lt hbx2
      simp at f0 f1 f2 f3
      rw [Nat.zero_add, List.nil_append] at hown2
      have HO2 := Lib.hid hown2
      clear hown2 hgrow2 hbx2
      (try rw [Nat.zero_add])
      refine hK _ _ ?_
      clear hK K
      (try simp only [Act.put, List.setIfInBounds_toArray, List.set_cons_zero, List.set_cons_succ])
      refine wpAny_ready (rs := [5]) (by kernel_rfl) (by simp) ?_
      refine AllReady.cons rfl (fun K hK => ?_) AllReady.nil
      have HO5 := Lib.hid (show (w2).ownsRow X.heap.size 58 4 (.slice p2 L.length c2) L.length (flatW L) from HO2.out)
      have HU5 := Lib.hid (show Upd [] X w2 from HU2.out)
      refine step_append_reads rfl (.tmp 24) (.tmp 26) 57 rfl X.heap.size 58 ip _ 4 32 Try.underlying57 hip hi0 hi1 hi2 rfl (by decide) (.slice p2 L.length c2) L.length (flatW L) rfl HO5.out (some ⟨X.heap.size, 0, none⟩) 1 1 [.int .i64 t, .int .i64 k, .int .i64 o, .int .u32 m] rfl rfl (fun _ => ⟨_, 0, rfl, list_src (HB42.out)⟩) (fun h => by cases h) (fun u hu => by simp at hu; rcases hu with rfl | rfl | rfl | rfl <;> rfl) (by have := HL.out; simp only [maxLen]; omega) (by have := HL.out; omega) HU5.out.size ?_
      intro p3 c3 w3 hp3 hown3 hgrow3
      have HU3 := Lib.hid (own_start HU5.out HO5.out hgrow3 (Nat.le_refl _))
      have HO3 := Lib.hid hown3
      clear hown3 hgrow3
      refine hK _ _ ?_
      clear hK K
      (try simp only [Act.put, List.setIfInBounds_toArray, List.set_cons_zero, List.set_cons_succ])
      refine wpAny_ready (rs := [6]) (by kernel_rfl) (by simp) ?_
      refine AllReady.cons rfl (fun K hK => ?_) AllReady.nil
      go_simp
      refine hK _ _ ?_
      clear hK K
      refine wpAny_ready (rs := [7]) (by kernel_rfl) (by simp) ?_
      refine AllReady.cons rfl (fun K hK => ?_) AllReady.nil
      go_simp
      refine hK _ _ ?_
      clear hK K
      refine wpAny_done (by kernel_rfl) ?_ _
      go_wp2
      go_ret2
      unfold RQAddPost
      rw [HQ.out]
      refine ⟨⟨.slice p3 (L.length + 1) c3, by simp, ?_⟩, HUX.out.trans HU3.out⟩
      refine World.ownsRow.mono (base := X.heap.size) ?_ (Nat.zero_le _)
      simp only [if_true, flatW_snoc, List.length_append]
      exact HO3.out
end
end Go.Proofs.Ytdbgnnkbcebpcaa
