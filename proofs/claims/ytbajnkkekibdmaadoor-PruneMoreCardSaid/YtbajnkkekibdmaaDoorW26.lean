/- The walk of PruneMore: it answers true, whatever the names, the policy and what is added; what stood in memory stays. -/
import Derived.Test.YtbajnkkekibdmaaDoorW25
namespace Go.Proofs.YtbajnkkekibdmaaDoor
open Go.RowKit Go.Shelf Go.Lib

set_option maxHeartbeats 4000000 in
set_option maxRecDepth 100000 in
theorem pruneMore_any (p : Po) (RA PA : Option Addr) (rc pc : Nat) (A : Option Addr) (cap : Nat) (ss : List ByteArray) (la co : Int) (sp cn : Int) (pin : ByteArray) (w : World) (hin : InAt w p RA PA A ss) (hpin : pin.size ≤ maxLen)
    (hla0 : 0 ≤ la) (hla1 : la ≤ 255) (hco0 : 0 ≤ co) (hco1 : co ≤ 255) (hsp0 : 0 ≤ sp) (hsp1 : sp < 4294967296) :
    Calls Tryd.prog 5 #[.slice A ss.length cap, .agg #[.int .i64 p.last, .slice RA p.rs.length rc, .slice PA p.ps.length pc], .int .u8 la, .int .u8 co, .agg #[.int .u32 sp, .int .i64 cn], .string pin] w fun e w' => e = .returned (.bool true) ∧ Below w.heap.size w w' := by
  have HI := hide hin
  have HX0 := hide (MxA.start w p RA PA rc pc sp cn)
  obtain ⟨i0, hi, hz0, hz1, hz2⟩ := info_parts infoStr
  have HWk := fun W => hide (wakes_any W)
  have hnz : pin.size ≤ 9223372036854775807 := hpin
  clear hin hpin
  go_enter Tryd.func5, Tryd.ntmps5
  go_wp2_with fail
  refine (HI.out.great HX0.out.bx.bel _ _ _).mono ?_
  rintro e w1 ⟨b, rfl, hb, hgr⟩
  have HX1 := hide (HX0.out.next hb)
  have HGr := hide hgr
  clear hb hgr HX0
  obtain ⟨c0, c1, c2⟩ := HX1.out.bx.cells
  cases b
  · by_cases hlong : 100 < pin.size
    · go_wp2_with fail
      refine (HWk _).out.mono ?_
      rintro e w2 ⟨rfl, hb⟩
      have HX2 := hide (HX1.out.next hb)
      clear hb c0 c1 c2
      go_wp2_with fail
      go_ret
      exact ⟨rfl, HX2.out.bx.bel⟩
    · obtain ⟨hl1, hl2, hl3⟩ := HGr.out rfl
      clear HGr
      go_wp2_with fail
      refine (HI.out.of_ HX1.out.bx.bel hl2 _ _).mono ?_
      rintro e w3 ⟨A3, k3, rfl, hb, hm⟩
      have HX3 := hide (HX1.out.next hb)
      have HX4 := hide (MxB.start (k3 := k3) HX3.out hm)
      clear hb hm c0 c1 c2 HX1 HX3
      go_upto_region 4 with (fail)
      generalize w3.alloc (.cells #[.int .i64 p.last, .slice A3 p.rs.length k3, .slice PA p.ps.length pc] 37) = w4 at *
      generalize w3.heap.size = bq at *
      have hcv : IntKind.i64.wrap la = la := IntWalk.i64_in _ (by omega)
      have HPin := hide ((HI.out.at_ HX4.out.bx.bel).pol.pins)
      have hbq := HX4.out.bx.box.lt
      have d0 := HX4.out.bx.box.cell 0
      have d2 := HX4.out.bx.box.cell 2
      go_cut [14] (fun s14 wx => PinSt w4 p pin (IntKind.i64.wrap (p.last + la)) s14 wx)
      case first =>
        refine wp_region_held_drew (S := (fun w' => Below w4.heap.size w4 w')) (by kernel_rfl) ((Below.refl _ _).drew) (fun hHeld => ?_)
        generalize w4.drew = wd at *
        have HB0 := hide hHeld
        refine wpAnyH_take (i := 0) (v := ?vq1) rfl (by kernel_rfl) (by kernel_rfl) (by kernel_rfl) (fun _ _ _ h => h) (Or.inl ⟨by rfl, ?hq1⟩) (by assumption) ?rq1
        case hq1 => (intro wq hSw; go_simp; (try with_reducible rfl))
        try simp only [Act.put, List.getElem_toArray, List.getElem_cons_zero, List.setIfInBounds_toArray, List.set_cons_zero, List.set_cons_succ]
        refine wpAnyH_take (i := 1) (v := ?vq2) rfl (by kernel_rfl) (by kernel_rfl) (by kernel_rfl) (fun _ _ _ h => h) (Or.inl ⟨by rfl, ?hq2⟩) (by assumption) ?rq2
        case hq2 => (intro wq hSw; have e0 := (hSw.cell (p := ⟨bq, 0, none⟩) hbq).trans d0; have e2 := (hSw.cell (p := ⟨bq, 2, none⟩) hbq).trans d2; go_simp; (try with_reducible rfl))
        try simp only [Act.put, List.getElem_toArray, List.getElem_cons_zero, List.getElem_cons_succ, List.setIfInBounds_toArray, List.set_cons_zero, List.set_cons_succ]
        refine wpAnyH_take (i := 2) (v := ?vq3) rfl (by kernel_rfl) (by kernel_rfl) (by kernel_rfl) (fun _ _ _ h => h) (Or.inl ⟨by rfl, ?hq3⟩) (by assumption) ?rq3
        case hq3 => (intro wq hSw; go_simp; (try with_reducible rfl))
        try simp only [Act.put, List.getElem_toArray, List.getElem_cons_zero, List.getElem_cons_succ, List.setIfInBounds_toArray, List.set_cons_zero, List.set_cons_succ]
        refine wpAnyH_take (i := 3) (v := ?vq4) rfl (by kernel_rfl) (by kernel_rfl) (by kernel_rfl) (fun _ _ _ h => h) (Or.inl ⟨by rfl, ?hq4⟩) (by assumption) ?rq4
        case hq4 => (intro wq hSw; go_simp; (try with_reducible rfl))
        try simp only [Act.put, List.getElem_toArray, List.getElem_cons_zero, List.getElem_cons_succ, List.setIfInBounds_toArray, List.set_cons_zero, List.set_cons_succ]
        refine wpAnyH_take (i := 4) (v := ?vq5) rfl (by kernel_rfl) (by kernel_rfl) (by kernel_rfl) (fun _ _ _ h => h) (Or.inl ⟨by rfl, ?hq5⟩) (by assumption) ?rq5
        case hq5 => (intro wq hSw; go_simp; (try with_reducible rfl))
        try simp only [Act.put, List.getElem_toArray, List.getElem_cons_zero, List.getElem_cons_succ, List.setIfInBounds_toArray, List.set_cons_zero, List.set_cons_succ]
        refine wpAnyH_take (i := 5) (v := ?vq6) rfl (by kernel_rfl) (by kernel_rfl) (by kernel_rfl) (fun _ _ _ h => h) (Or.inl ⟨by rfl, ?hq6⟩) (by assumption) ?rq6
        case hq6 => (intro wq hSw; go_simp; (try with_reducible rfl))
        try simp only [Act.put, List.getElem_toArray, List.getElem_cons_zero, List.getElem_cons_succ, List.setIfInBounds_toArray, List.set_cons_zero, List.set_cons_succ]
        refine wpAnyH_take (i := 6) (v := ?vq7) rfl (by kernel_rfl) (by kernel_rfl) (by kernel_rfl) (fun _ _ _ h => h) (Or.inl ⟨by rfl, ?hq7⟩) (by assumption) ?rq7
        case hq7 => (intro wq hSw; have e0 := (hSw.cell (p := ⟨bq, 0, none⟩) hbq).trans d0; have e2 := (hSw.cell (p := ⟨bq, 2, none⟩) hbq).trans d2; go_simp; (try with_reducible rfl))
        try simp only [Act.put, List.getElem_toArray, List.getElem_cons_zero, List.getElem_cons_succ, List.setIfInBounds_toArray, List.set_cons_zero, List.set_cons_succ]
        refine wpAnyH_take (i := 8) (v := ?vq8) rfl (by kernel_rfl) (by kernel_rfl) (by kernel_rfl) (fun _ _ _ h => h) (Or.inl ⟨by rfl, ?hq8⟩) (by assumption) ?rq8
        case hq8 => (intro wq hSw; go_simp; (try with_reducible rfl))
        try simp only [Act.put, List.getElem_toArray, List.getElem_cons_zero, List.getElem_cons_succ, List.setIfInBounds_toArray, List.set_cons_zero, List.set_cons_succ]
        refine wpAnyH_ready (rs := [7, 9, 12]) (by kernel_rfl) (by simp) ?_
        refine AllReadyH.cons (o := _) rfl (fun K hK => ?_) ?_
        · skip
          refine step_app _ (by rfl) _ _ _ (by rfl) w4.heap.size 9 i0 (.string ByteArray.empty) 1 16 Tryd.underlying22 hi hz0 hz1 hz2 rfl (by decide) (.slice none 0 0) 0 [] (by rfl) ⟨rfl, .inl ⟨rfl, rfl⟩⟩ PA p.ps.length pc (strs p.ps) (by rfl) (by rw [strs_len]; omega) ((HPin.out.below HB0.out).mono HB0.out.size) (strs_one _) (by unfold maxLen; omega) (by omega) HB0.out.size ?_
          intro A9 q10 W11 ho12 hg13
          simp only [Nat.zero_add, List.nil_append] at ho12
          simp only [Nat.zero_add]
          have HB14 := hide (HB0.out.grown hg13 HB0.out.size (fun g hg => by cases hg))
          have HO15 := hide ho12
          refine hK.out _ _ HB14.out (fun hHeld => ?_)
          clear hK K ho12 hg13
          try simp only [Act.put, List.getElem_toArray, List.getElem_cons_zero, List.getElem_cons_succ, List.setIfInBounds_toArray, List.set_cons_zero, List.set_cons_succ]
          refine wpAnyH_ready (rs := [9, 12]) (by kernel_rfl) (by simp) ?_
          refine AllReadyH.cons (o := _) rfl (fun K hK => ?_) ?_
          · skip
            go_simp
            have HB17 := hide (HB14.out.alloc (HB14.out.size) (.cells #[.string pin] 9))
            have H19 := hide (Whole.new W11 [.string pin] 9)
            have H20 := hide (HO15.out.alloc (.cells #[.string pin] 9))
            have hle21 : w4.heap.size ≤ W11.heap.size := HB14.out.size
            refine hK.out _ _ HB17.out (fun hHeld => ?_)
            clear hK K
            try simp only [Act.put, List.getElem_toArray, List.getElem_cons_zero, List.getElem_cons_succ, List.setIfInBounds_toArray, List.set_cons_zero, List.set_cons_succ]
            change Hid (Whole (W11.alloc (.cells #[.string pin] 9)) _ _ _) at H19
            generalize W11.alloc (.cells #[.string pin] 9) = W16 at *
            generalize W11.heap.size = b18 at *
            refine wpAnyH_ready (rs := [10, 12]) (by kernel_rfl) (by simp) ?_
            refine AllReadyH.cons (o := _) rfl (fun K hK => ?_) ?_
            · skip
              refine step_app _ (by rfl) _ _ _ (by rfl) w4.heap.size 9 i0 (.string ByteArray.empty) 1 16 Tryd.underlying22 hi hz0 hz1 hz2 rfl (by decide) (.slice A9 p.ps.length q10) p.ps.length (strs p.ps) (by rfl) H20.out (some ⟨b18, 0, none⟩) 1 1 [.string pin] (by rfl) rfl H19.out.mem one_pin (by unfold maxLen; omega) (by omega) HB17.out.size ?_
              intro A22 q23 W24 ho25 hg26
              have HB27 := hide (HB17.out.grown hg26 HB17.out.size (fun g hg => (H20.out.lt g hg).1))
              have HO28 := hide ho25
              refine hK.out _ _ HB27.out (fun hHeld => ?_)
              clear hK K ho25 hg26
              try simp only [Act.put, List.getElem_toArray, List.getElem_cons_zero, List.getElem_cons_succ, List.setIfInBounds_toArray, List.set_cons_zero, List.set_cons_succ]
              refine wpAnyH_take (i := 11) (v := ?vq30) rfl (by kernel_rfl) (by kernel_rfl) (by kernel_rfl) (fun _ _ _ h => h) (Or.inl ⟨by rfl, ?hq30⟩) (by assumption) ?rq30
              case hq30 => (intro wq hSw; go_simp; (try with_reducible rfl))
              try simp only [Act.put, List.getElem_toArray, List.getElem_cons_zero, List.getElem_cons_succ, List.setIfInBounds_toArray, List.set_cons_zero, List.set_cons_succ]
              refine wpAnyH_ready (rs := [12]) (by kernel_rfl) (by simp) ?_
              refine AllReadyH.cons (o := _) rfl (fun K hK => ?_) ?_
              · skip
                go_simp
                have HB32 := hide (HB27.out.alloc (HB27.out.size) (.cells #[.int .i64 0, .slice none 0 0, .slice none 0 0] 37))
                have H34 := hide (Whole.new W24 [.int .i64 0, .slice none 0 0, .slice none 0 0] 37)
                have H35 := hide (HO28.out.alloc (.cells #[.int .i64 0, .slice none 0 0, .slice none 0 0] 37))
                have hle36 : w4.heap.size ≤ W24.heap.size := HB27.out.size
                refine hK.out _ _ HB32.out (fun hHeld => ?_)
                clear hK K
                try simp only [Act.put, List.getElem_toArray, List.getElem_cons_zero, List.getElem_cons_succ, List.setIfInBounds_toArray, List.set_cons_zero, List.set_cons_succ]
                change Hid (Whole (W24.alloc (.cells #[.int .i64 0, .slice none 0 0, .slice none 0 0] 37)) _ _ _) at H34
                generalize W24.alloc (.cells #[.int .i64 0, .slice none 0 0, .slice none 0 0] 37) = W31 at *
                generalize W24.heap.size = b33 at *
                refine wpAnyH_ready (rs := [13]) (by kernel_rfl) (by simp) ?_
                refine AllReadyH.cons (o := _) rfl (fun K hK => ?_) ?_
                · skip
                  have c20 := H34.out.cell 0
                  have f20 := H34.out.frozen 0
                  have c21 := H34.out.cell 1
                  have f21 := H34.out.frozen 1
                  have c22 := H34.out.cell 2
                  have f22 := H34.out.frozen 2
                  go_simp
                  have FIN := hide (PinSt.mk_ (la' := IntKind.i64.wrap (p.last + la)) HB32.out hle36 H34.out H35.out)
                  refine hK.out _ _ FIN.out.below (fun hHeld => ?_)
                  clear hK K c20 c21 c22 f20 f21 f22
                  try simp only [Act.put, List.getElem_toArray, List.getElem_cons_zero, List.getElem_cons_succ, List.setIfInBounds_toArray, List.set_cons_zero, List.set_cons_succ]
                  refine wpAnyH_done (by kernel_rfl) ?_ _
                  go_wp2_with fail
                  go_meet
                  exact FIN.out
                exact AllReadyH.nil
              exact AllReadyH.nil
            refine AllReadyH.cons (o := _) rfl (fun K hK => ?_) ?_
            · skip
              go_simp
              have HB38 := hide (HB17.out.alloc (HB17.out.size) (.cells #[.int .i64 0, .slice none 0 0, .slice none 0 0] 37))
              have H40 := hide (Whole.new W16 [.int .i64 0, .slice none 0 0, .slice none 0 0] 37)
              have H41 := hide (H19.out.below ((Below.refl _ _).alloc (Nat.le_refl _) (.cells #[.int .i64 0, .slice none 0 0, .slice none 0 0] 37)) H19.out.lt)
              have H42 := hide (H20.out.alloc (.cells #[.int .i64 0, .slice none 0 0, .slice none 0 0] 37))
              have hle43 : w4.heap.size ≤ W16.heap.size := HB17.out.size
              refine hK.out _ _ HB38.out (fun hHeld => ?_)
              clear hK K
              try simp only [Act.put, List.getElem_toArray, List.getElem_cons_zero, List.getElem_cons_succ, List.setIfInBounds_toArray, List.set_cons_zero, List.set_cons_succ]
              change Hid (Whole (W16.alloc (.cells #[.int .i64 0, .slice none 0 0, .slice none 0 0] 37)) _ _ _) at H40
              generalize W16.alloc (.cells #[.int .i64 0, .slice none 0 0, .slice none 0 0] 37) = W37 at *
              generalize W16.heap.size = b39 at *
              refine wpAnyH_ready (rs := [10]) (by kernel_rfl) (by simp) ?_
              refine AllReadyH.cons (o := _) rfl (fun K hK => ?_) ?_
              · skip
                refine step_app _ (by rfl) _ _ _ (by rfl) w4.heap.size 9 i0 (.string ByteArray.empty) 1 16 Tryd.underlying22 hi hz0 hz1 hz2 rfl (by decide) (.slice A9 p.ps.length q10) p.ps.length (strs p.ps) (by rfl) H42.out (some ⟨b18, 0, none⟩) 1 1 [.string pin] (by rfl) rfl H41.out.mem one_pin (by unfold maxLen; omega) (by omega) HB38.out.size ?_
                intro A44 q45 W46 ho47 hg48
                have HB49 := hide (HB38.out.grown hg48 HB38.out.size (fun g hg => (H42.out.lt g hg).1))
                have H52 := hide (H40.out.grown hg48 (own_ne H42.out H40.out (by decide)))
                have HO50 := hide ho47
                refine hK.out _ _ HB49.out (fun hHeld => ?_)
                clear hK K ho47 hg48
                try simp only [Act.put, List.getElem_toArray, List.getElem_cons_zero, List.getElem_cons_succ, List.setIfInBounds_toArray, List.set_cons_zero, List.set_cons_succ]
                refine wpAnyH_take (i := 11) (v := ?vq53) rfl (by kernel_rfl) (by kernel_rfl) (by kernel_rfl) (fun _ _ _ h => h) (Or.inl ⟨by rfl, ?hq53⟩) (by assumption) ?rq53
                case hq53 => (intro wq hSw; go_simp; (try with_reducible rfl))
                try simp only [Act.put, List.getElem_toArray, List.getElem_cons_zero, List.getElem_cons_succ, List.setIfInBounds_toArray, List.set_cons_zero, List.set_cons_succ]
                refine wpAnyH_ready (rs := [13]) (by kernel_rfl) (by simp) ?_
                refine AllReadyH.cons (o := _) rfl (fun K hK => ?_) ?_
                · skip
                  have c20 := H52.out.cell 0
                  have f20 := H52.out.frozen 0
                  have c21 := H52.out.cell 1
                  have f21 := H52.out.frozen 1
                  have c22 := H52.out.cell 2
                  have f22 := H52.out.frozen 2
                  go_simp
                  have FIN := hide (PinSt.mk_ (la' := IntKind.i64.wrap (p.last + la)) HB49.out hle43 H52.out HO50.out)
                  refine hK.out _ _ FIN.out.below (fun hHeld => ?_)
                  clear hK K c20 c21 c22 f20 f21 f22
                  try simp only [Act.put, List.getElem_toArray, List.getElem_cons_zero, List.getElem_cons_succ, List.setIfInBounds_toArray, List.set_cons_zero, List.set_cons_succ]
                  refine wpAnyH_done (by kernel_rfl) ?_ _
                  go_wp2_with fail
                  go_meet
                  exact FIN.out
                exact AllReadyH.nil
              exact AllReadyH.nil
            exact AllReadyH.nil
          refine AllReadyH.cons (o := _) rfl (fun K hK => ?_) ?_
          · skip
            go_simp
            have HB55 := hide (HB14.out.alloc (HB14.out.size) (.cells #[.int .i64 0, .slice none 0 0, .slice none 0 0] 37))
            have H57 := hide (Whole.new W11 [.int .i64 0, .slice none 0 0, .slice none 0 0] 37)
            have H58 := hide (HO15.out.alloc (.cells #[.int .i64 0, .slice none 0 0, .slice none 0 0] 37))
            have hle59 : w4.heap.size ≤ W11.heap.size := HB14.out.size
            refine hK.out _ _ HB55.out (fun hHeld => ?_)
            clear hK K
            try simp only [Act.put, List.getElem_toArray, List.getElem_cons_zero, List.getElem_cons_succ, List.setIfInBounds_toArray, List.set_cons_zero, List.set_cons_succ]
            change Hid (Whole (W11.alloc (.cells #[.int .i64 0, .slice none 0 0, .slice none 0 0] 37)) _ _ _) at H57
            generalize W11.alloc (.cells #[.int .i64 0, .slice none 0 0, .slice none 0 0] 37) = W54 at *
            generalize W11.heap.size = b56 at *
            refine wpAnyH_ready (rs := [9]) (by kernel_rfl) (by simp) ?_
            refine AllReadyH.cons (o := _) rfl (fun K hK => ?_) ?_
            · skip
              go_simp
              have HB61 := hide (HB55.out.alloc (HB55.out.size) (.cells #[.string pin] 9))
              have H63 := hide (Whole.new W54 [.string pin] 9)
              have H64 := hide (H57.out.below ((Below.refl _ _).alloc (Nat.le_refl _) (.cells #[.string pin] 9)) H57.out.lt)
              have H65 := hide (H58.out.alloc (.cells #[.string pin] 9))
              have hle66 : w4.heap.size ≤ W54.heap.size := HB55.out.size
              refine hK.out _ _ HB61.out (fun hHeld => ?_)
              clear hK K
              try simp only [Act.put, List.getElem_toArray, List.getElem_cons_zero, List.getElem_cons_succ, List.setIfInBounds_toArray, List.set_cons_zero, List.set_cons_succ]
              change Hid (Whole (W54.alloc (.cells #[.string pin] 9)) _ _ _) at H63
              generalize W54.alloc (.cells #[.string pin] 9) = W60 at *
              generalize W54.heap.size = b62 at *
              refine wpAnyH_ready (rs := [10]) (by kernel_rfl) (by simp) ?_
              refine AllReadyH.cons (o := _) rfl (fun K hK => ?_) ?_
              · skip
                refine step_app _ (by rfl) _ _ _ (by rfl) w4.heap.size 9 i0 (.string ByteArray.empty) 1 16 Tryd.underlying22 hi hz0 hz1 hz2 rfl (by decide) (.slice A9 p.ps.length q10) p.ps.length (strs p.ps) (by rfl) H65.out (some ⟨b62, 0, none⟩) 1 1 [.string pin] (by rfl) rfl H63.out.mem one_pin (by unfold maxLen; omega) (by omega) HB61.out.size ?_
                intro A67 q68 W69 ho70 hg71
                have HB72 := hide (HB61.out.grown hg71 HB61.out.size (fun g hg => (H65.out.lt g hg).1))
                have H75 := hide (H64.out.grown hg71 (own_ne H65.out H64.out (by decide)))
                have HO73 := hide ho70
                refine hK.out _ _ HB72.out (fun hHeld => ?_)
                clear hK K ho70 hg71
                try simp only [Act.put, List.getElem_toArray, List.getElem_cons_zero, List.getElem_cons_succ, List.setIfInBounds_toArray, List.set_cons_zero, List.set_cons_succ]
                refine wpAnyH_take (i := 11) (v := ?vq76) rfl (by kernel_rfl) (by kernel_rfl) (by kernel_rfl) (fun _ _ _ h => h) (Or.inl ⟨by rfl, ?hq76⟩) (by assumption) ?rq76
                case hq76 => (intro wq hSw; go_simp; (try with_reducible rfl))
                try simp only [Act.put, List.getElem_toArray, List.getElem_cons_zero, List.getElem_cons_succ, List.setIfInBounds_toArray, List.set_cons_zero, List.set_cons_succ]
                refine wpAnyH_ready (rs := [13]) (by kernel_rfl) (by simp) ?_
                refine AllReadyH.cons (o := _) rfl (fun K hK => ?_) ?_
                · skip
                  have c20 := H75.out.cell 0
                  have f20 := H75.out.frozen 0
                  have c21 := H75.out.cell 1
                  have f21 := H75.out.frozen 1
                  have c22 := H75.out.cell 2
                  have f22 := H75.out.frozen 2
                  go_simp
                  have FIN := hide (PinSt.mk_ (la' := IntKind.i64.wrap (p.last + la)) HB72.out hle59 H75.out HO73.out)
                  refine hK.out _ _ FIN.out.below (fun hHeld => ?_)
                  clear hK K c20 c21 c22 f20 f21 f22
                  try simp only [Act.put, List.getElem_toArray, List.getElem_cons_zero, List.getElem_cons_succ, List.setIfInBounds_toArray, List.set_cons_zero, List.set_cons_succ]
                  refine wpAnyH_done (by kernel_rfl) ?_ _
                  go_wp2_with fail
                  go_meet
                  exact FIN.out
                exact AllReadyH.nil
              exact AllReadyH.nil
            exact AllReadyH.nil
          exact AllReadyH.nil
        refine AllReadyH.cons (o := _) rfl (fun K hK => ?_) ?_
        · skip
          go_simp
          have HB78 := hide (HB0.out.alloc (HB0.out.size) (.cells #[.string pin] 9))
          have H80 := hide (Whole.new wd [.string pin] 9)
          have hle81 : w4.heap.size ≤ wd.heap.size := HB0.out.size
          refine hK.out _ _ HB78.out (fun hHeld => ?_)
          clear hK K
          try simp only [Act.put, List.getElem_toArray, List.getElem_cons_zero, List.getElem_cons_succ, List.setIfInBounds_toArray, List.set_cons_zero, List.set_cons_succ]
          change Hid (Whole (wd.alloc (.cells #[.string pin] 9)) _ _ _) at H80
          generalize wd.alloc (.cells #[.string pin] 9) = W77 at *
          generalize wd.heap.size = b79 at *
          refine wpAnyH_ready (rs := [7, 12]) (by kernel_rfl) (by simp) ?_
          refine AllReadyH.cons (o := _) rfl (fun K hK => ?_) ?_
          · skip
            refine step_app _ (by rfl) _ _ _ (by rfl) w4.heap.size 9 i0 (.string ByteArray.empty) 1 16 Tryd.underlying22 hi hz0 hz1 hz2 rfl (by decide) (.slice none 0 0) 0 [] (by rfl) ⟨rfl, .inl ⟨rfl, rfl⟩⟩ PA p.ps.length pc (strs p.ps) (by rfl) (by rw [strs_len]; omega) ((HPin.out.below HB78.out).mono HB78.out.size) (strs_one _) (by unfold maxLen; omega) (by omega) HB78.out.size ?_
            intro A82 q83 W84 ho85 hg86
            simp only [Nat.zero_add, List.nil_append] at ho85
            simp only [Nat.zero_add]
            have HB87 := hide (HB78.out.grown hg86 HB78.out.size (fun g hg => by cases hg))
            have H89 := hide (H80.out.grown hg86 (by intro h; cases h))
            have HO88 := hide ho85
            refine hK.out _ _ HB87.out (fun hHeld => ?_)
            clear hK K ho85 hg86
            try simp only [Act.put, List.getElem_toArray, List.getElem_cons_zero, List.getElem_cons_succ, List.setIfInBounds_toArray, List.set_cons_zero, List.set_cons_succ]
            refine wpAnyH_ready (rs := [10, 12]) (by kernel_rfl) (by simp) ?_
            refine AllReadyH.cons (o := _) rfl (fun K hK => ?_) ?_
            · skip
              refine step_app _ (by rfl) _ _ _ (by rfl) w4.heap.size 9 i0 (.string ByteArray.empty) 1 16 Tryd.underlying22 hi hz0 hz1 hz2 rfl (by decide) (.slice A82 p.ps.length q83) p.ps.length (strs p.ps) (by rfl) HO88.out (some ⟨b79, 0, none⟩) 1 1 [.string pin] (by rfl) rfl H89.out.mem one_pin (by unfold maxLen; omega) (by omega) HB87.out.size ?_
              intro A90 q91 W92 ho93 hg94
              have HB95 := hide (HB87.out.grown hg94 HB87.out.size (fun g hg => (HO88.out.lt g hg).1))
              have HO96 := hide ho93
              refine hK.out _ _ HB95.out (fun hHeld => ?_)
              clear hK K ho93 hg94
              try simp only [Act.put, List.getElem_toArray, List.getElem_cons_zero, List.getElem_cons_succ, List.setIfInBounds_toArray, List.set_cons_zero, List.set_cons_succ]
              refine wpAnyH_take (i := 11) (v := ?vq98) rfl (by kernel_rfl) (by kernel_rfl) (by kernel_rfl) (fun _ _ _ h => h) (Or.inl ⟨by rfl, ?hq98⟩) (by assumption) ?rq98
              case hq98 => (intro wq hSw; go_simp; (try with_reducible rfl))
              try simp only [Act.put, List.getElem_toArray, List.getElem_cons_zero, List.getElem_cons_succ, List.setIfInBounds_toArray, List.set_cons_zero, List.set_cons_succ]
              refine wpAnyH_ready (rs := [12]) (by kernel_rfl) (by simp) ?_
              refine AllReadyH.cons (o := _) rfl (fun K hK => ?_) ?_
              · skip
                go_simp
                have HB100 := hide (HB95.out.alloc (HB95.out.size) (.cells #[.int .i64 0, .slice none 0 0, .slice none 0 0] 37))
                have H102 := hide (Whole.new W92 [.int .i64 0, .slice none 0 0, .slice none 0 0] 37)
                have H103 := hide (HO96.out.alloc (.cells #[.int .i64 0, .slice none 0 0, .slice none 0 0] 37))
                have hle104 : w4.heap.size ≤ W92.heap.size := HB95.out.size
                refine hK.out _ _ HB100.out (fun hHeld => ?_)
                clear hK K
                try simp only [Act.put, List.getElem_toArray, List.getElem_cons_zero, List.getElem_cons_succ, List.setIfInBounds_toArray, List.set_cons_zero, List.set_cons_succ]
                change Hid (Whole (W92.alloc (.cells #[.int .i64 0, .slice none 0 0, .slice none 0 0] 37)) _ _ _) at H102
                generalize W92.alloc (.cells #[.int .i64 0, .slice none 0 0, .slice none 0 0] 37) = W99 at *
                generalize W92.heap.size = b101 at *
                refine wpAnyH_ready (rs := [13]) (by kernel_rfl) (by simp) ?_
                refine AllReadyH.cons (o := _) rfl (fun K hK => ?_) ?_
                · skip
                  have c20 := H102.out.cell 0
                  have f20 := H102.out.frozen 0
                  have c21 := H102.out.cell 1
                  have f21 := H102.out.frozen 1
                  have c22 := H102.out.cell 2
                  have f22 := H102.out.frozen 2
                  go_simp
                  have FIN := hide (PinSt.mk_ (la' := IntKind.i64.wrap (p.last + la)) HB100.out hle104 H102.out H103.out)
                  refine hK.out _ _ FIN.out.below (fun hHeld => ?_)
                  clear hK K c20 c21 c22 f20 f21 f22
                  try simp only [Act.put, List.getElem_toArray, List.getElem_cons_zero, List.getElem_cons_succ, List.setIfInBounds_toArray, List.set_cons_zero, List.set_cons_succ]
                  refine wpAnyH_done (by kernel_rfl) ?_ _
                  go_wp2_with fail
                  go_meet
                  exact FIN.out
                exact AllReadyH.nil
              exact AllReadyH.nil
            refine AllReadyH.cons (o := _) rfl (fun K hK => ?_) ?_
            · skip
              go_simp
              have HB106 := hide (HB87.out.alloc (HB87.out.size) (.cells #[.int .i64 0, .slice none 0 0, .slice none 0 0] 37))
              have H108 := hide (Whole.new W84 [.int .i64 0, .slice none 0 0, .slice none 0 0] 37)
              have H109 := hide (H89.out.below ((Below.refl _ _).alloc (Nat.le_refl _) (.cells #[.int .i64 0, .slice none 0 0, .slice none 0 0] 37)) H89.out.lt)
              have H110 := hide (HO88.out.alloc (.cells #[.int .i64 0, .slice none 0 0, .slice none 0 0] 37))
              have hle111 : w4.heap.size ≤ W84.heap.size := HB87.out.size
              refine hK.out _ _ HB106.out (fun hHeld => ?_)
              clear hK K
              try simp only [Act.put, List.getElem_toArray, List.getElem_cons_zero, List.getElem_cons_succ, List.setIfInBounds_toArray, List.set_cons_zero, List.set_cons_succ]
              change Hid (Whole (W84.alloc (.cells #[.int .i64 0, .slice none 0 0, .slice none 0 0] 37)) _ _ _) at H108
              generalize W84.alloc (.cells #[.int .i64 0, .slice none 0 0, .slice none 0 0] 37) = W105 at *
              generalize W84.heap.size = b107 at *
              refine wpAnyH_ready (rs := [10]) (by kernel_rfl) (by simp) ?_
              refine AllReadyH.cons (o := _) rfl (fun K hK => ?_) ?_
              · skip
                refine step_app _ (by rfl) _ _ _ (by rfl) w4.heap.size 9 i0 (.string ByteArray.empty) 1 16 Tryd.underlying22 hi hz0 hz1 hz2 rfl (by decide) (.slice A82 p.ps.length q83) p.ps.length (strs p.ps) (by rfl) H110.out (some ⟨b79, 0, none⟩) 1 1 [.string pin] (by rfl) rfl H109.out.mem one_pin (by unfold maxLen; omega) (by omega) HB106.out.size ?_
                intro A112 q113 W114 ho115 hg116
                have HB117 := hide (HB106.out.grown hg116 HB106.out.size (fun g hg => (H110.out.lt g hg).1))
                have H120 := hide (H108.out.grown hg116 (own_ne H110.out H108.out (by decide)))
                have HO118 := hide ho115
                refine hK.out _ _ HB117.out (fun hHeld => ?_)
                clear hK K ho115 hg116
                try simp only [Act.put, List.getElem_toArray, List.getElem_cons_zero, List.getElem_cons_succ, List.setIfInBounds_toArray, List.set_cons_zero, List.set_cons_succ]
                refine wpAnyH_take (i := 11) (v := ?vq121) rfl (by kernel_rfl) (by kernel_rfl) (by kernel_rfl) (fun _ _ _ h => h) (Or.inl ⟨by rfl, ?hq121⟩) (by assumption) ?rq121
                case hq121 => (intro wq hSw; go_simp; (try with_reducible rfl))
                try simp only [Act.put, List.getElem_toArray, List.getElem_cons_zero, List.getElem_cons_succ, List.setIfInBounds_toArray, List.set_cons_zero, List.set_cons_succ]
                refine wpAnyH_ready (rs := [13]) (by kernel_rfl) (by simp) ?_
                refine AllReadyH.cons (o := _) rfl (fun K hK => ?_) ?_
                · skip
                  have c20 := H120.out.cell 0
                  have f20 := H120.out.frozen 0
                  have c21 := H120.out.cell 1
                  have f21 := H120.out.frozen 1
                  have c22 := H120.out.cell 2
                  have f22 := H120.out.frozen 2
                  go_simp
                  have FIN := hide (PinSt.mk_ (la' := IntKind.i64.wrap (p.last + la)) HB117.out hle111 H120.out HO118.out)
                  refine hK.out _ _ FIN.out.below (fun hHeld => ?_)
                  clear hK K c20 c21 c22 f20 f21 f22
                  try simp only [Act.put, List.getElem_toArray, List.getElem_cons_zero, List.getElem_cons_succ, List.setIfInBounds_toArray, List.set_cons_zero, List.set_cons_succ]
                  refine wpAnyH_done (by kernel_rfl) ?_ _
                  go_wp2_with fail
                  go_meet
                  exact FIN.out
                exact AllReadyH.nil
              exact AllReadyH.nil
            exact AllReadyH.nil
          refine AllReadyH.cons (o := _) rfl (fun K hK => ?_) ?_
          · skip
            go_simp
            have HB123 := hide (HB78.out.alloc (HB78.out.size) (.cells #[.int .i64 0, .slice none 0 0, .slice none 0 0] 37))
            have H125 := hide (Whole.new W77 [.int .i64 0, .slice none 0 0, .slice none 0 0] 37)
            have H126 := hide (H80.out.below ((Below.refl _ _).alloc (Nat.le_refl _) (.cells #[.int .i64 0, .slice none 0 0, .slice none 0 0] 37)) H80.out.lt)
            have hle127 : w4.heap.size ≤ W77.heap.size := HB78.out.size
            refine hK.out _ _ HB123.out (fun hHeld => ?_)
            clear hK K
            try simp only [Act.put, List.getElem_toArray, List.getElem_cons_zero, List.getElem_cons_succ, List.setIfInBounds_toArray, List.set_cons_zero, List.set_cons_succ]
            change Hid (Whole (W77.alloc (.cells #[.int .i64 0, .slice none 0 0, .slice none 0 0] 37)) _ _ _) at H125
            generalize W77.alloc (.cells #[.int .i64 0, .slice none 0 0, .slice none 0 0] 37) = W122 at *
            generalize W77.heap.size = b124 at *
            refine wpAnyH_ready (rs := [7]) (by kernel_rfl) (by simp) ?_
            refine AllReadyH.cons (o := _) rfl (fun K hK => ?_) ?_
            · skip
              refine step_app _ (by rfl) _ _ _ (by rfl) w4.heap.size 9 i0 (.string ByteArray.empty) 1 16 Tryd.underlying22 hi hz0 hz1 hz2 rfl (by decide) (.slice none 0 0) 0 [] (by rfl) ⟨rfl, .inl ⟨rfl, rfl⟩⟩ PA p.ps.length pc (strs p.ps) (by rfl) (by rw [strs_len]; omega) ((HPin.out.below HB123.out).mono HB123.out.size) (strs_one _) (by unfold maxLen; omega) (by omega) HB123.out.size ?_
              intro A128 q129 W130 ho131 hg132
              simp only [Nat.zero_add, List.nil_append] at ho131
              simp only [Nat.zero_add]
              have HB133 := hide (HB123.out.grown hg132 HB123.out.size (fun g hg => by cases hg))
              have H135 := hide (H126.out.grown hg132 (by intro h; cases h))
              have H136 := hide (H125.out.grown hg132 (by intro h; cases h))
              have HO134 := hide ho131
              refine hK.out _ _ HB133.out (fun hHeld => ?_)
              clear hK K ho131 hg132
              try simp only [Act.put, List.getElem_toArray, List.getElem_cons_zero, List.getElem_cons_succ, List.setIfInBounds_toArray, List.set_cons_zero, List.set_cons_succ]
              refine wpAnyH_ready (rs := [10]) (by kernel_rfl) (by simp) ?_
              refine AllReadyH.cons (o := _) rfl (fun K hK => ?_) ?_
              · skip
                refine step_app _ (by rfl) _ _ _ (by rfl) w4.heap.size 9 i0 (.string ByteArray.empty) 1 16 Tryd.underlying22 hi hz0 hz1 hz2 rfl (by decide) (.slice A128 p.ps.length q129) p.ps.length (strs p.ps) (by rfl) HO134.out (some ⟨b79, 0, none⟩) 1 1 [.string pin] (by rfl) rfl H135.out.mem one_pin (by unfold maxLen; omega) (by omega) HB133.out.size ?_
                intro A137 q138 W139 ho140 hg141
                have HB142 := hide (HB133.out.grown hg141 HB133.out.size (fun g hg => (HO134.out.lt g hg).1))
                have H145 := hide (H136.out.grown hg141 (own_ne HO134.out H136.out (by decide)))
                have HO143 := hide ho140
                refine hK.out _ _ HB142.out (fun hHeld => ?_)
                clear hK K ho140 hg141
                try simp only [Act.put, List.getElem_toArray, List.getElem_cons_zero, List.getElem_cons_succ, List.setIfInBounds_toArray, List.set_cons_zero, List.set_cons_succ]
                refine wpAnyH_take (i := 11) (v := ?vq146) rfl (by kernel_rfl) (by kernel_rfl) (by kernel_rfl) (fun _ _ _ h => h) (Or.inl ⟨by rfl, ?hq146⟩) (by assumption) ?rq146
                case hq146 => (intro wq hSw; go_simp; (try with_reducible rfl))
                try simp only [Act.put, List.getElem_toArray, List.getElem_cons_zero, List.getElem_cons_succ, List.setIfInBounds_toArray, List.set_cons_zero, List.set_cons_succ]
                refine wpAnyH_ready (rs := [13]) (by kernel_rfl) (by simp) ?_
                refine AllReadyH.cons (o := _) rfl (fun K hK => ?_) ?_
                · skip
                  have c20 := H145.out.cell 0
                  have f20 := H145.out.frozen 0
                  have c21 := H145.out.cell 1
                  have f21 := H145.out.frozen 1
                  have c22 := H145.out.cell 2
                  have f22 := H145.out.frozen 2
                  go_simp
                  have FIN := hide (PinSt.mk_ (la' := IntKind.i64.wrap (p.last + la)) HB142.out hle127 H145.out HO143.out)
                  refine hK.out _ _ FIN.out.below (fun hHeld => ?_)
                  clear hK K c20 c21 c22 f20 f21 f22
                  try simp only [Act.put, List.getElem_toArray, List.getElem_cons_zero, List.getElem_cons_succ, List.setIfInBounds_toArray, List.set_cons_zero, List.set_cons_succ]
                  refine wpAnyH_done (by kernel_rfl) ?_ _
                  go_wp2_with fail
                  go_meet
                  exact FIN.out
                exact AllReadyH.nil
              exact AllReadyH.nil
            exact AllReadyH.nil
          exact AllReadyH.nil
        refine AllReadyH.cons (o := _) rfl (fun K hK => ?_) ?_
        · skip
          go_simp
          have HB148 := hide (HB0.out.alloc (HB0.out.size) (.cells #[.int .i64 0, .slice none 0 0, .slice none 0 0] 37))
          have H150 := hide (Whole.new wd [.int .i64 0, .slice none 0 0, .slice none 0 0] 37)
          have hle151 : w4.heap.size ≤ wd.heap.size := HB0.out.size
          refine hK.out _ _ HB148.out (fun hHeld => ?_)
          clear hK K
          try simp only [Act.put, List.getElem_toArray, List.getElem_cons_zero, List.getElem_cons_succ, List.setIfInBounds_toArray, List.set_cons_zero, List.set_cons_succ]
          change Hid (Whole (wd.alloc (.cells #[.int .i64 0, .slice none 0 0, .slice none 0 0] 37)) _ _ _) at H150
          generalize wd.alloc (.cells #[.int .i64 0, .slice none 0 0, .slice none 0 0] 37) = W147 at *
          generalize wd.heap.size = b149 at *
          refine wpAnyH_ready (rs := [7, 9]) (by kernel_rfl) (by simp) ?_
          refine AllReadyH.cons (o := _) rfl (fun K hK => ?_) ?_
          · skip
            refine step_app _ (by rfl) _ _ _ (by rfl) w4.heap.size 9 i0 (.string ByteArray.empty) 1 16 Tryd.underlying22 hi hz0 hz1 hz2 rfl (by decide) (.slice none 0 0) 0 [] (by rfl) ⟨rfl, .inl ⟨rfl, rfl⟩⟩ PA p.ps.length pc (strs p.ps) (by rfl) (by rw [strs_len]; omega) ((HPin.out.below HB148.out).mono HB148.out.size) (strs_one _) (by unfold maxLen; omega) (by omega) HB148.out.size ?_
            intro A152 q153 W154 ho155 hg156
            simp only [Nat.zero_add, List.nil_append] at ho155
            simp only [Nat.zero_add]
            have HB157 := hide (HB148.out.grown hg156 HB148.out.size (fun g hg => by cases hg))
            have H159 := hide (H150.out.grown hg156 (by intro h; cases h))
            have HO158 := hide ho155
            refine hK.out _ _ HB157.out (fun hHeld => ?_)
            clear hK K ho155 hg156
            try simp only [Act.put, List.getElem_toArray, List.getElem_cons_zero, List.getElem_cons_succ, List.setIfInBounds_toArray, List.set_cons_zero, List.set_cons_succ]
            refine wpAnyH_ready (rs := [9]) (by kernel_rfl) (by simp) ?_
            refine AllReadyH.cons (o := _) rfl (fun K hK => ?_) ?_
            · skip
              go_simp
              have HB161 := hide (HB157.out.alloc (HB157.out.size) (.cells #[.string pin] 9))
              have H163 := hide (Whole.new W154 [.string pin] 9)
              have H164 := hide (H159.out.below ((Below.refl _ _).alloc (Nat.le_refl _) (.cells #[.string pin] 9)) H159.out.lt)
              have H165 := hide (HO158.out.alloc (.cells #[.string pin] 9))
              have hle166 : w4.heap.size ≤ W154.heap.size := HB157.out.size
              refine hK.out _ _ HB161.out (fun hHeld => ?_)
              clear hK K
              try simp only [Act.put, List.getElem_toArray, List.getElem_cons_zero, List.getElem_cons_succ, List.setIfInBounds_toArray, List.set_cons_zero, List.set_cons_succ]
              change Hid (Whole (W154.alloc (.cells #[.string pin] 9)) _ _ _) at H163
              generalize W154.alloc (.cells #[.string pin] 9) = W160 at *
              generalize W154.heap.size = b162 at *
              refine wpAnyH_ready (rs := [10]) (by kernel_rfl) (by simp) ?_
              refine AllReadyH.cons (o := _) rfl (fun K hK => ?_) ?_
              · skip
                refine step_app _ (by rfl) _ _ _ (by rfl) w4.heap.size 9 i0 (.string ByteArray.empty) 1 16 Tryd.underlying22 hi hz0 hz1 hz2 rfl (by decide) (.slice A152 p.ps.length q153) p.ps.length (strs p.ps) (by rfl) H165.out (some ⟨b162, 0, none⟩) 1 1 [.string pin] (by rfl) rfl H163.out.mem one_pin (by unfold maxLen; omega) (by omega) HB161.out.size ?_
                intro A167 q168 W169 ho170 hg171
                have HB172 := hide (HB161.out.grown hg171 HB161.out.size (fun g hg => (H165.out.lt g hg).1))
                have H175 := hide (H164.out.grown hg171 (own_ne H165.out H164.out (by decide)))
                have HO173 := hide ho170
                refine hK.out _ _ HB172.out (fun hHeld => ?_)
                clear hK K ho170 hg171
                try simp only [Act.put, List.getElem_toArray, List.getElem_cons_zero, List.getElem_cons_succ, List.setIfInBounds_toArray, List.set_cons_zero, List.set_cons_succ]
                refine wpAnyH_take (i := 11) (v := ?vq176) rfl (by kernel_rfl) (by kernel_rfl) (by kernel_rfl) (fun _ _ _ h => h) (Or.inl ⟨by rfl, ?hq176⟩) (by assumption) ?rq176
                case hq176 => (intro wq hSw; go_simp; (try with_reducible rfl))
                try simp only [Act.put, List.getElem_toArray, List.getElem_cons_zero, List.getElem_cons_succ, List.setIfInBounds_toArray, List.set_cons_zero, List.set_cons_succ]
                refine wpAnyH_ready (rs := [13]) (by kernel_rfl) (by simp) ?_
                refine AllReadyH.cons (o := _) rfl (fun K hK => ?_) ?_
                · skip
                  have c20 := H175.out.cell 0
                  have f20 := H175.out.frozen 0
                  have c21 := H175.out.cell 1
                  have f21 := H175.out.frozen 1
                  have c22 := H175.out.cell 2
                  have f22 := H175.out.frozen 2
                  go_simp
                  have FIN := hide (PinSt.mk_ (la' := IntKind.i64.wrap (p.last + la)) HB172.out hle151 H175.out HO173.out)
                  refine hK.out _ _ FIN.out.below (fun hHeld => ?_)
                  clear hK K c20 c21 c22 f20 f21 f22
                  try simp only [Act.put, List.getElem_toArray, List.getElem_cons_zero, List.getElem_cons_succ, List.setIfInBounds_toArray, List.set_cons_zero, List.set_cons_succ]
                  refine wpAnyH_done (by kernel_rfl) ?_ _
                  go_wp2_with fail
                  go_meet
                  exact FIN.out
                exact AllReadyH.nil
              exact AllReadyH.nil
            exact AllReadyH.nil
          refine AllReadyH.cons (o := _) rfl (fun K hK => ?_) ?_
          · skip
            go_simp
            have HB178 := hide (HB148.out.alloc (HB148.out.size) (.cells #[.string pin] 9))
            have H180 := hide (Whole.new W147 [.string pin] 9)
            have H181 := hide (H150.out.below ((Below.refl _ _).alloc (Nat.le_refl _) (.cells #[.string pin] 9)) H150.out.lt)
            have hle182 : w4.heap.size ≤ W147.heap.size := HB148.out.size
            refine hK.out _ _ HB178.out (fun hHeld => ?_)
            clear hK K
            try simp only [Act.put, List.getElem_toArray, List.getElem_cons_zero, List.getElem_cons_succ, List.setIfInBounds_toArray, List.set_cons_zero, List.set_cons_succ]
            change Hid (Whole (W147.alloc (.cells #[.string pin] 9)) _ _ _) at H180
            generalize W147.alloc (.cells #[.string pin] 9) = W177 at *
            generalize W147.heap.size = b179 at *
            refine wpAnyH_ready (rs := [7]) (by kernel_rfl) (by simp) ?_
            refine AllReadyH.cons (o := _) rfl (fun K hK => ?_) ?_
            · skip
              refine step_app _ (by rfl) _ _ _ (by rfl) w4.heap.size 9 i0 (.string ByteArray.empty) 1 16 Tryd.underlying22 hi hz0 hz1 hz2 rfl (by decide) (.slice none 0 0) 0 [] (by rfl) ⟨rfl, .inl ⟨rfl, rfl⟩⟩ PA p.ps.length pc (strs p.ps) (by rfl) (by rw [strs_len]; omega) ((HPin.out.below HB178.out).mono HB178.out.size) (strs_one _) (by unfold maxLen; omega) (by omega) HB178.out.size ?_
              intro A183 q184 W185 ho186 hg187
              simp only [Nat.zero_add, List.nil_append] at ho186
              simp only [Nat.zero_add]
              have HB188 := hide (HB178.out.grown hg187 HB178.out.size (fun g hg => by cases hg))
              have H190 := hide (H180.out.grown hg187 (by intro h; cases h))
              have H191 := hide (H181.out.grown hg187 (by intro h; cases h))
              have HO189 := hide ho186
              refine hK.out _ _ HB188.out (fun hHeld => ?_)
              clear hK K ho186 hg187
              try simp only [Act.put, List.getElem_toArray, List.getElem_cons_zero, List.getElem_cons_succ, List.setIfInBounds_toArray, List.set_cons_zero, List.set_cons_succ]
              refine wpAnyH_ready (rs := [10]) (by kernel_rfl) (by simp) ?_
              refine AllReadyH.cons (o := _) rfl (fun K hK => ?_) ?_
              · skip
                refine step_app _ (by rfl) _ _ _ (by rfl) w4.heap.size 9 i0 (.string ByteArray.empty) 1 16 Tryd.underlying22 hi hz0 hz1 hz2 rfl (by decide) (.slice A183 p.ps.length q184) p.ps.length (strs p.ps) (by rfl) HO189.out (some ⟨b179, 0, none⟩) 1 1 [.string pin] (by rfl) rfl H190.out.mem one_pin (by unfold maxLen; omega) (by omega) HB188.out.size ?_
                intro A192 q193 W194 ho195 hg196
                have HB197 := hide (HB188.out.grown hg196 HB188.out.size (fun g hg => (HO189.out.lt g hg).1))
                have H200 := hide (H191.out.grown hg196 (own_ne HO189.out H191.out (by decide)))
                have HO198 := hide ho195
                refine hK.out _ _ HB197.out (fun hHeld => ?_)
                clear hK K ho195 hg196
                try simp only [Act.put, List.getElem_toArray, List.getElem_cons_zero, List.getElem_cons_succ, List.setIfInBounds_toArray, List.set_cons_zero, List.set_cons_succ]
                refine wpAnyH_take (i := 11) (v := ?vq201) rfl (by kernel_rfl) (by kernel_rfl) (by kernel_rfl) (fun _ _ _ h => h) (Or.inl ⟨by rfl, ?hq201⟩) (by assumption) ?rq201
                case hq201 => (intro wq hSw; go_simp; (try with_reducible rfl))
                try simp only [Act.put, List.getElem_toArray, List.getElem_cons_zero, List.getElem_cons_succ, List.setIfInBounds_toArray, List.set_cons_zero, List.set_cons_succ]
                refine wpAnyH_ready (rs := [13]) (by kernel_rfl) (by simp) ?_
                refine AllReadyH.cons (o := _) rfl (fun K hK => ?_) ?_
                · skip
                  have c20 := H200.out.cell 0
                  have f20 := H200.out.frozen 0
                  have c21 := H200.out.cell 1
                  have f21 := H200.out.frozen 1
                  have c22 := H200.out.cell 2
                  have f22 := H200.out.frozen 2
                  go_simp
                  have FIN := hide (PinSt.mk_ (la' := IntKind.i64.wrap (p.last + la)) HB197.out hle151 H200.out HO198.out)
                  refine hK.out _ _ FIN.out.below (fun hHeld => ?_)
                  clear hK K c20 c21 c22 f20 f21 f22
                  try simp only [Act.put, List.getElem_toArray, List.getElem_cons_zero, List.getElem_cons_succ, List.setIfInBounds_toArray, List.set_cons_zero, List.set_cons_succ]
                  refine wpAnyH_done (by kernel_rfl) ?_ _
                  go_wp2_with fail
                  go_meet
                  exact FIN.out
                exact AllReadyH.nil
              exact AllReadyH.nil
            exact AllReadyH.nil
          exact AllReadyH.nil
        exact AllReadyH.nil
      case rest =>
        obtain ⟨bo, A8, q8, rfl, hnw⟩ := Nw.start hcut
        have HN5 := hide hnw
        have HB5 := hide hcut.below
        clear hcut hnw d0 d2 hbq hcv
        have hcv : IntKind.i64.wrap co = co := IntWalk.i64_in _ (by omega)
        have hb4 : ∀ k (hk : k < p.rs.length), ∃ b off, A3 = some ⟨b, off, none⟩ ∧ b < w4.heap.size ∧ w4.cell? ⟨b, off + k * 2, none⟩ = some (.int .u32 p.rs[k].1) ∧ w4.cell? ⟨b, off + k * 2 + 1, none⟩ = some (.int .i64 p.rs[k].2) := fun k hk => HX4.out.rm.rule k hk
        have HR4 := hide hb4
        clear hb4
        obtain ⟨j0, hj, hy0, hy1, hy2⟩ := info_parts infoRule
        generalize hla' : IntKind.i64.wrap (p.last + la) = la' at *
        generalize wc.heap.size = base at *
        go_wp2_with fail
        go_loopw [15] (fun i wr => ∃ (k : Nat) (A9 : Option Addr) (c9 : Nat), k ≤ p.rs.length ∧ i = .int .i64 k ∧ Nw w4 base bo p pin la' A8 q8 wr k A9 c9 (upd co (p.rs.take k))) (fun i _ => p.rs.length - (intOf i).toNat)
        case atStart => exact ⟨0, none, 0, Nat.zero_le _, rfl, HN5.out⟩
        case round =>
          obtain ⟨k, A9, c9, hk, rfl, hnw⟩ := hrel
          have HN := hide hnw
          clear hnw
          have HXr := hide (HX4.out.next HN.out.bel)
          have c1 := HXr.out.bx.box.cell 1
          by_cases hlt : k < p.rs.length
          · go_wp2_with fail
            obtain ⟨b, off, rfl, hb, r1, r2⟩ := HR4.out k hlt
            have HU := hide (upd_step (co := co) hlt)
            generalize p.rs[k].1 = sk at *
            generalize p.rs[k].2 = ck at *
            have d1 := HX4.out.bx.box.cell 1
            have hbq := HX4.out.bx.box.lt
            have i0a : (0 : Int) ≤ (k : Int) := by omega
            have i0b : (k : Int) < (p.rs.length : Int) := by omega
            clear c1
            refine wp_region_held_drew (S := (fun w' => Below w4.heap.size w4 w')) (by kernel_rfl) (HN.out.drew.bel) (fun hHeld => ?_)
            have HM0 := hide HN.out.drew
            generalize wr.drew = wd at *
            refine wpAnyH_take (i := 0) (v := ?vq202) rfl (by kernel_rfl) (by kernel_rfl) (by kernel_rfl) (fun _ _ _ h => h) (Or.inl ⟨by rfl, ?hq202⟩) (by assumption) ?rq202
            case hq202 => (intro wq hSw; go_simp; (try with_reducible rfl))
            try simp only [Act.put, List.getElem_toArray, List.getElem_cons_zero, List.setIfInBounds_toArray, List.set_cons_zero, List.set_cons_succ]
            refine wpAnyH_take (i := 2) (v := ?vq203) rfl (by kernel_rfl) (by kernel_rfl) (by kernel_rfl) (fun _ _ _ h => h) (Or.inl ⟨by rfl, ?hq203⟩) (by assumption) ?rq203
            case hq203 => (intro wq hSw; go_simp; (try with_reducible rfl))
            try simp only [Act.put, List.getElem_toArray, List.getElem_cons_zero, List.getElem_cons_succ, List.setIfInBounds_toArray, List.set_cons_zero, List.set_cons_succ]
            refine wpAnyH_take (i := 3) (v := ?vq204) rfl (by kernel_rfl) (by kernel_rfl) (by kernel_rfl) (fun _ _ _ h => h) (Or.inl ⟨by rfl, ?hq204⟩) (by assumption) ?rq204
            case hq204 => (intro wq hSw; have e1 := (hSw.cell (p := ⟨bq, 1, none⟩) hbq).trans d1; go_simp; (try with_reducible rfl))
            try simp only [Act.put, List.getElem_toArray, List.getElem_cons_zero, List.getElem_cons_succ, List.setIfInBounds_toArray, List.set_cons_zero, List.set_cons_succ]
            refine wpAnyH_take (i := 4) (v := ?vq205) rfl (by kernel_rfl) (by kernel_rfl) (by kernel_rfl) (fun _ _ _ h => h) (Or.inl ⟨by rfl, ?hq205⟩) (by assumption) ?rq205
            case hq205 => (intro wq hSw; go_simp; (try with_reducible rfl))
            try simp only [Act.put, List.getElem_toArray, List.getElem_cons_zero, List.getElem_cons_succ, List.setIfInBounds_toArray, List.set_cons_zero, List.set_cons_succ]
            refine wpAnyH_take (i := 5) (v := ?vq206) rfl (by kernel_rfl) (by kernel_rfl) (by kernel_rfl) (fun _ _ _ h => h) (Or.inl ⟨by rfl, ?hq206⟩) (by assumption) ?rq206
            case hq206 => (intro wq hSw; go_simp; (try with_reducible rfl))
            try simp only [Act.put, List.getElem_toArray, List.getElem_cons_zero, List.getElem_cons_succ, List.setIfInBounds_toArray, List.set_cons_zero, List.set_cons_succ]
            refine wpAnyH_take (i := 6) (v := ?vq207) rfl (by kernel_rfl) (by kernel_rfl) (by kernel_rfl) (fun _ _ _ h => h) (Or.inl ⟨by rfl, ?hq207⟩) (by assumption) ?rq207
            case hq207 => (intro wq hSw; go_simp; (try with_reducible rfl))
            try simp only [Act.put, List.getElem_toArray, List.getElem_cons_zero, List.getElem_cons_succ, List.setIfInBounds_toArray, List.set_cons_zero, List.set_cons_succ]
            refine wpAnyH_take (i := 7) (v := ?vq208) rfl (by kernel_rfl) (by kernel_rfl) (by kernel_rfl) (fun _ _ _ h => h) (Or.inl ⟨by rfl, ?hq208⟩) (by assumption) ?rq208
            case hq208 => (intro wq hSw; have e2 := (hSw.cell (p := ⟨b, off + k * 2, none⟩) hb).trans r1; go_simp; (try with_reducible rfl))
            try simp only [Act.put, List.getElem_toArray, List.getElem_cons_zero, List.getElem_cons_succ, List.setIfInBounds_toArray, List.set_cons_zero, List.set_cons_succ]
            refine wpAnyH_take (i := 8) (v := ?vq209) rfl (by kernel_rfl) (by kernel_rfl) (by kernel_rfl) (fun _ _ _ h => h) (Or.inl ⟨by rfl, ?hq209⟩) (by assumption) ?rq209
            case hq209 => (intro wq hSw; go_simp; (try with_reducible rfl))
            try simp only [Act.put, List.getElem_toArray, List.getElem_cons_zero, List.getElem_cons_succ, List.setIfInBounds_toArray, List.set_cons_zero, List.set_cons_succ]
            refine wpAnyH_take (i := 9) (v := ?vq210) rfl (by kernel_rfl) (by kernel_rfl) (by kernel_rfl) (fun _ _ _ h => h) (Or.inl ⟨by rfl, ?hq210⟩) (by assumption) ?rq210
            case hq210 => (intro wq hSw; have e1 := (hSw.cell (p := ⟨bq, 1, none⟩) hbq).trans d1; go_simp; (try with_reducible rfl))
            try simp only [Act.put, List.getElem_toArray, List.getElem_cons_zero, List.getElem_cons_succ, List.setIfInBounds_toArray, List.set_cons_zero, List.set_cons_succ]
            refine wpAnyH_take (i := 10) (v := ?vq211) rfl (by kernel_rfl) (by kernel_rfl) (by kernel_rfl) (fun _ _ _ h => h) (Or.inl ⟨by rfl, ?hq211⟩) (by assumption) ?rq211
            case hq211 => (intro wq hSw; go_simp; (try with_reducible rfl))
            try simp only [Act.put, List.getElem_toArray, List.getElem_cons_zero, List.getElem_cons_succ, List.setIfInBounds_toArray, List.set_cons_zero, List.set_cons_succ]
            refine wpAnyH_take (i := 11) (v := ?vq212) rfl (by kernel_rfl) (by kernel_rfl) (by kernel_rfl) (fun _ _ _ h => h) (Or.inl ⟨by rfl, ?hq212⟩) (by assumption) ?rq212
            case hq212 => (intro wq hSw; go_simp; (try with_reducible rfl))
            try simp only [Act.put, List.getElem_toArray, List.getElem_cons_zero, List.getElem_cons_succ, List.setIfInBounds_toArray, List.set_cons_zero, List.set_cons_succ]
            refine wpAnyH_take (i := 12) (v := ?vq213) rfl (by kernel_rfl) (by kernel_rfl) (by kernel_rfl) (fun _ _ _ h => h) (Or.inl ⟨by rfl, ?hq213⟩) (by assumption) ?rq213
            case hq213 => (intro wq hSw; go_simp; (try with_reducible rfl))
            try simp only [Act.put, List.getElem_toArray, List.getElem_cons_zero, List.getElem_cons_succ, List.setIfInBounds_toArray, List.set_cons_zero, List.set_cons_succ]
            refine wpAnyH_take (i := 13) (v := ?vq214) rfl (by kernel_rfl) (by kernel_rfl) (by kernel_rfl) (fun _ _ _ h => h) (Or.inl ⟨by rfl, ?hq214⟩) (by assumption) ?rq214
            case hq214 => (intro wq hSw; have e3 := (hSw.cell (p := ⟨b, off + k * 2 + 1, none⟩) hb).trans r2; go_simp; (try with_reducible rfl))
            try simp only [Act.put, List.getElem_toArray, List.getElem_cons_zero, List.getElem_cons_succ, List.setIfInBounds_toArray, List.set_cons_zero, List.set_cons_succ]
            refine wpAnyH_take (i := 14) (v := ?vq215) rfl (by kernel_rfl) (by kernel_rfl) (by kernel_rfl) (fun _ _ _ h => h) (Or.inl ⟨by rfl, ?hq215⟩) (by assumption) ?rq215
            case hq215 => (intro wq hSw; go_simp; (try with_reducible rfl))
            try simp only [Act.put, List.getElem_toArray, List.getElem_cons_zero, List.getElem_cons_succ, List.setIfInBounds_toArray, List.set_cons_zero, List.set_cons_succ]
            refine wpAnyH_take (i := 15) (v := ?vq216) rfl (by kernel_rfl) (by kernel_rfl) (by kernel_rfl) (fun _ _ _ h => h) (Or.inl ⟨by rfl, ?hq216⟩) (by assumption) ?rq216
            case hq216 => (intro wq hSw; go_simp; (try with_reducible rfl))
            try simp only [Act.put, List.getElem_toArray, List.getElem_cons_zero, List.getElem_cons_succ, List.setIfInBounds_toArray, List.set_cons_zero, List.set_cons_succ]
            refine wpAnyH_take (i := 16) (v := ?vq217) rfl (by kernel_rfl) (by kernel_rfl) (by kernel_rfl) (fun _ _ _ h => h) (Or.inl ⟨by rfl, ?hq217⟩) (by assumption) ?rq217
            case hq217 => (intro wq hSw; go_simp; (try with_reducible rfl))
            try simp only [Act.put, List.getElem_toArray, List.getElem_cons_zero, List.getElem_cons_succ, List.setIfInBounds_toArray, List.set_cons_zero, List.set_cons_succ]
            refine wpAnyH_take (i := 17) (v := ?vq218) rfl (by kernel_rfl) (by kernel_rfl) (by kernel_rfl) (fun _ _ _ h => h) (Or.inl ⟨by rfl, ?hq218⟩) (by assumption) ?rq218
            case hq218 => (intro wq hSw; go_simp; (try with_reducible rfl))
            try simp only [Act.put, List.getElem_toArray, List.getElem_cons_zero, List.getElem_cons_succ, List.setIfInBounds_toArray, List.set_cons_zero, List.set_cons_succ]
            refine wpAnyH_ready (rs := [1, 18]) (by kernel_rfl) (by simp) ?_
            refine AllReadyH.cons (o := _) rfl (fun K hK => ?_) ?_
            · skip
              have o1 := HM0.out.out.cell 1
              go_simp
              refine hK.out _ _ HM0.out.bel (fun hHeld => ?_)
              clear hK K o1
              try simp only [Act.put, List.getElem_toArray, List.getElem_cons_zero, List.getElem_cons_succ, List.setIfInBounds_toArray, List.set_cons_zero, List.set_cons_succ]
              refine wpAnyH_ready (rs := [18]) (by kernel_rfl) (by simp) ?_
              refine AllReadyH.cons (o := _) rfl (fun K hK => ?_) ?_
              · skip
                go_simp
                have HN220 := hide (HM0.out.alloc (.cells #[.int .u32 sk, .int .i64 (IntKind.i64.wrap (ck + co))] 45))
                have H221 := hide (Whole.new (wd) [.int .u32 sk, .int .i64 (IntKind.i64.wrap (ck + co))] 45)
                refine hK.out _ _ HN220.out.bel (fun hHeld => ?_)
                clear hK K
                try simp only [Act.put, List.getElem_toArray, List.getElem_cons_zero, List.getElem_cons_succ, List.setIfInBounds_toArray, List.set_cons_zero, List.set_cons_succ]
                change Hid (Whole (wd.alloc (.cells #[.int .u32 sk, .int .i64 (IntKind.i64.wrap (ck + co))] 45)) _ _ _) at H221
                generalize wd.alloc (.cells #[.int .u32 sk, .int .i64 (IntKind.i64.wrap (ck + co))] 45) = W219 at *
                generalize wd.heap.size = b222 at *
                refine wpAnyH_ready (rs := [19]) (by kernel_rfl) (by simp) ?_
                refine AllReadyH.cons (o := _) rfl (fun K hK => ?_) ?_
                · skip
                  refine step_app _ (by rfl) _ _ _ (by rfl) base 45 j0 (.agg #[.int .u32 0, .int .i64 0]) 2 16 Tryd.underlying35 hj hy0 hy1 hy2 rfl (by decide) (.slice A9 k c9) k (rules (upd co (p.rs.take k))) (by rfl) HN220.out.own (some ⟨b222, 0, none⟩) 1 1 [.int .u32 sk, .int .i64 (IntKind.i64.wrap (ck + co))] (by rfl) rfl H221.out.mem (rule_one _ _) (by unfold maxLen; omega) (by omega) HN220.out.sz ?_
                  intro A2 q2 w2 ho hg
                  have hB := hide (show Below base W219 w2 from (Below.refl _ _).grown hg HN220.out.sz (fun g hg => (HN220.out.own.lt g hg).1))
                  have HF := hide (HN220.out.app hB.out ho)
                  have HO := hide (HN220.out.out.below hB.out HN220.out.hi)
                  refine hK.out _ _ (HN220.out.bel.trans (hB.out.mono (Nat.le_trans HN220.out.lo (Nat.le_of_lt HN220.out.hi)))) (fun hHeld => ?_)
                  clear hK K ho hg hB
                  try simp only [Act.put, List.getElem_toArray, List.getElem_cons_zero, List.getElem_cons_succ, List.setIfInBounds_toArray, List.set_cons_zero, List.set_cons_succ]
                  refine wpAnyH_take (i := 20) (v := ?vq223) rfl (by kernel_rfl) (by kernel_rfl) (by kernel_rfl) (fun _ _ _ h => h) (Or.inl ⟨by rfl, ?hq223⟩) (by assumption) ?rq223
                  case hq223 => (intro wq hSw; go_simp; (try with_reducible rfl))
                  try simp only [Act.put, List.getElem_toArray, List.getElem_cons_zero, List.getElem_cons_succ, List.setIfInBounds_toArray, List.set_cons_zero, List.set_cons_succ]
                  refine wpAnyH_ready (rs := [21]) (by kernel_rfl) (by simp) ?_
                  refine AllReadyH.cons (o := _) rfl (fun K hK => ?_) ?_
                  · skip
                    have o1 := HO.out.cell 1
                    have f1 := HO.out.frozen 1
                    go_simp
                    refine hK.out _ _ HF.out.bel (fun hHeld => ?_)
                    clear hK K o1 f1
                    try simp only [Act.put, List.getElem_toArray, List.getElem_cons_zero, List.getElem_cons_succ, List.setIfInBounds_toArray, List.set_cons_zero, List.set_cons_succ]
                    refine wpAnyH_done (by kernel_rfl) ?_ _
                    go_wp2_with fail
                    go_roundw
                    case rel => exact ⟨k + 1, A2, q2, by omega, by go_num, by rw [HU.out]; exact HF.out⟩
                    case measure => simp [intOf]; omega
                  exact AllReadyH.nil
                exact AllReadyH.nil
              exact AllReadyH.nil
            refine AllReadyH.cons (o := _) rfl (fun K hK => ?_) ?_
            · skip
              go_simp
              have HN225 := hide (HM0.out.alloc (.cells #[.int .u32 sk, .int .i64 (IntKind.i64.wrap (ck + co))] 45))
              have H226 := hide (Whole.new (wd) [.int .u32 sk, .int .i64 (IntKind.i64.wrap (ck + co))] 45)
              refine hK.out _ _ HN225.out.bel (fun hHeld => ?_)
              clear hK K
              try simp only [Act.put, List.getElem_toArray, List.getElem_cons_zero, List.getElem_cons_succ, List.setIfInBounds_toArray, List.set_cons_zero, List.set_cons_succ]
              change Hid (Whole (wd.alloc (.cells #[.int .u32 sk, .int .i64 (IntKind.i64.wrap (ck + co))] 45)) _ _ _) at H226
              generalize wd.alloc (.cells #[.int .u32 sk, .int .i64 (IntKind.i64.wrap (ck + co))] 45) = W224 at *
              generalize wd.heap.size = b227 at *
              refine wpAnyH_ready (rs := [1]) (by kernel_rfl) (by simp) ?_
              refine AllReadyH.cons (o := _) rfl (fun K hK => ?_) ?_
              · skip
                have o1 := HN225.out.out.cell 1
                go_simp
                refine hK.out _ _ HN225.out.bel (fun hHeld => ?_)
                clear hK K o1
                try simp only [Act.put, List.getElem_toArray, List.getElem_cons_zero, List.getElem_cons_succ, List.setIfInBounds_toArray, List.set_cons_zero, List.set_cons_succ]
                refine wpAnyH_ready (rs := [19]) (by kernel_rfl) (by simp) ?_
                refine AllReadyH.cons (o := _) rfl (fun K hK => ?_) ?_
                · skip
                  refine step_app _ (by rfl) _ _ _ (by rfl) base 45 j0 (.agg #[.int .u32 0, .int .i64 0]) 2 16 Tryd.underlying35 hj hy0 hy1 hy2 rfl (by decide) (.slice A9 k c9) k (rules (upd co (p.rs.take k))) (by rfl) HN225.out.own (some ⟨b227, 0, none⟩) 1 1 [.int .u32 sk, .int .i64 (IntKind.i64.wrap (ck + co))] (by rfl) rfl H226.out.mem (rule_one _ _) (by unfold maxLen; omega) (by omega) HN225.out.sz ?_
                  intro A2 q2 w2 ho hg
                  have hB := hide (show Below base W224 w2 from (Below.refl _ _).grown hg HN225.out.sz (fun g hg => (HN225.out.own.lt g hg).1))
                  have HF := hide (HN225.out.app hB.out ho)
                  have HO := hide (HN225.out.out.below hB.out HN225.out.hi)
                  refine hK.out _ _ (HN225.out.bel.trans (hB.out.mono (Nat.le_trans HN225.out.lo (Nat.le_of_lt HN225.out.hi)))) (fun hHeld => ?_)
                  clear hK K ho hg hB
                  try simp only [Act.put, List.getElem_toArray, List.getElem_cons_zero, List.getElem_cons_succ, List.setIfInBounds_toArray, List.set_cons_zero, List.set_cons_succ]
                  refine wpAnyH_take (i := 20) (v := ?vq228) rfl (by kernel_rfl) (by kernel_rfl) (by kernel_rfl) (fun _ _ _ h => h) (Or.inl ⟨by rfl, ?hq228⟩) (by assumption) ?rq228
                  case hq228 => (intro wq hSw; go_simp; (try with_reducible rfl))
                  try simp only [Act.put, List.getElem_toArray, List.getElem_cons_zero, List.getElem_cons_succ, List.setIfInBounds_toArray, List.set_cons_zero, List.set_cons_succ]
                  refine wpAnyH_ready (rs := [21]) (by kernel_rfl) (by simp) ?_
                  refine AllReadyH.cons (o := _) rfl (fun K hK => ?_) ?_
                  · skip
                    have o1 := HO.out.cell 1
                    have f1 := HO.out.frozen 1
                    go_simp
                    refine hK.out _ _ HF.out.bel (fun hHeld => ?_)
                    clear hK K o1 f1
                    try simp only [Act.put, List.getElem_toArray, List.getElem_cons_zero, List.getElem_cons_succ, List.setIfInBounds_toArray, List.set_cons_zero, List.set_cons_succ]
                    refine wpAnyH_done (by kernel_rfl) ?_ _
                    go_wp2_with fail
                    go_roundw
                    case rel => exact ⟨k + 1, A2, q2, by omega, by go_num, by rw [HU.out]; exact HF.out⟩
                    case measure => simp [intOf]; omega
                  exact AllReadyH.nil
                exact AllReadyH.nil
              exact AllReadyH.nil
            exact AllReadyH.nil
          · obtain rfl : k = p.rs.length := by omega
            rw [List.take_length] at HN
            have c2 := HN.out.out.cell 1
            have f2 := HN.out.out.frozen 1
            have g0 := HXr.out.rb.cell 0
            have g1 := HXr.out.rb.cell 1
            go_wp2_with (at_builtin; refine wpList_append_own _ rfl _ _ 35 rfl base 45 j0 (.agg #[.int .u32 0, .int .i64 0]) 2 16 Tryd.underlying35 hj hy0 hy1 hy2 rfl (by decide) _ _ _ rfl (HN.out.own.alloc _) ⟨wr.heap.size, 0, none⟩ 1 1 [.int .u32 sp, .int .i64 cn] rfl rfl ?c1 ?c2 ?c3 ?c4 ?c5 ?_)
            try (case c1 => exact fun j u hu => new_cells wr _ _ j u hu)
            case c2 => exact rule_one _ _
            case c3 => unfold maxLen; omega
            case c4 => omega
            case c5 => have h5 := HN.out.sz
                       have h6 : (wr.alloc (.cells #[.int .u32 sp, .int .i64 cn] 45)).heap.size = wr.heap.size + 1 := by simp
                       omega
            intro v2 w2 hown2 hg2 _
            obtain ⟨A2, q2, rfl⟩ := owns_slice hown2
            have hB := hide (show Below base wr w2 from ((Below.refl _ _).alloc HN.out.sz (.cells #[.int .u32 sp, .int .i64 cn] 45)).grown hg2 (by have h5 := HN.out.sz; simp; omega) (fun g hg => (HN.out.own.lt g hg).1))
            have HF := hide (HN.out.app hB.out hown2)
            have HO := hide (HN.out.out.below hB.out HN.out.hi)
            have o1 := HO.out.cell 1
            have f1 := HO.out.frozen 1
            clear hown2 hg2 c1 c2 f2 g0 g1 hB HO HN HXr HN5 HB5
            go_upto_region 10 with fail
            clear o1 f1
            generalize w2.setCell ⟨bo, 1, none⟩ (.slice A2 (p.rs.length + 1) q2) = w6 at *
            have HMF := hide (mf_of ss p la co sp cn pin hla0 hla1 hco0 hco1)
            have HSp := hide (gPo_spans (la := la) (co := co) (cn := cn) (pin := pin) HI.out.spans hsp0 hsp1)
            have hn1 : p.rs.length + 1 = (gPo p la co sp cn pin).rs.length := by simp [gPo, upd_len]
            have hm1 : p.ps.length + 1 = (gPo p la co sp cn pin).ps.length := by simp [gPo]
            have hq1 : la' = (gPo p la co sp cn pin).last := hla'.symm
            have HK2 := fun W (hb : Below w.heap.size w W) (hn : Nw w4 base bo p pin la' A8 q8 W (p.rs.length + 1) A2 q2 (upd co p.rs ++ [(sp, cn)])) => hide (HI.out.keepG hb (hn.polG (la := la) hl2 hl3 HI.out.pol.texts hnz) HSp.out hq1 hn1 hm1 q2 q8 cap)
            have HY2 := fun W (hn : Nw w4 base bo p pin la' A8 q8 W (p.rs.length + 1) A2 q2 (upd co p.rs ++ [(sp, cn)])) => hide (mayG (hn.polG (la := la) hl2 hl3 HI.out.pol.texts hnz) hq1 hn1 hm1 q2 q8)
            have HX6 := hide (HX4.out.next HF.out.bel)
            clear hn1 hm1 hq1 HSp
            generalize gPo p la co sp cn pin = q at *
            obtain ⟨c0, c1, c2⟩ := HX6.out.bx.cells
            go_wp2_with fail
            refine (HI.out.keep HX6.out.bx.bel HX6.out.rm _ _ _).mono ?_
            rintro e w7 ⟨A7, k7, rfl, hb, hm⟩
            have HF7 := hide (HF.out.call hb)
            have HX7 := hide (HX6.out.next hb)
            have HM7 := hide hm
            clear hb hm c0 c1 c2
            have o0 := HF7.out.out.cell 0
            have o1 := HF7.out.out.cell 1
            have o2 := HF7.out.out.cell 2
            go_wp2_with fail
            refine (HK2 _ HX7.out.bx.bel HF7.out).out.mono ?_
            rintro e w8 ⟨Ab, kb, rfl, hb, hm⟩
            have HF8 := hide (HF7.out.call hb)
            have HX8 := hide (HX7.out.next hb)
            have HM8 := hide ((HM7.out.below hb).mono hb.size)
            have HN8 := hide hm
            clear hb hm o0 o1 o2 HF HX6 HF7 HX7 HM7 HX4 HK2
            generalize Pl.err (bss ss) p.pol = e1 at *
            generalize Pl.err (bss ss) q.pol = e2 at *
            generalize Pl.keep (bss ss) p.pol = l1 at *
            generalize Pl.keep (bss ss) q.pol = l2 at *
            by_cases h1 : e1 = 0
            · subst h1
              by_cases h2 : e2 = 0
              · subst h2
                have hla := HMF.out.la rfl
                have hlb := HMF.out.lb rfl
                have hlab : ((l1.length : Int) != (ss.length : Int)) = false := by simp; omega
                have hlbb : ((l2.length : Int) != (ss.length : Int)) = false := by simp; omega
                go_wp2_with fail
                go_loop [20] (fun i => ∃ k : Nat, k ≤ ss.length ∧ i = .int .i64 k) (fun i => ss.length - (intOf i).toNat)
                case atStart => exact ⟨0, Nat.zero_le _, rfl⟩
                case round =>
                  obtain ⟨k, hk, rfl⟩ := hrel
                  by_cases hlt : k < ss.length
                  · have hka : k < l1.length := by omega
                    have hkb : k < l2.length := by omega
                    obtain ⟨ba, oa, rfl, hba, ca⟩ := bool_at HM8.out hka
                    obtain ⟨bb, ob, rfl, hbb, cb⟩ := bool_at HN8.out hkb
                    obtain ⟨bn, on, rfl, hbn, cn3⟩ := name_at ((HI.out.at_ HX8.out.bx.bel).names) hlt
                    have f1 := ca k hka
                    have f2 := cb k hkb
                    have f3 := cn3 k hlt
                    have HMo := hide (HMF.out.more rfl rfl k hka hkb)
                    have HPi := hide (HMF.out.pin rfl k hlt hkb)
                    have hbq := beq_lists pin ss[k]
                    have HPj := hide (show decide (pin.data.toList = ss[k].data.toList) = true → l2[k] = true from fun h => HPi.out (of_decide_eq_true h).symm)
                    clear ca cb cn3 HPi
                    generalize l1[k] = xa at *
                    generalize l2[k] = xb at *
                    generalize decide (pin.data.toList = ss[k].data.toList) = y at *
                    have hbq2 : (ss[k].toList == pin.toList) = y := by rw [← hbq, Bool.beq_comm]
                    cases xa
                    · cases xb
                      · cases y
                        · go_wp2_with fail
                          go_round
                          case rel => exact ⟨k + 1, by omega, by go_num⟩
                          case measure => simp [intOf]; omega
                        · exact absurd (HPj.out rfl) (by simp)
                      · cases y
                        · go_wp2_with fail
                          go_round
                          case rel => exact ⟨k + 1, by omega, by go_num⟩
                          case measure => simp [intOf]; omega
                        · go_wp2_with fail
                          go_round
                          case rel => exact ⟨k + 1, by omega, by go_num⟩
                          case measure => simp [intOf]; omega
                    · cases xb
                      · exact absurd (HMo.out rfl) (by simp)
                      · cases y
                        · go_wp2_with fail
                          go_round
                          case rel => exact ⟨k + 1, by omega, by go_num⟩
                          case measure => simp [intOf]; omega
                        · go_wp2_with fail
                          go_round
                          case rel => exact ⟨k + 1, by omega, by go_num⟩
                          case measure => simp [intOf]; omega
                  · obtain rfl : k = ss.length := by omega
                    go_wp2_with fail
                    refine (HWk _).out.mono ?_
                    rintro e w10 ⟨rfl, hb⟩
                    have HXz := hide (HX8.out.bx.bel.trans (hb.mono HX8.out.bx.bel.size))
                    clear hb
                    go_wp2_with fail
                    go_ret
                    exact ⟨rfl, HXz.out⟩
              · have h2b : (e2 != 0) = true := by simp [h2]
                have o0 := HF8.out.out.cell 0
                have o1 := HF8.out.out.cell 1
                have o2 := HF8.out.out.cell 2
                go_wp2_with fail
                refine (HY2 _ HF8.out).out.mono ?_
                rintro e w9 ⟨rfl, hb⟩
                have HX9 := hide (HX8.out.bx.bel.trans (hb.mono HX8.out.bx.bel.size))
                have HMy := hide (HMF.out.may (.inl h2))
                clear hb o0 o1 o2
                generalize Pl.may q.pol = my at *
                cases my
                · obtain rfl : e2 = 2 := HMy.out.resolve_left (by simp)
                  go_wp2_with fail
                  refine (HWk _).out.mono ?_
                  rintro e w10 ⟨rfl, hb⟩
                  have HXz := hide (HX9.out.trans (hb.mono HX9.out.size))
                  clear hb
                  go_wp2_with fail
                  go_ret
                  exact ⟨rfl, HXz.out⟩
                · go_wp2_with fail
                  refine (HWk _).out.mono ?_
                  rintro e w10 ⟨rfl, hb⟩
                  have HXz := hide (HX9.out.trans (hb.mono HX9.out.size))
                  clear hb
                  go_wp2_with fail
                  go_ret
                  exact ⟨rfl, HXz.out⟩
            · have h1b : (e1 != 0) = true := by simp [h1]
              have o0 := HF8.out.out.cell 0
              have o1 := HF8.out.out.cell 1
              have o2 := HF8.out.out.cell 2
              go_wp2_with fail
              refine (HY2 _ HF8.out).out.mono ?_
              rintro e w9 ⟨rfl, hb⟩
              have HX9 := hide (HX8.out.bx.bel.trans (hb.mono HX8.out.bx.bel.size))
              have HMy := hide (HMF.out.may (.inr h1))
              clear hb o0 o1 o2
              generalize Pl.may q.pol = my at *
              cases my
              · obtain rfl : e2 = 2 := HMy.out.resolve_left (by simp)
                go_wp2_with fail
                refine (HWk _).out.mono ?_
                rintro e w10 ⟨rfl, hb⟩
                have HXz := hide (HX9.out.trans (hb.mono HX9.out.size))
                clear hb
                go_wp2_with fail
                go_ret
                exact ⟨rfl, HXz.out⟩
              · go_wp2_with fail
                refine (HWk _).out.mono ?_
                rintro e w10 ⟨rfl, hb⟩
                have HXz := hide (HX9.out.trans (hb.mono HX9.out.size))
                clear hb
                go_wp2_with fail
                go_ret
                exact ⟨rfl, HXz.out⟩
  · go_wp2_with fail
    refine (HWk _).out.mono ?_
    rintro e w2 ⟨rfl, hb⟩
    have HX2 := hide (HX1.out.next hb)
    clear hb c0 c1 c2
    go_wp2_with fail
    go_ret
    exact ⟨rfl, HX2.out.bx.bel⟩
end Go.Proofs.YtbajnkkekibdmaaDoor
