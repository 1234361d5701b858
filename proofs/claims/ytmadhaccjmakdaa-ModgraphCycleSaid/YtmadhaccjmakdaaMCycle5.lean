/- Part 5 of 6 of one proof: Names: what has, same, Insert, Names, Imports and consistent answer -/
import Derived.Lib.SliceRun
import Derived.WalkSpells
import Derived.Test.YtmadhaccjmakdaaMCycle1
import Derived.Test.YtmadhaccjmakdaaMCycle2
import Derived.Test.YtmadhaccjmakdaaMCycle3
import Derived.Test.YtmadhaccjmakdaaMCycle4
set_option linter.unusedVariables false
set_option linter.unusedSimpArgs false
namespace Go.Proofs.Ytmadhaccjmakdaa.P
open Go.RowKit Go.Proofs.YtmadhaccjmakdaaW.PrintWords Go.Proofs.YtmadhaccjmakdaaW.PrintLast Go.Proofs.YtmadhaccjmakdaaW.PrintMore
attribute [local go_sem] str_gtr str_leq str_geq max2_int min2_int max_two min_two max_three min_three max_four min_four
noncomputable def modgraph_Order.l0 : Nat → List ByteArray → List (List Int) → Int → Int → List ByteArray → List (List Int) → Option (List ByteArray × Int × ByteArray × Int × Int)
 | 0, _, _, _, _, _, _ => none
 | k + 1, x6, x20, x21, x22, x189000, x189001 => if x22 < x21 then (if 0 ≤ x22 then (if x22 < (x20.length : Int) then ((modgraph_program_named.f k x189000 x189001 (rd_L11 x20 x22)).bind fun t194 => (if x6.length + t194.length < 8796093022208 then (modgraph_Order.l0 k (x6 ++ t194) x20 x21 (wrap64 (x22 + 1)) x189000 x189001) else (none))) else (none)) else (none)) else (some (x6, 0, (⟨#[]⟩ : ByteArray), 0, 0))
noncomputable def modgraph_Order.f (k : Nat) (l0 : List (S42)) : Option (List ByteArray × Int × ByteArray × Int × Int) := (modgraph_acyclic.f k l0).bind fun bt178 => (if bt178.2.2.1 = 0 then ((graph_Components.f k bt178.2.1).bind fun t190 => (modgraph_Order.l0 k ([] : List ByteArray) t190 (t190.length : Int) 0 bt178.1 bt178.2.1)) else (some (([] : List ByteArray), bt178.2.2.1, bt178.2.2.2.1, bt178.2.2.2.2.1, bt178.2.2.2.2.2)))
set_option maxHeartbeats 8000000 in
set_option maxRecDepth 100000 in
theorem modgraph_Order.calls (k : Nat) (A0 : Option Addr) (c0 : Nat) (l0 : List (S42)) (r1 : List ByteArray) (r2 : Int) (r3 : ByteArray) (r4 : Int) (r5 : Int) (w : World) (hr0 : Kd.C k42 w A0 l0.length l0) (hc0 : l0.length ≤ c0) (h : modgraph_Order.f k l0 = some (r1, r2, r3, r4, r5)) :
 Calls Try.prog 10 #[.slice A0 l0.length c0] w fun e w' => ∃ v0_ : Value, e = .returned (.tuple #[v0_, .agg #[.int .i64 r2, .string r3, .int .i64 r4, .int .i64 r5]]) ∧ Kd.R Kd.string 9 w' w.heap.size (fun _ => True) v0_ r1 ∧ Below w.heap.size w w' := by
 have hu28 := Try.underlying28
 have hu51 := Try.underlying51
 have hu49 := Try.underlying49
 have HR0 := aM hr0
 have HC0 := aM hc0
 clear hr0 hc0
 have HB := aM (Below.refl w.heap.size w)
 have H : ((modgraph_acyclic.f k l0).bind fun bt178 => (if bt178.2.2.1 = 0 then ((graph_Components.f k bt178.2.1).bind fun t190 => (modgraph_Order.l0 k ([] : List ByteArray) t190 (t190.length : Int) 0 bt178.1 bt178.2.1)) else (some (([] : List ByteArray), bt178.2.2.1, bt178.2.2.2.1, bt178.2.2.2.2.1, bt178.2.2.2.2.2)))) = some (r1, r2, r3, r4, r5) := h
 clear h
 replace H := Option.bind_eq_some_iff.mp H
 obtain ⟨⟨t178, t181, t184, t185, t186, t187⟩, A20, H⟩ := H
 replace H : (if t184 = 0 then ((graph_Components.f k t181).bind fun t190 => (modgraph_Order.l0 k ([] : List ByteArray) t190 (t190.length : Int) 0 t178 t181)) else (some (([] : List ByteArray), t184, t185, t186, t187))) = some (r1, r2, r3, r4, r5) := H
 have A2 := aM A20
 clear A20
 by_cases c3 : t184 = 0
 · rw [if_pos c3] at H
   have c3b0 : (t184 == 0) = true := beq_iff_eq.mpr c3
   have c3b1 : (t184 != 0) = false := bne_eq_false_iff_eq.mpr c3
   clear c3
   replace H := Option.bind_eq_some_iff.mp H
   obtain ⟨t190, A40, H⟩ := H
   replace H : (modgraph_Order.l0 k ([] : List ByteArray) t190 (t190.length : Int) 0 t178 t181) = some (r1, r2, r3, r4, r5) := H
   have A4 := aM A40
   clear A40
   have H' := aM H
   clear H
   go_enter Try.func10, Try.ntmps10
   go_wp2_with (first | ((with_reducible refine gate_dst (N := 3) rfl ?_); refine box_event ?hg (N := 3) ?hd (cs := #[.int .i64 0, .string (⟨#[]⟩ : ByteArray), .int .i64 0, .int .i64 0]) (t := 28) ?hr ?_; (case hd => rfl); (case hg => rfl); (case hr => first | (go_simp; done) | (go_simp; rfl)); intro gb177 hg w5 hbox hb; have BK177 := aM hbox; have GW177 := gs hg HB; have GE177 := gs hg HB; replace HB := bs HB hb; clear hb hbox hg) | ((with_reducible refine gate_callee (f := 24) rfl ?_); refine gL (some 11) rfl rfl Try.func24 (by kernel_rfl) rfl #[.slice A0 l0.length c0] rfl ?_; (with_reducible refine (modgraph_acyclic.calls k _ _ l0 t178 t181 t184 t185 t186 t187 _ ?side1 ?side2 A2.out).mono ?_); (case side1 => exact cb HR0 HB); (case side2 => exact HC0.out); rintro e w6 ⟨v179, v182, rfl, ho0, ho1, hb⟩; refine ⟨_, rfl, ?_⟩; have HO180 := aM (Kd.R_lower ho0 (below_size (hh HB))); have HO183 := aM (Kd.S_lower ho1 (below_size (hh HB))); replace BK177 := kb BK177 hb; replace HB := bs HB hb; (try clear hb); (try clear hb2); (try clear hk); (try clear hi); (try clear ho0); (try clear ho1)) | ((with_reducible refine gate_dst (N := 4) rfl ?_); refine box_event ?hg (N := 4) ?hd (cs := #[.slice none 0 0, .slice none 0 0]) (t := 51) ?hr ?_; (case hd => rfl); (case hg => rfl); (case hr => first | (go_simp; done) | (go_simp; rfl)); intro gb188 hg w7 hbox hb; have BK188 := aM hbox; have GW188 := gs hg HB; have GE188 := gs hg HB; have NB177_188 := nl hg BK177; have NB188_177 := nr hg BK177; replace HO180 := rb HO180 hb; replace HO183 := sb HO183 hb; replace BK177 := kb BK177 hb; replace HB := bs HB hb; clear hb hbox hg) | ((with_reducible refine gate_dst (N := 5) rfl ?_); refine box_event ?hg (N := 5) ?hd (cs := #[.int .i64 0, .string (⟨#[]⟩ : ByteArray), .int .i64 0, .int .i64 0]) (t := 28) ?hr ?_; (case hd => rfl); (case hg => rfl); (case hr => first | (go_simp; done) | (go_simp; rfl)); intro gb189 hg w8 hbox hb; have BK189 := aM hbox; have GW189 := gs hg HB; have GE189 := gs hg HB; have NB177_189 := nl hg BK177; have NB189_177 := nr hg BK177; have NB188_189 := nl hg BK188; have NB189_188 := nr hg BK188; replace HO180 := rb HO180 hb; replace HO183 := sb HO183 hb; replace BK177 := kb BK177 hb; replace BK188 := kb BK188 hb; replace HB := bs HB hb; clear hb hbox hg; obtain ⟨Ao9, co9, eo9⟩ := Kd.R_slice HO180.out; subst eo9; have hnb10 := NB188_177.out; have hnc10 := NB177_188.out; have hnb11 := NB188_189.out; have hnc11 := NB189_188.out; obtain ⟨hcz12_0, hcz12_1⟩ := cz2 BK188; obtain ⟨hfz12_0, hfz12_1⟩ := fz2 BK188; obtain ⟨Ao13, co13, eo13⟩ := Kd.S_slice HO183.out; subst eo13; have hnb14 := NB189_177.out; have hnc14 := NB177_189.out; obtain ⟨hcz15_0, hcz15_1, hcz15_2, hcz15_3⟩ := cz BK189; obtain ⟨hfz15_0, hfz15_1, hfz15_2, hfz15_3⟩ := fz BK189) | ((with_reducible refine gate_callee (f := 25) rfl ?_); refine gL (some 20) rfl rfl Try.func25 (by kernel_rfl) rfl #[.agg #[.slice Ao13 t181.length co13]] rfl ?_; (with_reducible refine (graph_Components.calls k _ _ t181 t190 _ ?side1 ?side2 A4.out).mono ?_); (case side1 => refine (Kd.S_reads' (e := 55) (base := w.heap.size) (ok := fun k_ => True) (n := t181.length) (c := co13) ?_).2.2; exact (by (with_reducible repeat (first | apply Kd.S_alloc | apply Kd.S_drewN | apply Kd.S_drew)); exact (sf24 HO183 BK188 (by decide) BK189 (by decide)))); (case side2 => exact (Kd.S_reads' HO183.out).2.1); rintro e w16 ⟨v191, rfl, ho0, hb⟩; refine ⟨_, rfl, ?_⟩; have HO192 := aM (Kd.V_lower (Kd.V_mono (ok' := fun k_ => some k_ ≠ (.slice Ao9 t178.length co9 : Value).ownBlock ∧ some k_ ≠ (.slice Ao13 t181.length co13 : Value).ownBlock ∧ k_ ≠ gb177 ∧ k_ ≠ gb188 ∧ k_ ≠ gb189) ho0 (fun k_ hk_ => ⟨(Kd.fresh' (Kd.R_lt (by (with_reducible repeat (first | apply Kd.R_alloc | apply Kd.R_drewN | apply Kd.R_drew)); exact (rf24 HO180 BK188 (by decide) BK189 (by decide)))) k_ hk_), (Kd.fresh' (Kd.S_lt (by (with_reducible repeat (first | apply Kd.S_alloc | apply Kd.S_drewN | apply Kd.S_drew)); exact (sf24 HO183 BK188 (by decide) BK189 (by decide)))) k_ hk_), (Kd.freshB (g := gb177) (o := .cells #[.int .i64 0, .string (⟨#[]⟩ : ByteArray), .int .i64 0, .int .i64 0] 28 (0, 0)) (kf BK177) k_ hk_), (Kd.freshB (g := gb188) (o := .cells #[.slice Ao9 t178.length co9, .slice Ao13 t181.length co13] 51 (0, 0)) (kf BK188) k_ hk_), (Kd.freshB (g := gb189) (o := .cells #[.int .i64 t184, .string t185, .int .i64 t186, .int .i64 t187] 28 (0, 0)) (kf BK189) k_ hk_)⟩)) (below_size (hh HB))); replace HO180 := aM (Kd.R_below (by (with_reducible repeat (first | apply Kd.R_alloc | apply Kd.R_drewN | apply Kd.R_drew)); exact (rf24 HO180 BK188 (by decide) BK189 (by decide))) hb); replace HO183 := aM (Kd.S_below (by (with_reducible repeat (first | apply Kd.S_alloc | apply Kd.S_drewN | apply Kd.S_drew)); exact (sf24 HO183 BK188 (by decide) BK189 (by decide))) hb); replace BK177 := aM (blk_below (g := gb177) (o := .cells #[.int .i64 0, .string (⟨#[]⟩ : ByteArray), .int .i64 0, .int .i64 0] 28 (0, 0)) (kf BK177) hb); replace BK188 := aM (blk_below (g := gb188) (o := .cells #[.slice Ao9 t178.length co9, .slice Ao13 t181.length co13] 51 (0, 0)) (kf BK188) hb); replace BK189 := aM (blk_below (g := gb189) (o := .cells #[.int .i64 t184, .string t185, .int .i64 t186, .int .i64 t187] 28 (0, 0)) (kf BK189) hb); replace HB := bs HB hb; (try clear hb); (try clear hb2); (try clear hk); (try clear hi); (try clear ho0); obtain ⟨Ao17, co17, eo17⟩ := Kd.V_slice HO192.out; subst eo17))
   go_loopg [6, 22] k (fun kq v6 v22 w' => ∃ (x6_1 : List ByteArray) (x22_1 : Int), v22 = .int .i64 x22_1 ∧ Aside0 (modgraph_Order.l0 kq x6_1 t190 (t190.length : Int) x22_1 t178 t181 = some (r1, r2, r3, r4, r5)) ∧ Aside0 (kq ≤ k) ∧ Aside0 (Kd.R Kd.string 9 w' w.heap.size (fun k_ => some k_ ≠ ((.slice Ao9 t178.length co9) : Value).ownBlock) v6 x6_1) ∧ Aside0 (Kd.V (Kd.slice 3 (Kd.int .i64)) 55 w' w.heap.size (fun k_ => some k_ ≠ (v6 : Value).ownBlock ∧ some k_ ≠ ((.slice Ao9 t178.length co9) : Value).ownBlock ∧ some k_ ≠ ((.slice Ao13 t181.length co13) : Value).ownBlock ∧ k_ ≠ gb177 ∧ k_ ≠ gb188 ∧ k_ ≠ gb189) (.slice Ao17 t190.length co17) t190) ∧ Aside0 (Kd.R Kd.string 9 w' w.heap.size (fun k_ => some k_ ≠ (v6 : Value).ownBlock) (.slice Ao9 t178.length co9) t178) ∧ Aside0 (Kd.S (Kd.slice 3 (Kd.int .i64)) 55 w' w.heap.size (fun _ => True) (.slice Ao13 t181.length co13) t181) ∧ Aside0 (w'.heap[gb177]? = some (.cells #[.int .i64 0, .string (⟨#[]⟩ : ByteArray), .int .i64 0, .int .i64 0] 28 (0, 0))) ∧ Aside0 (w'.heap[gb188]? = some (.cells #[(.slice Ao9 t178.length co9), (.slice Ao13 t181.length co13)] 51 (0, 0))) ∧ Aside0 (w'.heap[gb189]? = some (.cells #[.int .i64 t184, .string t185, .int .i64 t186, .int .i64 t187] 28 (0, 0))) ∧ Aside0 (Below w.heap.size w w'))
   case atStart => exact ⟨(([] : List ByteArray)), (0), (by first | rfl | (simp; done) | (simp [*]; done)), H', ⟨Nat.le_refl _⟩, ⟨by first | exact Kd.R_nil _ _ _ _ _ | exact Kd.N_nil _ _ _ _ _ | exact Kd.V_nil _ _ _ _ _ | exact Kd.Q_nil _ _ _ _ _ | exact Kd.S_nil _ _ _ _ _⟩, ⟨by (with_reducible repeat (first | apply Kd.V_alloc | apply Kd.V_drewN | apply Kd.V_drew)); exact Kd.V_mono HO192.out (fun _ hk => ⟨(by simp [Value.ownBlock]), ⟨hk.1, ⟨hk.2.1, ⟨hk.2.2.1, ⟨hk.2.2.2.1, hk.2.2.2.2⟩⟩⟩⟩⟩)⟩, ⟨by (with_reducible repeat (first | apply Kd.R_alloc | apply Kd.R_drewN | apply Kd.R_drew)); exact Kd.R_mono HO180.out (fun _ hk => (by simp [Value.ownBlock]))⟩, ⟨sk HO183⟩, ⟨kk BK177⟩, ⟨kk BK188⟩, ⟨kk BK189⟩, ⟨hh HB⟩⟩
   case round =>
    clear H'
    try clear c1
    try clear c2
    try clear p2
    try clear c3
    try clear c3b0
    try clear c3b1
    try clear c10
    try clear c11
    try clear c14
    try clear hcz12_0
    try clear hcz12_1
    try clear hcz15_0
    try clear hcz15_1
    try clear hcz15_2
    try clear hcz15_3
    try clear hfz12_0
    try clear hfz12_1
    try clear hfz15_0
    try clear hfz15_1
    try clear hfz15_2
    try clear hfz15_3
    obtain ⟨x6_1, x22_1, rfl, HA, HK1, HO_6, HO_20, HO_189000, HO_189001, BK177, BK188, BK189, HB⟩ := hrel
    cases gk with
    | zero => exact absurd HA.out (by simp [modgraph_Order.l0])
    | succ k1 =>
     have H := HA.out
     clear HA
     simp only [modgraph_Order.l0] at H
     by_cases c18 : x22_1 < (t190.length : Int)
     · rw [if_pos c18] at H
       have c18b0 : decide (x22_1 < (t190.length : Int)) = true := decide_eq_true c18
       clear c18
       by_cases c19 : 0 ≤ x22_1
       · rw [if_pos c19] at H
         have c19b0 : decide (0 ≤ x22_1) = true := decide_eq_true c19
         clear c19
         by_cases c20 : x22_1 < (t190.length : Int)
         · rw [if_pos c20] at H
           have c20b0 : decide (x22_1 < (t190.length : Int)) = true := decide_eq_true c20
           clear c20
           replace H := Option.bind_eq_some_iff.mp H
           obtain ⟨t194, A210, H⟩ := H
           replace H : (if x6_1.length + t194.length < 8796093022208 then (modgraph_Order.l0 k1 (x6_1 ++ t194) t190 (t190.length : Int) (wrap64 (x22_1 + 1)) t178 t181) else (none)) = some (r1, r2, r3, r4, r5) := H
           have A21 := aM A210
           clear A210
           by_cases c22 : x6_1.length + t194.length < 8796093022208
           · rw [if_pos c22] at H
             have LMc22 := aM c22
             clear c22
             obtain ⟨y197, hy197⟩ : ∃ y_ : List ByteArray, y_ = (x6_1 ++ t194) := ⟨_, rfl⟩
             replace H : (modgraph_Order.l0 k1 y197 t190 (t190.length : Int) (wrap64 (x22_1 + 1)) t178 t181) = some (r1, r2, r3, r4, r5) := by first | (rw [hy197]; with_reducible exact H) | (have H2_ := (Option.bind_some _ _).symm.trans H; rw [hy197]; with_reducible exact H2_) | (have H2_ := (Option.bind_some _ _).symm.trans H; with_reducible exact H2_) | with_reducible exact H | (rw [hy197]; exact H) | exact H
             have Ny197 := aM hy197
             clear hy197
             have H' := aM H
             clear H
             have p193 : 0 ≤ (x22_1 : Int) := dt
             have q193 : x22_1 < (t190.length : Int) := dt
             obtain ⟨ad193, A193_0, c193_0, e193, hx193_0, hl193_0, hi193_0⟩ := at_L11 (Kd.V_reads' HO_20.out).2.2 x22_1 p193 q193
             cases e193
             obtain ⟨ce193, hce193, hMe193, hcc193⟩ := Kd.V_get HO_20.out [] x22_1 p193 (by first | exact q193 | exact dt | (have e_ := (Kd.V_reads' HO_20.out).1; omega))
             obtain ⟨ua193_0, uc193_0, rfl, ul193_0, ge193_0⟩ := Kd.FK_slice_open hMe193
             have hv193_0 := hcc193 0 _ rfl
             rw [Nat.add_zero, show ((Kd.slice 3 (Kd.int .i64))).sz = 1 from rfl, Nat.mul_one] at hv193_0
             replace hv193_0 := Option.some.inj (hv193_0.symm.trans hx193_0)
             injection hv193_0 with hva_ hvn_ hvc_
             rw [hva_] at ge193_0
             rw [hvc_] at ul193_0
             have HL193_0 := aM (show Kd.V (Kd.int .i64) 3 _ w.heap.size _ _ (rd_L11 t190 x22_1) from Kd.V_mk ul193_0 ge193_0)
             clear hva_ hvn_ hvc_ ge193_0 ul193_0
             clear hcc193 hce193
             have HR193_0 := aM hi193_0
             have HC193_0 := aM hl193_0
             clear hi193_0 hl193_0
             replace p193 := eq_true p193
             replace q193 := eq_true q193
             have hnb23 := NB188_177.out
             have hnc23 := NB177_188.out
             have hnb24 := NB188_189.out
             have hnc24 := NB189_188.out
             obtain ⟨hcz25_0, hcz25_1⟩ := cz2 BK188
             obtain ⟨hfz25_0, hfz25_1⟩ := fz2 BK188
             go_wp2_with (first | ((with_reducible refine gate_callee (f := 26) rfl ?_); refine gL (some 29) rfl rfl Try.func26 (by kernel_rfl) rfl #[.agg #[.slice Ao9 t178.length co9, .slice Ao13 t181.length co13], .slice A193_0 (rd_L11 t190 x22_1).length c193_0] rfl ?_; (with_reducible refine (modgraph_program_named.calls k1 _ _ t178 _ _ t181 _ _ (rd_L11 t190 x22_1) t194 _ ?side1 ?side2 ?side3 ?side4 ?side5 ?side6 A21.out).mono ?_); (case side1 => exact cr HO_189000); (case side2 => exact (Kd.R_reads' HO_189000.out).2.1); (case side3 => repeat (first | exact (Kd.S_reads' HO_189001.out).2.2 | (with_reducible refine Kd.C_alloc ?_ _) | (with_reducible refine Kd.C_drewN ?_ _) | (with_reducible refine Kd.C_drew ?_))); (case side4 => exact (Kd.S_reads' HO_189001.out).2.1); (case side5 => repeat (first | exact (by repeat (first | (with_reducible exact HR193_0.out) | (with_reducible refine Kd.C_alloc ?_ _) | (with_reducible refine Kd.C_drewN ?_ _) | (with_reducible refine Kd.C_drew ?_) | exact HR193_0.out)) | (with_reducible refine Kd.C_alloc ?_ _) | (with_reducible refine Kd.C_drewN ?_ _) | (with_reducible refine Kd.C_drew ?_))); (case side6 => exact HC193_0.out); rintro e w26 ⟨v195, rfl, ho0, hb⟩; refine ⟨_, rfl, ?_⟩; have HO196 := aM (Kd.R_lower (Kd.R_new' (Kd.R_new' ho0 (Kd.R_lt (rk HO_6))) (Kd.R_lt (rk HO_189000))) (below_size (hh HB))); replace HO_6 := aM (Kd.R_elder' (rk HO_6) (Kd.R_base ho0) hb); replace HO_20 := aM (Kd.V_elder' (by (with_reducible repeat (first | apply Kd.V_alloc | apply Kd.V_drewN | apply Kd.V_drew)); exact HO_20.out) (Kd.R_base ho0) hb); replace HO_189000 := aM (Kd.R_elder' (rk HO_189000) (Kd.R_base ho0) hb); replace HO_189001 := sb HO_189001 hb; replace HL193_0 := aM (Kd.V_elder' (by (with_reducible repeat (first | apply Kd.V_alloc | apply Kd.V_drewN | apply Kd.V_drew)); exact HL193_0.out) (Kd.R_base ho0) hb); replace BK177 := kb BK177 hb; replace BK188 := kb BK188 hb; replace BK189 := kb BK189 hb; replace HR193_0 := aM (Kd.C_below (by repeat (first | (with_reducible exact HR193_0.out) | (with_reducible refine Kd.C_alloc ?_ _) | (with_reducible refine Kd.C_drewN ?_ _) | (with_reducible refine Kd.C_drew ?_) | exact HR193_0.out)) hb); replace HB := bs HB hb; (try clear hb); (try clear hb2); (try clear hk); (try clear hi); (try clear ho0); obtain ⟨Ao28, co28, eo28⟩ := Kd.R_slice HO196.out; subst eo28) | ((with_reducible refine gate_builtin (b := .append) (xs := #[.tmp 26, .tmp 29]) rfl ?_); at_builtin; refine Kd.R_append_rows Kd.string (w0 := w) w.heap.size rfl (.tmp 26) (.tmp 29) 25 9 (.string ⟨#[]⟩) 16 rfl Try.underlying25 info9 rfl (by decide) (by omega) u6 x6_1 t194 _ _ _ (fun k_ => some k_ ≠ (.slice Ao9 t178.length co9 : Value).ownBlock ∧ some k_ ≠ (.slice Ao28 t194.length co28 : Value).ownBlock) (fun _ => False) rfl rfl ?aO ?aR (fun _ _ h => h) (fun _ h => h.elim) ?aF ?aB ?aS ?aL ?_; (case aR => exact cr HO196); (case aB => exact (hh HB)); (case aF => exact (fun k_ hk => ⟨Kd.fresh' (Kd.R_lt (rk HO_189000)) k_ hk, Kd.fresh' (Kd.R_lt (rk HO196)) k_ hk⟩)); (case aO => exact (rk HO_6)); (case aS => exact (below_size (hh HB))); (case aL => have := LMc22.out; omega); intro v198 w27 ho hb hg hat; rw [← Ny197.out] at ho; have HO199 := aM (ho); replace HO_20 := aM (Kd.V_afterv (ok := (fun k_ => some k_ ≠ (.slice Ao9 t178.length co9 : Value).ownBlock ∧ some k_ ≠ (.slice Ao13 t181.length co13 : Value).ownBlock ∧ some k_ ≠ (.slice Ao28 t194.length co28 : Value).ownBlock ∧ k_ ≠ gb177 ∧ k_ ≠ gb188 ∧ k_ ≠ gb189)) (by (with_reducible repeat (first | apply Kd.V_alloc | apply Kd.V_drewN | apply Kd.V_drew)); exact Kd.V_mono HO_20.out (fun _ hk => ⟨⟨hk.1.2.1, ⟨hk.1.2.2.1, ⟨hk.2, ⟨hk.1.2.2.2.1, ⟨hk.1.2.2.2.2.1, hk.1.2.2.2.2.2⟩⟩⟩⟩⟩, hk.1.1⟩)) hg hat); replace HO_189000 := aM (Kd.R_after (ok := (fun k_ => some k_ ≠ (.slice Ao28 t194.length co28 : Value).ownBlock)) (by (with_reducible repeat (first | apply Kd.R_alloc | apply Kd.R_drewN | apply Kd.R_drew)); exact Kd.R_mono HO_189000.out (fun _ hk => ⟨hk.2, hk.1⟩)) hg hat); replace HO_189001 := aM (Kd.S_over' (sk HO_189001) (Kd.R_typed (rk HO_6)) (by decide) hg); replace BK177 := aM (blk_grown (g := gb177) (o := .cells #[.int .i64 0, .string (⟨#[]⟩ : ByteArray), .int .i64 0, .int .i64 0] 28 (0, 0)) (kk BK177) hg (Kd.R_ne HO_6.out BK177.out (by decide))); replace BK188 := aM (blk_grown (g := gb188) (o := .cells #[.slice Ao9 t178.length co9, .slice Ao13 t181.length co13] 51 (0, 0)) (kk BK188) hg (Kd.R_ne HO_6.out BK188.out (by decide))); replace BK189 := aM (blk_grown (g := gb189) (o := .cells #[.int .i64 t184, .string t185, .int .i64 t186, .int .i64 t187] 28 (0, 0)) (kk BK189) hg (Kd.R_ne HO_6.out BK189.out (by decide))); replace HL193_0 := aM (Kd.V_afterv (ok := (fun k_ => some k_ ≠ (.slice Ao9 t178.length co9 : Value).ownBlock ∧ some k_ ≠ (.slice Ao13 t181.length co13 : Value).ownBlock ∧ some k_ ≠ (.slice Ao28 t194.length co28 : Value).ownBlock ∧ k_ ≠ gb177 ∧ k_ ≠ gb188 ∧ k_ ≠ gb189)) (by (with_reducible repeat (first | apply Kd.V_alloc | apply Kd.V_drewN | apply Kd.V_drew)); exact Kd.V_mono HL193_0.out (fun _ hk => ⟨⟨hk.1.2.1, ⟨hk.1.2.2.1, ⟨hk.2, ⟨hk.1.2.2.2.1, ⟨hk.1.2.2.2.2.1, hk.1.2.2.2.2.2⟩⟩⟩⟩⟩, hk.1.1⟩)) hg hat); replace HO196 := aM (Kd.R_after (ok := (fun k_ => some k_ ≠ (.slice Ao9 t178.length co9 : Value).ownBlock)) (by (with_reducible repeat (first | apply Kd.R_alloc | apply Kd.R_drewN | apply Kd.R_drew)); exact Kd.R_mono HO196.out (fun _ hk => ⟨hk.2, hk.1.2⟩)) hg hat); replace HB := aM (hb); clear HO_6; clear ho hb hg hat))
             go_roundg k1
             case measure => have := HK1.out; omega
             case rel => exact ⟨(y197), (wrap64 (x22_1 + 1)), (by first | rfl | (simp; done) | (simp [*]; done)), H', ⟨by have := HK1.out; omega⟩, ⟨by (with_reducible repeat (first | apply Kd.R_alloc | apply Kd.R_drewN | apply Kd.R_drew)); exact Kd.R_mono HO199.out (fun _ hk => hk.1)⟩, ⟨by (with_reducible repeat (first | apply Kd.V_alloc | apply Kd.V_drewN | apply Kd.V_drew)); exact Kd.V_mono HO_20.out (fun _ hk => ⟨hk.2, ⟨hk.1.1, ⟨hk.1.2.1, ⟨hk.1.2.2.2.1, ⟨hk.1.2.2.2.2.1, hk.1.2.2.2.2.2⟩⟩⟩⟩⟩)⟩, ⟨by (with_reducible repeat (first | apply Kd.R_alloc | apply Kd.R_drewN | apply Kd.R_drew)); exact Kd.R_mono HO_189000.out (fun _ hk => hk.2)⟩, ⟨sk HO_189001⟩, ⟨kk BK177⟩, ⟨kk BK188⟩, ⟨kk BK189⟩, ⟨hh HB⟩⟩
           · rw [if_neg c22] at H
             exact absurd H (by simp)
         · rw [if_neg c20] at H
           exact absurd H (by simp)
       · rw [if_neg c19] at H
         exact absurd H (by simp)
     · rw [if_neg c18] at H
       have c18b0 : decide (x22_1 < (t190.length : Int)) = false := decide_eq_false c18
       clear c18
       simp only [Option.some.injEq, Prod.mk.injEq] at H
       obtain ⟨rfl, rfl, rfl, rfl, rfl⟩ := H
       have hnb29 := NB177_188.out
       have hnc29 := NB188_177.out
       have hnb30 := NB177_189.out
       have hnc30 := NB189_177.out
       obtain ⟨hcz31_0, hcz31_1, hcz31_2, hcz31_3⟩ := cz BK177
       obtain ⟨hfz31_0, hfz31_1, hfz31_2, hfz31_3⟩ := fz BK177
       go_wp2
       refine bodyPost_ret (results_tc rfl _ _ gb177 28 #[.int .i64 0, .string (⟨#[]⟩ : ByteArray), .int .i64 0, .int .i64 0] (0, 0) _ rfl (kf BK177) Try.underlying28 rfl (by kernel_rfl)) rfl ?_
       exact ⟨_, by first | rfl | (simp [errW_none, errW_some] <;> rfl) | (simp [*, errW_none, errW_some] <;> rfl), by (with_reducible repeat (first | apply Kd.R_alloc | apply Kd.R_drewN | apply Kd.R_drew)); exact Kd.R_mono (Kd.R_far (p := ⟨gb177, 3, none⟩) (Kd.R_far (p := ⟨gb177, 2, none⟩) (Kd.R_far (p := ⟨gb177, 1, none⟩) (Kd.R_far (p := ⟨gb177, 0, none⟩) (Kd.R_types HO_6.out BK177.out (by decide)) (fun _ hk => hk.2) (.int .i64 0)) (fun _ hk => hk.2) (.string (⟨#[]⟩ : ByteArray))) (fun _ hk => hk.2) (.int .i64 0)) (fun _ hk => hk.2) (.int .i64 0)) (fun _ hk => trivial), hh HB⟩
 · rw [if_neg c3] at H
   have c3b0 : (t184 == 0) = false := beq_eq_false_iff_ne.mpr c3
   have c3b1 : (t184 != 0) = true := bne_iff_ne.mpr c3
   simp only [Option.some.injEq, Prod.mk.injEq] at H
   obtain ⟨rfl, rfl, rfl, rfl, rfl⟩ := H
   go_enter Try.func10, Try.ntmps10
   try go_wp2_with (first | ((with_reducible refine gate_dst (N := 3) rfl ?_); refine box_event ?hg (N := 3) ?hd (cs := #[.int .i64 0, .string (⟨#[]⟩ : ByteArray), .int .i64 0, .int .i64 0]) (t := 28) ?hr ?_; (case hd => rfl); (case hg => rfl); (case hr => first | (go_simp; done) | (go_simp; rfl)); intro gb177 hg w32 hbox hb; have BK177 := aM hbox; have GW177 := gs hg HB; have GE177 := gs hg HB; replace HB := bs HB hb; clear hb hbox hg) | ((with_reducible refine gate_callee (f := 24) rfl ?_); refine gL (some 11) rfl rfl Try.func24 (by kernel_rfl) rfl #[.slice A0 l0.length c0] rfl ?_; (with_reducible refine (modgraph_acyclic.calls k _ _ l0 t178 t181 t184 t185 t186 t187 _ ?side1 ?side2 A2.out).mono ?_); (case side1 => exact cb HR0 HB); (case side2 => exact HC0.out); rintro e w33 ⟨v179, v182, rfl, ho0, ho1, hb⟩; refine ⟨_, rfl, ?_⟩; have HO180 := aM (Kd.R_lower ho0 (below_size (hh HB))); have HO183 := aM (Kd.S_lower ho1 (below_size (hh HB))); replace BK177 := kb BK177 hb; replace HB := bs HB hb; (try clear hb); (try clear hb2); (try clear hk); (try clear hi); (try clear ho0); (try clear ho1)) | ((with_reducible refine gate_dst (N := 4) rfl ?_); refine box_event ?hg (N := 4) ?hd (cs := #[.slice none 0 0, .slice none 0 0]) (t := 51) ?hr ?_; (case hd => rfl); (case hg => rfl); (case hr => first | (go_simp; done) | (go_simp; rfl)); intro gb188 hg w34 hbox hb; have BK188 := aM hbox; have GW188 := gs hg HB; have GE188 := gs hg HB; have NB177_188 := nl hg BK177; have NB188_177 := nr hg BK177; replace HO180 := rb HO180 hb; replace HO183 := sb HO183 hb; replace BK177 := kb BK177 hb; replace HB := bs HB hb; clear hb hbox hg) | ((with_reducible refine gate_dst (N := 5) rfl ?_); refine box_event ?hg (N := 5) ?hd (cs := #[.int .i64 0, .string (⟨#[]⟩ : ByteArray), .int .i64 0, .int .i64 0]) (t := 28) ?hr ?_; (case hd => rfl); (case hg => rfl); (case hr => first | (go_simp; done) | (go_simp; rfl)); intro gb189 hg w35 hbox hb; have BK189 := aM hbox; have GW189 := gs hg HB; have GE189 := gs hg HB; have NB177_189 := nl hg BK177; have NB189_177 := nr hg BK177; have NB188_189 := nl hg BK188; have NB189_188 := nr hg BK188; replace HO180 := rb HO180 hb; replace HO183 := sb HO183 hb; replace BK177 := kb BK177 hb; replace BK188 := kb BK188 hb; replace HB := bs HB hb; clear hb hbox hg; obtain ⟨Ao36, co36, eo36⟩ := Kd.R_slice HO180.out; subst eo36; have hnb37 := NB188_177.out; have hnc37 := NB177_188.out; have hnb38 := NB188_189.out; have hnc38 := NB189_188.out; obtain ⟨hcz39_0, hcz39_1⟩ := cz2 BK188; obtain ⟨hfz39_0, hfz39_1⟩ := fz2 BK188; obtain ⟨Ao40, co40, eo40⟩ := Kd.S_slice HO183.out; subst eo40; have hnb41 := NB189_177.out; have hnc41 := NB177_189.out; obtain ⟨hcz42_0, hcz42_1, hcz42_2, hcz42_3⟩ := cz BK189; obtain ⟨hfz42_0, hfz42_1, hfz42_2, hfz42_3⟩ := fz BK189))
   have n0_ : Aside0 (Kd.R Kd.string 9 ((((((w35.setCell ⟨gb188, 0, none⟩ (.slice Ao36 t178.length co36)).setCell ⟨gb188, 1, none⟩ (.slice Ao40 t181.length co40)).setCell ⟨gb189, 0, none⟩ (.int .i64 t184)).setCell ⟨gb189, 1, none⟩ (.string t185)).setCell ⟨gb189, 2, none⟩ (.int .i64 t186)).setCell ⟨gb189, 3, none⟩ (.int .i64 t187)) w.heap.size (fun _ => True) (.slice Ao36 t178.length co36) t178) := ⟨by (with_reducible repeat (first | apply Kd.R_alloc | apply Kd.R_drewN | apply Kd.R_drew)); exact Kd.R_mono (Kd.R_far (p := ⟨gb189, 3, none⟩) (Kd.R_far (p := ⟨gb189, 2, none⟩) (Kd.R_far (p := ⟨gb189, 1, none⟩) (Kd.R_far (p := ⟨gb189, 0, none⟩) (Kd.R_far (p := ⟨gb188, 1, none⟩) (Kd.R_far (p := ⟨gb188, 0, none⟩) (Kd.R_types (Kd.R_types HO180.out BK188.out (by decide)) BK189.out (by decide)) (fun _ hk => hk.1.2) (.slice Ao36 t178.length co36)) (fun _ hk => hk.1.2) (.slice Ao40 t181.length co40)) (fun _ hk => hk.2) (.int .i64 t184)) (fun _ hk => hk.2) (.string t185)) (fun _ hk => hk.2) (.int .i64 t186)) (fun _ hk => hk.2) (.int .i64 t187)) (fun _ hk => trivial)⟩
   have n1_ : Aside0 (Kd.S (Kd.slice 3 (Kd.int .i64)) 55 ((((((w35.setCell ⟨gb188, 0, none⟩ (.slice Ao36 t178.length co36)).setCell ⟨gb188, 1, none⟩ (.slice Ao40 t181.length co40)).setCell ⟨gb189, 0, none⟩ (.int .i64 t184)).setCell ⟨gb189, 1, none⟩ (.string t185)).setCell ⟨gb189, 2, none⟩ (.int .i64 t186)).setCell ⟨gb189, 3, none⟩ (.int .i64 t187)) w.heap.size (fun _ => True) (.slice Ao40 t181.length co40) t181) := ⟨by (with_reducible repeat (first | apply Kd.S_alloc | apply Kd.S_drewN | apply Kd.S_drew)); exact Kd.S_mono (Kd.S_far (p := ⟨gb189, 3, none⟩) (Kd.S_far (p := ⟨gb189, 2, none⟩) (Kd.S_far (p := ⟨gb189, 1, none⟩) (Kd.S_far (p := ⟨gb189, 0, none⟩) (Kd.S_far (p := ⟨gb188, 1, none⟩) (Kd.S_far (p := ⟨gb188, 0, none⟩) (Kd.S_types (Kd.S_types HO183.out BK188.out (by decide)) BK189.out (by decide)) (fun _ hk => hk.1.2) (.slice Ao36 t178.length co36)) (fun _ hk => hk.1.2) (.slice Ao40 t181.length co40)) (fun _ hk => hk.2) (.int .i64 t184)) (fun _ hk => hk.2) (.string t185)) (fun _ hk => hk.2) (.int .i64 t186)) (fun _ hk => hk.2) (.int .i64 t187)) (fun _ hk => trivial)⟩
   have n2_ : Aside0 (((((((w35.setCell ⟨gb188, 0, none⟩ (.slice Ao36 t178.length co36)).setCell ⟨gb188, 1, none⟩ (.slice Ao40 t181.length co40)).setCell ⟨gb189, 0, none⟩ (.int .i64 t184)).setCell ⟨gb189, 1, none⟩ (.string t185)).setCell ⟨gb189, 2, none⟩ (.int .i64 t186)).setCell ⟨gb189, 3, none⟩ (.int .i64 t187)).heap[gb177]? = some (.cells #[.int .i64 0, .string (⟨#[]⟩ : ByteArray), .int .i64 0, .int .i64 0] 28 (0, 0))) := ⟨kf BK177⟩
   have n3_ : Aside0 (((((((w35.setCell ⟨gb188, 0, none⟩ (.slice Ao36 t178.length co36)).setCell ⟨gb188, 1, none⟩ (.slice Ao40 t181.length co40)).setCell ⟨gb189, 0, none⟩ (.int .i64 t184)).setCell ⟨gb189, 1, none⟩ (.string t185)).setCell ⟨gb189, 2, none⟩ (.int .i64 t186)).setCell ⟨gb189, 3, none⟩ (.int .i64 t187)).heap[gb188]? = some (.cells #[.slice Ao36 t178.length co36, .slice Ao40 t181.length co40] 51 (0, 0))) := ⟨kf BK188⟩
   have n4_ : Aside0 (((((((w35.setCell ⟨gb188, 0, none⟩ (.slice Ao36 t178.length co36)).setCell ⟨gb188, 1, none⟩ (.slice Ao40 t181.length co40)).setCell ⟨gb189, 0, none⟩ (.int .i64 t184)).setCell ⟨gb189, 1, none⟩ (.string t185)).setCell ⟨gb189, 2, none⟩ (.int .i64 t186)).setCell ⟨gb189, 3, none⟩ (.int .i64 t187)).heap[gb189]? = some (.cells #[.int .i64 t184, .string t185, .int .i64 t186, .int .i64 t187] 28 (0, 0))) := ⟨kf BK189⟩
   have n5_ : Aside0 (Below w.heap.size w ((((((w35.setCell ⟨gb188, 0, none⟩ (.slice Ao36 t178.length co36)).setCell ⟨gb188, 1, none⟩ (.slice Ao40 t181.length co40)).setCell ⟨gb189, 0, none⟩ (.int .i64 t184)).setCell ⟨gb189, 1, none⟩ (.string t185)).setCell ⟨gb189, 2, none⟩ (.int .i64 t186)).setCell ⟨gb189, 3, none⟩ (.int .i64 t187))) := ⟨hh HB⟩
   (try clear HO180)
   (try clear HO183)
   (try clear BK177)
   (try clear BK188)
   (try clear BK189)
   (try clear HB)
   generalize ((((((w35.setCell ⟨gb188, 0, none⟩ (.slice Ao36 t178.length co36)).setCell ⟨gb188, 1, none⟩ (.slice Ao40 t181.length co40)).setCell ⟨gb189, 0, none⟩ (.int .i64 t184)).setCell ⟨gb189, 1, none⟩ (.string t185)).setCell ⟨gb189, 2, none⟩ (.int .i64 t186)).setCell ⟨gb189, 3, none⟩ (.int .i64 t187)) = w43 at n0_ n1_ n2_ n3_ n4_ n5_ ⊢
   have HO180 := n0_
   have HO183 := n1_
   have BK177 := n2_
   have BK188 := n3_
   have BK189 := n4_
   have HB := n5_
   clear n0_ n1_ n2_ n3_ n4_ n5_
   replace HO180 := aM (Kd.R_drew HO180.out)
   replace HO183 := aM (Kd.S_drew HO183.out)
   replace BK177 := aM (blk_drew BK177.out)
   replace BK188 := aM (blk_drew BK188.out)
   replace BK189 := aM (blk_drew BK189.out)
   replace HB := aM (below_drew1 HB.out)
   refine start_ (n := 3) (S := fun w' => w'.cell? ⟨gb189, 0, none⟩ = some (.int .i64 t184) ∧ w'.cell? ⟨gb189, 1, none⟩ = some (.string t185) ∧ w'.cell? ⟨gb189, 2, none⟩ = some (.int .i64 t186) ∧ w'.cell? ⟨gb189, 3, none⟩ = some (.int .i64 t187)) (ds := []) #[false, false, false] (by kernel_rfl) rfl rfl ⟨(blk_cell BK189.out 0).trans rfl, (blk_cell BK189.out 1).trans rfl, (blk_cell BK189.out 2).trans rfl, (blk_cell BK189.out 3).trans rfl⟩ (fun hHeld => ?_)
   generalize w43.drew = w44 at HO180 HO183 BK177 BK188 BK189 HB hHeld ⊢
   refine pure_ (i := 1) (N := some 2) (v := ?_) (a' := ?_) #[false, true, false] rfl rfl (by kernel_rfl) (fun _ _ _ h => h) (Or.inl ⟨by rfl, ?_⟩) ?_ ?_
   rotate_left
   · intro w'
     go_simp
     with_reducible rfl
   rotate_left
   · simp only [Act.put, sA, sZ, sS, i64_w, i32_w]
     rfl
   refine take_ (i := 0) (N := some 17) (v := ?_) (a' := ?_) #[true, true, false] rfl rfl (by kernel_rfl) (fun _ _ _ h => h) (Or.inl ⟨by rfl, ?_⟩) hHeld ?_ ?_
   rotate_left
   · rintro w' ⟨s0, s1, s2, s3⟩
     go_simp
     with_reducible rfl
   rotate_left
   · simp only [Act.put, sA, sZ, sS, i64_w, i32_w]
     rfl
   refine one_ (i := 2) (N := none) #[true, true, true] rfl rfl (by kernel_rfl) (by decide) (fun K hK => ?_)
   have hs45 : w44.cell? ⟨gb177, 0, none⟩ = some (.int .i64 0) := (blk_cell BK177.out 0).trans rfl
   have hfs45 := blk_frozen BK177.out 0
   have hns45_1 := NB188_177.out
   have hns45_2 := NB189_177.out
   have hms45_1 := NB177_188.out
   have hms45_2 := NB177_189.out
   have hs46 : w44.cell? ⟨gb177, 1, none⟩ = some (.string (⟨#[]⟩ : ByteArray)) := (blk_cell BK177.out 1).trans rfl
   have hfs46 := blk_frozen BK177.out 1
   have hns46_1 := NB188_177.out
   have hns46_2 := NB189_177.out
   have hms46_1 := NB177_188.out
   have hms46_2 := NB177_189.out
   have hs47 : w44.cell? ⟨gb177, 2, none⟩ = some (.int .i64 0) := (blk_cell BK177.out 2).trans rfl
   have hfs47 := blk_frozen BK177.out 2
   have hns47_1 := NB188_177.out
   have hns47_2 := NB189_177.out
   have hms47_1 := NB177_188.out
   have hms47_2 := NB177_189.out
   have hs48 : w44.cell? ⟨gb177, 3, none⟩ = some (.int .i64 0) := (blk_cell BK177.out 3).trans rfl
   have hfs48 := blk_frozen BK177.out 3
   have hns48_1 := NB188_177.out
   have hns48_2 := NB189_177.out
   have hms48_1 := NB177_188.out
   have hms48_2 := NB177_189.out
   refine skip_ (w1 := ?_) (by rfl) rfl ?_ ?_
   rotate_left
   · go_simp
     rfl
   refine hK.out _ _ ⟨((cell_far (p := ⟨gb177, _, none⟩) NB189_177.out _).trans (((cell_far (p := ⟨gb177, _, none⟩) NB189_177.out _).trans (((cell_far (p := ⟨gb177, _, none⟩) NB189_177.out _).trans (((cell_far (p := ⟨gb177, _, none⟩) NB189_177.out _).trans (hHeld.1)))))))), ((cell_far (p := ⟨gb177, _, none⟩) NB189_177.out _).trans (((cell_far (p := ⟨gb177, _, none⟩) NB189_177.out _).trans (((cell_far (p := ⟨gb177, _, none⟩) NB189_177.out _).trans (((cell_far (p := ⟨gb177, _, none⟩) NB189_177.out _).trans (hHeld.2.1)))))))), ((cell_far (p := ⟨gb177, _, none⟩) NB189_177.out _).trans (((cell_far (p := ⟨gb177, _, none⟩) NB189_177.out _).trans (((cell_far (p := ⟨gb177, _, none⟩) NB189_177.out _).trans (((cell_far (p := ⟨gb177, _, none⟩) NB189_177.out _).trans (hHeld.2.2.1)))))))), ((cell_far (p := ⟨gb177, _, none⟩) NB189_177.out _).trans (((cell_far (p := ⟨gb177, _, none⟩) NB189_177.out _).trans (((cell_far (p := ⟨gb177, _, none⟩) NB189_177.out _).trans (((cell_far (p := ⟨gb177, _, none⟩) NB189_177.out _).trans (hHeld.2.2.2))))))))⟩ (fun hHeld => ?_)
   clear hK K
   refine done_ (by kernel_rfl) ?_
   try go_wp2
   refine bodyPost_ret (results_tc rfl _ _ gb177 28 #[.int .i64 t184, .string t185, .int .i64 t186, .int .i64 t187] (0, 0) _ rfl (kf BK177) Try.underlying28 rfl (by kernel_rfl)) rfl ?_
   exact ⟨_, by first | rfl | (simp [errW_none, errW_some] <;> rfl) | (simp [*, errW_none, errW_some] <;> rfl), by first | exact Kd.R_nil _ _ _ _ _ | exact Kd.N_nil _ _ _ _ _ | exact Kd.V_nil _ _ _ _ _ | exact Kd.Q_nil _ _ _ _ _ | exact Kd.S_nil _ _ _ _ _, hh HB⟩
end Go.Proofs.Ytmadhaccjmakdaa.P
namespace Go.Proofs.Ytmadhaccjmakdaa.P
open Go.RowKit Go.Proofs.YtmadhaccjmakdaaW.PrintWords Go.Proofs.YtmadhaccjmakdaaW.PrintLast Go.Proofs.YtmadhaccjmakdaaW.PrintMore
attribute [local go_sem] str_gtr str_leq str_geq max2_int min2_int max_two min_two max_three min_three max_four min_four
noncomputable def modgraph_Levels.l0 : Nat → List (List ByteArray) → List (List Int) → Int → Int → List ByteArray → List (List Int) → Option ((List (List ByteArray)) × Int × ByteArray × Int × Int)
 | 0, _, _, _, _, _, _ => none
 | k + 1, x8, x26, x27, x28, x214000, x214001 => if x28 < x27 then (if 0 ≤ x28 then (if x28 < (x26.length : Int) then ((modgraph_program_named.f k x214000 x214001 (rd_L11 x26 x28)).bind fun t220 => (if x8.length < 5864062014805 then (modgraph_Levels.l0 k (x8 ++ [t220]) x26 x27 (wrap64 (x28 + 1)) x214000 x214001) else (none))) else (none)) else (none)) else (some (x8, 0, (⟨#[]⟩ : ByteArray), 0, 0))
noncomputable def modgraph_Levels.f (k : Nat) (l0 : List (S42)) : Option ((List (List ByteArray)) × Int × ByteArray × Int × Int) := (modgraph_acyclic.f k l0).bind fun bt203 => (if bt203.2.2.1 = 0 then ((graph_Levels.f bt203.2.1).bind fun bt215 => (modgraph_Levels.l0 k ([] : List (List ByteArray)) bt215.1 (bt215.1.length : Int) 0 bt203.1 bt203.2.1)) else (some (([] : List (List ByteArray)), bt203.2.2.1, bt203.2.2.2.1, bt203.2.2.2.2.1, bt203.2.2.2.2.2)))
set_option maxHeartbeats 8000000 in
set_option maxRecDepth 100000 in
theorem modgraph_Levels.calls (k : Nat) (A0 : Option Addr) (c0 : Nat) (l0 : List (S42)) (r1 : List (List ByteArray)) (r2 : Int) (r3 : ByteArray) (r4 : Int) (r5 : Int) (w : World) (hr0 : Kd.C k42 w A0 l0.length l0) (hc0 : l0.length ≤ c0) (h : modgraph_Levels.f k l0 = some (r1, r2, r3, r4, r5)) :
 Calls Try.prog 12 #[.slice A0 l0.length c0] w fun e w' => ∃ v0_ : Value, e = .returned (.tuple #[v0_, .agg #[.int .i64 r2, .string r3, .int .i64 r4, .int .i64 r5]]) ∧ Kd.S (Kd.slice 9 Kd.string) 25 w' w.heap.size (fun _ => True) v0_ r1 ∧ Below w.heap.size w w' := by
 have hu28 := Try.underlying28
 have hu51 := Try.underlying51
 have hu49 := Try.underlying49
 have HR0 := aM hr0
 have HC0 := aM hc0
 clear hr0 hc0
 have HB := aM (Below.refl w.heap.size w)
 have H : ((modgraph_acyclic.f k l0).bind fun bt203 => (if bt203.2.2.1 = 0 then ((graph_Levels.f bt203.2.1).bind fun bt215 => (modgraph_Levels.l0 k ([] : List (List ByteArray)) bt215.1 (bt215.1.length : Int) 0 bt203.1 bt203.2.1)) else (some (([] : List (List ByteArray)), bt203.2.2.1, bt203.2.2.2.1, bt203.2.2.2.2.1, bt203.2.2.2.2.2)))) = some (r1, r2, r3, r4, r5) := h
 clear h
 replace H := Option.bind_eq_some_iff.mp H
 obtain ⟨⟨t203, t206, t209, t210, t211, t212⟩, A20, H⟩ := H
 replace H : (if t209 = 0 then ((graph_Levels.f t206).bind fun bt215 => (modgraph_Levels.l0 k ([] : List (List ByteArray)) bt215.1 (bt215.1.length : Int) 0 t203 t206)) else (some (([] : List (List ByteArray)), t209, t210, t211, t212))) = some (r1, r2, r3, r4, r5) := H
 have A2 := aM A20
 clear A20
 by_cases c3 : t209 = 0
 · rw [if_pos c3] at H
   have c3b0 : (t209 == 0) = true := beq_iff_eq.mpr c3
   have c3b1 : (t209 != 0) = false := bne_eq_false_iff_eq.mpr c3
   clear c3
   replace H := Option.bind_eq_some_iff.mp H
   obtain ⟨⟨t215, t218⟩, A40, H⟩ := H
   replace H : (modgraph_Levels.l0 k ([] : List (List ByteArray)) t215 (t215.length : Int) 0 t203 t206) = some (r1, r2, r3, r4, r5) := H
   have A4 := aM A40
   clear A40
   have H' := aM H
   clear H
   go_enter Try.func12, Try.ntmps12
   go_wp2_with (first | ((with_reducible refine gate_dst (N := 3) rfl ?_); refine box_event ?hg (N := 3) ?hd (cs := #[.int .i64 0, .string (⟨#[]⟩ : ByteArray), .int .i64 0, .int .i64 0]) (t := 28) ?hr ?_; (case hd => rfl); (case hg => rfl); (case hr => first | (go_simp; done) | (go_simp; rfl)); intro gb202 hg w5 hbox hb; have BK202 := aM hbox; have GW202 := gs hg HB; have GE202 := gs hg HB; replace HB := bs HB hb; clear hb hbox hg) | ((with_reducible refine gate_callee (f := 24) rfl ?_); refine gL (some 13) rfl rfl Try.func24 (by kernel_rfl) rfl #[.slice A0 l0.length c0] rfl ?_; (with_reducible refine (modgraph_acyclic.calls k _ _ l0 t203 t206 t209 t210 t211 t212 _ ?side1 ?side2 A2.out).mono ?_); (case side1 => exact cb HR0 HB); (case side2 => exact HC0.out); rintro e w6 ⟨v204, v207, rfl, ho0, ho1, hb⟩; refine ⟨_, rfl, ?_⟩; have HO205 := aM (Kd.R_lower ho0 (below_size (hh HB))); have HO208 := aM (Kd.S_lower ho1 (below_size (hh HB))); replace BK202 := kb BK202 hb; replace HB := bs HB hb; (try clear hb); (try clear hb2); (try clear hk); (try clear hi); (try clear ho0); (try clear ho1)) | ((with_reducible refine gate_dst (N := 4) rfl ?_); refine box_event ?hg (N := 4) ?hd (cs := #[.slice none 0 0, .slice none 0 0]) (t := 51) ?hr ?_; (case hd => rfl); (case hg => rfl); (case hr => first | (go_simp; done) | (go_simp; rfl)); intro gb213 hg w7 hbox hb; have BK213 := aM hbox; have GW213 := gs hg HB; have GE213 := gs hg HB; have NB202_213 := nl hg BK202; have NB213_202 := nr hg BK202; replace HO205 := rb HO205 hb; replace HO208 := sb HO208 hb; replace BK202 := kb BK202 hb; replace HB := bs HB hb; clear hb hbox hg) | ((with_reducible refine gate_dst (N := 5) rfl ?_); refine box_event ?hg (N := 5) ?hd (cs := #[.int .i64 0, .string (⟨#[]⟩ : ByteArray), .int .i64 0, .int .i64 0]) (t := 28) ?hr ?_; (case hd => rfl); (case hg => rfl); (case hr => first | (go_simp; done) | (go_simp; rfl)); intro gb214 hg w8 hbox hb; have BK214 := aM hbox; have GW214 := gs hg HB; have GE214 := gs hg HB; have NB202_214 := nl hg BK202; have NB214_202 := nr hg BK202; have NB213_214 := nl hg BK213; have NB214_213 := nr hg BK213; replace HO205 := rb HO205 hb; replace HO208 := sb HO208 hb; replace BK202 := kb BK202 hb; replace BK213 := kb BK213 hb; replace HB := bs HB hb; clear hb hbox hg; obtain ⟨Ao9, co9, eo9⟩ := Kd.R_slice HO205.out; subst eo9; have hnb10 := NB213_202.out; have hnc10 := NB202_213.out; have hnb11 := NB213_214.out; have hnc11 := NB214_213.out; obtain ⟨hcz12_0, hcz12_1⟩ := cz2 BK213; obtain ⟨hfz12_0, hfz12_1⟩ := fz2 BK213; obtain ⟨Ao13, co13, eo13⟩ := Kd.S_slice HO208.out; subst eo13; have hnb14 := NB214_202.out; have hnc14 := NB202_214.out; obtain ⟨hcz15_0, hcz15_1, hcz15_2, hcz15_3⟩ := cz BK214; obtain ⟨hfz15_0, hfz15_1, hfz15_2, hfz15_3⟩ := fz BK214) | ((with_reducible refine gate_callee (f := 30) rfl ?_); refine gL (some 23) rfl rfl Try.func30 (by kernel_rfl) rfl #[.agg #[.slice Ao13 t206.length co13]] rfl ?_; (with_reducible refine (graph_Levels.calls _ _ t206 t215 t218 _ ?side1 ?side2 A4.out).mono ?_); (case side1 => refine (Kd.S_reads' (e := 55) (base := w.heap.size) (ok := fun k_ => True) (n := t206.length) (c := co13) ?_).2.2; exact (by (with_reducible repeat (first | apply Kd.S_alloc | apply Kd.S_drewN | apply Kd.S_drew)); exact (sf24 HO208 BK213 (by decide) BK214 (by decide)))); (case side2 => exact (Kd.S_reads' HO208.out).2.1); rintro e w16 ⟨v216, rfl, ho0, hb⟩; refine ⟨_, rfl, ?_⟩; have HO217 := aM (Kd.S_lower (Kd.S_new' ho0 (Kd.S_lt (by (with_reducible repeat (first | apply Kd.S_alloc | apply Kd.S_drewN | apply Kd.S_drew)); exact (sf24 HO208 BK213 (by decide) BK214 (by decide))))) (below_size (hh HB))); replace HO205 := aM (Kd.R_below (by (with_reducible repeat (first | apply Kd.R_alloc | apply Kd.R_drewN | apply Kd.R_drew)); exact (rf24 HO205 BK213 (by decide) BK214 (by decide))) hb); replace HO208 := aM (Kd.S_elder' (by (with_reducible repeat (first | apply Kd.S_alloc | apply Kd.S_drewN | apply Kd.S_drew)); exact (sf24 HO208 BK213 (by decide) BK214 (by decide))) (Kd.S_base ho0) hb); replace BK202 := aM (blk_below (g := gb202) (o := .cells #[.int .i64 0, .string (⟨#[]⟩ : ByteArray), .int .i64 0, .int .i64 0] 28 (0, 0)) (kf BK202) hb); replace BK213 := aM (blk_below (g := gb213) (o := .cells #[.slice Ao9 t203.length co9, .slice Ao13 t206.length co13] 51 (0, 0)) (kf BK213) hb); replace BK214 := aM (blk_below (g := gb214) (o := .cells #[.int .i64 t209, .string t210, .int .i64 t211, .int .i64 t212] 28 (0, 0)) (kf BK214) hb); replace HB := bs HB hb; (try clear hb); (try clear hb2); (try clear hk); (try clear hi); (try clear ho0); obtain ⟨Ao17, co17, eo17⟩ := Kd.S_slice HO217.out; subst eo17))
   go_loopg [8, 28] k (fun kq v8 v28 w' => ∃ (x8_1 : List (List ByteArray)) (x28_1 : Int), v28 = .int .i64 x28_1 ∧ Aside0 (modgraph_Levels.l0 kq x8_1 t215 (t215.length : Int) x28_1 t203 t206 = some (r1, r2, r3, r4, r5)) ∧ Aside0 (kq ≤ k) ∧ Aside0 (Kd.S (Kd.slice 9 Kd.string) 25 w' w.heap.size (fun k_ => some k_ ≠ ((.slice Ao9 t203.length co9) : Value).ownBlock) v8 x8_1) ∧ Aside0 (Kd.S (Kd.slice 3 (Kd.int .i64)) 55 w' w.heap.size (fun k_ => some k_ ≠ ((.slice Ao13 t206.length co13) : Value).ownBlock) (.slice Ao17 t215.length co17) t215) ∧ Aside0 (Kd.R Kd.string 9 w' w.heap.size (fun _ => True) (.slice Ao9 t203.length co9) t203) ∧ Aside0 (Kd.S (Kd.slice 3 (Kd.int .i64)) 55 w' w.heap.size (fun k_ => some k_ ≠ ((.slice Ao17 t215.length co17) : Value).ownBlock) (.slice Ao13 t206.length co13) t206) ∧ Aside0 (w'.heap[gb202]? = some (.cells #[.int .i64 0, .string (⟨#[]⟩ : ByteArray), .int .i64 0, .int .i64 0] 28 (0, 0))) ∧ Aside0 (w'.heap[gb213]? = some (.cells #[(.slice Ao9 t203.length co9), (.slice Ao13 t206.length co13)] 51 (0, 0))) ∧ Aside0 (w'.heap[gb214]? = some (.cells #[.int .i64 t209, .string t210, .int .i64 t211, .int .i64 t212] 28 (0, 0))) ∧ Aside0 (Below w.heap.size w w'))
   case atStart => exact ⟨(([] : List (List ByteArray))), (0), (by first | rfl | (simp; done) | (simp [*]; done)), H', ⟨Nat.le_refl _⟩, ⟨by first | exact Kd.S_nil _ _ _ _ _ | exact Kd.N_nil _ _ _ _ _ | exact Kd.V_nil _ _ _ _ _ | exact Kd.Q_nil _ _ _ _ _ | exact Kd.R_nil _ _ _ _ _⟩, ⟨by (with_reducible repeat (first | apply Kd.S_alloc | apply Kd.S_drewN | apply Kd.S_drew)); exact Kd.S_mono HO217.out (fun _ hk => hk.2)⟩, ⟨rk HO205⟩, ⟨by (with_reducible repeat (first | apply Kd.S_alloc | apply Kd.S_drewN | apply Kd.S_drew)); exact Kd.S_mono HO208.out (fun _ hk => hk.2)⟩, ⟨kk BK202⟩, ⟨kk BK213⟩, ⟨kk BK214⟩, ⟨hh HB⟩⟩
   case round =>
    clear H'
    try clear c1
    try clear c2
    try clear p2
    try clear c3
    try clear c3b0
    try clear c3b1
    try clear c10
    try clear c11
    try clear c12
    try clear c14
    try clear hcz12_0
    try clear hcz12_1
    try clear hcz15_0
    try clear hcz15_1
    try clear hcz15_2
    try clear hcz15_3
    try clear hfz12_0
    try clear hfz12_1
    try clear hfz15_0
    try clear hfz15_1
    try clear hfz15_2
    try clear hfz15_3
    obtain ⟨x8_1, x28_1, rfl, HA, HK1, HO_8, HO_26, HO_214000, HO_214001, BK202, BK213, BK214, HB⟩ := hrel
    cases gk with
    | zero => exact absurd HA.out (by simp [modgraph_Levels.l0])
    | succ k1 =>
     have H := HA.out
     clear HA
     simp only [modgraph_Levels.l0] at H
     by_cases c18 : x28_1 < (t215.length : Int)
     · rw [if_pos c18] at H
       have c18b0 : decide (x28_1 < (t215.length : Int)) = true := decide_eq_true c18
       clear c18
       by_cases c19 : 0 ≤ x28_1
       · rw [if_pos c19] at H
         have c19b0 : decide (0 ≤ x28_1) = true := decide_eq_true c19
         clear c19
         by_cases c20 : x28_1 < (t215.length : Int)
         · rw [if_pos c20] at H
           have c20b0 : decide (x28_1 < (t215.length : Int)) = true := decide_eq_true c20
           clear c20
           replace H := Option.bind_eq_some_iff.mp H
           obtain ⟨t220, A210, H⟩ := H
           replace H : (if x8_1.length < 5864062014805 then (modgraph_Levels.l0 k1 (x8_1 ++ [t220]) t215 (t215.length : Int) (wrap64 (x28_1 + 1)) t203 t206) else (none)) = some (r1, r2, r3, r4, r5) := H
           have A21 := aM A210
           clear A210
           by_cases c22 : x8_1.length < 5864062014805
           · rw [if_pos c22] at H
             have LMc22 := aM c22
             clear c22
             obtain ⟨y223, hy223⟩ : ∃ y_ : List (List ByteArray), y_ = (x8_1 ++ [t220]) := ⟨_, rfl⟩
             replace H : (modgraph_Levels.l0 k1 y223 t215 (t215.length : Int) (wrap64 (x28_1 + 1)) t203 t206) = some (r1, r2, r3, r4, r5) := by first | (rw [hy223]; with_reducible exact H) | (have H2_ := (Option.bind_some _ _).symm.trans H; rw [hy223]; with_reducible exact H2_) | (have H2_ := (Option.bind_some _ _).symm.trans H; with_reducible exact H2_) | with_reducible exact H | (rw [hy223]; exact H) | exact H
             have Ny223 := aM hy223
             clear hy223
             have H' := aM H
             clear H
             have p219 : 0 ≤ (x28_1 : Int) := dt
             have q219 : x28_1 < (t215.length : Int) := dt
             obtain ⟨ad219, A219_0, c219_0, e219, hx219_0, hl219_0, hi219_0⟩ := at_L11 (Kd.S_reads' HO_26.out).2.2 x28_1 p219 q219
             cases e219
             obtain ⟨ce219, hce219, hMe219, hcc219⟩ := Kd.S_get HO_26.out [] x28_1 p219 (by first | exact q219 | exact dt | (have e_ := (Kd.S_reads' HO_26.out).1; omega))
             obtain ⟨ve219_0, rfl, ge219_0⟩ := hMe219
             have hv219_0 := hcc219 0 _ rfl
             rw [Nat.add_zero, show ((Kd.slice 3 (Kd.int .i64))).sz = 1 from rfl, Nat.mul_one] at hv219_0
             replace hv219_0 := Option.some.inj (hv219_0.symm.trans hx219_0)
             rw [hv219_0] at ge219_0
             have HL219_0 := aM (show Kd.R (Kd.int .i64) 3 _ _ _ _ (rd_L11 t215 x28_1) from ge219_0)
             clear hv219_0 ge219_0
             clear hcc219 hce219
             have HR219_0 := aM hi219_0
             have HC219_0 := aM hl219_0
             clear hi219_0 hl219_0
             replace p219 := eq_true p219
             replace q219 := eq_true q219
             have hnb23 := NB213_202.out
             have hnc23 := NB202_213.out
             have hnb24 := NB213_214.out
             have hnc24 := NB214_213.out
             obtain ⟨hcz25_0, hcz25_1⟩ := cz2 BK213
             obtain ⟨hfz25_0, hfz25_1⟩ := fz2 BK213
             go_wp2_with (first | ((with_reducible refine gate_callee (f := 26) rfl ?_); refine gL (some 35) rfl rfl Try.func26 (by kernel_rfl) rfl #[.agg #[.slice Ao9 t203.length co9, .slice Ao13 t206.length co13], .slice A219_0 (rd_L11 t215 x28_1).length c219_0] rfl ?_; (with_reducible refine (modgraph_program_named.calls k1 _ _ t203 _ _ t206 _ _ (rd_L11 t215 x28_1) t220 _ ?side1 ?side2 ?side3 ?side4 ?side5 ?side6 A21.out).mono ?_); (case side1 => exact cr HO_214000); (case side2 => exact (Kd.R_reads' HO_214000.out).2.1); (case side3 => repeat (first | exact (Kd.S_reads' HO_214001.out).2.2 | (with_reducible refine Kd.C_alloc ?_ _) | (with_reducible refine Kd.C_drewN ?_ _) | (with_reducible refine Kd.C_drew ?_))); (case side4 => exact (Kd.S_reads' HO_214001.out).2.1); (case side5 => repeat (first | exact (by repeat (first | (with_reducible exact HR219_0.out) | (with_reducible refine Kd.C_alloc ?_ _) | (with_reducible refine Kd.C_drewN ?_ _) | (with_reducible refine Kd.C_drew ?_) | exact HR219_0.out)) | (with_reducible refine Kd.C_alloc ?_ _) | (with_reducible refine Kd.C_drewN ?_ _) | (with_reducible refine Kd.C_drew ?_))); (case side6 => exact HC219_0.out); rintro e w26 ⟨v221, rfl, ho0, hb⟩; refine ⟨_, rfl, ?_⟩; have HO222 := aM (Kd.R_lower (Kd.R_new' ho0 (Kd.R_lt (rk HO_214000))) (below_size (hh HB))); replace HO_8 := aM (Kd.S_elder' (sk HO_8) (Kd.R_base ho0) hb); replace HO_26 := sb HO_26 hb; replace HO_214000 := aM (Kd.R_elder' (rk HO_214000) (Kd.R_base ho0) hb); replace HO_214001 := sb HO_214001 hb; replace HL219_0 := rb HL219_0 hb; replace BK202 := kb BK202 hb; replace BK213 := kb BK213 hb; replace BK214 := kb BK214 hb; replace HR219_0 := aM (Kd.C_below (by repeat (first | (with_reducible exact HR219_0.out) | (with_reducible refine Kd.C_alloc ?_ _) | (with_reducible refine Kd.C_drewN ?_ _) | (with_reducible refine Kd.C_drew ?_) | exact HR219_0.out)) hb); replace HB := bs HB hb; (try clear hb); (try clear hb2); (try clear hk); (try clear hi); (try clear ho0); obtain ⟨Ao28, co28, eo28⟩ := Kd.R_slice HO222.out; subst eo28) | ((with_reducible refine gate_builtin (b := .append) (xs := #[.tmp 32, .tmp 36]) rfl ?_); at_builtin; refine Kd.S_append (Kd.slice 9 Kd.string) (w0 := w) w.heap.size rfl (.tmp 32) (.tmp 36) 31 25 (.slice none 0 0) 24 rfl Try.underlying31 info25 rfl (by decide) (by omega) u8 x8_1 t220 [.slice Ao28 t220.length co28] (fun k_ => some k_ ≠ (.slice Ao9 t203.length co9 : Value).ownBlock) (fun k_ => some k_ = (.slice Ao28 t220.length co28 : Value).ownBlock) rfl rfl ?aP (fun k_ hk_ => ((Kd.R_mono (ok' := fun k_ => ((fun k_ => some k_ ≠ (.slice Ao9 t203.length co9 : Value).ownBlock)) k_ ∧ some k_ ≠ (u8 : Value).ownBlock) (Kd.R_apart' (HO222.out) (Kd.S_typed HO_8.out) (by decide)) (fun k_ hk => ⟨hk.1.2, hk.2⟩))).1 k_ hk_.symm) ?aF ?aO ?aB ?aS ?aL ?_; (case aP => exact Kd.M_row (Kd.R_mono (Kd.R_tight rfl (Kd.R_mono (ok' := fun k_ => ((fun k_ => some k_ ≠ (.slice Ao9 t203.length co9 : Value).ownBlock)) k_ ∧ some k_ ≠ (u8 : Value).ownBlock) (Kd.R_apart' (HO222.out) (Kd.S_typed HO_8.out) (by decide)) (fun k_ hk => ⟨hk.1.2, hk.2⟩))) (fun _ h_ => h_))); (case aB => exact (hh HB)); (case aF => exact (fun k_ hk => Kd.fresh' (Kd.R_lt (rk HO_214000)) k_ hk)); (case aO => exact (by (with_reducible repeat (first | apply Kd.S_alloc | apply Kd.S_drewN | apply Kd.S_drew)); exact Kd.S_mono HO_8.out (fun k_ hk => ⟨hk.1, fun e_ => hk.2 e_⟩))); (case aS => exact (below_size (hh HB))); (case aL => have := LMc22.out; omega); intro v224 w27 ho hb hg hat; rw [← Ny223.out] at ho; have HO225 := aM (ho); replace HO_26 := aM (Kd.S_over' (sk HO_26) (Kd.S_typed (sk HO_8)) (by decide) hg); replace HO_214000 := aM (Kd.R_over' (rk HO_214000) (Kd.S_typed (sk HO_8)) (by decide) hg); replace HO_214001 := aM (Kd.S_over' (sk HO_214001) (Kd.S_typed (sk HO_8)) (by decide) hg); replace BK202 := aM (blk_grown (g := gb202) (o := .cells #[.int .i64 0, .string (⟨#[]⟩ : ByteArray), .int .i64 0, .int .i64 0] 28 (0, 0)) (kk BK202) hg (Kd.S_ne HO_8.out BK202.out (by decide))); replace BK213 := aM (blk_grown (g := gb213) (o := .cells #[.slice Ao9 t203.length co9, .slice Ao13 t206.length co13] 51 (0, 0)) (kk BK213) hg (Kd.S_ne HO_8.out BK213.out (by decide))); replace BK214 := aM (blk_grown (g := gb214) (o := .cells #[.int .i64 t209, .string t210, .int .i64 t211, .int .i64 t212] 28 (0, 0)) (kk BK214) hg (Kd.S_ne HO_8.out BK214.out (by decide))); replace HL219_0 := aM (Kd.R_over' (rk HL219_0) (Kd.S_typed (sk HO_8)) (by decide) hg); replace HB := aM (hb); clear HO_8 HO222; clear ho hb hg hat))
             go_roundg k1
             case measure => have := HK1.out; omega
             case rel => exact ⟨(y223), (wrap64 (x28_1 + 1)), (by first | rfl | (simp; done) | (simp [*]; done)), H', ⟨by have := HK1.out; omega⟩, ⟨sk HO225⟩, ⟨sk HO_26⟩, ⟨by (with_reducible repeat (first | apply Kd.R_alloc | apply Kd.R_drewN | apply Kd.R_drew)); exact Kd.R_mono HO_214000.out (fun _ hk => trivial)⟩, ⟨sk HO_214001⟩, ⟨kk BK202⟩, ⟨kk BK213⟩, ⟨kk BK214⟩, ⟨hh HB⟩⟩
           · rw [if_neg c22] at H
             exact absurd H (by simp)
         · rw [if_neg c20] at H
           exact absurd H (by simp)
       · rw [if_neg c19] at H
         exact absurd H (by simp)
     · rw [if_neg c18] at H
       have c18b0 : decide (x28_1 < (t215.length : Int)) = false := decide_eq_false c18
       clear c18
       simp only [Option.some.injEq, Prod.mk.injEq] at H
       obtain ⟨rfl, rfl, rfl, rfl, rfl⟩ := H
       have hnb29 := NB202_213.out
       have hnc29 := NB213_202.out
       have hnb30 := NB202_214.out
       have hnc30 := NB214_202.out
       obtain ⟨hcz31_0, hcz31_1, hcz31_2, hcz31_3⟩ := cz BK202
       obtain ⟨hfz31_0, hfz31_1, hfz31_2, hfz31_3⟩ := fz BK202
       go_wp2
       refine bodyPost_ret (results_tc rfl _ _ gb202 28 #[.int .i64 0, .string (⟨#[]⟩ : ByteArray), .int .i64 0, .int .i64 0] (0, 0) _ rfl (kf BK202) Try.underlying28 rfl (by kernel_rfl)) rfl ?_
       exact ⟨_, by first | rfl | (simp [errW_none, errW_some] <;> rfl) | (simp [*, errW_none, errW_some] <;> rfl), by (with_reducible repeat (first | apply Kd.S_alloc | apply Kd.S_drewN | apply Kd.S_drew)); exact Kd.S_mono (Kd.S_far (p := ⟨gb202, 3, none⟩) (Kd.S_far (p := ⟨gb202, 2, none⟩) (Kd.S_far (p := ⟨gb202, 1, none⟩) (Kd.S_far (p := ⟨gb202, 0, none⟩) (Kd.S_types HO_8.out BK202.out (by decide)) (fun _ hk => hk.2) (.int .i64 0)) (fun _ hk => hk.2) (.string (⟨#[]⟩ : ByteArray))) (fun _ hk => hk.2) (.int .i64 0)) (fun _ hk => hk.2) (.int .i64 0)) (fun _ hk => trivial), hh HB⟩
 · rw [if_neg c3] at H
   have c3b0 : (t209 == 0) = false := beq_eq_false_iff_ne.mpr c3
   have c3b1 : (t209 != 0) = true := bne_iff_ne.mpr c3
   simp only [Option.some.injEq, Prod.mk.injEq] at H
   obtain ⟨rfl, rfl, rfl, rfl, rfl⟩ := H
   go_enter Try.func12, Try.ntmps12
   try go_wp2_with (first | ((with_reducible refine gate_dst (N := 3) rfl ?_); refine box_event ?hg (N := 3) ?hd (cs := #[.int .i64 0, .string (⟨#[]⟩ : ByteArray), .int .i64 0, .int .i64 0]) (t := 28) ?hr ?_; (case hd => rfl); (case hg => rfl); (case hr => first | (go_simp; done) | (go_simp; rfl)); intro gb202 hg w32 hbox hb; have BK202 := aM hbox; have GW202 := gs hg HB; have GE202 := gs hg HB; replace HB := bs HB hb; clear hb hbox hg) | ((with_reducible refine gate_callee (f := 24) rfl ?_); refine gL (some 13) rfl rfl Try.func24 (by kernel_rfl) rfl #[.slice A0 l0.length c0] rfl ?_; (with_reducible refine (modgraph_acyclic.calls k _ _ l0 t203 t206 t209 t210 t211 t212 _ ?side1 ?side2 A2.out).mono ?_); (case side1 => exact cb HR0 HB); (case side2 => exact HC0.out); rintro e w33 ⟨v204, v207, rfl, ho0, ho1, hb⟩; refine ⟨_, rfl, ?_⟩; have HO205 := aM (Kd.R_lower ho0 (below_size (hh HB))); have HO208 := aM (Kd.S_lower ho1 (below_size (hh HB))); replace BK202 := kb BK202 hb; replace HB := bs HB hb; (try clear hb); (try clear hb2); (try clear hk); (try clear hi); (try clear ho0); (try clear ho1)) | ((with_reducible refine gate_dst (N := 4) rfl ?_); refine box_event ?hg (N := 4) ?hd (cs := #[.slice none 0 0, .slice none 0 0]) (t := 51) ?hr ?_; (case hd => rfl); (case hg => rfl); (case hr => first | (go_simp; done) | (go_simp; rfl)); intro gb213 hg w34 hbox hb; have BK213 := aM hbox; have GW213 := gs hg HB; have GE213 := gs hg HB; have NB202_213 := nl hg BK202; have NB213_202 := nr hg BK202; replace HO205 := rb HO205 hb; replace HO208 := sb HO208 hb; replace BK202 := kb BK202 hb; replace HB := bs HB hb; clear hb hbox hg) | ((with_reducible refine gate_dst (N := 5) rfl ?_); refine box_event ?hg (N := 5) ?hd (cs := #[.int .i64 0, .string (⟨#[]⟩ : ByteArray), .int .i64 0, .int .i64 0]) (t := 28) ?hr ?_; (case hd => rfl); (case hg => rfl); (case hr => first | (go_simp; done) | (go_simp; rfl)); intro gb214 hg w35 hbox hb; have BK214 := aM hbox; have GW214 := gs hg HB; have GE214 := gs hg HB; have NB202_214 := nl hg BK202; have NB214_202 := nr hg BK202; have NB213_214 := nl hg BK213; have NB214_213 := nr hg BK213; replace HO205 := rb HO205 hb; replace HO208 := sb HO208 hb; replace BK202 := kb BK202 hb; replace BK213 := kb BK213 hb; replace HB := bs HB hb; clear hb hbox hg; obtain ⟨Ao36, co36, eo36⟩ := Kd.R_slice HO205.out; subst eo36; have hnb37 := NB213_202.out; have hnc37 := NB202_213.out; have hnb38 := NB213_214.out; have hnc38 := NB214_213.out; obtain ⟨hcz39_0, hcz39_1⟩ := cz2 BK213; obtain ⟨hfz39_0, hfz39_1⟩ := fz2 BK213; obtain ⟨Ao40, co40, eo40⟩ := Kd.S_slice HO208.out; subst eo40; have hnb41 := NB214_202.out; have hnc41 := NB202_214.out; obtain ⟨hcz42_0, hcz42_1, hcz42_2, hcz42_3⟩ := cz BK214; obtain ⟨hfz42_0, hfz42_1, hfz42_2, hfz42_3⟩ := fz BK214))
   have n0_ : Aside0 (Kd.R Kd.string 9 ((((((w35.setCell ⟨gb213, 0, none⟩ (.slice Ao36 t203.length co36)).setCell ⟨gb213, 1, none⟩ (.slice Ao40 t206.length co40)).setCell ⟨gb214, 0, none⟩ (.int .i64 t209)).setCell ⟨gb214, 1, none⟩ (.string t210)).setCell ⟨gb214, 2, none⟩ (.int .i64 t211)).setCell ⟨gb214, 3, none⟩ (.int .i64 t212)) w.heap.size (fun _ => True) (.slice Ao36 t203.length co36) t203) := ⟨by (with_reducible repeat (first | apply Kd.R_alloc | apply Kd.R_drewN | apply Kd.R_drew)); exact Kd.R_mono (Kd.R_far (p := ⟨gb214, 3, none⟩) (Kd.R_far (p := ⟨gb214, 2, none⟩) (Kd.R_far (p := ⟨gb214, 1, none⟩) (Kd.R_far (p := ⟨gb214, 0, none⟩) (Kd.R_far (p := ⟨gb213, 1, none⟩) (Kd.R_far (p := ⟨gb213, 0, none⟩) (Kd.R_types (Kd.R_types HO205.out BK213.out (by decide)) BK214.out (by decide)) (fun _ hk => hk.1.2) (.slice Ao36 t203.length co36)) (fun _ hk => hk.1.2) (.slice Ao40 t206.length co40)) (fun _ hk => hk.2) (.int .i64 t209)) (fun _ hk => hk.2) (.string t210)) (fun _ hk => hk.2) (.int .i64 t211)) (fun _ hk => hk.2) (.int .i64 t212)) (fun _ hk => trivial)⟩
   have n1_ : Aside0 (Kd.S (Kd.slice 3 (Kd.int .i64)) 55 ((((((w35.setCell ⟨gb213, 0, none⟩ (.slice Ao36 t203.length co36)).setCell ⟨gb213, 1, none⟩ (.slice Ao40 t206.length co40)).setCell ⟨gb214, 0, none⟩ (.int .i64 t209)).setCell ⟨gb214, 1, none⟩ (.string t210)).setCell ⟨gb214, 2, none⟩ (.int .i64 t211)).setCell ⟨gb214, 3, none⟩ (.int .i64 t212)) w.heap.size (fun _ => True) (.slice Ao40 t206.length co40) t206) := ⟨by (with_reducible repeat (first | apply Kd.S_alloc | apply Kd.S_drewN | apply Kd.S_drew)); exact Kd.S_mono (Kd.S_far (p := ⟨gb214, 3, none⟩) (Kd.S_far (p := ⟨gb214, 2, none⟩) (Kd.S_far (p := ⟨gb214, 1, none⟩) (Kd.S_far (p := ⟨gb214, 0, none⟩) (Kd.S_far (p := ⟨gb213, 1, none⟩) (Kd.S_far (p := ⟨gb213, 0, none⟩) (Kd.S_types (Kd.S_types HO208.out BK213.out (by decide)) BK214.out (by decide)) (fun _ hk => hk.1.2) (.slice Ao36 t203.length co36)) (fun _ hk => hk.1.2) (.slice Ao40 t206.length co40)) (fun _ hk => hk.2) (.int .i64 t209)) (fun _ hk => hk.2) (.string t210)) (fun _ hk => hk.2) (.int .i64 t211)) (fun _ hk => hk.2) (.int .i64 t212)) (fun _ hk => trivial)⟩
   have n2_ : Aside0 (((((((w35.setCell ⟨gb213, 0, none⟩ (.slice Ao36 t203.length co36)).setCell ⟨gb213, 1, none⟩ (.slice Ao40 t206.length co40)).setCell ⟨gb214, 0, none⟩ (.int .i64 t209)).setCell ⟨gb214, 1, none⟩ (.string t210)).setCell ⟨gb214, 2, none⟩ (.int .i64 t211)).setCell ⟨gb214, 3, none⟩ (.int .i64 t212)).heap[gb202]? = some (.cells #[.int .i64 0, .string (⟨#[]⟩ : ByteArray), .int .i64 0, .int .i64 0] 28 (0, 0))) := ⟨kf BK202⟩
   have n3_ : Aside0 (((((((w35.setCell ⟨gb213, 0, none⟩ (.slice Ao36 t203.length co36)).setCell ⟨gb213, 1, none⟩ (.slice Ao40 t206.length co40)).setCell ⟨gb214, 0, none⟩ (.int .i64 t209)).setCell ⟨gb214, 1, none⟩ (.string t210)).setCell ⟨gb214, 2, none⟩ (.int .i64 t211)).setCell ⟨gb214, 3, none⟩ (.int .i64 t212)).heap[gb213]? = some (.cells #[.slice Ao36 t203.length co36, .slice Ao40 t206.length co40] 51 (0, 0))) := ⟨kf BK213⟩
   have n4_ : Aside0 (((((((w35.setCell ⟨gb213, 0, none⟩ (.slice Ao36 t203.length co36)).setCell ⟨gb213, 1, none⟩ (.slice Ao40 t206.length co40)).setCell ⟨gb214, 0, none⟩ (.int .i64 t209)).setCell ⟨gb214, 1, none⟩ (.string t210)).setCell ⟨gb214, 2, none⟩ (.int .i64 t211)).setCell ⟨gb214, 3, none⟩ (.int .i64 t212)).heap[gb214]? = some (.cells #[.int .i64 t209, .string t210, .int .i64 t211, .int .i64 t212] 28 (0, 0))) := ⟨kf BK214⟩
   have n5_ : Aside0 (Below w.heap.size w ((((((w35.setCell ⟨gb213, 0, none⟩ (.slice Ao36 t203.length co36)).setCell ⟨gb213, 1, none⟩ (.slice Ao40 t206.length co40)).setCell ⟨gb214, 0, none⟩ (.int .i64 t209)).setCell ⟨gb214, 1, none⟩ (.string t210)).setCell ⟨gb214, 2, none⟩ (.int .i64 t211)).setCell ⟨gb214, 3, none⟩ (.int .i64 t212))) := ⟨hh HB⟩
   (try clear HO205)
   (try clear HO208)
   (try clear BK202)
   (try clear BK213)
   (try clear BK214)
   (try clear HB)
   generalize ((((((w35.setCell ⟨gb213, 0, none⟩ (.slice Ao36 t203.length co36)).setCell ⟨gb213, 1, none⟩ (.slice Ao40 t206.length co40)).setCell ⟨gb214, 0, none⟩ (.int .i64 t209)).setCell ⟨gb214, 1, none⟩ (.string t210)).setCell ⟨gb214, 2, none⟩ (.int .i64 t211)).setCell ⟨gb214, 3, none⟩ (.int .i64 t212)) = w43 at n0_ n1_ n2_ n3_ n4_ n5_ ⊢
   have HO205 := n0_
   have HO208 := n1_
   have BK202 := n2_
   have BK213 := n3_
   have BK214 := n4_
   have HB := n5_
   clear n0_ n1_ n2_ n3_ n4_ n5_
   replace HO205 := aM (Kd.R_drew HO205.out)
   replace HO208 := aM (Kd.S_drew HO208.out)
   replace BK202 := aM (blk_drew BK202.out)
   replace BK213 := aM (blk_drew BK213.out)
   replace BK214 := aM (blk_drew BK214.out)
   replace HB := aM (below_drew1 HB.out)
   refine start_ (n := 3) (S := fun w' => w'.cell? ⟨gb214, 0, none⟩ = some (.int .i64 t209) ∧ w'.cell? ⟨gb214, 1, none⟩ = some (.string t210) ∧ w'.cell? ⟨gb214, 2, none⟩ = some (.int .i64 t211) ∧ w'.cell? ⟨gb214, 3, none⟩ = some (.int .i64 t212)) (ds := []) #[false, false, false] (by kernel_rfl) rfl rfl ⟨(blk_cell BK214.out 0).trans rfl, (blk_cell BK214.out 1).trans rfl, (blk_cell BK214.out 2).trans rfl, (blk_cell BK214.out 3).trans rfl⟩ (fun hHeld => ?_)
   generalize w43.drew = w44 at HO205 HO208 BK202 BK213 BK214 HB hHeld ⊢
   refine pure_ (i := 1) (N := some 2) (v := ?_) (a' := ?_) #[false, true, false] rfl rfl (by kernel_rfl) (fun _ _ _ h => h) (Or.inl ⟨by rfl, ?_⟩) ?_ ?_
   rotate_left
   · intro w'
     go_simp
     with_reducible rfl
   rotate_left
   · simp only [Act.put, sA, sZ, sS, i64_w, i32_w]
     rfl
   refine take_ (i := 0) (N := some 19) (v := ?_) (a' := ?_) #[true, true, false] rfl rfl (by kernel_rfl) (fun _ _ _ h => h) (Or.inl ⟨by rfl, ?_⟩) hHeld ?_ ?_
   rotate_left
   · rintro w' ⟨s0, s1, s2, s3⟩
     go_simp
     with_reducible rfl
   rotate_left
   · simp only [Act.put, sA, sZ, sS, i64_w, i32_w]
     rfl
   refine one_ (i := 2) (N := none) #[true, true, true] rfl rfl (by kernel_rfl) (by decide) (fun K hK => ?_)
   have hs45 : w44.cell? ⟨gb202, 0, none⟩ = some (.int .i64 0) := (blk_cell BK202.out 0).trans rfl
   have hfs45 := blk_frozen BK202.out 0
   have hns45_1 := NB213_202.out
   have hns45_2 := NB214_202.out
   have hms45_1 := NB202_213.out
   have hms45_2 := NB202_214.out
   have hs46 : w44.cell? ⟨gb202, 1, none⟩ = some (.string (⟨#[]⟩ : ByteArray)) := (blk_cell BK202.out 1).trans rfl
   have hfs46 := blk_frozen BK202.out 1
   have hns46_1 := NB213_202.out
   have hns46_2 := NB214_202.out
   have hms46_1 := NB202_213.out
   have hms46_2 := NB202_214.out
   have hs47 : w44.cell? ⟨gb202, 2, none⟩ = some (.int .i64 0) := (blk_cell BK202.out 2).trans rfl
   have hfs47 := blk_frozen BK202.out 2
   have hns47_1 := NB213_202.out
   have hns47_2 := NB214_202.out
   have hms47_1 := NB202_213.out
   have hms47_2 := NB202_214.out
   have hs48 : w44.cell? ⟨gb202, 3, none⟩ = some (.int .i64 0) := (blk_cell BK202.out 3).trans rfl
   have hfs48 := blk_frozen BK202.out 3
   have hns48_1 := NB213_202.out
   have hns48_2 := NB214_202.out
   have hms48_1 := NB202_213.out
   have hms48_2 := NB202_214.out
   refine skip_ (w1 := ?_) (by rfl) rfl ?_ ?_
   rotate_left
   · go_simp
     rfl
   refine hK.out _ _ ⟨((cell_far (p := ⟨gb202, _, none⟩) NB214_202.out _).trans (((cell_far (p := ⟨gb202, _, none⟩) NB214_202.out _).trans (((cell_far (p := ⟨gb202, _, none⟩) NB214_202.out _).trans (((cell_far (p := ⟨gb202, _, none⟩) NB214_202.out _).trans (hHeld.1)))))))), ((cell_far (p := ⟨gb202, _, none⟩) NB214_202.out _).trans (((cell_far (p := ⟨gb202, _, none⟩) NB214_202.out _).trans (((cell_far (p := ⟨gb202, _, none⟩) NB214_202.out _).trans (((cell_far (p := ⟨gb202, _, none⟩) NB214_202.out _).trans (hHeld.2.1)))))))), ((cell_far (p := ⟨gb202, _, none⟩) NB214_202.out _).trans (((cell_far (p := ⟨gb202, _, none⟩) NB214_202.out _).trans (((cell_far (p := ⟨gb202, _, none⟩) NB214_202.out _).trans (((cell_far (p := ⟨gb202, _, none⟩) NB214_202.out _).trans (hHeld.2.2.1)))))))), ((cell_far (p := ⟨gb202, _, none⟩) NB214_202.out _).trans (((cell_far (p := ⟨gb202, _, none⟩) NB214_202.out _).trans (((cell_far (p := ⟨gb202, _, none⟩) NB214_202.out _).trans (((cell_far (p := ⟨gb202, _, none⟩) NB214_202.out _).trans (hHeld.2.2.2))))))))⟩ (fun hHeld => ?_)
   clear hK K
   refine done_ (by kernel_rfl) ?_
   try go_wp2
   refine bodyPost_ret (results_tc rfl _ _ gb202 28 #[.int .i64 t209, .string t210, .int .i64 t211, .int .i64 t212] (0, 0) _ rfl (kf BK202) Try.underlying28 rfl (by kernel_rfl)) rfl ?_
   exact ⟨_, by first | rfl | (simp [errW_none, errW_some] <;> rfl) | (simp [*, errW_none, errW_some] <;> rfl), by first | exact Kd.S_nil _ _ _ _ _ | exact Kd.N_nil _ _ _ _ _ | exact Kd.V_nil _ _ _ _ _ | exact Kd.Q_nil _ _ _ _ _ | exact Kd.R_nil _ _ _ _ _, hh HB⟩
end Go.Proofs.Ytmadhaccjmakdaa.P
/- slices.DeleteFunc with the closure of program.reached. -/
namespace Go.Proofs.Ytmadhaccjmakdaa
open Go.Shelf Go.Lib Go.RowKit Go.Maps Go.Sort Go.Proofs.YtmadhaccjmakdaaW.PrintWords Go.Proofs.YtmadhaccjmakdaaW.PrintLast Go.Proofs.YtmadhaccjmakdaaW.PrintMore
attribute [local go_sem] max2_int min2_int max_two min_two max_three min_three max_four min_four
open P
namespace Mg
def but (s : ByteArray) (x : ByteArray) : Bool := x.toList == s.toList
theorem gives45 (s x : ByteArray) (B : Nat) (W : World) (hc : W.cell? ⟨B, 0, none⟩ = some (.string s)) :
 FnGives Try.prog 45 #[.pointer (some ⟨B, 0, none⟩)] #[.string x] (.bool (but s x)) W := by
 show Calls Try.prog 45 #[.string x, .pointer (some ⟨B, 0, none⟩)] W _
 go_enter Try.func45, Try.ntmps45
 go_wp2
 all_goals (go_ret; exact ⟨by first | rfl | (simp [but]; done) | (unfold but; simp_all) | (unfold but; rfl), 0, rfl⟩)
theorem pred45 (s : ByteArray) (B : Nat) (w : World) (hB : B < w.heap.size) (hcell : w.cell? ⟨B, 0, none⟩ = some (.string s)) :
 PredAt Try.prog 45 #[.pointer (some ⟨B, 0, none⟩)] Value.string (but s) w :=
 fun W x hb => gives45 s x B W ((hb.cell (p := ⟨B, 0, none⟩) hB).trans hcell)
theorem over45 (s : ByteArray) (B blk off size : Nat) (w : World) (hB : B < w.heap.size) (hne : B ≠ blk) (hcell : w.cell? ⟨B, 0, none⟩ = some (.string s)) :
 PredOver Try.prog 45 #[.pointer (some ⟨B, 0, none⟩)] Value.string (but s) blk off size w :=
 fun n os dk x _ => gives45 s x B _ (by
  unfold sortWorld
  rw [cell?_grow _ _ _ (by show B < (putRow _ _ _ _ _).heap.size; rw [size_putRow]; exact hB), cell?_putRow_other _ _ blk off _ _ (Or.inl hne)]
  exact hcell)
theorem putRow_heap (w : World) (q g : Nat) (d : Array ByteArray) {cur : Array Value} (h : w.heap[g]? = some (.cells cur 9 (0, 0))) : (putRow Value.string (Sort.ahead w q) g 0 d).heap[g]? = some (.cells (putCells Value.string 0 d cur) 9 (0, 0)) := by
 simp [putRow, mapBlock, Array.getElem?_modify, h, onCells]
theorem putRow_far (w : World) (q g : Nat) (d : Array ByteArray) (k : Nat) (hk : k ≠ g) : (putRow Value.string (Sort.ahead w q) g 0 d).heap[k]? = w.heap[k]? := by
 have hk2 : ¬ g = k := fun e => hk e.symm
 simp [putRow, mapBlock, Array.getElem?_modify, hk2]
theorem take_put (F fil : List ByteArray) (cur : Array Value) (m : Nat) (hF : F = fil ++ List.replicate m ⟨#[]⟩) (hc : F.length ≤ cur.size) : (putCells Value.string 0 F.toArray cur).toList.take (fil.length * 1) = encs Value.string fil := by
 apply List.ext_getElem?
 intro i
 unfold encs putCells
 rw [List.getElem?_take, List.getElem?_map]
 by_cases hi : i < fil.length
 · have hl : F.length = fil.length + m := by rw [hF]; simp
   have hic : i < cur.size := by omega
   rw [if_pos (by omega), Array.getElem?_toList, Array.getElem?_mapIdx, Array.getElem?_eq_getElem hic, List.getElem?_eq_getElem hi]
   simp only [Option.map_some]
   rw [if_pos ⟨Nat.zero_le _, by simp; omega⟩]
   congr 2
   rw [Nat.sub_zero, getElem!_pos F.toArray i (by simp; omega)]
   simp only [List.getElem_toArray]
   subst hF
   rw [List.getElem_append_left hi]
 · rw [if_neg (by omega), List.getElem?_eq_none (by omega)]
   rfl
set_option maxRecDepth 100000 in
set_option maxHeartbeats 4000000 in
theorem del_calls (w : World) (g c base B : Nat) (out : List ByteArray) (s : ByteArray) (ok : Nat → Prop) (hR : Kd.R Kd.string 9 w base ok (.slice (some ⟨g, 0, none⟩) out.length c) out) (hB : B < w.heap.size) (hne : B ≠ g) (hcell : w.cell? ⟨B, 0, none⟩ = some (.string s)) :
 Calls Try.prog 44 #[.slice (some ⟨g, 0, none⟩) out.length c, .func (.func 45) #[] #[.pointer (some ⟨B, 0, none⟩)]] w fun e w' => ∃ v', e = .returned v' ∧ Kd.R Kd.string 9 w' base ok v' (out.filter (fun x => !but s x)) ∧ (∀ k, k ≠ g → w'.heap[k]? = w.heap[k]?) ∧ Below base w w' := by
 have eg : ∀ args w, (callFunc 45 args).run Try.prog w = .ok (.enter 45 args) w := enters_of Try.func45 (by kernel_rfl) rfl
 have hown := Kd.own_of_R hR
 obtain ⟨hlen, ⟨hv, _⟩ | ⟨g2, c2, cur, hv, hb, hg, hnc, hcm, hcs, htk⟩⟩ := hown
 · cases hv
 injection hv with hv1 hv2 hv3
 injection hv1 with hv1
 injection hv1 with hv1
 subst hv1
 subst hv3
 have hown := Kd.own_of_R hR
 have hml : c ≤ 9223372036854775807 := by unfold maxLen at hcm; omega
 have hH : Holds Value.string w g 0 out.toArray := fun j hj => by
  have hj2 : j < out.length := by simpa using hj
  have h := own_at_of (d := (⟨#[]⟩ : ByteArray)) hown (j : Int) (by omega) (by omega)
  have e : out.toArray[j]! = rdOf ⟨#[]⟩ out (j : Int) := by
   rw [getElem!_pos out.toArray j hj]
   simp [rdOf, List.getD_eq_getElem?_getD, List.getElem?_eq_getElem hj2]
  rw [e, Nat.zero_add]
  exact h
 have hcon := AnyE.slices_DeleteFunc Try.delS Value.string (fun _ => rfl) (but s) 45 #[.pointer (some ⟨B, 0, none⟩)] eg ⟨#[]⟩ Try.zeroValue9 g 0 c out.toArray w (pred45 s B w hB hcell) (over45 s B g 0 out.toArray.size w hB hne hcell) hH (by simp; omega) (by simpa using hnc)
 change Calls Try.prog 44 _ _ _ at hcon
 have es : out.toArray.size = out.length := by simp
 rw [es] at hcon
 refine hcon.mono ?_
 rintro e w' ⟨rfl, q, rfl⟩
 have hfl : (out.filter (fun x => !but s x)).length ≤ out.length := List.length_filter_le _ _
 have hto : out.toArray.toList = out := by simp
 rw [hto]
 have hz : out.length ≤ cur.size := by omega
 generalize hfil : out.filter (fun x => !but s x) = fil at *
 have hbelow : ∀ k, k ≠ g → (putRow Value.string (Sort.ahead w q) g 0 (fil ++ List.replicate (out.length - fil.length) (⟨#[]⟩ : ByteArray)).toArray).heap[k]? = w.heap[k]? := fun k hk => putRow_far w q g _ k hk
 refine ⟨_, rfl, ?_, hbelow, ⟨rfl, rfl, rfl, by simp, fun k hk => hbelow k (by omega)⟩⟩
 refine Kd.R_of_own ⟨by simp [encs], .inr ⟨g, c, _, rfl, hb, putRow_heap w q g _ hg, by omega, hcm, ?_, ?_⟩⟩ (fun k hk => hR.1 k hk)
 · unfold putCells
   simpa using hcs
 · exact take_put _ fil cur _ rfl (by simp; omega)
end Mg
end Go.Proofs.Ytmadhaccjmakdaa
/- slices.BinarySearch of names; DeleteFunc of no name. -/
namespace Go.Proofs.Ytmadhaccjmakdaa
open Go.Shelf Go.Lib Go.RowKit Go.Maps Go.Sort Go.Proofs.YtmadhaccjmakdaaW.PrintWords Go.Proofs.YtmadhaccjmakdaaW.PrintLast Go.Proofs.YtmadhaccjmakdaaW.PrintMore
attribute [local go_sem] max2_int min2_int max_two min_two max_three min_three max_four min_four
open P
namespace Mg
abbrev dat (x : ByteArray) : List UInt8 := x.data.toList
theorem dat_inj {x y : ByteArray} (h : dat x = dat y) : x = y := by
 cases x with | mk a => cases y with | mk b =>
 have : a = b := Array.toList_inj.1 h
 rw [this]
def PlainA (A : Option Addr) : Prop := ∀ ad, A = some ad → ∃ g, ad = ⟨g, 0, none⟩
theorem plainR {e n c base : Nat} {w : World} {A : Option Addr} {ok : Nat → Prop} {xs : List ByteArray} (h : Kd.R Kd.string e w base ok (.slice A n c) xs) : n = xs.length ∧ n ≤ c ∧ (Kd.C Kd.string w A xs.length xs ∧ PlainA A) := by
 obtain ⟨h1, h2, h3⟩ := Kd.R_reads' h
 refine ⟨h1, h2, h3, fun ad e => ?_⟩
 subst e
 exact Kd.R_head h
set_option maxRecDepth 100000 in
theorem search2 (w : World) (A : Option Addr) (c : Nat) (names : List ByteArray) (s : ByteArray) (hC : Kd.C Kd.string w A names.length names) (hA : PlainA A) (hp : (names.map dat).Pairwise (fun a b => a ≤ b)) (hl : names.length ≤ 100) :
 Calls Try.prog 42 #[.slice A names.length c, .string s] w fun e w' => e = .returned (.tuple #[.int .i64 (rank (names.map dat) (dat s) : Nat), .bool (decide (dat s ∈ names.map dat))]) ∧ Drawn0 w w' := by
 by_cases hn : names = []
 · subst hn
   refine (Any2.slices_BinarySearch_string_empty Try.lays26 A c s w).mono ?_
   rintro e w' ⟨rfl, rfl⟩
   exact ⟨by simp [rank], Drawn0.refl _⟩
 have hpos : 0 < names.length := List.length_pos_iff.2 hn
 obtain ⟨ad, eA, _⟩ := hC.2.2 hpos
 obtain ⟨g, rfl⟩ := hA ad eA
 subst eA
 have hcell : ∀ j, j < names.length → w.cell? ⟨g, 0 + j, none⟩ = some (.string (names.getD j s)) := by
  intro j hj
  obtain ⟨ad, he, hc⟩ := Kd.at_string hC (j : Int) (by omega) (by omega)
  injection he with he
  subst he
  have e : names.getD j s = rdOf ByteArray.empty names (j : Int) := by
   simp [rdOf, List.getD_eq_getElem?_getD, List.getElem?_eq_getElem hj]
  rw [e, Nat.zero_add]
  rw [add_plain] at hc
  simpa using hc
 have h := Any2.slices_BinarySearch_string Try.lays26 g 0 names.length c (fun j => names.getD j s) s w (by omega) hcell
 have hk : Lib.bsGo (fun t => Op.bytesLess (names.getD t s).toList s.toList) names.length 0 names.length = rank (names.map dat) (dat s) := by
  refine Lib.bsGo_spec _ (rank (names.map dat) (dat s)) (fun t ht => ?_) (fun t ht => ?_) names.length 0 names.length (by omega) (Nat.zero_le _) (by have := rank_le (names.map dat) (dat s); simpa using this)
  · obtain ⟨h1, h2⟩ := rank_lt (names.map dat) (dat s) t ht
    have h3 : t < names.length := by simpa using h1
    rw [toL, toL, bytesLess_eq]
    have e : (names.getD t s).data.toList = (names.map dat)[t] := by simp [List.getD_eq_getElem?_getD, List.getElem?_eq_getElem h3]
    rw [e]
    simpa using h2
  · rw [toL, toL, bytesLess_eq]
    by_cases h1 : t < names.length
    · have h2 : t < (names.map dat).length := by simpa using h1
      have e : (names.getD t s).data.toList = (names.map dat)[t] := by simp [List.getD_eq_getElem?_getD, List.getElem?_eq_getElem h1]
      rw [e]
      simpa using rank_ge (names.map dat) (dat s) hp t h2 ht
    · have e : names.getD t s = s := by simp [List.getD_eq_getElem?_getD, List.getElem?_eq_none (show names.length ≤ t by omega)]
      rw [e]
      simp [List.lt_irrefl]
 have hb : (rank (names.map dat) (dat s) < names.length ∧ names.getD (rank (names.map dat) (dat s)) s = s) ↔ dat s ∈ names.map dat := by
  have hm : dat s ∈ names.map dat ↔ s ∈ names := ⟨fun h => by obtain ⟨y, hy, e⟩ := List.mem_map.1 h; exact dat_inj e ▸ hy, fun h => List.mem_map.2 ⟨s, h, rfl⟩⟩
  rw [hm]
  constructor
  · rintro ⟨h1, h2⟩
    rw [List.getD_eq_getElem?_getD, List.getElem?_eq_getElem h1] at h2
    rw [← h2]
    exact List.getElem_mem h1
  · intro hs
    obtain ⟨t, ht, hts⟩ := List.getElem_of_mem hs
    have htm : t < (names.map dat).length := by simpa using ht
    have e2 : (names.map dat)[t] = dat s := by simp [hts]
    have hrt : rank (names.map dat) (dat s) ≤ t := by
     apply Nat.le_of_not_lt
     intro hlt
     obtain ⟨h1, h2⟩ := rank_lt (names.map dat) (dat s) t hlt
     rw [e2] at h2
     exact List.lt_irrefl _ h2
    have hr : rank (names.map dat) (dat s) < names.length := by omega
    have hrm : rank (names.map dat) (dat s) < (names.map dat).length := by simpa using hr
    have h3 := rank_ge (names.map dat) (dat s) hp _ hrm (Nat.le_refl _)
    have h4 : (names.map dat)[rank (names.map dat) (dat s)] ≤ dat s := by
     by_cases heq : rank (names.map dat) (dat s) = t
     · have : (names.map dat)[rank (names.map dat) (dat s)] = dat s := by simp only [heq]; exact e2
       rw [this]; exact List.le_refl _
     · have := (List.pairwise_iff_getElem.1 hp) _ _ hrm htm (by omega)
       rw [e2] at this
       exact this
    have h5 : (names.map dat)[rank (names.map dat) (dat s)] = dat s := List.le_antisymm h4 (List.not_lt.1 h3)
    refine ⟨hr, ?_⟩
    rw [List.getD_eq_getElem?_getD, List.getElem?_eq_getElem hr]
    exact dat_inj (by simpa using h5)
 refine h.mono fun e w' ⟨he, hd⟩ => ?_
 rw [hk] at he
 rw [he]
 exact ⟨by rw [decide_eq_decide.2 hb], ⟨hd⟩⟩
set_option maxRecDepth 100000 in
set_option maxHeartbeats 4000000 in
theorem idx_nil (w : World) (lb : Array Value) : Calls Try.prog 59 #[.slice none 0 0, .func (.func 45) #[] lb] w fun e w' => e = .returned (.int .i64 (-1)) ∧ w' = w := by
 go_enter Try.func59, Try.ntmps59
 go_wp2
 go_loopg [8] 0 (fun kq v8 w' => v8 = .int .i64 0 ∧ w' = w)
 case atStart => exact ⟨rfl, rfl⟩
 case round =>
  obtain ⟨rfl, rfl⟩ := hrel
  go_wp2
  go_ret
  exact ⟨rfl, rfl⟩
set_option maxRecDepth 100000 in
set_option maxHeartbeats 4000000 in
theorem del_nil (w : World) (lb : Array Value) : Calls Try.prog 44 #[.slice none 0 0, .func (.func 45) #[] lb] w fun e w' => e = .returned (.slice none 0 0) ∧ w' = w := by
 go_enter Try.func44, Try.ntmps44
 go_wp2_with (go_at_call 59; (refine (idx_nil _ _).mono ?_); rintro e w' ⟨rfl, rfl⟩)
 go_ret
 exact ⟨rfl, rfl⟩
theorem del_any (w : World) (base B : Nat) (out : List ByteArray) (s : ByteArray) (v : Value) (hR : Kd.R Kd.string 9 w base (fun _ => True) v out) (hB : B < base) (hbw : base ≤ w.heap.size) (hcell : w.cell? ⟨B, 0, none⟩ = some (.string s)) :
 Calls Try.prog 44 #[v, .func (.func 45) #[] #[.pointer (some ⟨B, 0, none⟩)]] w fun e w' => ∃ v', e = .returned v' ∧ Kd.R Kd.string 9 w' base (fun _ => True) v' (out.filter (fun x => !but s x)) ∧ Below base w w' := by
 have hown := Kd.own_of_R hR
 obtain ⟨hlen, ⟨rfl, hn⟩ | ⟨g, c, cur, rfl, hb, hg, hnc, hcm, hcs, htk⟩⟩ := hown
 · have : out = [] := List.eq_nil_of_length_eq_zero hn
   subst this
   refine (del_nil w _).mono ?_
   rintro e w' ⟨rfl, rfl⟩
   exact ⟨_, rfl, Kd.R_nil _ _ _ _ _, Below.refl _ _⟩
 · refine (del_calls w g c base B out s _ hR (by omega) (by omega) hcell).mono ?_
   rintro e w' ⟨v', rfl, h1, _, h2⟩
   exact ⟨v', rfl, h1, h2⟩
end Mg
end Go.Proofs.Ytmadhaccjmakdaa
/- slices.Clone at []int: a copy of the elements, in memory of the call's own. -/
namespace Go.Proofs.Ytmadhaccjmakdaa
namespace P
open Go.RowKit Go.Proofs.YtmadhaccjmakdaaW.PrintWords Go.Proofs.YtmadhaccjmakdaaW.PrintLast Go.Proofs.YtmadhaccjmakdaaW.PrintMore
def slices_Clone_int.f (l : List Int) : Option (List Int) := if l.length < 17592186044416 then some l else none
set_option maxRecDepth 100000 in
set_option maxHeartbeats 4000000 in
theorem slices_Clone_int.calls (A0 : Option Addr) (c0 : Nat) (l0 : List Int) (r : List Int) (w : World) (hr0 : Kd.C (Kd.int .i64) w A0 l0.length l0) (hc0 : l0.length ≤ c0) (h : slices_Clone_int.f l0 = some r) :
 Calls Try.prog 65 #[.slice A0 l0.length c0] w fun e w' => ∃ v0_ : Value, e = .returned (v0_) ∧ Kd.R (Kd.int .i64) 3 w' w.heap.size (fun _ => True) v0_ r ∧ Below w.heap.size w w' := by
 unfold slices_Clone_int.f at h
 by_cases hn : l0.length < 17592186044416
 case neg => rw [if_neg hn] at h; cases h
 rw [if_pos hn] at h
 obtain rfl := Option.some.inj h
 have HR := Aside0.mk hr0
 clear h hr0
 cases A0 with
 | none =>
  have hl0 : l0 = [] := by
   cases l0 with
   | nil => rfl
   | cons a l => obtain ⟨_, _, h3⟩ := HR.out; obtain ⟨ad, e, _⟩ := h3 (by simp); cases e
  subst hl0
  have hq := Lib.run_eql_slice_nil (P := Try.prog) w 55 3 none 0 c0 0 0 Try.underlying55
  go_enter Try.func65, Try.ntmps65
  go_wp2
  go_ret
  exact ⟨_, rfl, Kd.R_nil _ _ _ _ _, Below.refl _ _⟩
 | some ad =>
  have OW := Aside0.mk (Kd.R_of_own (h1 := fun _ => rfl) (enc := Value.int .i64) (xs := []) (base := w.heap.size) (ok := fun _ => True) (e := 3) (w := w.alloc (.cells #[] 3)) (v := .slice (some ⟨w.heap.size, 0, none⟩) 0 0) ⟨by simp [encs], .inr ⟨w.heap.size, 0, #[], rfl, Nat.le_refl _, blk_new w _, Nat.le_refl _, Nat.zero_le _, by simp, by simp [encs]⟩⟩ (fun _ _ => trivial))
  have HC := Aside0.mk (Kd.C_below HR.out (below_alloc (Below.refl w.heap.size w) (.cells #[] 3)))
  have hq := Lib.run_eql_slice_nil (P := Try.prog) w 55 3 (some ad) l0.length c0 0 0 Try.underlying55
  go_enter Try.func65, Try.ntmps65
  go_wp2_with ((with_reducible refine gate_builtin (b := .append) (xs := #[.tmp 5, .tmp 6]) rfl ?_); at_builtin; refine Kd.R_append_row (Value.int .i64) (0 : Int) (w0 := w) w.heap.size rfl (.tmp 5) (.tmp 6) 55 3 (.int .i64 0) 8 rfl Try.underlying55 info3 rfl (by decide) (.slice (some ⟨w.heap.size, 0, none⟩) 0 0) [] l0 (some ad) l0.length c0 (fun _ => True) rfl rfl (fun _ _ => trivial) OW.out HC.out (below_alloc (Below.refl w.heap.size w) _) (by simp) (by simp; omega) ?_)
  intro v1 w1 ho hb _ _
  have Ho := Aside0.mk ho
  have Hb := Aside0.mk hb
  clear ho hb
  obtain ⟨A1, q1, rfl⟩ := Kd.R_slice Ho.out
  go_wp2_with fail
  go_ret
  exact ⟨_, rfl, Ho.out, Hb.out⟩
end P
end Go.Proofs.Ytmadhaccjmakdaa
namespace Go.Proofs.Ytmadhaccjmakdaa.P
open Go.RowKit Go.Proofs.YtmadhaccjmakdaaW.PrintWords Go.Proofs.YtmadhaccjmakdaaW.PrintLast Go.Proofs.YtmadhaccjmakdaaW.PrintMore
attribute [local go_sem] str_gtr str_leq str_geq max2_int min2_int max_two min_two max_three min_three max_four min_four
noncomputable def graph_reached.l0 : Nat → List (List Int) → List Bool → List Int → Option (List Bool)
 | 0, _, _, _ => none
 | k + 1, x0, x5, x6 => if (x6.length : Int) > 0 then (if 0 ≤ (wrap64 ((x6.length : Int) - 1)) then (if (wrap64 ((x6.length : Int) - 1)) < (x6.length : Int) then (if (wrap64 ((x6.length : Int) - 1)) ≤ (x6.length : Int) then ((some (x6.take ((wrap64 ((x6.length : Int) - 1)) : Int).toNat : List Int)).bind fun y235 => (if 0 ≤ (rd x6 (wrap64 ((x6.length : Int) - 1))) then (if (rd x6 (wrap64 ((x6.length : Int) - 1))) < (x5.length : Int) then (if (rdOf false x5 (rd x6 (wrap64 ((x6.length : Int) - 1))) = true) then (graph_reached.l0 k x0 x5 y235) else (if (rd x6 (wrap64 ((x6.length : Int) - 1))) < (x0.length : Int) then (if y235.length + (rd_L11 x0 (rd x6 (wrap64 ((x6.length : Int) - 1)))).length < 17592186044416 then (graph_reached.l0 k x0 (x5.set ((rd x6 (wrap64 ((x6.length : Int) - 1))) : Int).toNat true) (y235 ++ (rd_L11 x0 (rd x6 (wrap64 ((x6.length : Int) - 1)))))) else (none)) else (none))) else (none)) else (none))) else (none)) else (none)) else (none)) else (some x5)
noncomputable def graph_reached.f (k : Nat) (l0 : List (List Int)) (l1 : List Int) : Option (List Bool) := if 0 ≤ (l0.length : Int) then (if ((l0.length : Int) : Int).toNat ≤ 281474976710656 then ((slices_Clone_int.f l1).bind fun t231 => (graph_reached.l0 k l0 (List.replicate ((l0.length : Int) : Int).toNat false) t231)) else (none)) else (none)
set_option maxHeartbeats 8000000 in
set_option maxRecDepth 100000 in
theorem graph_reached.calls (k : Nat) (A0 : Option Addr) (c0 : Nat) (l0 : List (List Int)) (A1 : Option Addr) (c1 : Nat) (l1 : List Int) (r : List Bool) (w : World) (hr0 : Kd.C (Kd.slice 3 (Kd.int .i64)) w A0 l0.length l0) (hc0 : l0.length ≤ c0) (hr1 : Kd.C (Kd.int .i64) w A1 l1.length l1) (hc1 : l1.length ≤ c1) (h : graph_reached.f k l0 l1 = some r) :
 Calls Try.prog 58 #[.slice A0 l0.length c0, .slice A1 l1.length c1] w fun e w' => ∃ v0_ : Value, e = .returned (v0_) ∧ Kd.R Kd.bool 4 w' w.heap.size (fun _ => True) v0_ r ∧ Below w.heap.size w w' := by
 have HR0 := aM hr0
 have HC0 := aM hc0
 clear hr0 hc0
 have HR1 := aM hr1
 have HC1 := aM hc1
 clear hr1 hc1
 have HB := aM (Below.refl w.heap.size w)
 have H : (if 0 ≤ (l0.length : Int) then (if ((l0.length : Int) : Int).toNat ≤ 281474976710656 then ((slices_Clone_int.f l1).bind fun t231 => (graph_reached.l0 k l0 (List.replicate ((l0.length : Int) : Int).toNat false) t231)) else (none)) else (none)) = some r := h
 clear h
 by_cases c3 : 0 ≤ (l0.length : Int)
 · rw [if_pos c3] at H
   have c3b0 := eq_true c3
   have c3b1 : decide (0 ≤ (l0.length : Int)) = true := decide_eq_true c3
   clear c3
   by_cases c4 : ((l0.length : Int) : Int).toNat ≤ 281474976710656
   · rw [if_pos c4] at H
     have c4b0 := eq_true c4
     have c4b1 : decide (((l0.length : Int) : Int).toNat ≤ 281474976710656) = true := decide_eq_true c4
     clear c4
     obtain ⟨y228, hy228⟩ : ∃ y_ : List Bool, y_ = (List.replicate ((l0.length : Int) : Int).toNat false) := ⟨_, rfl⟩
     replace H : ((slices_Clone_int.f l1).bind fun t231 => (graph_reached.l0 k l0 y228 t231)) = some r := by first | (rw [hy228]; with_reducible exact H) | (have H2_ := (Option.bind_some _ _).symm.trans H; rw [hy228]; with_reducible exact H2_) | (have H2_ := (Option.bind_some _ _).symm.trans H; with_reducible exact H2_) | with_reducible exact H | (rw [hy228]; exact H) | exact H
     have Ny228 := aM hy228
     clear hy228
     replace H := Option.bind_eq_some_iff.mp H
     obtain ⟨t231, A50, H⟩ := H
     replace H : (graph_reached.l0 k l0 y228 t231) = some r := H
     have A5 := aM A50
     clear A50
     have H' := aM H
     clear H
     go_enter Try.func58, Try.ntmps58
     go_wp2_with (first | ((with_reducible refine gate_dst (N := 10) rfl ?_); refine Kd.R_make Kd.bool _ 4 rfl (N := 10) rfl 92 _ _ rfl (l0.length : Int) rfl rfl Try.underlying92 (.bool false) 1 info4 rfl (by decide) (by omega) false (ok := fun _ => True) (okp := fun _ => True) rfl (fun _ hk => hk) trivial (dt) (Nat.le_trans (Nat.mul_le_mul_right _ (dt : (l0.length : Int).toNat ≤ 281474976710656)) (by omega)) (Below.refl _ _) (Nat.le_refl _) ?_; intro v229 w6 ho7 hb hg_ hnew_; clear hg_ hnew_; (first | rw [← Ny228.out] at ho7 | (simp only [Int.reduceToNat] at ho7; rw [← Ny228.out] at ho7)); have HO230 := aM (Kd.R_lower ho7 (below_size (hh HB))); replace HB := bs HB hb; clear hb ho7) | ((with_reducible refine gate_callee (f := 65) rfl ?_); refine gL (some 12) rfl rfl Try.func65 (by kernel_rfl) rfl #[.slice A1 l1.length c1] rfl ?_; (with_reducible refine (slices_Clone_int.calls _ _ l1 t231 _ ?side1 ?side2 A5.out).mono ?_); (case side1 => exact cb HR1 HB); (case side2 => exact HC1.out); rintro e w8 ⟨v232, rfl, ho0, hb⟩; refine ⟨_, rfl, ?_⟩; have HO233 := aM (Kd.R_lower ho0 (below_size (hh HB))); replace HO230 := rb HO230 hb; replace HB := bs HB hb; (try clear hb); (try clear hb2); (try clear hk); (try clear hi); (try clear ho0)))
     go_loopg [6] k (fun kq v6 w' => ∃ (x5_1 : List Bool) (x6_1 : List Int), Aside0 (graph_reached.l0 kq l0 x5_1 x6_1 = some r) ∧ Aside0 (kq ≤ k) ∧ Aside0 (Kd.R Kd.bool 4 w' w.heap.size (fun _ => True) v229 x5_1) ∧ Aside0 (Kd.R (Kd.int .i64) 3 w' w.heap.size (fun _ => True) v6 x6_1) ∧ Aside0 (Below w.heap.size w w'))
     case atStart => exact ⟨(y228), (t231), H', ⟨Nat.le_refl _⟩, ⟨rk HO230⟩, ⟨rk HO233⟩, ⟨hh HB⟩⟩
     case round =>
      clear H'
      try clear c1
      try clear p2
      try clear c3
      try clear c3b0
      try clear c3b1
      try clear c4
      try clear c4b0
      try clear c4b1
      try clear c5
      try clear c6
      obtain ⟨x5_1, x6_1, HA, HK1, HO_5, HO_6, HB⟩ := hrel
      cases gk with
      | zero => exact absurd HA.out (by simp [graph_reached.l0])
      | succ k1 =>
       have H := HA.out
       clear HA
       simp only [graph_reached.l0] at H
       by_cases c9 : (x6_1.length : Int) > 0
       · rw [if_pos c9] at H
         have c9b0 : decide (0 < (x6_1.length : Int)) = true := decide_eq_true c9
         have c9b1 : decide (0 < x6_1.length) = true := decide_eq_true (by omega)
         clear c9
         obtain ⟨ji10, hji10⟩ : ∃ j_ : Int, (wrap64 ((x6_1.length : Int) - 1)) = j_ := ⟨_, rfl⟩
         replace H : (if 0 ≤ (ji10) then (if (ji10) < (x6_1.length : Int) then (if (ji10) ≤ (x6_1.length : Int) then ((some (x6_1.take ((ji10) : Int).toNat : List Int)).bind fun y235 => (if 0 ≤ (rd x6_1 (ji10)) then (if (rd x6_1 (ji10)) < (x5_1.length : Int) then (if (rdOf false x5_1 (rd x6_1 (ji10)) = true) then (graph_reached.l0 k1 l0 x5_1 y235) else (if (rd x6_1 (ji10)) < (l0.length : Int) then (if y235.length + (rd_L11 l0 (rd x6_1 (ji10))).length < 17592186044416 then (graph_reached.l0 k1 l0 (x5_1.set ((rd x6_1 (ji10)) : Int).toNat true) (y235 ++ (rd_L11 l0 (rd x6_1 (ji10))))) else (none)) else (none))) else (none)) else (none))) else (none)) else (none)) else (none)) = some r := by first | (rw [hji10] at H; exact H) | (simp only [hji10] at H ⊢; exact H)
         have hji10w : (IntKind.i64.wrap ((x6_1.length : Int) - 1)) = ji10 := (i64_w _).trans hji10
         by_cases c11 : 0 ≤ (ji10)
         · rw [if_pos c11] at H
           have c11b0 : decide (0 ≤ (ji10)) = true := decide_eq_true c11
           clear c11
           by_cases c12 : (ji10) < (x6_1.length : Int)
           · rw [if_pos c12] at H
             have c12b0 : decide ((ji10) < (x6_1.length : Int)) = true := decide_eq_true c12
             clear c12
             by_cases c13 : (ji10) ≤ (x6_1.length : Int)
             · rw [if_pos c13] at H
               have c13b0 := eq_true c13
               have c13b1 : decide ((ji10) ≤ (x6_1.length : Int)) = true := decide_eq_true c13
               clear c13
               obtain ⟨y235, hy235⟩ : ∃ y_ : List Int, y_ = (x6_1.take ((ji10) : Int).toNat) := ⟨_, rfl⟩
               replace H : (if 0 ≤ (rd x6_1 (ji10)) then (if (rd x6_1 (ji10)) < (x5_1.length : Int) then (if (rdOf false x5_1 (rd x6_1 (ji10)) = true) then (graph_reached.l0 k1 l0 x5_1 y235) else (if (rd x6_1 (ji10)) < (l0.length : Int) then (if y235.length + (rd_L11 l0 (rd x6_1 (ji10))).length < 17592186044416 then (graph_reached.l0 k1 l0 (x5_1.set ((rd x6_1 (ji10)) : Int).toNat true) (y235 ++ (rd_L11 l0 (rd x6_1 (ji10))))) else (none)) else (none))) else (none)) else (none)) = some r := by first | (rw [hy235]; with_reducible exact H) | (have H2_ := (Option.bind_some _ _).symm.trans H; rw [hy235]; with_reducible exact H2_) | (have H2_ := (Option.bind_some _ _).symm.trans H; with_reducible exact H2_) | with_reducible exact H | (rw [hy235]; exact H) | exact H
               have Ny235 := aM hy235
               clear hy235
               by_cases c14 : 0 ≤ (rd x6_1 (ji10))
               · rw [if_pos c14] at H
                 have c14b0 : decide (0 ≤ (rd x6_1 (ji10))) = true := decide_eq_true c14
                 clear c14
                 by_cases c15 : (rd x6_1 (ji10)) < (x5_1.length : Int)
                 · rw [if_pos c15] at H
                   have c15b0 : decide ((rd x6_1 (ji10)) < (x5_1.length : Int)) = true := decide_eq_true c15
                   clear c15
                   obtain ⟨bq16, hbq16⟩ : ∃ b_ : Bool, b_ = (rdOf false x5_1 (rd x6_1 (ji10))) := ⟨_, rfl⟩
                   replace H : (if (bq16 = true) then (graph_reached.l0 k1 l0 x5_1 y235) else (if (rd x6_1 (ji10)) < (l0.length : Int) then (if y235.length + (rd_L11 l0 (rd x6_1 (ji10))).length < 17592186044416 then (graph_reached.l0 k1 l0 (x5_1.set ((rd x6_1 (ji10)) : Int).toNat true) (y235 ++ (rd_L11 l0 (rd x6_1 (ji10))))) else (none)) else (none))) = some r := by rw [← hbq16] at H; exact H
                   have Nbq16 := aM hbq16
                   clear hbq16
                   by_cases c17 : (bq16 = true)
                   · subst c17
                     have H1 : (graph_reached.l0 k1 l0 x5_1 y235) = some r := by rw [if_pos rfl] at H; exact H
                     clear H
                     have H := H1
                     clear H1
                     have H' := aM H
                     clear H
                     obtain ⟨Ao18, co18, eo18⟩ := Kd.R_slice HO_6.out
                     subst eo18
                     have p234 : 0 ≤ ((ji10) : Int) := dt
                     have q234 : (ji10) < (x6_1.length : Int) := dt
                     obtain ⟨ad234, e234, hx234_0⟩ := Kd.at_int (Kd.R_reads' HO_6.out).2.2 (ji10) p234 q234
                     cases e234
                     replace p234 := eq_true p234
                     replace q234 := eq_true q234
                     have q19 : ((ji10) : Int) ≤ ((x6_1.length : Int) : Int) := dt
                     obtain ⟨i019, hi019, _, hsz19, _⟩ := info_parts info3
                     have hcut19 := cut_to (P := Try.prog) 55 3 .i64 Try.underlying55 hi019 (some ad234) x6_1.length co18 (ji10) (dt) q19 (Kd.R_reads' HO_6.out).2.1
                     have hr19 := Kd.R_take (m := ((ji10) : Int).toNat) HO_6.out (by omega)
                     have hy19 : y235.length = ((ji10) : Int).toNat := (by rw [Ny235.out, List.length_take]; omega)
                     rw [← Ny235.out] at hr19
                     rw [← hy19] at hr19 hcut19
                     clear hy19 hi019 hsz19 HO_6
                     have HO237 := aM hr19
                     clear hr19
                     replace q19 := eq_true q19
                     obtain ⟨Ao20, co20, eo20⟩ := Kd.R_slice HO_5.out
                     subst eo20
                     have p238 : 0 ≤ ((rd x6_1 (ji10)) : Int) := dt
                     have q238 : (rd x6_1 (ji10)) < (x5_1.length : Int) := dt
                     obtain ⟨ad238, e238, hx238_0⟩ := Kd.at_bool (Kd.R_reads' HO_5.out).2.2 (rd x6_1 (ji10)) p238 q238
                     (try rw [← Nbq16.out] at hx238_0)
                     cases e238
                     replace p238 := eq_true p238
                     replace q238 := eq_true q238
                     go_wp2
                     go_roundg k1
                     case measure => have := HK1.out; omega
                     case rel => exact ⟨(x5_1), (y235), H', ⟨by have := HK1.out; omega⟩, ⟨rk HO_5⟩, ⟨rk HO237⟩, ⟨hh HB⟩⟩
                   · replace c17 := Bool.eq_false_iff.mpr c17
                     subst c17
                     have H1 : (if (rd x6_1 (ji10)) < (l0.length : Int) then (if y235.length + (rd_L11 l0 (rd x6_1 (ji10))).length < 17592186044416 then (graph_reached.l0 k1 l0 (x5_1.set ((rd x6_1 (ji10)) : Int).toNat true) (y235 ++ (rd_L11 l0 (rd x6_1 (ji10))))) else (none)) else (none)) = some r := by rw [if_neg (show ¬ (false = true) by decide)] at H; exact H
                     clear H
                     have H := H1
                     clear H1
                     obtain ⟨y239, hy239⟩ : ∃ y_ : List Bool, y_ = (x5_1.set ((rd x6_1 (ji10)) : Int).toNat true) := ⟨_, rfl⟩
                     replace H : (if (rd x6_1 (ji10)) < (l0.length : Int) then (if y235.length + (rd_L11 l0 (rd x6_1 (ji10))).length < 17592186044416 then (graph_reached.l0 k1 l0 y239 (y235 ++ (rd_L11 l0 (rd x6_1 (ji10))))) else (none)) else (none)) = some r := by first | (rw [hy239]; with_reducible exact H) | (have H2_ := (Option.bind_some _ _).symm.trans H; rw [hy239]; with_reducible exact H2_) | (have H2_ := (Option.bind_some _ _).symm.trans H; with_reducible exact H2_) | with_reducible exact H | (rw [hy239]; exact H) | exact H
                     have Ny239 := aM hy239
                     clear hy239
                     by_cases c22 : (rd x6_1 (ji10)) < (l0.length : Int)
                     · rw [if_pos c22] at H
                       have c22b0 : decide ((rd x6_1 (ji10)) < (l0.length : Int)) = true := decide_eq_true c22
                       clear c22
                       by_cases c23 : y235.length + (rd_L11 l0 (rd x6_1 (ji10))).length < 17592186044416
                       · rw [if_pos c23] at H
                         have LMc23 := aM c23
                         clear c23
                         obtain ⟨y241, hy241⟩ : ∃ y_ : List Int, y_ = (y235 ++ (rd_L11 l0 (rd x6_1 (ji10)))) := ⟨_, rfl⟩
                         replace H : (graph_reached.l0 k1 l0 y239 y241) = some r := by first | (rw [hy241]; with_reducible exact H) | (have H2_ := (Option.bind_some _ _).symm.trans H; rw [hy241]; with_reducible exact H2_) | (have H2_ := (Option.bind_some _ _).symm.trans H; with_reducible exact H2_) | with_reducible exact H | (rw [hy241]; exact H) | exact H
                         have Ny241 := aM hy241
                         clear hy241
                         have H' := aM H
                         clear H
                         obtain ⟨Ao24, co24, eo24⟩ := Kd.R_slice HO_6.out
                         subst eo24
                         have p234 : 0 ≤ ((ji10) : Int) := dt
                         have q234 : (ji10) < (x6_1.length : Int) := dt
                         obtain ⟨ad234, e234, hx234_0⟩ := Kd.at_int (Kd.R_reads' HO_6.out).2.2 (ji10) p234 q234
                         cases e234
                         replace p234 := eq_true p234
                         replace q234 := eq_true q234
                         have q25 : ((ji10) : Int) ≤ ((x6_1.length : Int) : Int) := dt
                         obtain ⟨i025, hi025, _, hsz25, _⟩ := info_parts info3
                         have hcut25 := cut_to (P := Try.prog) 55 3 .i64 Try.underlying55 hi025 (some ad234) x6_1.length co24 (ji10) (dt) q25 (Kd.R_reads' HO_6.out).2.1
                         have hr25 := Kd.R_take (m := ((ji10) : Int).toNat) HO_6.out (by omega)
                         have hy25 : y235.length = ((ji10) : Int).toNat := (by rw [Ny235.out, List.length_take]; omega)
                         rw [← Ny235.out] at hr25
                         rw [← hy25] at hr25 hcut25
                         clear hy25 hi025 hsz25 HO_6
                         have HO237 := aM hr25
                         clear hr25
                         replace q25 := eq_true q25
                         obtain ⟨Ao26, co26, eo26⟩ := Kd.R_slice HO_5.out
                         subst eo26
                         have p238 : 0 ≤ ((rd x6_1 (ji10)) : Int) := dt
                         have q238 : (rd x6_1 (ji10)) < (x5_1.length : Int) := dt
                         obtain ⟨ad238, e238, hx238_0⟩ := Kd.at_bool (Kd.R_reads' HO_5.out).2.2 (rd x6_1 (ji10)) p238 q238
                         (try rw [← Nbq16.out] at hx238_0)
                         cases e238
                         replace p238 := eq_true p238
                         replace q238 := eq_true q238
                         have p21 : 0 ≤ ((rd x6_1 (ji10)) : Int) := dt
                         have q21 : ((rd x6_1 (ji10)) : Int) < ((x5_1.length : Int) : Int) := dt
                         obtain ⟨go21, co21, eo21, gb21, gl21, cl21, HG21⟩ := Kd.R_form HO_5.out (by omega)
                         (first | cases eo21 | (injection eo21 with ea_ en_ ec_; (first | subst ea_ | (injection ea_ with ea_; subst ea_)); subst ec_; clear en_))
                         have GB21 := aM gb21
                         have GG21 := aM HG21
                         clear gb21 gl21 HG21
                         (first | simp only [add_plain] at hx238_0 | skip)
                         obtain ⟨hx21_0, hf21_0⟩ := Kd.R_celln false HO_5.out ((rd x6_1 (ji10)) : Int) p21 q21
                         replace p21 := eq_true p21
                         replace q21 := eq_true q21
                         have HP27 := Kd.R_putg HO_5.out ((rd x6_1 (ji10)) : Int) true
                         go_wp2_with (first | ((with_reducible refine gate_store (t := 4) (p := 34) rfl ?_); refine store_event (t := 4) (p := 34) (v := ?vo_w28) (w1 := (wr.setCell ⟨go21, ((rd x6_1 (ji10)) : Int).toNat, none⟩ (.bool true))) ?hg ?ho ?hn ?hr ?_; (case ho => rfl); (case hg => rfl); (case hn => rfl); (case hr => first | (go_simp; done) | (go_simp; rfl)); intro w28 hw; have hg : wr.grownBy w28 (some go21) := (by rw [hw]; exact HP27.2); have hp_ : Kd.R Kd.bool 4 w28 w.heap.size (fun _ => True) (.slice (some ⟨go21, 0, none⟩) x5_1.length co26) y239 := (by rw [hw, Ny239.out]; exact HP27.1); clear HP27; replace HO237 := aM (Kd.R_over' (v := (.slice (some ⟨go21, 0, none⟩) x5_1.length co26)) (rk HO237) (Kd.R_typed HO_5.out) (by decide) hg); replace HO_5 := aM (hp_); replace HB := aM ((by rw [hw]; exact below_set (HB.out) GB21.out : Below w.heap.size w w28)); clear hg hw hp_; have p240 : 0 ≤ ((rd x6_1 (ji10)) : Int) := dt; have q240 : (rd x6_1 (ji10)) < (l0.length : Int) := dt; obtain ⟨ad240, A240_0, c240_0, e240, hx240_0, hl240_0, hi240_0⟩ := at_L11 HR0.out (rd x6_1 (ji10)) p240 q240; cases e240; replace hx240_0 := (HB.out.cell (World.block_lt_of_cell? w _ hx240_0)).trans hx240_0; have HR240_0 := aM hi240_0; have HC240_0 := aM hl240_0; clear hi240_0 hl240_0; replace p240 := eq_true p240; replace q240 := eq_true q240) | ((with_reducible refine gate_builtin (b := .append) (xs := #[.tmp 35, .tmp 39]) rfl ?_); at_builtin; refine Kd.R_append_rows (Kd.int .i64) (w0 := w) w.heap.size rfl (.tmp 35) (.tmp 39) 55 3 (.int .i64 0) 8 rfl Try.underlying55 info3 rfl (by decide) (by omega) (.slice (some ad234) y235.length co24) y235 (rd_L11 l0 (rd x6_1 (ji10))) _ _ _ (fun _ => True) (fun _ => False) rfl rfl ?aO ?aR (fun _ _ h => h) (fun _ h => h.elim) ?aF ?aB ?aS ?aL ?_; (case aR => exact cb HR240_0 HB); (case aB => exact (hh HB)); (case aF => exact (fun _ _ => trivial)); (case aO => exact (rk HO237)); (case aS => exact (below_size (hh HB))); (case aL => have := LMc23.out; omega); intro v242 w29 ho hb hg hat; rw [← Ny241.out] at ho; have HO243 := aM (ho); replace HO_5 := aM (Kd.R_over' (rk HO_5) (Kd.R_typed (rk HO237)) (by decide) hg); replace HB := aM (hb); clear HO237; clear ho hb hg hat))
                         go_roundg k1
                         case measure => have := HK1.out; omega
                         case rel => exact ⟨(y239), (y241), H', ⟨by have := HK1.out; omega⟩, ⟨rk HO_5⟩, ⟨rk HO243⟩, ⟨hh HB⟩⟩
                       · rw [if_neg c23] at H
                         exact absurd H (by simp)
                     · rw [if_neg c22] at H
                       exact absurd H (by simp)
                 · rw [if_neg c15] at H
                   exact absurd H (by simp)
               · rw [if_neg c14] at H
                 exact absurd H (by simp)
             · rw [if_neg c13] at H
               exact absurd H (by simp)
           · rw [if_neg c12] at H
             exact absurd H (by simp)
         · rw [if_neg c11] at H
           exact absurd H (by simp)
       · rw [if_neg c9] at H
         have c9b0 : decide (0 < (x6_1.length : Int)) = false := decide_eq_false c9
         have c9b1 : decide (0 < x6_1.length) = false := decide_eq_false (by omega)
         clear c9
         obtain rfl := Option.some.inj H
         obtain ⟨Ao30, co30, eo30⟩ := Kd.R_slice HO_6.out
         subst eo30
         go_wp2
         go_ret
         exact ⟨_, by first | rfl | (simp [errW_none, errW_some] <;> rfl) | (simp [*, errW_none, errW_some] <;> rfl), rk HO_5, hh HB⟩
   · rw [if_neg c4] at H
     exact absurd H (by simp)
 · rw [if_neg c3] at H
   exact absurd H (by simp)
end Go.Proofs.Ytmadhaccjmakdaa.P
namespace Go.Proofs.Ytmadhaccjmakdaa.P
open Go.RowKit Go.Proofs.YtmadhaccjmakdaaW.PrintWords Go.Proofs.YtmadhaccjmakdaaW.PrintLast Go.Proofs.YtmadhaccjmakdaaW.PrintMore
attribute [local go_sem] str_gtr str_leq str_geq max2_int min2_int max_two min_two max_three min_three max_four min_four
mutual
noncomputable def graph_Reach.j0 : Nat → Int → Bool → List (List Int) → Option (List Int)
 | 0, _, _, _ => none
 | k + 1, x1, x21, x245000 => if x21 = true then (some ([] : List Int)) else ((graph_reached.f k x245000 (([x1] : List Int))).bind fun t249 => (graph_Reach.l0 k ([] : List Int) t249 (t249.length : Int) 0))
noncomputable def graph_Reach.l0 : Nat → List Int → List Bool → Int → Int → Option (List Int)
 | 0, _, _, _, _ => none
 | k + 1, x5, x26, x27, x28 => if x28 < x27 then (if 0 ≤ x28 then (if x28 < (x26.length : Int) then (if rdOf false x26 x28 = true then (if x5.length < 17592186044416 then (graph_Reach.l0 k (x5 ++ [x28]) x26 x27 (wrap64 (x28 + 1))) else (none)) else (graph_Reach.l0 k x5 x26 x27 (wrap64 (x28 + 1)))) else (none)) else (none)) else (some x5)
end
noncomputable def graph_Reach.f (k : Nat) (l0_0 : List (List Int)) (a1 : Int) : Option (List Int) := (graph_valid.f k l0_0).bind fun t245 => (if t245 = true then (if a1 < 0 then (graph_Reach.j0 k a1 true l0_0) else (graph_Reach.j0 k a1 (decide (a1 ≥ (l0_0.length : Int))) l0_0)) else (graph_Reach.j0 k a1 true l0_0))
set_option maxHeartbeats 8000000 in
set_option maxRecDepth 100000 in
theorem graph_Reach.calls (k : Nat) (A0_0 : Option Addr) (c0_0 : Nat) (l0_0 : List (List Int)) (a1 : Int) (r : List Int) (w : World) (hr0_0 : Kd.C (Kd.slice 3 (Kd.int .i64)) w A0_0 l0_0.length l0_0) (hc0_0 : l0_0.length ≤ c0_0) (h : graph_Reach.f k l0_0 a1 = some r) :
 Calls Try.prog 43 #[.agg #[.slice A0_0 l0_0.length c0_0], .int .i64 a1] w fun e w' => ∃ v0_ : Value, e = .returned (v0_) ∧ Kd.R (Kd.int .i64) 3 w' w.heap.size (fun _ => True) v0_ r ∧ Below w.heap.size w w' := by
 have hu49 := Try.underlying49
 have HR0_0 := aM hr0_0
 have HC0_0 := aM hc0_0
 clear hr0_0 hc0_0
 have HB := aM (Below.refl w.heap.size w)
 have H : ((graph_valid.f k l0_0).bind fun t245 => (if t245 = true then (if a1 < 0 then (graph_Reach.j0 k a1 true l0_0) else (graph_Reach.j0 k a1 (decide (a1 ≥ (l0_0.length : Int))) l0_0)) else (graph_Reach.j0 k a1 true l0_0))) = some r := h
 clear h
 have HC3 := aM H
 clear H
 go_enter Try.func43, Try.ntmps43
 go_upto_region 1 with (first | ((with_reducible refine gate_dst (N := 2) rfl ?_); (try (refine gate_guard (by rfl) ?_; dsimp only)); refine box_event ?hg (N := 2) ?hd (cs := #[.slice A0_0 l0_0.length c0_0]) (t := 49) ?hr ?_; (case hd => rfl); (case hg => rfl); (case hr => first | (go_simp; done) | (go_simp; rfl)); intro gb244 hg w4 hbox hb; have BK244 := aM hbox; have GW244 := gs hg HB; have GE244 := gs hg HB; replace HB := bs HB hb; clear hb hbox hg))
 (try simp only [Act.put, sA, sZ, sS])
 go_cut [21] (fun v21 wc => ∃ (kq : Nat) (x21_2 : Bool), v21 = .bool x21_2 ∧ Aside0 (graph_Reach.j0 kq a1 x21_2 l0_0 = some r) ∧ Aside0 (kq ≤ k) ∧ Aside0 (wc.heap[gb244]? = some (.cells #[(.slice A0_0 l0_0.length c0_0)] 49 (0, 0))) ∧ Aside0 (Below w.heap.size w wc))
 case first =>
  have H := HC3.out
  clear HC3
  replace H := Option.bind_eq_some_iff.mp H
  obtain ⟨t245, A50, H⟩ := H
  replace H : (if t245 = true then (if a1 < 0 then (graph_Reach.j0 k a1 true l0_0) else (graph_Reach.j0 k a1 (decide (a1 ≥ (l0_0.length : Int))) l0_0)) else (graph_Reach.j0 k a1 true l0_0)) = some r := H
  have A5 := aM A50
  clear A50
  by_cases c6 : t245 = true
  · subst c6
    have H1 : (if a1 < 0 then (graph_Reach.j0 k a1 true l0_0) else (graph_Reach.j0 k a1 (decide (a1 ≥ (l0_0.length : Int))) l0_0)) = some r := by rw [if_pos rfl] at H; exact H
    clear H
    have H := H1
    clear H1
    by_cases c7 : a1 < 0
    · rw [if_pos c7] at H
      have c7b0 : decide (a1 < 0) = true := decide_eq_true c7
      clear c7
      (first | rw [c7b0] | (simp only [i64_w, i32_w]; rw [c7b0]) | skip)
      have H' := aM H
      clear H
      have hcz8_0 : w4.cell? ⟨gb244, 0, none⟩ = some (.slice A0_0 l0_0.length c0_0) := (blk_cell BK244.out 0).trans rfl
      have hfz8_0 := blk_frozen BK244.out 0
      go_wp2_with (first | ((with_reducible refine gate_callee (f := 39) rfl ?_); refine gL (some 9) rfl rfl Try.func39 (by kernel_rfl) rfl #[.agg #[.slice A0_0 l0_0.length c0_0]] rfl ?_; (with_reducible refine (graph_valid.calls k _ _ l0_0 true _ ?side1 ?side2 A5.out).mono ?_); (case side1 => exact cb HR0_0 HB); (case side2 => exact HC0_0.out); rintro e w9 ⟨rfl, hb⟩; refine ⟨_, rfl, ?_⟩; replace BK244 := kb BK244 hb; replace HB := bs HB hb; (try clear hb); (try clear hb2); (try clear hk); (try clear hi)))
      go_meet
      case rel => exact ⟨_, (true), (by first | rfl | (simp; done) | (simp [*]; done)), H', ⟨by first | omega | exact Nat.le_refl _⟩, ⟨kk BK244⟩, ⟨hh HB⟩⟩
    · rw [if_neg c7] at H
      have c7b0 : decide (a1 < 0) = false := decide_eq_false c7
      clear c7
      (first | rw [c7b0] | (simp only [i64_w, i32_w]; rw [c7b0]) | skip)
      have H' := aM H
      clear H
      have hcz10_0 : w4.cell? ⟨gb244, 0, none⟩ = some (.slice A0_0 l0_0.length c0_0) := (blk_cell BK244.out 0).trans rfl
      have hfz10_0 := blk_frozen BK244.out 0
      go_wp2_with (first | ((with_reducible refine gate_callee (f := 39) rfl ?_); refine gL (some 9) rfl rfl Try.func39 (by kernel_rfl) rfl #[.agg #[.slice A0_0 l0_0.length c0_0]] rfl ?_; (with_reducible refine (graph_valid.calls k _ _ l0_0 true _ ?side1 ?side2 A5.out).mono ?_); (case side1 => exact cb HR0_0 HB); (case side2 => exact HC0_0.out); rintro e w11 ⟨rfl, hb⟩; refine ⟨_, rfl, ?_⟩; replace BK244 := kb BK244 hb; replace HB := bs HB hb; (try clear hb); (try clear hb2); (try clear hk); (try clear hi); have hcz12_0 : w11.cell? ⟨gb244, 0, none⟩ = some (.slice A0_0 l0_0.length c0_0) := (blk_cell BK244.out 0).trans rfl; have hfz12_0 := blk_frozen BK244.out 0))
      go_meet
      case rel => exact ⟨_, (decide (a1 ≥ (l0_0.length : Int))), (by first | rfl | (simp; done) | (simp [*]; done)), H', ⟨by first | omega | exact Nat.le_refl _⟩, ⟨kk BK244⟩, ⟨hh HB⟩⟩
  · replace c6 := Bool.eq_false_iff.mpr c6
    subst c6
    have H1 : (graph_Reach.j0 k a1 true l0_0) = some r := by rw [if_neg (show ¬ (false = true) by decide)] at H; exact H
    clear H
    have H := H1
    clear H1
    have H' := aM H
    clear H
    have hcz13_0 : w4.cell? ⟨gb244, 0, none⟩ = some (.slice A0_0 l0_0.length c0_0) := (blk_cell BK244.out 0).trans rfl
    have hfz13_0 := blk_frozen BK244.out 0
    go_wp2_with (first | ((with_reducible refine gate_callee (f := 39) rfl ?_); refine gL (some 9) rfl rfl Try.func39 (by kernel_rfl) rfl #[.agg #[.slice A0_0 l0_0.length c0_0]] rfl ?_; (with_reducible refine (graph_valid.calls k _ _ l0_0 false _ ?side1 ?side2 A5.out).mono ?_); (case side1 => exact cb HR0_0 HB); (case side2 => exact HC0_0.out); rintro e w14 ⟨rfl, hb⟩; refine ⟨_, rfl, ?_⟩; replace BK244 := kb BK244 hb; replace HB := bs HB hb; (try clear hb); (try clear hb2); (try clear hk); (try clear hi)))
    go_meet
    case rel => exact ⟨_, (true), (by first | rfl | (simp; done) | (simp [*]; done)), H', ⟨by first | omega | exact Nat.le_refl _⟩, ⟨kk BK244⟩, ⟨hh HB⟩⟩
 case rest =>
  clear HC3
  try clear p2
  try clear c3
  try clear c4
  try clear c6
  try clear c7
  try clear c7b0
  try clear hcz10_0
  try clear hcz12_0
  try clear hcz13_0
  try clear hcz8_0
  try clear hfz10_0
  try clear hfz12_0
  try clear hfz13_0
  try clear hfz8_0
  obtain ⟨kq, x21_2, rfl, HA, HJ2, BK244, HB⟩ := hcut
  cases kq with
  | zero => exact absurd HA.out (by simp [graph_Reach.j0])
  | succ kj2 =>
   have H := HA.out
   clear HA
   simp only [graph_Reach.j0] at H
   by_cases c15 : x21_2 = true
   · subst c15
     have H1 : (some ([] : List Int)) = some r := by rw [if_pos rfl] at H; exact H
     clear H
     have H := H1
     clear H1
     obtain rfl := Option.some.inj H
     go_wp2
     go_ret
     exact ⟨_, by first | rfl | (simp [errW_none, errW_some] <;> rfl) | (simp [*, errW_none, errW_some] <;> rfl), by first | exact Kd.R_nil _ _ _ _ _ | exact Kd.N_nil _ _ _ _ _ | exact Kd.V_nil _ _ _ _ _ | exact Kd.Q_nil _ _ _ _ _ | exact Kd.S_nil _ _ _ _ _, hh HB⟩
   · replace c15 := Bool.eq_false_iff.mpr c15
     subst c15
     have H1 : ((graph_reached.f kj2 l0_0 (([a1] : List Int))).bind fun t249 => (graph_Reach.l0 kj2 ([] : List Int) t249 (t249.length : Int) 0)) = some r := by rw [if_neg (show ¬ (false = true) by decide)] at H; exact H
     clear H
     have H := H1
     clear H1
     obtain ⟨y246, hy246⟩ : ∃ y_ : List Int, y_ = (([a1] : List Int)) := ⟨_, rfl⟩
     replace H : ((graph_reached.f kj2 l0_0 y246).bind fun t249 => (graph_Reach.l0 kj2 ([] : List Int) t249 (t249.length : Int) 0)) = some r := by first | (rw [hy246]; with_reducible exact H) | (have H2_ := (Option.bind_some _ _).symm.trans H; rw [hy246]; with_reducible exact H2_) | (have H2_ := (Option.bind_some _ _).symm.trans H; with_reducible exact H2_) | with_reducible exact H | (rw [hy246]; exact H) | exact H
     have Ny246 := aM hy246
     clear hy246
     replace H := Option.bind_eq_some_iff.mp H
     obtain ⟨t249, A160, H⟩ := H
     replace H : (graph_Reach.l0 kj2 ([] : List Int) t249 (t249.length : Int) 0) = some r := H
     have A16 := aM A160
     clear A160
     have H' := aM H
     clear H
     have hcz17_0 : wc.cell? ⟨gb244, 0, none⟩ = some (.slice A0_0 l0_0.length c0_0) := (blk_cell BK244.out 0).trans rfl
     have hfz17_0 := blk_frozen BK244.out 0
     go_wp2_with (first | ((with_reducible refine gate_dst (N := 25) rfl ?_); (try (refine gate_guard (by rfl) ?_; dsimp only)); refine Kd.R_lit (Kd.int .i64) _ 3 ?hg (N := 25) ?hd (xs := ([a1] : List Int)) (inner := [.int .i64 a1]) (ok := fun _ => True) (okp := fun _ => True) ?hr ?hp (fun _ hk => hk) trivial (Below.refl _ _) (Nat.le_refl _) (by simp) ?_; (case hd => rfl); (case hg => rfl); (case hr => first | (go_simp; done) | (go_simp; rfl)); (case hp => exact (Reps.one (show Kd.M (Kd.int .i64) _ _ _ a1 [.int .i64 a1] from rfl) (Reps.none _ _))); intro v247 w18 ho19 hb hg_ hnew_; clear hg_ hnew_; (first | rw [← Ny246.out] at ho19 | (simp only [Int.reduceToNat] at ho19; rw [← Ny246.out] at ho19)); have HO248 := aM (Kd.R_lower ho19 (below_size (hh HB))); replace BK244 := kb BK244 hb; replace HB := bs HB hb; clear hb ho19; obtain ⟨Ao20, co20, eo20⟩ := Kd.R_slice HO248.out; subst eo20) | ((with_reducible refine gate_callee (f := 58) rfl ?_); refine gL (some 26) rfl rfl Try.func58 (by kernel_rfl) rfl #[.slice A0_0 l0_0.length c0_0, .slice Ao20 y246.length co20] rfl ?_; (with_reducible refine (graph_reached.calls kj2 _ _ l0_0 _ _ y246 t249 _ ?side1 ?side2 ?side3 ?side4 A16.out).mono ?_); (case side1 => exact cb HR0_0 HB); (case side2 => exact HC0_0.out); (case side3 => exact cr HO248); (case side4 => exact (Kd.R_reads' HO248.out).2.1); rintro e w21 ⟨v250, rfl, ho0, hb⟩; refine ⟨_, rfl, ?_⟩; have HO251 := aM (Kd.R_lower ho0 (below_size (hh HB))); replace HO248 := rb HO248 hb; replace BK244 := kb BK244 hb; replace HB := bs HB hb; (try clear hb); (try clear hb2); (try clear hk); (try clear hi); (try clear ho0); obtain ⟨Ao22, co22, eo22⟩ := Kd.R_slice HO251.out; subst eo22))
     go_loopg [5, 28] kj2 (fun kq v5 v28 w' => ∃ (x5_2 : List Int) (x28_2 : Int), v28 = .int .i64 x28_2 ∧ Aside0 (graph_Reach.l0 kq x5_2 t249 (t249.length : Int) x28_2 = some r) ∧ Aside0 (kq ≤ kj2) ∧ Aside0 (Kd.R (Kd.int .i64) 3 w' w.heap.size (fun _ => True) v5 x5_2) ∧ Aside0 (Kd.R Kd.bool 4 w' w.heap.size (fun _ => True) (.slice Ao22 t249.length co22) t249) ∧ Aside0 (w'.heap[gb244]? = some (.cells #[(.slice A0_0 l0_0.length c0_0)] 49 (0, 0))) ∧ Aside0 (Below w.heap.size w w'))
     case atStart => exact ⟨(([] : List Int)), (0), (by first | rfl | (simp; done) | (simp [*]; done)), H', ⟨Nat.le_refl _⟩, ⟨by first | exact Kd.R_nil _ _ _ _ _ | exact Kd.N_nil _ _ _ _ _ | exact Kd.V_nil _ _ _ _ _ | exact Kd.Q_nil _ _ _ _ _ | exact Kd.S_nil _ _ _ _ _⟩, ⟨rk HO251⟩, ⟨kk BK244⟩, ⟨hh HB⟩⟩
     case round =>
      clear H'
      try clear c1
      try clear p2
      try clear c3
      try clear c4
      try clear c5
      try clear c6
      try clear c7
      try clear c7b0
      try clear c15
      try clear hcz10_0
      try clear hcz12_0
      try clear hcz13_0
      try clear hcz17_0
      try clear hcz8_0
      try clear hfz10_0
      try clear hfz12_0
      try clear hfz13_0
      try clear hfz17_0
      try clear hfz8_0
      try clear p2
      obtain ⟨x5_2, x28_2, rfl, HA, HK2, HO_5, HO_26, BK244, HB⟩ := hrel
      cases gk with
      | zero => exact absurd HA.out (by simp [graph_Reach.l0])
      | succ k2 =>
       have H := HA.out
       clear HA
       simp only [graph_Reach.l0] at H
       by_cases c23 : x28_2 < (t249.length : Int)
       · rw [if_pos c23] at H
         have c23b0 : decide (x28_2 < (t249.length : Int)) = true := decide_eq_true c23
         clear c23
         by_cases c24 : 0 ≤ x28_2
         · rw [if_pos c24] at H
           have c24b0 : decide (0 ≤ x28_2) = true := decide_eq_true c24
           clear c24
           by_cases c25 : x28_2 < (t249.length : Int)
           · rw [if_pos c25] at H
             have c25b0 : decide (x28_2 < (t249.length : Int)) = true := decide_eq_true c25
             clear c25
             obtain ⟨bq26, hbq26⟩ : ∃ b_ : Bool, b_ = (rdOf false t249 x28_2) := ⟨_, rfl⟩
             replace H : (if bq26 = true then (if x5_2.length < 17592186044416 then (graph_Reach.l0 k2 (x5_2 ++ [x28_2]) t249 (t249.length : Int) (wrap64 (x28_2 + 1))) else (none)) else (graph_Reach.l0 k2 x5_2 t249 (t249.length : Int) (wrap64 (x28_2 + 1)))) = some r := by rw [← hbq26] at H; exact H
             have Nbq26 := aM hbq26
             clear hbq26
             by_cases c27 : bq26 = true
             · subst c27
               have H1 : (if x5_2.length < 17592186044416 then (graph_Reach.l0 k2 (x5_2 ++ [x28_2]) t249 (t249.length : Int) (wrap64 (x28_2 + 1))) else (none)) = some r := by rw [if_pos rfl] at H; exact H
               clear H
               have H := H1
               clear H1
               by_cases c28 : x5_2.length < 17592186044416
               · rw [if_pos c28] at H
                 have LMc28 := aM c28
                 clear c28
                 obtain ⟨y253, hy253⟩ : ∃ y_ : List Int, y_ = (x5_2 ++ [x28_2]) := ⟨_, rfl⟩
                 replace H : (graph_Reach.l0 k2 y253 t249 (t249.length : Int) (wrap64 (x28_2 + 1))) = some r := by first | (rw [hy253]; with_reducible exact H) | (have H2_ := (Option.bind_some _ _).symm.trans H; rw [hy253]; with_reducible exact H2_) | (have H2_ := (Option.bind_some _ _).symm.trans H; with_reducible exact H2_) | with_reducible exact H | (rw [hy253]; exact H) | exact H
                 have Ny253 := aM hy253
                 clear hy253
                 have H' := aM H
                 clear H
                 have p252 : 0 ≤ (x28_2 : Int) := dt
                 have q252 : x28_2 < (t249.length : Int) := dt
                 obtain ⟨ad252, e252, hx252_0⟩ := Kd.at_bool (Kd.R_reads' HO_26.out).2.2 x28_2 p252 q252
                 (try rw [← Nbq26.out] at hx252_0)
                 cases e252
                 replace p252 := eq_true p252
                 replace q252 := eq_true q252
                 go_wp2_with (first | ((with_reducible refine gate_builtin (b := .append) (xs := #[.tmp 34, .tmp 36]) rfl ?_); (try (refine gate_guard (by rfl) ?_; dsimp only)); at_builtin; refine Kd.R_append (Kd.int .i64) (w0 := w) w.heap.size rfl (.tmp 34) (.tmp 36) 55 3 (.int .i64 0) 8 rfl Try.underlying55 info3 rfl (by decide) (by omega) u5 x5_2 x28_2 [.int .i64 x28_2] (fun _ => True) (fun _ => False) rfl rfl ?aP (fun _ hk => hk.elim) ?aF ?aO ?aB ?aS ?aL ?_; (case aP => exact rfl); (case aB => exact (hh HB)); (case aF => exact (fun _ _ => trivial)); (case aO => exact (rk HO_5)); (case aS => exact (below_size (hh HB))); (case aL => have := LMc28.out; omega); intro v254 w29 ho hb hg hat; rw [← Ny253.out] at ho; have HO255 := aM (ho); replace HO_26 := aM (Kd.R_over' (rk HO_26) (Kd.R_typed (rk HO_5)) (by decide) hg); replace BK244 := aM (blk_grown (g := gb244) (o := .cells #[.slice A0_0 l0_0.length c0_0] 49 (0, 0)) (kk BK244) hg (Kd.R_ne HO_5.out BK244.out (by decide))); replace HB := aM (hb); clear HO_5; clear ho hb hg hat))
                 go_roundg k2
                 case measure => have := HJ2.out; have := HK2.out; omega
                 case rel => exact ⟨(y253), (wrap64 (x28_2 + 1)), (by first | rfl | (simp; done) | (simp [*]; done)), H', ⟨by have := HJ2.out; have := HK2.out; omega⟩, ⟨rk HO255⟩, ⟨rk HO_26⟩, ⟨kk BK244⟩, ⟨hh HB⟩⟩
               · rw [if_neg c28] at H
                 exact absurd H (by simp)
             · replace c27 := Bool.eq_false_iff.mpr c27
               subst c27
               have H1 : (graph_Reach.l0 k2 x5_2 t249 (t249.length : Int) (wrap64 (x28_2 + 1))) = some r := by rw [if_neg (show ¬ (false = true) by decide)] at H; exact H
               clear H
               have H := H1
               clear H1
               have H' := aM H
               clear H
               have p252 : 0 ≤ (x28_2 : Int) := dt
               have q252 : x28_2 < (t249.length : Int) := dt
               obtain ⟨ad252, e252, hx252_0⟩ := Kd.at_bool (Kd.R_reads' HO_26.out).2.2 x28_2 p252 q252
               (try rw [← Nbq26.out] at hx252_0)
               cases e252
               replace p252 := eq_true p252
               replace q252 := eq_true q252
               go_wp2
               go_roundg k2
               case measure => have := HJ2.out; have := HK2.out; omega
               case rel => exact ⟨(x5_2), (wrap64 (x28_2 + 1)), (by first | rfl | (simp; done) | (simp [*]; done)), H', ⟨by have := HJ2.out; have := HK2.out; omega⟩, ⟨rk HO_5⟩, ⟨rk HO_26⟩, ⟨kk BK244⟩, ⟨hh HB⟩⟩
           · rw [if_neg c25] at H
             exact absurd H (by simp)
         · rw [if_neg c24] at H
           exact absurd H (by simp)
       · rw [if_neg c23] at H
         have c23b0 : decide (x28_2 < (t249.length : Int)) = false := decide_eq_false c23
         clear c23
         obtain rfl := Option.some.inj H
         go_wp2
         go_ret
         exact ⟨_, by first | rfl | (simp [errW_none, errW_some] <;> rfl) | (simp [*, errW_none, errW_some] <;> rfl), rk HO_5, hh HB⟩
end Go.Proofs.Ytmadhaccjmakdaa.P
/- modgraph.program.reached. -/
namespace Go.Proofs.Ytmadhaccjmakdaa
open Go.Shelf Go.Lib Go.RowKit Go.Maps Go.Sort Go.Proofs.YtmadhaccjmakdaaW.PrintWords Go.Proofs.YtmadhaccjmakdaaW.PrintLast Go.Proofs.YtmadhaccjmakdaaW.PrintMore
attribute [local go_sem] max2_int min2_int max_two min_two max_three min_three max_four min_four
open P Mg
namespace P
open Classical in
noncomputable def modgraph_reached.f (l0 : List ByteArray) (l1 l2 : List (List Int)) (s : ByteArray) : Option (List ByteArray × Int × ByteArray × Int × Int) :=
 if (l0.map dat).Pairwise (fun a b => a ≤ b) ∧ l0.length ≤ 100 then
  if dat s ∈ l0.map dat then
   (Od.lim fun k => (graph_Reach.f k l2 (rank (l0.map dat) (dat s) : Nat)).bind fun t => modgraph_program_named.f k l0 l1 t).bind fun out => some (out.filter (fun x => !but s x), 0, ⟨#[]⟩, 0, 0)
  else some ([], 16, s, 0, 0)
 else none
end P
namespace Mg
def ReachPost (w : World) (r1 : List ByteArray) (r2 : Int) (r3 : ByteArray) (e : Ending) (w' : World) : Prop :=
 ∃ v0_ : Value, e = .returned (.tuple #[v0_, .agg #[.int .i64 r2, .string r3, .int .i64 0, .int .i64 0]]) ∧ Kd.R Kd.string 9 w' w.heap.size (fun _ => True) v0_ r1 ∧ Below w.heap.size w w'
def ReachAll (w : World) (l0 out : List ByteArray) (s : ByteArray) (e : Ending) (w' : World) : Prop := if dat s ∈ l0.map dat then ReachPost w (out.filter (fun x => !but s x)) 0 ⟨#[]⟩ e w' else ReachPost w [] 16 s e w'
def fst28 (w : World) (g : Nat) (c : Int) (x : ByteArray) : World := (((w.setCell ⟨g, 0, none⟩ (.int .i64 c)).setCell ⟨g, 1, none⟩ (.string x)).setCell ⟨g, 2, none⟩ (.int .i64 0)).setCell ⟨g, 3, none⟩ (.int .i64 0)
theorem fst28_f {w : World} {g : Nat} (h : w.heap[g]? = some (Obj.cells #[Value.int .i64 0, Value.string ⟨#[]⟩, Value.int .i64 0, Value.int .i64 0] 28 (0, 0))) (c : Int) (x : ByteArray) : (fst28 w g c x).heap[g]? = some (Obj.cells #[.int .i64 c, .string x, .int .i64 0, .int .i64 0] 28 (0, 0)) :=
 blk_put (blk_put (blk_put (blk_put h 0 _ rfl) 1 _ rfl) 2 _ rfl) 3 _ rfl
theorem fst28_below {w W : World} {B g : Nat} (h : Below B w W) (hg : B ≤ g) (c : Int) (x : ByteArray) : Below B w (fst28 W g c x) := by
 unfold fst28
 exact (((h.setCell hg _).setCell hg _).setCell hg _).setCell hg _
theorem fst28_heap (w : World) (g : Nat) (c : Int) (x : ByteArray) (k : Nat) (h : k ≠ g) : (fst28 w g c x).heap[k]? = w.heap[k]? := by
 unfold fst28
 rw [Below.heap_setCell _ _ _ k h, Below.heap_setCell _ _ _ k h, Below.heap_setCell _ _ _ k h, Below.heap_setCell _ _ _ k h]
set_option maxRecDepth 100000 in
set_option maxHeartbeats 8000000 in
theorem reached_walk (k : Nat) (A0 : Option Addr) (c0 : Nat) (l0 : List ByteArray) (A1 : Option Addr) (c1 : Nat) (l1 : List (List Int)) (A2 : Option Addr) (c2 : Nat) (l2 : List (List Int)) (s : ByteArray) (w : World)
 (hr0 : Kd.C Kd.string w A0 l0.length l0) (hA0 : PlainA A0) (hc0 : l0.length ≤ c0) (hr1 : Kd.C (Kd.slice 3 (Kd.int .i64)) w A1 l1.length l1) (hc1 : l1.length ≤ c1) (hr2 : Kd.C (Kd.slice 3 (Kd.int .i64)) w A2 l2.length l2) (hc2 : l2.length ≤ c2)
 (hp : (l0.map dat).Pairwise (fun a b => a ≤ b)) (hl : l0.length ≤ 100) (t : List Int) (out : List ByteArray)
 (h : dat s ∈ l0.map dat → graph_Reach.f k l2 (rank (l0.map dat) (dat s) : Nat) = some t ∧ modgraph_program_named.f k l0 l1 t = some out) :
 Calls Try.prog 31 #[.agg #[.slice A0 l0.length c0, .slice A1 l1.length c1], .agg #[.slice A2 l2.length c2], .string s] w (ReachAll w l0 out s) := by
 have hu51 := Try.underlying51
 have hu49 := Try.underlying49
 have hu28 := Try.underlying28
 have HR0 := Aside0.mk hr0
 have HA0 := Aside0.mk hA0
 have HC0 := Aside0.mk hc0
 have HR1 := Aside0.mk hr1
 have HC1 := Aside0.mk hc1
 have HR2 := Aside0.mk hr2
 have HC2 := Aside0.mk hc2
 have HP := Aside0.mk hp
 have HL := Aside0.mk hl
 have H := Aside0.mk h
 clear hr0 hA0 hc0 hr1 hc1 hr2 hc2 hp hl h
 go_enter Try.func31, Try.ntmps31
 go_upto_region 1 with fail
 obtain ⟨o1, ho1⟩ : ∃ o, o = Obj.cells #[Value.slice A0 l0.length c0, Value.slice A1 l1.length c1] 51 (0, 0) := ⟨_, rfl⟩
 obtain ⟨o2, ho2⟩ : ∃ o, o = Obj.cells #[Value.slice A2 l2.length c2] 49 (0, 0) := ⟨_, rfl⟩
 obtain ⟨o3, ho3⟩ : ∃ o, o = Obj.cells #[Value.string s] 9 (0, 0) := ⟨_, rfl⟩
 obtain ⟨o4, ho4⟩ : ∃ o, o = Obj.cells #[Value.int .i64 0, Value.string ⟨#[]⟩, Value.int .i64 0, Value.int .i64 0] 28 (0, 0) := ⟨_, rfl⟩
 have b1 := (MapKept.heap_alloc w o1).1
 have z1 : (w.alloc o1).heap.size = w.heap.size + 1 := by simp
 have b2 := (MapKept.heap_alloc (w.alloc o1) o2).1
 have z2 : ((w.alloc o1).alloc o2).heap.size = w.heap.size + 1 + 1 := by simp
 have b3 := (MapKept.heap_alloc ((w.alloc o1).alloc o2) o3).1
 have z3 : (((w.alloc o1).alloc o2).alloc o3).heap.size = w.heap.size + 1 + 1 + 1 := by simp
 have b4 := (MapKept.heap_alloc (((w.alloc o1).alloc o2).alloc o3) o4).1
 have z4 : ((((w.alloc o1).alloc o2).alloc o3).alloc o4).heap.size = w.heap.size + 1 + 1 + 1 + 1 := by simp
 have f1 := blk_alloc (blk_alloc (blk_alloc b1 o2) o3) o4
 rw [z1] at b2
 have f2 := blk_alloc (blk_alloc b2 o3) o4
 rw [z2] at b3
 have f3 := blk_alloc b3 o4
 rw [z3] at b4
 have hb := below_alloc (below_alloc (below_alloc (below_alloc (Below.refl w.heap.size w) o1) o2) o3) o4
 rw [← ho1, ← ho2, ← ho3, ← ho4]
 clear b1 b2 b3 z1 z2 z3
 generalize (((w.alloc o1).alloc o2).alloc o3).alloc o4 = w4 at *
 rw [ho1] at f1
 rw [ho2] at f2
 rw [ho3] at f3
 rw [ho4] at b4
 have F1 := Aside0.mk f1
 have F2 := Aside0.mk f2
 have F3 := Aside0.mk f3
 have F4 := Aside0.mk b4
 have HB := Aside0.mk hb
 have Z4 := Aside0.mk z4
 clear f1 f2 f3 b4 z4 hb ho1 ho2 ho3 ho4 o1 o2 o3 o4
 have HN4 := Aside0.mk (Kd.C_below HR0.out HB.out)
 have c1a := blk_cell F1.out 0
 have c3a := blk_cell F3.out 0
 by_cases hm : dat s ∈ l0.map dat
 · have HT := Aside0.mk (H.out hm)
   have HM := Aside0.mk hm
   have hdm := decide_eq_true hm
   generalize hrk : rank (l0.map dat) (dat s) = n at *
   clear hm
   go_upto_region 4 with (go_at_call 42; (refine (search2 _ _ _ l0 s HN4.out HA0.out HP.out HL.out).mono ?_); rintro e w5 ⟨he, hd⟩; rw [hdm, hrk] at he; subst he; have HD := Aside0.mk hd; clear hd)
   clear hrk hdm c1a c3a
   have hd5 := HD.out.below
   have hb5 : Below w.heap.size w w5 := HB.out.trans (hd5.mono HB.out.size)
   have G1 := Aside0.mk (blk_below F1.out hd5)
   have G2 := Aside0.mk (blk_below F2.out hd5)
   have G3 := Aside0.mk (blk_below F3.out hd5)
   have G4 := Aside0.mk (blk_below F4.out hd5)
   have HB5 := Aside0.mk hb5
   have HR05 := Aside0.mk (Kd.C_below HR0.out hb5)
   have HR15 := Aside0.mk (Kd.C_below HR1.out hb5)
   have HR25 := Aside0.mk (Kd.C_below HR2.out hb5)
   have c1a := blk_cell G1.out 0
   have c1b := blk_cell G1.out 1
   have c2a := blk_cell G2.out 0
   clear hd5 hb5
   go_region_with (first | (go_at_call 43; (refine (graph_Reach.calls k _ _ l2 n t _ ?s1 HC2.out HT.out.1).mono ?_); (case s1 => repeat (first | exact HR25.out | (with_reducible refine Kd.C_alloc ?_ _) | (with_reducible refine Kd.C_drewN ?_ _) | (with_reducible refine Kd.C_drew ?_))); rintro e w6 ⟨v6, rfl, hr6, hb6⟩; obtain ⟨A6, c6, rfl⟩ := Kd.R_slice hr6; have HB6 : Aside0 (Below w5.heap.size w5 w6) := ⟨by first | exact hb6 | exact below_step (below_drew (Below.refl _ _)) hb6 | exact below_step (pw_below_drewN (Below.refl _ _) _) hb6 | exact below_step (below_drew (below_drew (Below.refl _ _))) hb6⟩; have HR6 := Aside0.mk hr6; have c1a6 := blk_cell (blk_below G1.out HB6.out) 0; have c1b6 := blk_cell (blk_below G1.out HB6.out) 1; clear hr6 hb6 c1a c1b c2a) | (go_at_call 26; (refine (modgraph_program_named.calls k _ _ l0 _ _ l1 _ _ t out _ ?s1 HC0.out ?s2 HC1.out ?s3 (Kd.R_reads' HR6.out).2.1 HT.out.2).mono ?_); (case s1 => repeat (first | exact (Kd.C_below HR05.out HB6.out) | (with_reducible refine Kd.C_alloc ?_ _) | (with_reducible refine Kd.C_drewN ?_ _) | (with_reducible refine Kd.C_drew ?_))); (case s2 => repeat (first | exact (Kd.C_below HR15.out HB6.out) | (with_reducible refine Kd.C_alloc ?_ _) | (with_reducible refine Kd.C_drewN ?_ _) | (with_reducible refine Kd.C_drew ?_))); (case s3 => repeat (first | exact (Kd.R_reads' HR6.out).2.2 | (with_reducible refine Kd.C_alloc ?_ _) | (with_reducible refine Kd.C_drewN ?_ _) | (with_reducible refine Kd.C_drew ?_))); rintro e w7 ⟨v7, rfl, hr7, hb7⟩; obtain ⟨A7, c7, rfl⟩ := Kd.R_slice hr7; have HR7 := Aside0.mk hr7; have HB7 : Aside0 (Below w6.heap.size w6 w7) := ⟨by first | exact hb7 | exact below_step (below_drew (Below.refl _ _)) hb7 | exact below_step (pw_below_drewN (Below.refl _ _) _) hb7 | exact below_step (below_drew (below_drew (Below.refl _ _))) hb7⟩; clear hr7 hb7))
   all_goals
    have hb6 := HB6.out
    have hb7 := HB7.out
    have hs6 := hb6.size
    have hs7 := hb7.size
    have hs5 := HD.out.below.size
    have hz4 := Z4.out
    have hlt : w.heap.size + 1 + 1 < w6.heap.size := by omega
    have hle : w6.heap.size ≤ w7.heap.size := hs7
    have c3 : w7.cell? ⟨w.heap.size + 1 + 1, 0, none⟩ = some (.string s) := blk_cell (blk_below (blk_below G3.out hb6) hb7) 0
    have hf7 := blk_below (blk_below G4.out hb6) hb7
    have HF7 := Aside0.mk hf7
    have hbw : Below w.heap.size w w7 := (HB5.out.trans (hb6.mono HB5.out.size)).trans (hb7.mono (by have := HB5.out.size; omega))
    have HBW := Aside0.mk hbw
    have HLT := Aside0.mk (show w.heap.size + 1 + 1 + 1 < w6.heap.size by omega)
    clear hb6 hb7 hs6 hs7 hs5 hz4 hf7 hbw c1a6 c1b6
   all_goals go_wp2_with (first | (go_at_call 44; (refine (del_any _ w6.heap.size (w.heap.size + 1 + 1) out s _ ?s1 hlt ?s3 ?s4).mono ?_); (case s1 => repeat (first | exact HR7.out | (with_reducible refine Kd.R_alloc ?_ _) | (with_reducible refine Kd.R_drewN ?_ _) | (with_reducible refine Kd.R_drew ?_))); (case s3 => first | exact hle | (simp; exact hle)); (case s4 => first | exact c3 | (simp; exact c3)); rintro e w8 ⟨v8, rfl, hr8, hb8⟩; have HR8 := Aside0.mk hr8; have HB8 : Aside0 (Below w6.heap.size w7 w8) := ⟨by first | exact hb8 | exact (below_drew (Below.refl _ _)).trans hb8⟩; have hf8 := (HB8.out.block _ HLT.out).trans HF7.out; have HF8 := Aside0.mk hf8; have y0 := blk_cell hf8 0; have y1 := blk_cell hf8 1; have y2 := blk_cell hf8 2; have y3 := blk_cell hf8 3; have e0 := blk_frozen hf8 0; have e1 := blk_frozen hf8 1; have e2 := blk_frozen hf8 2; have e3 := blk_frozen hf8 3; clear hr8 hb8 hf8 hlt hle c3))
   all_goals
    refine bodyPost_ret (results_tc rfl _ _ (w.heap.size + 1 + 1 + 1) 28 #[.int .i64 0, .string ⟨#[]⟩, .int .i64 0, .int .i64 0] (0, 0) _ rfl (by first | exact fst28_f HF8.out 0 ⟨#[]⟩ | exact blk_drew (fst28_f HF8.out 0 ⟨#[]⟩) | exact fst28_f (blk_drew HF8.out) 0 ⟨#[]⟩) Try.underlying28 rfl hi28) rfl ?_
    show ReachAll _ _ _ _ _ _
    unfold ReachAll
    rw [if_pos HM.out]
    have hw6 : w.heap.size ≤ w6.heap.size := by have := HLT.out; omega
    have hlt3 := HLT.out
    refine ⟨_, rfl, ?_, by first | exact fst28_below (HBW.out.trans (HB8.out.mono hw6)) (by omega) 0 ⟨#[]⟩ | exact below_drew (fst28_below (HBW.out.trans (HB8.out.mono hw6)) (by omega) 0 ⟨#[]⟩)⟩
    refine Kd.R_lower ?_ hw6
    first
     | exact Kd.R_mono (Kd.R_move (Kd.R_bound HR8.out) (fun k hk => fst28_heap w8 _ 0 ⟨#[]⟩ k (by have := hk.2.1; omega))) (fun _ _ => trivial)
     | exact Kd.R_drew (Kd.R_mono (Kd.R_move (Kd.R_bound HR8.out) (fun k hk => fst28_heap w8 _ 0 ⟨#[]⟩ k (by have := hk.2.1; omega))) (fun _ _ => trivial))
 · have hdm := decide_eq_false hm
   have HM := Aside0.mk hm
   generalize hrk : rank (l0.map dat) (dat s) = n at *
   clear hm
   go_upto_region 3 with (go_at_call 42; (refine (search2 _ _ _ l0 s HN4.out HA0.out HP.out HL.out).mono ?_); rintro e w5 ⟨he, hd⟩; rw [hdm, hrk] at he; subst he; have HD := Aside0.mk hd; clear hd)
   clear hrk hdm c1a c3a
   have hd5 := HD.out.below
   have hb5 : Below w.heap.size w w5 := HB.out.trans (hd5.mono HB.out.size)
   have HB5 := Aside0.mk hb5
   have G3 := blk_below F3.out hd5
   have G4 := blk_below F4.out hd5
   have HF8 := Aside0.mk G4
   have c3a := blk_cell G3 0
   have y0 := blk_cell G4 0
   have y1 := blk_cell G4 1
   have y2 := blk_cell G4 2
   have y3 := blk_cell G4 3
   have e0 := blk_frozen G4 0
   have e1 := blk_frozen G4 1
   have e2 := blk_frozen G4 2
   have e3 := blk_frozen G4 3
   clear hd5 hb5 G3 G4
   go_region
   all_goals go_wp2
   all_goals
    refine bodyPost_ret (results_tc rfl _ _ (w.heap.size + 1 + 1 + 1) 28 #[.int .i64 16, .string s, .int .i64 0, .int .i64 0] (0, 0) _ rfl (by first | exact fst28_f HF8.out 16 s | exact blk_drew (fst28_f HF8.out 16 s) | exact fst28_f (blk_drew HF8.out) 16 s) Try.underlying28 rfl hi28) rfl ?_
    show ReachAll _ _ _ _ _ _
    unfold ReachAll
    rw [if_neg HM.out]
    exact ⟨_, rfl, Kd.R_nil _ _ _ _ _, by first | exact fst28_below HB5.out (by omega) 16 s | exact below_drew (fst28_below HB5.out (by omega) 16 s) | exact fst28_below (below_drew HB5.out) (by omega) 16 s⟩
end Mg
namespace P
theorem modgraph_reached.calls (A0_0 : Option Addr) (c0_0 : Nat) (l0_0 : List ByteArray) (A0_1 : Option Addr) (c0_1 : Nat) (l0_1 : List (List Int)) (A1_0 : Option Addr) (c1_0 : Nat) (l1_0 : List (List Int)) (a2 : ByteArray) (r1 : List ByteArray) (r2 : Int) (r3 : ByteArray) (r4 r5 : Int) (w : World)
 (hr0_0 : Kd.C Kd.string w A0_0 l0_0.length l0_0 ∧ PlainA A0_0) (hc0_0 : l0_0.length ≤ c0_0) (hr0_1 : Kd.C (Kd.slice 3 (Kd.int .i64)) w A0_1 l0_1.length l0_1) (hc0_1 : l0_1.length ≤ c0_1) (hr1_0 : Kd.C (Kd.slice 3 (Kd.int .i64)) w A1_0 l1_0.length l1_0) (hc1_0 : l1_0.length ≤ c1_0) (h : modgraph_reached.f l0_0 l0_1 l1_0 a2 = some (r1, r2, r3, r4, r5)) :
 Calls Try.prog 31 #[.agg #[.slice A0_0 l0_0.length c0_0, .slice A0_1 l0_1.length c0_1], .agg #[.slice A1_0 l1_0.length c1_0], .string a2] w fun e w' => ∃ v0_ : Value, e = .returned (.tuple #[v0_, .agg #[.int .i64 r2, .string r3, .int .i64 r4, .int .i64 r5]]) ∧ Kd.R Kd.string 9 w' w.heap.size (fun _ => True) v0_ r1 ∧ Below w.heap.size w w' := by
 unfold modgraph_reached.f at h
 by_cases hg : (l0_0.map dat).Pairwise (fun a b => a ≤ b) ∧ l0_0.length ≤ 100
 · rw [if_pos hg] at h
   by_cases hm : dat a2 ∈ l0_0.map dat
   · rw [if_pos hm] at h
     obtain ⟨out, hout, h⟩ := Option.bind_eq_some_iff.mp h
     simp only [Option.some.injEq, Prod.mk.injEq] at h
     obtain ⟨rfl, rfl, rfl, rfl, rfl⟩ := h
     obtain ⟨k0, hk0⟩ := Od.lim_some hout
     obtain ⟨t, ht1, ht2⟩ := Option.bind_eq_some_iff.mp (hk0 k0 (Nat.le_refl _))
     refine (reached_walk k0 A0_0 c0_0 l0_0 A0_1 c0_1 l0_1 A1_0 c1_0 l1_0 a2 w hr0_0.1 hr0_0.2 hc0_0 hr0_1 hc0_1 hr1_0 hc1_0 hg.1 hg.2 t out (fun _ => ⟨ht1, ht2⟩)).mono fun e w' hw => ?_
     unfold ReachAll at hw
     rw [if_pos hm] at hw
     exact hw
   · rw [if_neg hm] at h
     simp only [Option.some.injEq, Prod.mk.injEq] at h
     obtain ⟨rfl, rfl, rfl, rfl, rfl⟩ := h
     refine (reached_walk 0 A0_0 c0_0 l0_0 A0_1 c0_1 l0_1 A1_0 c1_0 l1_0 a2 w hr0_0.1 hr0_0.2 hc0_0 hr0_1 hc0_1 hr1_0 hc1_0 hg.1 hg.2 [] [] (fun hx => absurd hx hm)).mono fun e w' hw => ?_
     unfold ReachAll at hw
     rw [if_neg hm] at hw
     exact hw
 · rw [if_neg hg] at h
   cases h
end P
end Go.Proofs.Ytmadhaccjmakdaa
namespace Go.Proofs.Ytmadhaccjmakdaa.P
open Go.RowKit Go.Proofs.YtmadhaccjmakdaaW.PrintWords Go.Proofs.YtmadhaccjmakdaaW.PrintLast Go.Proofs.YtmadhaccjmakdaaW.PrintMore
attribute [local go_sem] str_gtr str_leq str_geq max2_int min2_int max_two min_two max_three min_three max_four min_four
noncomputable def modgraph_Needs.f (k : Nat) (l0 : List (S42)) (a1 : ByteArray) : Option (List ByteArray × Int × ByteArray × Int × Int) := (modgraph_acyclic.f k l0).bind fun bt257 => (if bt257.2.2.1 = 0 then ((modgraph_reached.f bt257.1 bt257.2.1 bt257.2.1 a1).bind fun bt269 => (some (bt269.1, bt269.2.1, bt269.2.2.1, bt269.2.2.2.1, bt269.2.2.2.2))) else (some (([] : List ByteArray), bt257.2.2.1, bt257.2.2.2.1, bt257.2.2.2.2.1, bt257.2.2.2.2.2)))
set_option maxHeartbeats 8000000 in
set_option maxRecDepth 100000 in
theorem modgraph_Needs.calls (k : Nat) (A0 : Option Addr) (c0 : Nat) (l0 : List (S42)) (a1 : ByteArray) (r1 : List ByteArray) (r2 : Int) (r3 : ByteArray) (r4 : Int) (r5 : Int) (w : World) (hr0 : Kd.C k42 w A0 l0.length l0) (hc0 : l0.length ≤ c0) (h : modgraph_Needs.f k l0 a1 = some (r1, r2, r3, r4, r5)) :
 Calls Try.prog 15 #[.slice A0 l0.length c0, .string a1] w fun e w' => ∃ v0_ : Value, e = .returned (.tuple #[v0_, .agg #[.int .i64 r2, .string r3, .int .i64 r4, .int .i64 r5]]) ∧ Kd.R Kd.string 9 w' w.heap.size (fun _ => True) v0_ r1 ∧ Below w.heap.size w w' := by
 have hu28 := Try.underlying28
 have hu51 := Try.underlying51
 have hu49 := Try.underlying49
 have HR0 := aM hr0
 have HC0 := aM hc0
 clear hr0 hc0
 have HB := aM (Below.refl w.heap.size w)
 have H : ((modgraph_acyclic.f k l0).bind fun bt257 => (if bt257.2.2.1 = 0 then ((modgraph_reached.f bt257.1 bt257.2.1 bt257.2.1 a1).bind fun bt269 => (some (bt269.1, bt269.2.1, bt269.2.2.1, bt269.2.2.2.1, bt269.2.2.2.2))) else (some (([] : List ByteArray), bt257.2.2.1, bt257.2.2.2.1, bt257.2.2.2.2.1, bt257.2.2.2.2.2)))) = some (r1, r2, r3, r4, r5) := h
 clear h
 replace H := Option.bind_eq_some_iff.mp H
 obtain ⟨⟨t257, t260, t263, t264, t265, t266⟩, A30, H⟩ := H
 replace H : (if t263 = 0 then ((modgraph_reached.f t257 t260 t260 a1).bind fun bt269 => (some (bt269.1, bt269.2.1, bt269.2.2.1, bt269.2.2.2.1, bt269.2.2.2.2))) else (some (([] : List ByteArray), t263, t264, t265, t266))) = some (r1, r2, r3, r4, r5) := H
 have A3 := aM A30
 clear A30
 by_cases c4 : t263 = 0
 · rw [if_pos c4] at H
   have c4b0 : (t263 == 0) = true := beq_iff_eq.mpr c4
   have c4b1 : (t263 != 0) = false := bne_eq_false_iff_eq.mpr c4
   clear c4
   replace H := Option.bind_eq_some_iff.mp H
   obtain ⟨⟨t269, t272, t273, t274, t275⟩, A50, H⟩ := H
   replace H : (some (t269, t272, t273, t274, t275)) = some (r1, r2, r3, r4, r5) := H
   have A5 := aM A50
   clear A50
   simp only [Option.some.injEq, Prod.mk.injEq] at H
   obtain ⟨rfl, rfl, rfl, rfl, rfl⟩ := H
   go_enter Try.func15, Try.ntmps15
   go_wp2_with (first | ((with_reducible refine gate_dst (N := 5) rfl ?_); refine box_event ?hg (N := 5) ?hd (cs := #[.int .i64 0, .string (⟨#[]⟩ : ByteArray), .int .i64 0, .int .i64 0]) (t := 28) ?hr ?_; (case hd => rfl); (case hg => rfl); (case hr => first | (go_simp; done) | (go_simp; rfl)); intro gb256 hg w6 hbox hb; have BK256 := aM hbox; have GW256 := gs hg HB; have GE256 := gs hg HB; replace HB := bs HB hb; clear hb hbox hg) | ((with_reducible refine gate_callee (f := 24) rfl ?_); refine gL (some 10) rfl rfl Try.func24 (by kernel_rfl) rfl #[.slice A0 l0.length c0] rfl ?_; (with_reducible refine (modgraph_acyclic.calls k _ _ l0 t257 t260 t263 t264 t265 t266 _ ?side1 ?side2 A3.out).mono ?_); (case side1 => exact cb HR0 HB); (case side2 => exact HC0.out); rintro e w7 ⟨v258, v261, rfl, ho0, ho1, hb⟩; refine ⟨_, rfl, ?_⟩; have HO259 := aM (Kd.R_lower ho0 (below_size (hh HB))); have HO262 := aM (Kd.S_lower ho1 (below_size (hh HB))); replace BK256 := kb BK256 hb; replace HB := bs HB hb; (try clear hb); (try clear hb2); (try clear hk); (try clear hi); (try clear ho0); (try clear ho1)) | ((with_reducible refine gate_dst (N := 6) rfl ?_); refine box_event ?hg (N := 6) ?hd (cs := #[.slice none 0 0, .slice none 0 0]) (t := 51) ?hr ?_; (case hd => rfl); (case hg => rfl); (case hr => first | (go_simp; done) | (go_simp; rfl)); intro gb267 hg w8 hbox hb; have BK267 := aM hbox; have GW267 := gs hg HB; have GE267 := gs hg HB; have NB256_267 := nl hg BK256; have NB267_256 := nr hg BK256; replace HO259 := rb HO259 hb; replace HO262 := sb HO262 hb; replace BK256 := kb BK256 hb; replace HB := bs HB hb; clear hb hbox hg) | ((with_reducible refine gate_dst (N := 7) rfl ?_); refine box_event ?hg (N := 7) ?hd (cs := #[.int .i64 0, .string (⟨#[]⟩ : ByteArray), .int .i64 0, .int .i64 0]) (t := 28) ?hr ?_; (case hd => rfl); (case hg => rfl); (case hr => first | (go_simp; done) | (go_simp; rfl)); intro gb268 hg w9 hbox hb; have BK268 := aM hbox; have GW268 := gs hg HB; have GE268 := gs hg HB; have NB256_268 := nl hg BK256; have NB268_256 := nr hg BK256; have NB267_268 := nl hg BK267; have NB268_267 := nr hg BK267; replace HO259 := rb HO259 hb; replace HO262 := sb HO262 hb; replace BK256 := kb BK256 hb; replace BK267 := kb BK267 hb; replace HB := bs HB hb; clear hb hbox hg; obtain ⟨Ao10, co10, eo10⟩ := Kd.R_slice HO259.out; subst eo10; have hnb11 := NB267_256.out; have hnc11 := NB256_267.out; have hnb12 := NB267_268.out; have hnc12 := NB268_267.out; obtain ⟨hcz13_0, hcz13_1⟩ := cz2 BK267; obtain ⟨hfz13_0, hfz13_1⟩ := fz2 BK267; obtain ⟨Ao14, co14, eo14⟩ := Kd.S_slice HO262.out; subst eo14; have hnb15 := NB268_256.out; have hnc15 := NB256_268.out; obtain ⟨hcz16_0, hcz16_1, hcz16_2, hcz16_3⟩ := cz BK268; obtain ⟨hfz16_0, hfz16_1, hfz16_2, hfz16_3⟩ := fz BK268) | ((with_reducible refine gate_callee (f := 31) rfl ?_); refine gL (some 21) rfl rfl Try.func31 (by kernel_rfl) rfl #[.agg #[.slice Ao10 t257.length co10, .slice Ao14 t260.length co14], .agg #[.slice Ao14 t260.length co14], .string a1] rfl ?_; (with_reducible refine (modgraph_reached.calls _ _ t257 _ _ t260 _ _ t260 a1 t269 t272 t273 t274 t275 _ ?side1 ?side2 ?side3 ?side4 ?side5 ?side6 A5.out).mono ?_); (case side1 => refine (Mg.plainR (e := 9) (base := w.heap.size) (ok := fun k_ => True) (n := t257.length) (c := co10) ?_).2.2; exact (by (with_reducible repeat (first | apply Kd.R_alloc | apply Kd.R_drewN | apply Kd.R_drew)); exact (rf24 HO259 BK267 (by decide) BK268 (by decide)))); (case side2 => exact (Kd.R_reads' HO259.out).2.1); (case side3 => refine (Kd.S_reads' (e := 55) (base := w.heap.size) (ok := fun k_ => True) (n := t260.length) (c := co14) ?_).2.2; exact (by (with_reducible repeat (first | apply Kd.S_alloc | apply Kd.S_drewN | apply Kd.S_drew)); exact (sf24 HO262 BK267 (by decide) BK268 (by decide)))); (case side4 => exact (Kd.S_reads' HO262.out).2.1); (case side5 => refine (Kd.S_reads' (e := 55) (base := w.heap.size) (ok := fun k_ => True) (n := t260.length) (c := co14) ?_).2.2; exact (by (with_reducible repeat (first | apply Kd.S_alloc | apply Kd.S_drewN | apply Kd.S_drew)); exact (sf24 HO262 BK267 (by decide) BK268 (by decide)))); (case side6 => exact (Kd.S_reads' HO262.out).2.1); rintro e w17 ⟨v270, rfl, ho0, hb⟩; refine ⟨_, rfl, ?_⟩; have HO271 := aM (Kd.R_lower (Kd.R_new' ho0 (Kd.R_lt (by (with_reducible repeat (first | apply Kd.R_alloc | apply Kd.R_drewN | apply Kd.R_drew)); exact (rf24 HO259 BK267 (by decide) BK268 (by decide))))) (below_size (hh HB))); replace HO259 := aM (Kd.R_elder' (by (with_reducible repeat (first | apply Kd.R_alloc | apply Kd.R_drewN | apply Kd.R_drew)); exact (rf24 HO259 BK267 (by decide) BK268 (by decide))) (Kd.R_base ho0) hb); replace HO262 := aM (Kd.S_below (by (with_reducible repeat (first | apply Kd.S_alloc | apply Kd.S_drewN | apply Kd.S_drew)); exact (sf24 HO262 BK267 (by decide) BK268 (by decide))) hb); replace BK256 := aM (blk_below (g := gb256) (o := .cells #[.int .i64 0, .string (⟨#[]⟩ : ByteArray), .int .i64 0, .int .i64 0] 28 (0, 0)) (kf BK256) hb); replace BK267 := aM (blk_below (g := gb267) (o := .cells #[.slice Ao10 t257.length co10, .slice Ao14 t260.length co14] 51 (0, 0)) (kf BK267) hb); replace BK268 := aM (blk_below (g := gb268) (o := .cells #[.int .i64 t263, .string t264, .int .i64 t265, .int .i64 t266] 28 (0, 0)) (kf BK268) hb); replace HB := bs HB hb; (try clear hb); (try clear hb2); (try clear hk); (try clear hi); (try clear ho0); obtain ⟨hcz18_0, hcz18_1, hcz18_2, hcz18_3⟩ := cz BK256; obtain ⟨hfz18_0, hfz18_1, hfz18_2, hfz18_3⟩ := fz BK256))
   refine bodyPost_ret (results_tc rfl _ _ gb256 28 #[.int .i64 t272, .string t273, .int .i64 t274, .int .i64 t275] (0, 0) _ rfl (kf BK256) Try.underlying28 rfl (by kernel_rfl)) rfl ?_
   exact ⟨_, by first | rfl | (simp [errW_none, errW_some] <;> rfl) | (simp [*, errW_none, errW_some] <;> rfl), by (with_reducible repeat (first | apply Kd.R_alloc | apply Kd.R_drewN | apply Kd.R_drew)); exact Kd.R_mono (Kd.R_far (p := ⟨gb256, 3, none⟩) (Kd.R_far (p := ⟨gb256, 2, none⟩) (Kd.R_far (p := ⟨gb256, 1, none⟩) (Kd.R_far (p := ⟨gb256, 0, none⟩) (Kd.R_types HO271.out BK256.out (by decide)) (fun _ hk => hk.2) (.int .i64 t272)) (fun _ hk => hk.2) (.string t273)) (fun _ hk => hk.2) (.int .i64 t274)) (fun _ hk => hk.2) (.int .i64 t275)) (fun _ hk => trivial), hh HB⟩
 · rw [if_neg c4] at H
   have c4b0 : (t263 == 0) = false := beq_eq_false_iff_ne.mpr c4
   have c4b1 : (t263 != 0) = true := bne_iff_ne.mpr c4
   simp only [Option.some.injEq, Prod.mk.injEq] at H
   obtain ⟨rfl, rfl, rfl, rfl, rfl⟩ := H
   go_enter Try.func15, Try.ntmps15
   try go_wp2_with (first | ((with_reducible refine gate_dst (N := 5) rfl ?_); refine box_event ?hg (N := 5) ?hd (cs := #[.int .i64 0, .string (⟨#[]⟩ : ByteArray), .int .i64 0, .int .i64 0]) (t := 28) ?hr ?_; (case hd => rfl); (case hg => rfl); (case hr => first | (go_simp; done) | (go_simp; rfl)); intro gb256 hg w19 hbox hb; have BK256 := aM hbox; have GW256 := gs hg HB; have GE256 := gs hg HB; replace HB := bs HB hb; clear hb hbox hg) | ((with_reducible refine gate_callee (f := 24) rfl ?_); refine gL (some 10) rfl rfl Try.func24 (by kernel_rfl) rfl #[.slice A0 l0.length c0] rfl ?_; (with_reducible refine (modgraph_acyclic.calls k _ _ l0 t257 t260 t263 t264 t265 t266 _ ?side1 ?side2 A3.out).mono ?_); (case side1 => exact cb HR0 HB); (case side2 => exact HC0.out); rintro e w20 ⟨v258, v261, rfl, ho0, ho1, hb⟩; refine ⟨_, rfl, ?_⟩; have HO259 := aM (Kd.R_lower ho0 (below_size (hh HB))); have HO262 := aM (Kd.S_lower ho1 (below_size (hh HB))); replace BK256 := kb BK256 hb; replace HB := bs HB hb; (try clear hb); (try clear hb2); (try clear hk); (try clear hi); (try clear ho0); (try clear ho1)) | ((with_reducible refine gate_dst (N := 6) rfl ?_); refine box_event ?hg (N := 6) ?hd (cs := #[.slice none 0 0, .slice none 0 0]) (t := 51) ?hr ?_; (case hd => rfl); (case hg => rfl); (case hr => first | (go_simp; done) | (go_simp; rfl)); intro gb267 hg w21 hbox hb; have BK267 := aM hbox; have GW267 := gs hg HB; have GE267 := gs hg HB; have NB256_267 := nl hg BK256; have NB267_256 := nr hg BK256; replace HO259 := rb HO259 hb; replace HO262 := sb HO262 hb; replace BK256 := kb BK256 hb; replace HB := bs HB hb; clear hb hbox hg) | ((with_reducible refine gate_dst (N := 7) rfl ?_); refine box_event ?hg (N := 7) ?hd (cs := #[.int .i64 0, .string (⟨#[]⟩ : ByteArray), .int .i64 0, .int .i64 0]) (t := 28) ?hr ?_; (case hd => rfl); (case hg => rfl); (case hr => first | (go_simp; done) | (go_simp; rfl)); intro gb268 hg w22 hbox hb; have BK268 := aM hbox; have GW268 := gs hg HB; have GE268 := gs hg HB; have NB256_268 := nl hg BK256; have NB268_256 := nr hg BK256; have NB267_268 := nl hg BK267; have NB268_267 := nr hg BK267; replace HO259 := rb HO259 hb; replace HO262 := sb HO262 hb; replace BK256 := kb BK256 hb; replace BK267 := kb BK267 hb; replace HB := bs HB hb; clear hb hbox hg; obtain ⟨Ao23, co23, eo23⟩ := Kd.R_slice HO259.out; subst eo23; have hnb24 := NB267_256.out; have hnc24 := NB256_267.out; have hnb25 := NB267_268.out; have hnc25 := NB268_267.out; obtain ⟨hcz26_0, hcz26_1⟩ := cz2 BK267; obtain ⟨hfz26_0, hfz26_1⟩ := fz2 BK267; obtain ⟨Ao27, co27, eo27⟩ := Kd.S_slice HO262.out; subst eo27; have hnb28 := NB268_256.out; have hnc28 := NB256_268.out; obtain ⟨hcz29_0, hcz29_1, hcz29_2, hcz29_3⟩ := cz BK268; obtain ⟨hfz29_0, hfz29_1, hfz29_2, hfz29_3⟩ := fz BK268))
   have n0_ : Aside0 (Kd.R Kd.string 9 ((((((w22.setCell ⟨gb267, 0, none⟩ (.slice Ao23 t257.length co23)).setCell ⟨gb267, 1, none⟩ (.slice Ao27 t260.length co27)).setCell ⟨gb268, 0, none⟩ (.int .i64 t263)).setCell ⟨gb268, 1, none⟩ (.string t264)).setCell ⟨gb268, 2, none⟩ (.int .i64 t265)).setCell ⟨gb268, 3, none⟩ (.int .i64 t266)) w.heap.size (fun _ => True) (.slice Ao23 t257.length co23) t257) := ⟨by (with_reducible repeat (first | apply Kd.R_alloc | apply Kd.R_drewN | apply Kd.R_drew)); exact Kd.R_mono (Kd.R_far (p := ⟨gb268, 3, none⟩) (Kd.R_far (p := ⟨gb268, 2, none⟩) (Kd.R_far (p := ⟨gb268, 1, none⟩) (Kd.R_far (p := ⟨gb268, 0, none⟩) (Kd.R_far (p := ⟨gb267, 1, none⟩) (Kd.R_far (p := ⟨gb267, 0, none⟩) (Kd.R_types (Kd.R_types HO259.out BK267.out (by decide)) BK268.out (by decide)) (fun _ hk => hk.1.2) (.slice Ao23 t257.length co23)) (fun _ hk => hk.1.2) (.slice Ao27 t260.length co27)) (fun _ hk => hk.2) (.int .i64 t263)) (fun _ hk => hk.2) (.string t264)) (fun _ hk => hk.2) (.int .i64 t265)) (fun _ hk => hk.2) (.int .i64 t266)) (fun _ hk => trivial)⟩
   have n1_ : Aside0 (Kd.S (Kd.slice 3 (Kd.int .i64)) 55 ((((((w22.setCell ⟨gb267, 0, none⟩ (.slice Ao23 t257.length co23)).setCell ⟨gb267, 1, none⟩ (.slice Ao27 t260.length co27)).setCell ⟨gb268, 0, none⟩ (.int .i64 t263)).setCell ⟨gb268, 1, none⟩ (.string t264)).setCell ⟨gb268, 2, none⟩ (.int .i64 t265)).setCell ⟨gb268, 3, none⟩ (.int .i64 t266)) w.heap.size (fun _ => True) (.slice Ao27 t260.length co27) t260) := ⟨by (with_reducible repeat (first | apply Kd.S_alloc | apply Kd.S_drewN | apply Kd.S_drew)); exact Kd.S_mono (Kd.S_far (p := ⟨gb268, 3, none⟩) (Kd.S_far (p := ⟨gb268, 2, none⟩) (Kd.S_far (p := ⟨gb268, 1, none⟩) (Kd.S_far (p := ⟨gb268, 0, none⟩) (Kd.S_far (p := ⟨gb267, 1, none⟩) (Kd.S_far (p := ⟨gb267, 0, none⟩) (Kd.S_types (Kd.S_types HO262.out BK267.out (by decide)) BK268.out (by decide)) (fun _ hk => hk.1.2) (.slice Ao23 t257.length co23)) (fun _ hk => hk.1.2) (.slice Ao27 t260.length co27)) (fun _ hk => hk.2) (.int .i64 t263)) (fun _ hk => hk.2) (.string t264)) (fun _ hk => hk.2) (.int .i64 t265)) (fun _ hk => hk.2) (.int .i64 t266)) (fun _ hk => trivial)⟩
   have n2_ : Aside0 (((((((w22.setCell ⟨gb267, 0, none⟩ (.slice Ao23 t257.length co23)).setCell ⟨gb267, 1, none⟩ (.slice Ao27 t260.length co27)).setCell ⟨gb268, 0, none⟩ (.int .i64 t263)).setCell ⟨gb268, 1, none⟩ (.string t264)).setCell ⟨gb268, 2, none⟩ (.int .i64 t265)).setCell ⟨gb268, 3, none⟩ (.int .i64 t266)).heap[gb256]? = some (.cells #[.int .i64 0, .string (⟨#[]⟩ : ByteArray), .int .i64 0, .int .i64 0] 28 (0, 0))) := ⟨kf BK256⟩
   have n3_ : Aside0 (((((((w22.setCell ⟨gb267, 0, none⟩ (.slice Ao23 t257.length co23)).setCell ⟨gb267, 1, none⟩ (.slice Ao27 t260.length co27)).setCell ⟨gb268, 0, none⟩ (.int .i64 t263)).setCell ⟨gb268, 1, none⟩ (.string t264)).setCell ⟨gb268, 2, none⟩ (.int .i64 t265)).setCell ⟨gb268, 3, none⟩ (.int .i64 t266)).heap[gb267]? = some (.cells #[.slice Ao23 t257.length co23, .slice Ao27 t260.length co27] 51 (0, 0))) := ⟨kf BK267⟩
   have n4_ : Aside0 (((((((w22.setCell ⟨gb267, 0, none⟩ (.slice Ao23 t257.length co23)).setCell ⟨gb267, 1, none⟩ (.slice Ao27 t260.length co27)).setCell ⟨gb268, 0, none⟩ (.int .i64 t263)).setCell ⟨gb268, 1, none⟩ (.string t264)).setCell ⟨gb268, 2, none⟩ (.int .i64 t265)).setCell ⟨gb268, 3, none⟩ (.int .i64 t266)).heap[gb268]? = some (.cells #[.int .i64 t263, .string t264, .int .i64 t265, .int .i64 t266] 28 (0, 0))) := ⟨kf BK268⟩
   have n5_ : Aside0 (Below w.heap.size w ((((((w22.setCell ⟨gb267, 0, none⟩ (.slice Ao23 t257.length co23)).setCell ⟨gb267, 1, none⟩ (.slice Ao27 t260.length co27)).setCell ⟨gb268, 0, none⟩ (.int .i64 t263)).setCell ⟨gb268, 1, none⟩ (.string t264)).setCell ⟨gb268, 2, none⟩ (.int .i64 t265)).setCell ⟨gb268, 3, none⟩ (.int .i64 t266))) := ⟨hh HB⟩
   (try clear HO259)
   (try clear HO262)
   (try clear BK256)
   (try clear BK267)
   (try clear BK268)
   (try clear HB)
   generalize ((((((w22.setCell ⟨gb267, 0, none⟩ (.slice Ao23 t257.length co23)).setCell ⟨gb267, 1, none⟩ (.slice Ao27 t260.length co27)).setCell ⟨gb268, 0, none⟩ (.int .i64 t263)).setCell ⟨gb268, 1, none⟩ (.string t264)).setCell ⟨gb268, 2, none⟩ (.int .i64 t265)).setCell ⟨gb268, 3, none⟩ (.int .i64 t266)) = w30 at n0_ n1_ n2_ n3_ n4_ n5_ ⊢
   have HO259 := n0_
   have HO262 := n1_
   have BK256 := n2_
   have BK267 := n3_
   have BK268 := n4_
   have HB := n5_
   clear n0_ n1_ n2_ n3_ n4_ n5_
   replace HO259 := aM (Kd.R_drew HO259.out)
   replace HO262 := aM (Kd.S_drew HO262.out)
   replace BK256 := aM (blk_drew BK256.out)
   replace BK267 := aM (blk_drew BK267.out)
   replace BK268 := aM (blk_drew BK268.out)
   replace HB := aM (below_drew1 HB.out)
   refine start_ (n := 3) (S := fun w' => w'.cell? ⟨gb268, 0, none⟩ = some (.int .i64 t263) ∧ w'.cell? ⟨gb268, 1, none⟩ = some (.string t264) ∧ w'.cell? ⟨gb268, 2, none⟩ = some (.int .i64 t265) ∧ w'.cell? ⟨gb268, 3, none⟩ = some (.int .i64 t266)) (ds := []) #[false, false, false] (by kernel_rfl) rfl rfl ⟨(blk_cell BK268.out 0).trans rfl, (blk_cell BK268.out 1).trans rfl, (blk_cell BK268.out 2).trans rfl, (blk_cell BK268.out 3).trans rfl⟩ (fun hHeld => ?_)
   generalize w30.drew = w31 at HO259 HO262 BK256 BK267 BK268 HB hHeld ⊢
   refine pure_ (i := 1) (N := some 4) (v := ?_) (a' := ?_) #[false, true, false] rfl rfl (by kernel_rfl) (fun _ _ _ h => h) (Or.inl ⟨by rfl, ?_⟩) ?_ ?_
   rotate_left
   · intro w'
     go_simp
     with_reducible rfl
   rotate_left
   · simp only [Act.put, sA, sZ, sS, i64_w, i32_w]
     rfl
   refine take_ (i := 0) (N := some 16) (v := ?_) (a' := ?_) #[true, true, false] rfl rfl (by kernel_rfl) (fun _ _ _ h => h) (Or.inl ⟨by rfl, ?_⟩) hHeld ?_ ?_
   rotate_left
   · rintro w' ⟨s0, s1, s2, s3⟩
     go_simp
     with_reducible rfl
   rotate_left
   · simp only [Act.put, sA, sZ, sS, i64_w, i32_w]
     rfl
   refine one_ (i := 2) (N := none) #[true, true, true] rfl rfl (by kernel_rfl) (by decide) (fun K hK => ?_)
   have hs32 : w31.cell? ⟨gb256, 0, none⟩ = some (.int .i64 0) := (blk_cell BK256.out 0).trans rfl
   have hfs32 := blk_frozen BK256.out 0
   have hns32_1 := NB267_256.out
   have hns32_2 := NB268_256.out
   have hms32_1 := NB256_267.out
   have hms32_2 := NB256_268.out
   have hs33 : w31.cell? ⟨gb256, 1, none⟩ = some (.string (⟨#[]⟩ : ByteArray)) := (blk_cell BK256.out 1).trans rfl
   have hfs33 := blk_frozen BK256.out 1
   have hns33_1 := NB267_256.out
   have hns33_2 := NB268_256.out
   have hms33_1 := NB256_267.out
   have hms33_2 := NB256_268.out
   have hs34 : w31.cell? ⟨gb256, 2, none⟩ = some (.int .i64 0) := (blk_cell BK256.out 2).trans rfl
   have hfs34 := blk_frozen BK256.out 2
   have hns34_1 := NB267_256.out
   have hns34_2 := NB268_256.out
   have hms34_1 := NB256_267.out
   have hms34_2 := NB256_268.out
   have hs35 : w31.cell? ⟨gb256, 3, none⟩ = some (.int .i64 0) := (blk_cell BK256.out 3).trans rfl
   have hfs35 := blk_frozen BK256.out 3
   have hns35_1 := NB267_256.out
   have hns35_2 := NB268_256.out
   have hms35_1 := NB256_267.out
   have hms35_2 := NB256_268.out
   refine skip_ (w1 := ?_) (by rfl) rfl ?_ ?_
   rotate_left
   · go_simp
     rfl
   refine hK.out _ _ ⟨((cell_far (p := ⟨gb256, _, none⟩) NB268_256.out _).trans (((cell_far (p := ⟨gb256, _, none⟩) NB268_256.out _).trans (((cell_far (p := ⟨gb256, _, none⟩) NB268_256.out _).trans (((cell_far (p := ⟨gb256, _, none⟩) NB268_256.out _).trans (hHeld.1)))))))), ((cell_far (p := ⟨gb256, _, none⟩) NB268_256.out _).trans (((cell_far (p := ⟨gb256, _, none⟩) NB268_256.out _).trans (((cell_far (p := ⟨gb256, _, none⟩) NB268_256.out _).trans (((cell_far (p := ⟨gb256, _, none⟩) NB268_256.out _).trans (hHeld.2.1)))))))), ((cell_far (p := ⟨gb256, _, none⟩) NB268_256.out _).trans (((cell_far (p := ⟨gb256, _, none⟩) NB268_256.out _).trans (((cell_far (p := ⟨gb256, _, none⟩) NB268_256.out _).trans (((cell_far (p := ⟨gb256, _, none⟩) NB268_256.out _).trans (hHeld.2.2.1)))))))), ((cell_far (p := ⟨gb256, _, none⟩) NB268_256.out _).trans (((cell_far (p := ⟨gb256, _, none⟩) NB268_256.out _).trans (((cell_far (p := ⟨gb256, _, none⟩) NB268_256.out _).trans (((cell_far (p := ⟨gb256, _, none⟩) NB268_256.out _).trans (hHeld.2.2.2))))))))⟩ (fun hHeld => ?_)
   clear hK K
   refine done_ (by kernel_rfl) ?_
   try go_wp2
   refine bodyPost_ret (results_tc rfl _ _ gb256 28 #[.int .i64 t263, .string t264, .int .i64 t265, .int .i64 t266] (0, 0) _ rfl (kf BK256) Try.underlying28 rfl (by kernel_rfl)) rfl ?_
   exact ⟨_, by first | rfl | (simp [errW_none, errW_some] <;> rfl) | (simp [*, errW_none, errW_some] <;> rfl), by first | exact Kd.R_nil _ _ _ _ _ | exact Kd.N_nil _ _ _ _ _ | exact Kd.V_nil _ _ _ _ _ | exact Kd.Q_nil _ _ _ _ _ | exact Kd.S_nil _ _ _ _ _, hh HB⟩
end Go.Proofs.Ytmadhaccjmakdaa.P
/- modgraph.Users. -/
namespace Go.Proofs.Ytmadhaccjmakdaa
open Go.Shelf Go.Lib Go.RowKit Go.Maps Go.Sort Go.Proofs.YtmadhaccjmakdaaW.PrintWords Go.Proofs.YtmadhaccjmakdaaW.PrintLast Go.Proofs.YtmadhaccjmakdaaW.PrintMore
attribute [local go_sem] max2_int min2_int max_two min_two max_three min_three max_four min_four
open P Mg Od Tj
namespace Mg
def addAll (U : List (List Int)) (v : Int) : List Int → List (List Int)
 | [] => U
 | x :: l => addAll (U.set x.toNat (U.getD x.toNat [] ++ [v])) v l
def backL (U : List (List Int)) (v : Int) : List (List Int) → List (List Int)
 | [] => U
 | l :: ls => backL (addAll U v l) (v + 1) ls
def okB (n : Nat) (es : List (List Int)) : Prop := n ≤ 100 ∧ es.length ≤ 100 ∧ ∀ r ∈ es, r.length ≤ 1000 ∧ ∀ x ∈ r, 0 ≤ x ∧ x < (n : Int)
end Mg
namespace P
open Classical in
noncomputable def modgraph_Users.f (l0 : List S42) (s : ByteArray) : Option (List ByteArray × Int × ByteArray × Int × Int) :=
 (Od.lim fun k => modgraph_acyclic.f k l0).bind fun bt =>
  if bt.2.2.1 = 0 then (if okB bt.1.length bt.2.1 then modgraph_reached.f bt.1 bt.2.1 (backL (List.replicate bt.1.length []) 0 bt.2.1) s else none)
  else some ([], bt.2.2.1, bt.2.2.2.1, bt.2.2.2.2.1, bt.2.2.2.2.2)
end P
namespace Mg
def fst4 (w : World) (g : Nat) (c : Int) (x : ByteArray) (a b : Int) : World := (((w.setCell ⟨g, 0, none⟩ (.int .i64 c)).setCell ⟨g, 1, none⟩ (.string x)).setCell ⟨g, 2, none⟩ (.int .i64 a)).setCell ⟨g, 3, none⟩ (.int .i64 b)
theorem info55m2 : (Try.prog.info? 55).map (fun i => (i.zero, i.size, i.bytes)) = some (some (.slice none 0 0), 1, 24) := by kernel_rfl
theorem fst4_f {w : World} {g : Nat} (h : w.heap[g]? = some (Obj.cells #[Value.int .i64 0, Value.string ⟨#[]⟩, Value.int .i64 0, Value.int .i64 0] 28 (0, 0))) (c : Int) (x : ByteArray) (a b : Int) : (fst4 w g c x a b).heap[g]? = some (Obj.cells #[.int .i64 c, .string x, .int .i64 a, .int .i64 b] 28 (0, 0)) :=
 blk_put (blk_put (blk_put (blk_put h 0 _ rfl) 1 _ rfl) 2 _ rfl) 3 _ rfl
theorem fst4_below {w W : World} {B g : Nat} (h : Below B w W) (hg : B ≤ g) (c : Int) (x : ByteArray) (a b : Int) : Below B w (fst4 W g c x a b) := by
 unfold fst4
 exact (((h.setCell hg _).setCell hg _).setCell hg _).setCell hg _
theorem fst4_heap (w : World) (g : Nat) (c : Int) (x : ByteArray) (a b : Int) (k : Nat) (h : k ≠ g) : (fst4 w g c x a b).heap[k]? = w.heap[k]? := by
 unfold fst4
 rw [Below.heap_setCell _ _ _ k h, Below.heap_setCell _ _ _ k h, Below.heap_setCell _ _ _ k h, Below.heap_setCell _ _ _ k h]
set_option maxRecDepth 100000 in
set_option maxHeartbeats 8000000 in
theorem Users_fault (k : Nat) (A0 : Option Addr) (c0 : Nat) (l0 : List S42) (s : ByteArray) (w : World) (hr0 : Kd.C k42 w A0 l0.length l0) (hc0 : l0.length ≤ c0)
 (t1 : List ByteArray) (t2 : List (List Int)) (t3 : Int) (t4 : ByteArray) (t5 t6 : Int) (hA : modgraph_acyclic.f k l0 = some (t1, t2, t3, t4, t5, t6)) (h3 : t3 ≠ 0) :
 Calls Try.prog 17 #[.slice A0 l0.length c0, .string s] w fun e w' => ∃ v0_ : Value, e = .returned (.tuple #[v0_, .agg #[.int .i64 t3, .string t4, .int .i64 t5, .int .i64 t6]]) ∧ Kd.R Kd.string 9 w' w.heap.size (fun _ => True) v0_ [] ∧ Below w.heap.size w w' := by
 have hu51 := Try.underlying51
 have hu49 := Try.underlying49
 have hu28 := Try.underlying28
 have q1 : (t3 == 0) = false := beq_eq_false_iff_ne.mpr h3
 have q2 : (t3 != 0) = true := bne_iff_ne.mpr h3
 have HR0 := Aside0.mk hr0
 have HC0 := Aside0.mk hc0
 have HA := Aside0.mk hA
 clear hr0 hc0 hA h3
 go_enter Try.func17, Try.ntmps17
 go_upto_region 3 with (first | (go_at_call 24; (refine (modgraph_acyclic.calls k _ _ l0 t1 t2 t3 t4 t5 t6 _ ?s1 HC0.out HA.out).mono ?_); (case s1 => repeat (first | exact HR0.out | (with_reducible refine Kd.C_alloc ?_ _) | (with_reducible refine Kd.C_drewN ?_ _) | (with_reducible refine Kd.C_drew ?_))); rintro e w5 ⟨v0, v1, rfl, hn, he, hb⟩; obtain ⟨An, cn, rfl⟩ := Kd.R_slice hn; obtain ⟨Ae, ce, rfl⟩ := Kd.S_slice he; have HN := Aside0.mk hn; have HE := Aside0.mk he; have HB := Aside0.mk hb; clear hn he hb))
 have b0 := (MapKept.heap_alloc w (Obj.cells #[Value.int .i64 0, Value.string ⟨#[]⟩, Value.int .i64 0, Value.int .i64 0] 28)).1
 have hb0 := below_alloc (Below.refl w.heap.size w) (Obj.cells #[Value.int .i64 0, Value.string ⟨#[]⟩, Value.int .i64 0, Value.int .i64 0] 28)
 have b5 := blk_below b0 HB.out
 have hb5 : Below w.heap.size w w5 := hb0.trans (HB.out.mono hb0.size)
 have f0 := blk_alloc (blk_alloc b5 (Obj.cells #[Value.slice An t1.length cn, Value.slice Ae t2.length ce] 51)) (Obj.cells #[Value.int .i64 t3, Value.string t4, Value.int .i64 t5, Value.int .i64 t6] 28)
 have f2 := (MapKept.heap_alloc (w5.alloc (Obj.cells #[Value.slice An t1.length cn, Value.slice Ae t2.length ce] 51)) (Obj.cells #[Value.int .i64 t3, Value.string t4, Value.int .i64 t5, Value.int .i64 t6] 28)).1
 have z1 : (w5.alloc (Obj.cells #[Value.slice An t1.length cn, Value.slice Ae t2.length ce] 51)).heap.size = w5.heap.size + 1 := by simp
 rw [z1] at f2
 have hb7 := below_alloc (below_alloc hb5 (Obj.cells #[Value.slice An t1.length cn, Value.slice Ae t2.length ce] 51)) (Obj.cells #[Value.int .i64 t3, Value.string t4, Value.int .i64 t5, Value.int .i64 t6] 28)
 generalize (w5.alloc (Obj.cells #[Value.slice An t1.length cn, Value.slice Ae t2.length ce] 51)).alloc (Obj.cells #[Value.int .i64 t3, Value.string t4, Value.int .i64 t5, Value.int .i64 t6] 28) = w7 at *
 have F0 := Aside0.mk f0
 have HB7 := Aside0.mk hb7
 have hlt := blk_lt b5
 have hne : w5.heap.size + 1 ≠ w.heap.size := by omega
 have x0 := blk_cell f2 0
 have x1 := blk_cell f2 1
 have x2 := blk_cell f2 2
 have x3 := blk_cell f2 3
 have y0 := blk_cell f0 0
 have y1 := blk_cell f0 1
 have y2 := blk_cell f0 2
 have y3 := blk_cell f0 3
 have e0 := blk_frozen f0 0
 have e1 := blk_frozen f0 1
 have e2 := blk_frozen f0 2
 have e3 := blk_frozen f0 3
 clear b0 hb0 b5 hb5 f0 f2 z1 hb7 hlt hne q1 q2
 go_region
 all_goals go_wp2
 all_goals
  refine bodyPost_ret (results_tc rfl _ _ w.heap.size 28 #[.int .i64 t3, .string t4, .int .i64 t5, .int .i64 t6] (0, 0) _ rfl (by first | exact fst4_f F0.out t3 t4 t5 t6 | exact blk_drew (fst4_f F0.out t3 t4 t5 t6) | exact fst4_f (blk_drew F0.out) t3 t4 t5 t6) Try.underlying28 rfl hi28) rfl ?_
  exact ⟨_, rfl, Kd.R_nil _ _ _ _ _, by first | exact fst4_below HB7.out (Nat.le_refl _) t3 t4 t5 t6 | exact below_drew (fst4_below HB7.out (Nat.le_refl _) t3 t4 t5 t6) | exact fst4_below (below_drew HB7.out) (Nat.le_refl _) t3 t4 t5 t6⟩
set_option maxRecDepth 100000 in
set_option maxHeartbeats 8000000 in
theorem Users_walk (k : Nat) (A0 : Option Addr) (c0 : Nat) (l0 : List S42) (s : ByteArray) (w : World) (hr0 : Kd.C k42 w A0 l0.length l0) (hc0 : l0.length ≤ c0)
 (t1 : List ByteArray) (t2 : List (List Int)) (t4 : ByteArray) (t5 t6 : Int) (hA : modgraph_acyclic.f k l0 = some (t1, t2, 0, t4, t5, t6)) (hok : okB t1.length t2)
 (r1 : List ByteArray) (r2 : Int) (r3 : ByteArray) (r4 r5 : Int) (hRe : modgraph_reached.f t1 t2 (backL (List.replicate t1.length []) 0 t2) s = some (r1, r2, r3, r4, r5)) :
 Calls Try.prog 17 #[.slice A0 l0.length c0, .string s] w fun e w' => ∃ v0_ : Value, e = .returned (.tuple #[v0_, .agg #[.int .i64 r2, .string r3, .int .i64 r4, .int .i64 r5]]) ∧ Kd.R Kd.string 9 w' w.heap.size (fun _ => True) v0_ r1 ∧ Below w.heap.size w w' := by
 have hu51 := Try.underlying51
 have hu49 := Try.underlying49
 have hu28 := Try.underlying28
 have HR0 := Aside0.mk hr0
 have HC0 := Aside0.mk hc0
 have HA := Aside0.mk hA
 have HOK := Aside0.mk hok
 have HRE := Aside0.mk hRe
 clear hr0 hc0 hA hok hRe
 go_enter Try.func17, Try.ntmps17
 go_upto_region 4 with (first | (go_at_call 24; (refine (modgraph_acyclic.calls k _ _ l0 t1 t2 0 t4 t5 t6 _ ?s1 HC0.out HA.out).mono ?_); (case s1 => repeat (first | exact HR0.out | (with_reducible refine Kd.C_alloc ?_ _) | (with_reducible refine Kd.C_drewN ?_ _) | (with_reducible refine Kd.C_drew ?_))); rintro e w5 ⟨v0, v1, rfl, hn, he, hb⟩; obtain ⟨An, cn, rfl⟩ := Kd.R_slice hn; obtain ⟨Ae, ce, rfl⟩ := Kd.S_slice he; have HN := Aside0.mk hn; have HE := Aside0.mk he; have HB := Aside0.mk hb; clear hn he hb))
 have b0 := (MapKept.heap_alloc w (Obj.cells #[Value.int .i64 0, Value.string ⟨#[]⟩, Value.int .i64 0, Value.int .i64 0] 28)).1
 have hb0 := below_alloc (Below.refl w.heap.size w) (Obj.cells #[Value.int .i64 0, Value.string ⟨#[]⟩, Value.int .i64 0, Value.int .i64 0] 28)
 have hz0 : (w.alloc (Obj.cells #[Value.int .i64 0, Value.string ⟨#[]⟩, Value.int .i64 0, Value.int .i64 0] 28)).heap.size = w.heap.size + 1 := by simp
 have b5 := blk_below b0 HB.out
 have hb5 : Below w.heap.size w w5 := hb0.trans (HB.out.mono hb0.size)
 have hs5 := HB.out.size
 have f0 := blk_alloc (blk_alloc b5 (Obj.cells #[Value.slice An t1.length cn, Value.slice Ae t2.length ce] 51)) (Obj.cells #[Value.int .i64 0, Value.string t4, Value.int .i64 t5, Value.int .i64 t6] 28)
 have f1 := blk_alloc (MapKept.heap_alloc w5 (Obj.cells #[Value.slice An t1.length cn, Value.slice Ae t2.length ce] 51)).1 (Obj.cells #[Value.int .i64 0, Value.string t4, Value.int .i64 t5, Value.int .i64 t6] 28)
 have hb57 := below_alloc (below_alloc (Below.refl w5.heap.size w5) (Obj.cells #[Value.slice An t1.length cn, Value.slice Ae t2.length ce] 51)) (Obj.cells #[Value.int .i64 0, Value.string t4, Value.int .i64 t5, Value.int .i64 t6] 28)
 have hs7 : ((w5.alloc (Obj.cells #[Value.slice An t1.length cn, Value.slice Ae t2.length ce] 51)).alloc (Obj.cells #[Value.int .i64 0, Value.string t4, Value.int .i64 t5, Value.int .i64 t6] 28)).heap.size = w5.heap.size + 1 + 1 := by simp
 generalize (w5.alloc (Obj.cells #[Value.slice An t1.length cn, Value.slice Ae t2.length ce] 51)).alloc (Obj.cells #[Value.int .i64 0, Value.string t4, Value.int .i64 t5, Value.int .i64 t6] 28) = w7 at *
 have F0 := Aside0.mk f0
 have F1 := Aside0.mk f1
 have HB5 := Aside0.mk hb5
 have HB57 := Aside0.mk hb57
 have HS7 := Aside0.mk hs7
 have HS5 := Aside0.mk (show w.heap.size + 1 ≤ w5.heap.size by omega)
 have HN7 := Aside0.mk (Kd.R_below HN.out hb57)
 have HE7 := Aside0.mk (Kd.S_below HE.out hb57)
 have x0 := blk_cell f1 0
 clear b0 hb0 hz0 b5 hb5 hs5 f0 f1 hb57 hs7
 have hn100 : t1.length ≤ 100 := HOK.out.1
 obtain ⟨i0, e0, e1, e2, e3⟩ := info_parts info55m2
 have hmk := run_make w7 47 55 i0 _ Try.underlying47 e0 e1 .i64 .i64 t1.length t1.length (by omega) (by omega) (by rw [e3]; omega) (by omega)
 rw [e2, Nat.mul_one] at hmk
 have hz0 : (Value.slice none 0 0).cells = #[.slice none 0 0] := rfl
 rw [hz0] at hmk
 clear e0 e1 e2 e3 hz0
 go_upto_region 5 with fail
 have m1 := (MapKept.heap_alloc w7 (Obj.cells (madeCells #[Value.slice none 0 0] t1.length) 55)).1
 have hm1 := below_alloc (Below.refl w7.heap.size w7) (Obj.cells (madeCells #[Value.slice none 0 0] t1.length) 55)
 have hm2 := below_alloc hm1 (Obj.cells #[Value.slice (some ⟨w7.heap.size, 0, none⟩) t1.length t1.length] 49)
 have hS := S_made (base := w7.heap.size) (ok := fun k => w7.heap.size ≤ k ∧ k ≠ w7.heap.size + 1) m1 (Nat.le_refl _) (by unfold maxLen; omega) ⟨Nat.le_refl _, by omega⟩
 have hS9 := Kd.S_alloc hS (Obj.cells #[Value.slice (some ⟨w7.heap.size, 0, none⟩) t1.length t1.length] 49)
 have m2 := (MapKept.heap_alloc (w7.alloc (Obj.cells (madeCells #[Value.slice none 0 0] t1.length) 55)) (Obj.cells #[Value.slice (some ⟨w7.heap.size, 0, none⟩) t1.length t1.length] 49)).1
 have hz8 : (w7.alloc (Obj.cells (madeCells #[Value.slice none 0 0] t1.length) 55)).heap.size = w7.heap.size + 1 := by simp
 have hz9 : ((w7.alloc (Obj.cells (madeCells #[Value.slice none 0 0] t1.length) 55)).alloc (Obj.cells #[Value.slice (some ⟨w7.heap.size, 0, none⟩) t1.length t1.length] 49)).heap.size = w7.heap.size + 1 + 1 := by simp
 rw [hz8] at m2
 generalize (w7.alloc (Obj.cells (madeCells #[Value.slice none 0 0] t1.length) 55)).alloc (Obj.cells #[Value.slice (some ⟨w7.heap.size, 0, none⟩) t1.length t1.length] 49) = w9 at *
 obtain ⟨go, hgo⟩ : ∃ go, go = w7.heap.size := ⟨_, rfl⟩
 rw [← hgo] at hS9 m2 hm2 hz9 ⊢
 have HGO := Aside0.mk hgo
 have HS9 := Aside0.mk hS9
 have HM2 := Aside0.mk m2
 have HB9 := Aside0.mk hm2
 have HZ9 := Aside0.mk hz9
 have x1 := blk_cell (blk_below F1.out (by rw [← hgo]; exact hm2)) 1
 clear m1 hm1 hm2 hS hS9 m2 hz8 hz9 hgo hmk x0 hn100
 go_wp2
 clear x1
 obtain ⟨BK, hBK⟩ : ∃ BK, backL (List.replicate t1.length []) 0 t2 = BK := ⟨_, rfl⟩
 have HBK := Aside0.mk hBK
 clear hBK
 go_loopg [31] t2.length (fun kq v31 w' => ∃ (x : Int) (U : List (List Int)), v31 = .int .i64 x ∧ Aside0 (0 ≤ x ∧ x.toNat + kq = t2.length) ∧ Aside0 (U.length = t1.length ∧ backL U x (t2.drop x.toNat) = BK ∧ (∀ r ∈ U, r.length ≤ x.toNat * 1000) ∧ Kd.S KS 55 w' go (fun k => go ≤ k ∧ k ≠ go + 1) (.slice (some ⟨go, 0, none⟩) t1.length t1.length) U ∧ w'.heap[go + 1]? = some (Obj.cells #[Value.slice (some ⟨go, 0, none⟩) t1.length t1.length] 49) ∧ Below go w7 w'))
 case atStart => exact ⟨0, _, rfl, ⟨by decide, by simp⟩, ⟨List.length_replicate .., by simpa using HBK.out, fun r hr => by rw [List.eq_of_mem_replicate hr]; simp, HS9.out, HM2.out, HB9.out⟩⟩
 case round =>
  obtain ⟨x, U, rfl, hk, hI⟩ := hrel
  clear HS9 HM2 HB9
  have hk0 := hk.out.1
  by_cases hx : x < (t2.length : Int)
  · have q3 : decide (x < (t2.length : Int)) = true := decide_eq_true hx
    have HX := Aside0.mk hx
    have hbw : Below w7.heap.size w7 wr := by rw [← HGO.out]; exact hI.out.2.2.2.2.2
    obtain ⟨hl1, hc1, hC1⟩ := Kd.S_reads' HE7.out
    obtain ⟨ad, A3, c3, rfl, g0, g1, g2⟩ := at_L11 hC1 x hk0 hx
    replace g0 := (hbw.cell (World.block_lt_of_cell? _ _ g0)).trans g0
    have hrm : rd_L11 t2 x ∈ t2 := by
     have hi : x.toNat < t2.length := by omega
     have : rd_L11 t2 x = t2[x.toNat] := by simp [rd_L11, List.getD_eq_getElem?_getD, List.getElem?_eq_getElem hi]
     rw [this]; exact List.getElem_mem hi
    have hrb := HOK.out.2.2 _ hrm
    have hdr : t2.drop x.toNat = rd_L11 t2 x :: t2.drop (x.toNat + 1) := by
     have hi : x.toNat < t2.length := by omega
     rw [List.drop_eq_getElem_cons hi]
     simp [rd_L11, List.getD_eq_getElem?_getD, List.getElem?_eq_getElem hi]
    have hbk := hI.out.2.1
    rw [hdr] at hbk
    generalize rd_L11 t2 x = rw1 at *
    have p1 := eq_true hk0
    have p2 : (x < (t2.length : Int)) = True := eq_true hx
    have HRB := Aside0.mk hrb
    have HBK1 : Aside0 (backL (addAll U x rw1) (x + 1) (t2.drop (x.toNat + 1)) = BK) := ⟨hbk⟩
    have H2 := Aside0.mk g2
    have hxr : wrap64 x = x := by unfold wrap64; have := HOK.out.2.1; omega
    obtain ⟨gk1, rfl⟩ : ∃ g, g = gk := ⟨_, rfl⟩
    clear hl1 hc1 hC1 hrm hrb hdr hbk g1 g2 hx hk0 hbw
    go_wp2
    clear g0
    obtain ⟨wo, rfl⟩ : ∃ wo, wo = wr := ⟨_, rfl⟩
    go_loopg [38] rw1.length (fun kq v38 w' => ∃ (z : Int) (V : List (List Int)), v38 = .int .i64 z ∧ Aside0 (0 ≤ z ∧ z.toNat + kq = rw1.length) ∧ Aside0 (V.length = t1.length ∧ addAll V x (rw1.drop z.toNat) = addAll U x rw1 ∧ (∀ r ∈ V, r.length ≤ x.toNat * 1000 + z.toNat) ∧ Kd.S KS 55 w' go (fun k => go ≤ k ∧ k ≠ go + 1) (.slice (some ⟨go, 0, none⟩) t1.length t1.length) V ∧ w'.heap[go + 1]? = some (Obj.cells #[Value.slice (some ⟨go, 0, none⟩) t1.length t1.length] 49) ∧ Below go w7 w'))
    case atStart => exact ⟨0, U, rfl, ⟨by decide, by simp⟩, ⟨hI.out.1, by simp, fun r hr => hI.out.2.2.1 r hr, hI.out.2.2.2.1, hI.out.2.2.2.2.1, hI.out.2.2.2.2.2⟩⟩
    case round =>
     obtain ⟨z, V, rfl, hk2, hJ⟩ := hrel
     have hk20 := hk2.out.1
     by_cases hz : z < (rw1.length : Int)
     · have q4 : decide (z < (rw1.length : Int)) = true := decide_eq_true hz
       have HZ := Aside0.mk hz
       have hbw2 : Below w7.heap.size w7 wr := by rw [← HGO.out]; exact hJ.out.2.2.2.2.2
       obtain ⟨ad2, rfl, y0⟩ := Kd.at_int (Kd.C_below H2.out hbw2) z hk20 hz
       have hdm : Go.Proofs.YtmadhaccjmakdaaW.PrintWords.rd rw1 z ∈ rw1 := by
        have hi : z.toNat < rw1.length := by omega
        have : Go.Proofs.YtmadhaccjmakdaaW.PrintWords.rd rw1 z = rw1[z.toNat] := by simp [Go.Proofs.YtmadhaccjmakdaaW.PrintWords.rd, rdOf, List.getD_eq_getElem?_getD, List.getElem?_eq_getElem hi]
        rw [this]; exact List.getElem_mem hi
       obtain ⟨hd0, hd1⟩ := HRB.out.2 _ hdm
       have hdr : rw1.drop z.toNat = Go.Proofs.YtmadhaccjmakdaaW.PrintWords.rd rw1 z :: rw1.drop (z.toNat + 1) := by
        have hi : z.toNat < rw1.length := by omega
        rw [List.drop_eq_getElem_cons hi]
        simp [Go.Proofs.YtmadhaccjmakdaaW.PrintWords.rd, rdOf, List.getD_eq_getElem?_getD, List.getElem?_eq_getElem hi]
       have hadd := hJ.out.2.1
       rw [hdr] at hadd
       generalize Go.Proofs.YtmadhaccjmakdaaW.PrintWords.rd rw1 z = d at *
       have HADD : Aside0 (addAll (V.set d.toNat (V.getD d.toNat [] ++ [x])) x (rw1.drop (z.toNat + 1)) = addAll U x rw1) := ⟨hadd⟩
       have p3 := eq_true hk20
       have p4 : (z < (rw1.length : Int)) = True := eq_true hz
       clear hdm hdr hadd hz hk20 hbw2
       go_upto_region 11 with fail
       clear y0
       have hsz := blk_lt hJ.out.2.2.2.2.1
       obtain ⟨v0, oki, u1, u2, u3, u4, u5⟩ := S_upd (Kd.S_drew hJ.out.2.2.2.1) (fun k hk => by have : wr.drew.heap.size = wr.heap.size := rfl; rw [this] at hk; omega) d hd0 hd1
       have U3 := Aside0.mk (Kd.R_mono (ok' := fun k => oki k ∨ wr.heap.size ≤ k) u3 (fun k hk => .inl hk))
       have U4 := Aside0.mk u4
       have U5 := Aside0.mk (@u5)
       have U6 := Aside0.mk u3
       have hrl : (row V d).length ≤ 101000 := by
        have h1 := HOK.out.2.1
        have h2 := hk.out
        have h3 := hk2.out
        have h4 := HRB.out.1
        have h5 := HX.out
        by_cases hi : d.toNat < V.length
        · have : row V d ∈ V := by unfold row; rw [List.getD_eq_getElem?_getD, List.getElem?_eq_getElem hi]; exact List.getElem_mem hi
          have h6 := hJ.out.2.2.1 _ this
          have h7 : x.toNat ≤ 100 := by omega
          have h8 : z.toNat ≤ 1000 := by omega
          omega
        · unfold row
          rw [List.getD_eq_getElem?_getD, List.getElem?_eq_none (by omega)]
          simp
       have HRL := Aside0.mk (show ((row V d).length + 1) * 8 ≤ 140737488355328 by omega)
       have c8 : wr.cell? ⟨go + 1, 0, none⟩ = some (Value.slice (some ⟨go, 0, none⟩) t1.length t1.length) := blk_cell hJ.out.2.2.2.2.1 0
       have w1' : wr.cell? ⟨go, d.toNat, none⟩ = some v0 := u1
       have c8d : (wr.alloc (Obj.cells #[Value.int .i64 x] 3)).cell? ⟨go + 1, 0, none⟩ = some (Value.slice (some ⟨go, 0, none⟩) t1.length t1.length) := ((below_alloc (Below.refl wr.heap.size wr) _).cell (World.block_lt_of_cell? _ _ c8)).trans c8
       have c8e : (wr.drew.alloc (Obj.cells #[Value.int .i64 x] 3)).cell? ⟨go + 1, 0, none⟩ = some (Value.slice (some ⟨go, 0, none⟩) t1.length t1.length) := ((below_alloc (below_drew (Below.refl wr.heap.size wr)) _).cell (World.block_lt_of_cell? _ _ c8)).trans c8
       have w1d : (wr.alloc (Obj.cells #[Value.int .i64 x] 3)).cell? ⟨go, d.toNat, none⟩ = some v0 := ((below_alloc (Below.refl wr.heap.size wr) _).cell (World.block_lt_of_cell? _ _ w1')).trans w1'
       have w1e : (wr.drew.alloc (Obj.cells #[Value.int .i64 x] 3)).cell? ⟨go, d.toNat, none⟩ = some v0 := ((below_alloc (below_drew (Below.refl wr.heap.size wr)) _).cell (World.block_lt_of_cell? _ _ w1')).trans w1'
       have hgb : wr.drew.heap[go + 1]? = some (Obj.cells #[Value.slice (some ⟨go, 0, none⟩) t1.length t1.length] 49) := hJ.out.2.2.2.2.1
       have HGB := Aside0.mk hgb
       have hgl : go ≤ wr.drew.heap.size := by have : wr.drew.heap.size = wr.heap.size := rfl; omega
       have hfr : ∀ k, wr.drew.heap.size ≤ k → oki k ∨ wr.heap.size ≤ k := fun k hk => .inr hk
       have HFR := Aside0.mk hfr
       have HGL := Aside0.mk hgl
       have U2 := Aside0.mk u2
       have p5 := eq_true hd0
       have p6 : (d < (t1.length : Int)) = True := eq_true hd1
       have HD0 := Aside0.mk (And.intro hd0 hd1)
       clear u1 u2 u3 u4 u5 hrl hgb hgl hfr hsz hd0 hd1
       have HSTEP : Aside0 (∀ (w3 : World) (A2 : Option Addr) (cr : Nat), wr.drew.grownBy w3 v0.ownBlock → Kd.R (Kd.int .i64) 3 w3 go (fun k => oki k ∨ wr.heap.size ≤ k) (.slice A2 (row V d ++ [x]).length cr) (row V d ++ [x]) → w3.heap[go + 1]? = some (Obj.cells #[Value.slice (some ⟨go, 0, none⟩) t1.length t1.length] 49) →
        (V.set d.toNat (row V d ++ [x])).length = t1.length ∧ (∀ r ∈ V.set d.toNat (row V d ++ [x]), r.length ≤ x.toNat * 1000 + (z.toNat + 1)) ∧ Kd.S KS 55 (w3.setCell ⟨go, d.toNat, none⟩ (.slice A2 ((row V d).length + 1) cr)) go (fun k => go ≤ k ∧ k ≠ go + 1) (.slice (some ⟨go, 0, none⟩) t1.length t1.length) (V.set d.toNat (row V d ++ [x])) ∧ (w3.setCell ⟨go, d.toNat, none⟩ (.slice A2 ((row V d).length + 1) cr)).heap[go + 1]? = some (Obj.cells #[Value.slice (some ⟨go, 0, none⟩) t1.length t1.length] 49) ∧ Below go w7 (w3.setCell ⟨go, d.toNat, none⟩ (.slice A2 ((row V d).length + 1) cr))) := ⟨by
        intro w3 A2 cr hg hr hb
        have hS := U5.out w3 _ _ hg hr
        have e9 : (row V d ++ [x]).length = (row V d).length + 1 := by simp
        rw [e9] at hS
        refine ⟨by rw [List.length_set]; exact hJ.out.1, fun r hr2 => ?_, hS.1, blk_grown hb hS.2 (by intro e; injection e with e; omega), ?_⟩
        · rcases List.mem_or_eq_of_mem_set hr2 with h | h
          · have := hJ.out.2.2.1 r h; omega
          · subst h
            rw [e9]
            by_cases hi : d.toNat < V.length
            · have hm : row V d ∈ V := by unfold row; rw [List.getD_eq_getElem?_getD, List.getElem?_eq_getElem hi]; exact List.getElem_mem hi
              have := hJ.out.2.2.1 _ hm
              omega
            · have : row V d = [] := by unfold row; rw [List.getD_eq_getElem?_getD, List.getElem?_eq_none (by omega)]; rfl
              rw [this, List.length_nil]; omega
        · exact ((below_drew hJ.out.2.2.2.2.2).grown hg HGL.out (fun k hk => (U4.out k (U6.out.1 k hk)).1.1)).setCell (Nat.le_refl _) _⟩
       go_region_law ((refine Kd.R_append_step (Kd.int .i64) (w0 := wr.drew) (W := wr.drew) go rfl (.tmp 49) (.tmp 51) 55 3 (.int .i64 0) 8 rfl Try.underlying55 info3 rfl (by decide) (by decide) v0 (row V d) x [.int .i64 x] (fun k => oki k ∨ wr.heap.size ≤ k) (fun _ => False) rfl rfl rfl (fun _ hk => hk.elim) HFR.out U3.out (Below.refl _ _) HGL.out HRL.out ?_); intro v1 w3 ho hb1 hg hat; obtain ⟨A2, cr, rfl⟩ := Kd.R_slice ho; have hnm : some (go + 1) ≠ v0.ownBlock := (fun e => (U4.out (go + 1) (U6.out.1 _ e.symm)).1.2 rfl); have hng : some go ≠ v0.ownBlock := (fun e => (U4.out go (U6.out.1 _ e.symm)).2 rfl); have hgs : go < wr.drew.heap.size := (by have := blk_lt HGB.out; omega); have k1 : w3.cell? ⟨go + 1, 0, none⟩ = some (Value.slice (some ⟨go, 0, none⟩) t1.length t1.length) := blk_cell (blk_grown HGB.out hg hnm) 0; have k2 : w3.cell? ⟨go, d.toNat, none⟩ = some v0 := (World.cell?_of_block (hg.block go hgs hng)).trans w1'; have k3 : w3.frozen? ⟨go, d.toNat, none⟩ = false := (World.frozen?_of_block (hg.block go hgs hng)).trans U2.out; have G1 := Aside0.mk hg; have R1 := Aside0.mk ho; have B1 := Aside0.mk (blk_grown HGB.out hg hnm); clear hg ho hb1 hat hnm hng hgs)
       all_goals go_wp2
       all_goals go_roundg (gk - 1)
       all_goals first
        | (have h1 := hk2.out; have h2 := HZ.out; omega)
        | (have h1 := hk2.out
         have h2 := HZ.out
         have h4 := HRB.out.1
         have et : (z + 1).toNat = z.toNat + 1 := by omega
         have hst := HSTEP.out _ _ _ G1.out R1.out B1.out
         exact ⟨z + 1, _, by rw [show wrap64 (z + 1) = z + 1 from by unfold wrap64; omega], ⟨by omega, by omega⟩, ⟨hst.1, by rw [et]; exact HADD.out, by rw [et]; exact hst.2.1, hst.2.2.1, hst.2.2.2.1, hst.2.2.2.2⟩⟩)
     · have q4 : decide (z < (rw1.length : Int)) = false := decide_eq_false hz
       have hd : rw1.drop z.toNat = [] := List.drop_of_length_le (by have := hk2.out; omega)
       have hJ2 := hJ.out
       rw [hd] at hJ2
       have HJ2 := Aside0.mk hJ2
       clear hd hJ2 hz hk20
       go_wp2
       go_roundg (gk1 - 1)
       case measure => have := hk.out; have := HX.out; omega
       case rel =>
        have h1 := hk.out
        have h2 := HX.out
        have h3 := hk2.out
        have h4 := HRB.out.1
        have h5 := HOK.out.2.1
        have et : (x + 1).toNat = x.toNat + 1 := by omega
        have hv : V = addAll U x rw1 := HJ2.out.2.1
        exact ⟨x + 1, V, by rw [show wrap64 (x + 1) = x + 1 from by unfold wrap64; omega], ⟨by omega, by omega⟩, ⟨HJ2.out.1, by rw [et, hv]; exact HBK1.out, fun r hr => by have := HJ2.out.2.2.1 r hr; omega, HJ2.out.2.2.2.1, HJ2.out.2.2.2.2.1, HJ2.out.2.2.2.2.2⟩⟩
  · have q3 : decide (x < (t2.length : Int)) = false := decide_eq_false hx
    have hd : t2.drop x.toNat = [] := List.drop_of_length_le (by have := hk.out; omega)
    have hI2 := hI.out
    rw [hd] at hI2
    obtain ⟨i1, rfl, i3, i4, i5, i6⟩ := hI2
    have hbw : Below w7.heap.size w7 wr := by rw [← HGO.out]; exact i6
    have HBW := Aside0.mk hbw
    have f0 := blk_below F0.out hbw
    have f1 := blk_below F1.out hbw
    have HF0 := Aside0.mk f0
    have x0 := blk_cell f1 0
    have x1 := blk_cell f1 1
    have z0 := blk_cell i5 0
    have hN := plainR (Kd.R_below HN7.out hbw)
    have hE := Kd.S_reads' (Kd.S_below HE7.out hbw)
    have hU : t1.length = (backL U x []).length ∧ t1.length ≤ t1.length ∧ KS.C wr (some ⟨go, 0, none⟩) (backL U x []).length (backL U x []) := Kd.S_reads' i4
    have hbk := HBK.out
    have hre := HRE.out
    rw [hbk] at hre
    have hcall := modgraph_reached.calls _ cn t1 _ ce t2 _ t1.length (backL U x []) s r1 r2 r3 r4 r5 wr hN.2.2 hN.2.1 hE.2.2 hE.2.1 hU.2.2 (by rw [← hU.1]; exact Nat.le_refl _) hre
    rw [← hU.1] at hcall
    have HCALL := Aside0.mk hcall
    clear hd i1 i3 i4 i5 i6 hbw f0 f1 hN hE hU hbk hre hcall hx hk0 hI
    go_wp2_with (go_at_call 31; (refine HCALL.out.mono ?_); rintro e w10 ⟨v10, rfl, hr10, hb10⟩; have HR10 := Aside0.mk hr10; have HB10 := Aside0.mk hb10; have g0 := blk_below HF0.out hb10; have HG0 := Aside0.mk g0; have y0 := blk_cell g0 0; have y1 := blk_cell g0 1; have y2 := blk_cell g0 2; have y3 := blk_cell g0 3; have e0 := blk_frozen g0 0; have e1 := blk_frozen g0 1; have e2 := blk_frozen g0 2; have e3 := blk_frozen g0 3; clear hr10 hb10 g0)
    refine bodyPost_ret (results_tc rfl _ _ w.heap.size 28 #[.int .i64 r2, .string r3, .int .i64 r4, .int .i64 r5] (0, 0) _ rfl (fst4_f HG0.out r2 r3 r4 r5) Try.underlying28 rfl hi28) rfl ?_
    have hlt : w.heap.size < wr.heap.size := by have h1 := blk_lt HF0.out; exact h1
    have hall : Below w.heap.size w w10 := ((HB5.out.trans (HB57.out.mono HB5.out.size)).trans (HBW.out.mono (by have := HB5.out.size; have := HB57.out.size; omega))).trans (HB10.out.mono (Nat.le_of_lt hlt))
    refine ⟨_, rfl, ?_, fst4_below hall (Nat.le_refl _) r2 r3 r4 r5⟩
    exact Kd.R_lower (Kd.R_mono (Kd.R_move (Kd.R_bound HR10.out) (fun k hk => fst4_heap w10 _ r2 r3 r4 r5 k (by have := hk.2.1; omega))) (fun _ _ => trivial)) (Nat.le_of_lt hlt)
end Mg
namespace P
theorem modgraph_Users.calls (A0 : Option Addr) (c0 : Nat) (l0 : List S42) (a1 : ByteArray) (r1 : List ByteArray) (r2 : Int) (r3 : ByteArray) (r4 r5 : Int) (w : World) (hr0 : Kd.C k42 w A0 l0.length l0) (hc0 : l0.length ≤ c0) (h : modgraph_Users.f l0 a1 = some (r1, r2, r3, r4, r5)) :
 Calls Try.prog 17 #[.slice A0 l0.length c0, .string a1] w fun e w' => ∃ v0_ : Value, e = .returned (.tuple #[v0_, .agg #[.int .i64 r2, .string r3, .int .i64 r4, .int .i64 r5]]) ∧ Kd.R Kd.string 9 w' w.heap.size (fun _ => True) v0_ r1 ∧ Below w.heap.size w w' := by
 unfold modgraph_Users.f at h
 obtain ⟨⟨t1, t2, t3, t4, t5, t6⟩, hl, h⟩ := Option.bind_eq_some_iff.mp h
 obtain ⟨k0, hk0⟩ := Od.lim_some hl
 have hA := hk0 k0 (Nat.le_refl _)
 simp only [] at h
 by_cases h3 : t3 = 0
 · rw [if_pos h3] at h
   by_cases ho : okB t1.length t2
   · rw [if_pos ho] at h
     subst h3
     exact Users_walk k0 A0 c0 l0 a1 w hr0 hc0 t1 t2 t4 t5 t6 hA ho r1 r2 r3 r4 r5 h
   · rw [if_neg ho] at h; cases h
 · rw [if_neg h3] at h
   simp only [Option.some.injEq, Prod.mk.injEq] at h
   obtain ⟨rfl, rfl, rfl, rfl, rfl⟩ := h
   exact Users_fault k0 A0 c0 l0 a1 w hr0 hc0 t1 t2 t3 t4 t5 t6 hA h3
end P
end Go.Proofs.Ytmadhaccjmakdaa
/- The examples of the chapter, evaluated. -/
namespace Go.Proofs.Ytmadhaccjmakdaa.P
open Go.RowKit Go.Proofs.YtmadhaccjmakdaaW.PrintWords Go.Proofs.YtmadhaccjmakdaaW.PrintLast Go.Proofs.YtmadhaccjmakdaaW.PrintMore Mg
theorem ord_x : graph_ordered.f [[1], [], []] = some [[1], [0], [2]] := Od.lim_of (k0 := 40) (fun k hk => by
 obtain ⟨m, rfl⟩ : ∃ m, k = m + 40 := ⟨k - 40, by omega⟩
 kernel_rfl)
theorem lev_x : graph_Levels.f [[1], [], []] = some ([[1, 2], [0]], 0) := Od.lim_of (k0 := 40) (fun k hk => by
 obtain ⟨m, rfl⟩ : ∃ m, k = m + 40 := ⟨k - 40, by omega⟩
 unfold Lv.levelsF
 rw [ord_x]
 kernel_rfl)
theorem acy_x {l : List S42} (h : l.map key = [([65], [[66]]), ([66], []), ([67], [])]) : modgraph_acyclic.f 40 l = some ([bz [65], bz [66], bz [67]], [[1], [], []], 0, ⟨#[]⟩, 0, 0) := by
 unfold modgraph_acyclic.f
 rw [made_abc h]
 kernel_rfl
theorem order_x {l : List S42} (h : l.map key = [([65], [[66]]), ([66], []), ([67], [])]) : modgraph_Order.f 40 l = some ([bz [66], bz [65], bz [67]], 0, ⟨#[]⟩, 0, 0) := by
 unfold modgraph_Order.f
 rw [acy_x h]
 simp only [Option.bind_some, if_true]
 unfold graph_Components.f
 rw [ord_x]
 kernel_rfl
theorem levels_x {l : List S42} (h : l.map key = [([65], [[66]]), ([66], []), ([67], [])]) : modgraph_Levels.f 40 l = some ([[bz [66], bz [67]], [bz [65]]], 0, ⟨#[]⟩, 0, 0) := by
 unfold modgraph_Levels.f
 rw [acy_x h]
 simp only [Option.bind_some, if_true]
 rw [lev_x]
 kernel_rfl
theorem reach_x : modgraph_reached.f [bz [65], bz [66], bz [67]] [[1], [], []] [[1], [], []] (bz [65]) = some ([bz [66]], 0, ⟨#[]⟩, 0, 0) := by
 have hL : (Od.lim fun k => (graph_Reach.f k [[1], [], []] (rank ([bz [65], bz [66], bz [67]].map dat) (dat (bz [65])) : Nat)).bind fun t => modgraph_program_named.f k [bz [65], bz [66], bz [67]] [[1], [], []] t) = some [bz [65], bz [66]] := Od.lim_of (k0 := 40) (fun k hk => by
  obtain ⟨m, rfl⟩ : ∃ m, k = m + 40 := ⟨k - 40, by omega⟩
  kernel_rfl)
 unfold modgraph_reached.f
 rw [if_pos (by decide), if_pos (by decide), hL]
 have hf : [bz [65], bz [66]].filter (fun x => !but (bz [65]) x) = [bz [66]] := by kernel_rfl
 show some (List.filter (fun x => !but (bz [65]) x) [bz [65], bz [66]], (0 : Int), (⟨#[]⟩ : ByteArray), (0 : Int), (0 : Int)) = _
 rw [hf]
theorem needs_x {l : List S42} (h : l.map key = [([65], [[66]]), ([66], []), ([67], [])]) : modgraph_Needs.f 40 l (bz [65]) = some ([bz [66]], 0, ⟨#[]⟩, 0, 0) := by
 unfold modgraph_Needs.f
 rw [acy_x h]
 simp only [Option.bind_some, if_true]
 rw [reach_x]
 rfl
theorem cycle_x {l : List S42} (h : l.map key = [([65], [[66]]), ([66], [[65], [67]]), ([67], [[66]])]) : modgraph_Cycle.f 100 l = some [bz [65], bz [66]] := by
 unfold modgraph_Cycle.f
 rw [made_cyc h]
 kernel_rfl
theorem missI_bz (K : List (List UInt8)) : ∀ l : List S66, missI K l = ((l.map im).find? (fun x => !K.contains x)).map bz := by
 intro l
 induction l with
 | nil => rfl
 | cons i l ih =>
  unfold missI
  by_cases h : K.contains (im i) = true
  · rw [if_pos h, ih, List.map_cons, List.find?_cons_of_neg (by simpa using h)]
  · rw [if_neg h, List.map_cons, List.find?_cons_of_pos (by simpa using h)]
    rfl
theorem made_x {l : List S42} (h : l.map key = [([65], [[88]])]) : modgraph_made.f l = some ([], [], 16, bz [88], 0, 0) := by
 have hk := nm_key l
 rw [h] at hk
 have hlen : l.length = 1 := by have := congrArg List.length h; simpa using this
 obtain ⟨m, rfl⟩ : ∃ m, l = [m] := List.length_eq_one_iff.1 hlen
 have hkm : key m = ([65], [[88]]) := by simpa using h
 have hi : m.f3.map im = [[88]] := congrArg Prod.snd hkm
 unfold modgraph_made.f
 rw [if_neg (by simp), if_pos (okSizes_key (by rw [h]; decide)), twice_of _ [] (by rw [hk]; decide)]
 simp only []
 rw [hk]
 unfold miss
 rw [missI_bz, hi]
 rfl
theorem order_miss {l : List S42} (h : l.map key = [([65], [[88]])]) : modgraph_Order.f 40 l = some ([], 16, bz [88], 0, 0) := by
 unfold modgraph_Order.f modgraph_acyclic.f
 rw [made_x h]
 rfl
theorem reach_y : modgraph_reached.f [bz [65], bz [66], bz [67]] [[1], [], []] [[], [0], []] (bz [66]) = some ([bz [65]], 0, ⟨#[]⟩, 0, 0) := by
 have hL : (Od.lim fun k => (graph_Reach.f k [[], [0], []] (rank ([bz [65], bz [66], bz [67]].map dat) (dat (bz [66])) : Nat)).bind fun t => modgraph_program_named.f k [bz [65], bz [66], bz [67]] [[1], [], []] t) = some [bz [65], bz [66]] := Od.lim_of (k0 := 40) (fun k hk => by
  obtain ⟨m, rfl⟩ : ∃ m, k = m + 40 := ⟨k - 40, by omega⟩
  kernel_rfl)
 unfold modgraph_reached.f
 rw [if_pos (by decide), if_pos (by decide), hL]
 have hf : [bz [65], bz [66]].filter (fun x => !but (bz [66]) x) = [bz [65]] := by kernel_rfl
 show some (List.filter (fun x => !but (bz [66]) x) [bz [65], bz [66]], (0 : Int), (⟨#[]⟩ : ByteArray), (0 : Int), (0 : Int)) = _
 rw [hf]
theorem users_x {l : List S42} (h : l.map key = [([65], [[66]]), ([66], []), ([67], [])]) : modgraph_Users.f l (bz [66]) = some ([bz [65]], 0, ⟨#[]⟩, 0, 0) := by
 have hL : (Od.lim fun k => modgraph_acyclic.f k l) = some ([bz [65], bz [66], bz [67]], [[1], [], []], 0, ⟨#[]⟩, 0, 0) := Od.lim_of (k0 := 40) (fun k hk => by
  obtain ⟨m, rfl⟩ : ∃ m, k = m + 40 := ⟨k - 40, by omega⟩
  unfold modgraph_acyclic.f
  rw [made_abc h]
  kernel_rfl)
 have hb : backL (List.replicate [bz [65], bz [66], bz [67]].length []) 0 [[1], [], []] = [[], [0], []] := by kernel_rfl
 have ho : okB [bz [65], bz [66], bz [67]].length [[1], [], []] := by unfold okB; decide
 unfold modgraph_Users.f
 rw [hL]
 simp only [Option.bind_some, if_true]
 rw [if_pos ho, hb]
 exact reach_y
end Go.Proofs.Ytmadhaccjmakdaa.P
namespace Go.Proofs.Ytmadhaccjmakdaa.P
open Go.RowKit Go.Proofs.YtmadhaccjmakdaaW.PrintWords Go.Proofs.YtmadhaccjmakdaaW.PrintLast Go.Proofs.YtmadhaccjmakdaaW.PrintMore
attribute [local go_sem] str_gtr str_leq str_geq max2_int min2_int max_two min_two max_three min_three max_four min_four
theorem eqA28 (d : Nat) (w : World) (x0 y0 : Int) (x1 y1 : ByteArray) (x2 y2 : Int) (x3 y3 : Int) :
 (Op.equalIn (d + 2) 28 (.agg #[.int .i64 x0, .string x1, .int .i64 x2, .int .i64 x3]) (.agg #[.int .i64 y0, .string y1, .int .i64 y2, .int .i64 y3])).run Try.prog w = .ok (x0 == y0 && (x1.toList == y1.toList && (x2 == y2 && (x3 == y3)))) w := by
 refine eqA_of Try.underlying28 (by kernel_rfl) ?_
 refine eqf_cons (by rfl) (by go_simp; rfl) (by go_simp; rfl) (by go_simp) ?_
 refine eqf_cons (by rfl) (by go_simp; rfl) (by go_simp; rfl) (by go_simp) ?_
 refine eqf_cons (by rfl) (by go_simp; rfl) (by go_simp; rfl) (by go_simp) ?_
 exact eqf_last (by rfl) (by go_simp; rfl) (by go_simp; rfl) (by go_simp)
end Go.Proofs.Ytmadhaccjmakdaa.P
/- The examples' function returns true. -/
namespace Go.Proofs.Ytmadhaccjmakdaa
open Go.RowKit Go.Proofs.YtmadhaccjmakdaaW.PrintWords Go.Proofs.YtmadhaccjmakdaaW.PrintLast Go.Proofs.YtmadhaccjmakdaaW.PrintMore
attribute [local go_sem] str_gtr str_leq str_geq max2_int min2_int max_two min_two max_three min_three max_four min_four
open P Mg
attribute [local go_sem high] eqA28
namespace Aw
def Stab (p : World → Prop) : Prop := ∀ w w1, Below w.heap.size w w1 → p w → p w1
theorem stab_and {p q : World → Prop} (hp : Stab p) (hq : Stab q) : Stab fun w => p w ∧ q w := fun w w1 hb h => ⟨hp w w1 hb h.1, hq w w1 hb h.2⟩
theorem stab_c {α : Type} (d : Kd α) (A : Option Addr) (n : Nat) (xs : List α) : Stab fun w => d.C w A n xs := fun w w1 hb h => Kd.C_below h hb
theorem stab_k {α : Type} (d : Kd α) (x : α) (cs : List Value) : Stab fun w => d.K w x cs := fun w w1 hb h => d.K_below hb h
theorem stab_b (w0 : World) : Stab fun w => Below w0.heap.size w0 w := fun w w1 hb h => below_step h hb
theorem stab_x (g : Nat) (cs : Array Value) (t : TypeId) : Stab fun w => w.heap[g]? = some (.cells cs t (0, 0)) := fun w w1 hb h => blk_below h hb
theorem C_lit {α : Type} (d : Kd α) (w : World) {xs : List α} {inner : List Value} (e : TypeId) (hrep : Reps (d.K w) d.sz xs inner) (hm : xs.length ≤ 9223372036854775807) (hl : inner.length = xs.length * d.sz) :
 d.C (w.alloc (.cells inner.toArray e)) (some ⟨w.heap.size, 0, none⟩) xs.length xs := by
 refine ⟨rfl, hm, fun _ => ⟨_, rfl, fun j p hj => ⟨_, ?_, d.K_below (below_alloc (Below.refl _ _) _) (hrep.2 j p hj), fun i u hu => ?_⟩⟩⟩
 · exact d.K_len (hrep.2 j p hj)
 · have hb := (MapKept.heap_alloc w (.cells inner.toArray e)).1
   have hu' : inner[j * d.sz + i]? = some u := by
    rw [List.getElem?_take] at hu
    split at hu
    · rw [List.getElem?_drop] at hu; exact hu
    · cases hu
   have hadd : (⟨w.heap.size, 0, none⟩ : Addr).add (j * d.sz + i) = ⟨w.heap.size, j * d.sz + i, none⟩ := by
    unfold Addr.add
    split
    · rename_i h0; rw [h0]
    · simp
   rw [hadd, blk_cell hb]
   simpa using hu'
def i66 (x : ByteArray) : S66 := ⟨x, false, ⟨#[]⟩, false, false, []⟩
def mm (x : ByteArray) (l : List ByteArray) : S42 := ⟨x, false, [], l.map i66, RawS.nil⟩
theorem mod_ex (s : ByteArray) (l1 : List ByteArray) (x : S42) (h : lazyclaw10_module.f 40 s l1 = some (x.f0, x.f1, x.f2, x.f3, x.f4)) (A1 : Option Addr) (c1 : Nat) (w : World) (hr1 : Kd.C Kd.string w A1 l1.length l1) (hc1 : l1.length ≤ c1) :
 Calls Try.prog 23 #[.string s, .slice A1 l1.length c1] w fun e w' => ∃ A2 c2 A3 c3, e = .returned (.agg #[.string x.f0, .bool x.f1, .slice A2 x.f2.length c2, .slice A3 x.f3.length c3, .slice x.f4.a x.f4.n x.f4.c]) ∧
  k42.K w' x [.string x.f0, .bool x.f1, .slice A2 x.f2.length c2, .slice A3 x.f3.length c3, .slice x.f4.a x.f4.n x.f4.c] ∧ Below w.heap.size w w' := by
 refine (lazyclaw10_module.calls 40 s A1 c1 l1 _ _ _ _ _ w hr1 hc1 h).mono ?_
 rintro e w' ⟨v2, v3, rfl, h2, h3, hb⟩
 obtain ⟨A2, c2, rfl, l2, g2⟩ := Kd.S_reads h2
 obtain ⟨A3, c3, rfl, l3, g3⟩ := Kd.R_reads h3
 exact ⟨A2, c2, A3, c3, rfl, k42_mk w' x l2 g2 l3 g3, hb⟩
end Aw
namespace Aw
theorem rS1 (w : World) (x : ByteArray) : Reps (Kd.string.K w) 1 [x] [.string x] := Reps.one (show Kd.K Kd.string w x [.string x] from rfl) (Reps.none _ _)
theorem sC1 (w : World) (x : ByteArray) : Kd.string.C (w.alloc (.cells #[.string x] 9)) (some ⟨w.heap.size, 0, none⟩) 1 [x] := C_lit Kd.string w 9 (rS1 w x) (by simp) rfl
theorem sC2 (w : World) (x y : ByteArray) : Kd.string.C (w.alloc (.cells #[.string x, .string y] 9)) (some ⟨w.heap.size, 0, none⟩) 2 [x, y] :=
 C_lit Kd.string w 9 (Reps.one (show Kd.K Kd.string w x [.string x] from rfl) (rS1 w y)) (by simp) rfl
theorem sC3 (w : World) (x y z : ByteArray) : Kd.string.C (w.alloc (.cells #[.string x, .string y, .string z] 9)) (some ⟨w.heap.size, 0, none⟩) 3 [x, y, z] :=
 C_lit Kd.string w 9 (Reps.one (show Kd.K Kd.string w x [.string x] from rfl) (Reps.one (show Kd.K Kd.string w y [.string y] from rfl) (rS1 w z))) (by simp) rfl
theorem mod0_ex (s : ByteArray) (w : World) : Calls Try.prog 23 #[.string s, .slice none 0 0] w fun e w' => ∃ A2 c2 A3 c3, e = .returned (.agg #[.string s, .bool false, .slice A2 0 c2, .slice A3 0 c3, .slice none 0 0]) ∧
 k42.K w' (mm s []) [.string s, .bool false, .slice A2 0 c2, .slice A3 0 c3, .slice none 0 0] ∧ Below w.heap.size w w' :=
 mod_ex s [] (mm s []) (by rfl) none 0 w (Kd.C_nil _ _) (Nat.le_refl _)
theorem mod1_ex (s x : ByteArray) (w : World) : Calls Try.prog 23 #[.string s, .slice (some ⟨w.heap.size, 0, none⟩) 1 1] (w.alloc (.cells #[.string x] 9)) fun e w' => ∃ A2 c2 A3 c3, e = .returned (.agg #[.string s, .bool false, .slice A2 0 c2, .slice A3 1 c3, .slice none 0 0]) ∧
 k42.K w' (mm s [x]) [.string s, .bool false, .slice A2 0 c2, .slice A3 1 c3, .slice none 0 0] ∧ Below w.heap.size w w' :=
 (mod_ex s [x] (mm s [x]) (by kernel_rfl) _ 1 _ (sC1 w x) (Nat.le_refl _)).mono fun e w' ⟨A2, c2, A3, c3, h1, h2, h3⟩ => ⟨A2, c2, A3, c3, h1, h2, below_step (below_alloc (Below.refl _ _) _) h3⟩
theorem mod2_ex (s x y : ByteArray) (w : World) : Calls Try.prog 23 #[.string s, .slice (some ⟨w.heap.size, 0, none⟩) 2 2] (w.alloc (.cells #[.string x, .string y] 9)) fun e w' => ∃ A2 c2 A3 c3, e = .returned (.agg #[.string s, .bool false, .slice A2 0 c2, .slice A3 2 c3, .slice none 0 0]) ∧
 k42.K w' (mm s [x, y]) [.string s, .bool false, .slice A2 0 c2, .slice A3 2 c3, .slice none 0 0] ∧ Below w.heap.size w w' :=
 (mod_ex s [x, y] (mm s [x, y]) (by kernel_rfl) _ 2 _ (sC2 w x y) (Nat.le_refl _)).mono fun e w' ⟨A2, c2, A3, c3, h1, h2, h3⟩ => ⟨A2, c2, A3, c3, h1, h2, below_step (below_alloc (Below.refl _ _) _) h3⟩
def L1 : List S42 := [mm (bz [65]) [bz [66]], mm (bz [66]) [], mm (bz [67]) []]
def L2 : List S42 := [mm (bz [65]) [bz [88]]]
def L3 : List S42 := [mm (bz [65]) [bz [66]], mm (bz [66]) [bz [65], bz [67]], mm (bz [67]) [bz [66]]]
theorem key1 : L1.map key = [([65], [[66]]), ([66], []), ([67], [])] := by kernel_rfl
theorem key2 : L2.map key = [([65], [[88]])] := by kernel_rfl
theorem key3 : L3.map key = [([65], [[66]]), ([66], [[65], [67]]), ([67], [[66]])] := by kernel_rfl
theorem ord_ex (A : Option Addr) (c : Nat) (w : World) (h : k42.C w A 3 L1) (hc : 3 ≤ c) : Calls Try.prog 10 #[.slice A 3 c] w fun e w' => ∃ A2 c2, e = .returned (.tuple #[.slice A2 3 c2, .agg #[.int .i64 0, .string ⟨#[]⟩, .int .i64 0, .int .i64 0]]) ∧
 Kd.string.C w' A2 3 [(⟨#[66]⟩ : ByteArray), (⟨#[65]⟩ : ByteArray), (⟨#[67]⟩ : ByteArray)] ∧ 3 ≤ c2 ∧ Below w.heap.size w w' := by
 refine (modgraph_Order.calls 40 A c L1 _ _ _ _ _ w h hc (order_x key1)).mono ?_
 rintro e w' ⟨v, rfl, hr, hb⟩
 obtain ⟨A2, c2, rfl, l2, g2⟩ := Kd.R_reads hr
 exact ⟨A2, c2, rfl, g2, l2, hb⟩
theorem lev_ex (A : Option Addr) (c : Nat) (w : World) (h : k42.C w A 3 L1) (hc : 3 ≤ c) : Calls Try.prog 12 #[.slice A 3 c] w fun e w' => ∃ A2 c2, e = .returned (.tuple #[.slice A2 2 c2, .agg #[.int .i64 0, .string ⟨#[]⟩, .int .i64 0, .int .i64 0]]) ∧
 (Kd.slice 9 Kd.string).C w' A2 2 [[(⟨#[66]⟩ : ByteArray), (⟨#[67]⟩ : ByteArray)], [(⟨#[65]⟩ : ByteArray)]] ∧ 2 ≤ c2 ∧ Below w.heap.size w w' := by
 refine (modgraph_Levels.calls 40 A c L1 _ _ _ _ _ w h hc (levels_x key1)).mono ?_
 rintro e w' ⟨v, rfl, hr, hb⟩
 obtain ⟨A2, c2, rfl, l2, g2⟩ := Kd.S_reads hr
 exact ⟨A2, c2, rfl, g2, l2, hb⟩
theorem needs_ex (A : Option Addr) (c : Nat) (w : World) (h : k42.C w A 3 L1) (hc : 3 ≤ c) : Calls Try.prog 15 #[.slice A 3 c, .string ⟨#[65]⟩] w fun e w' => ∃ A2 c2, e = .returned (.tuple #[.slice A2 1 c2, .agg #[.int .i64 0, .string ⟨#[]⟩, .int .i64 0, .int .i64 0]]) ∧
 Kd.string.C w' A2 1 [(⟨#[66]⟩ : ByteArray)] ∧ 1 ≤ c2 ∧ Below w.heap.size w w' := by
 refine (modgraph_Needs.calls 40 A c L1 _ _ _ _ _ _ w h hc (needs_x key1)).mono ?_
 rintro e w' ⟨v, rfl, hr, hb⟩
 obtain ⟨A2, c2, rfl, l2, g2⟩ := Kd.R_reads hr
 exact ⟨A2, c2, rfl, g2, l2, hb⟩
theorem users_ex (A : Option Addr) (c : Nat) (w : World) (h : k42.C w A 3 L1) (hc : 3 ≤ c) : Calls Try.prog 17 #[.slice A 3 c, .string ⟨#[66]⟩] w fun e w' => ∃ A2 c2, e = .returned (.tuple #[.slice A2 1 c2, .agg #[.int .i64 0, .string ⟨#[]⟩, .int .i64 0, .int .i64 0]]) ∧
 Kd.string.C w' A2 1 [(⟨#[65]⟩ : ByteArray)] ∧ 1 ≤ c2 ∧ Below w.heap.size w w' := by
 refine (modgraph_Users.calls A c L1 _ _ _ _ _ _ w h hc (users_x key1)).mono ?_
 rintro e w' ⟨v, rfl, hr, hb⟩
 obtain ⟨A2, c2, rfl, l2, g2⟩ := Kd.R_reads hr
 exact ⟨A2, c2, rfl, g2, l2, hb⟩
theorem miss_ex (A : Option Addr) (c : Nat) (w : World) (h : k42.C w A 1 L2) (hc : 1 ≤ c) : Calls Try.prog 10 #[.slice A 1 c] w fun e w' => ∃ A2 c2, e = .returned (.tuple #[.slice A2 0 c2, .agg #[.int .i64 16, .string ⟨#[88]⟩, .int .i64 0, .int .i64 0]]) ∧ Below w.heap.size w w' := by
 refine (modgraph_Order.calls 40 A c L2 _ _ _ _ _ w h hc (order_miss key2)).mono ?_
 rintro e w' ⟨v, rfl, hr, hb⟩
 obtain ⟨A2, c2, rfl, l2, g2⟩ := Kd.R_reads hr
 exact ⟨A2, c2, rfl, hb⟩
theorem cyc_ex (A : Option Addr) (c : Nat) (w : World) (h : k42.C w A 3 L3) (hc : 3 ≤ c) : Calls Try.prog 19 #[.slice A 3 c] w fun e w' => ∃ A2 c2, e = .returned (.slice A2 2 c2) ∧ Kd.string.C w' A2 2 [(⟨#[65]⟩ : ByteArray), (⟨#[66]⟩ : ByteArray)] ∧ 2 ≤ c2 ∧ Below w.heap.size w w' := by
 refine (modgraph_Cycle.calls 100 A c L3 _ w h hc (cycle_x key3)).mono ?_
 rintro e w' ⟨v, rfl, hr, hb⟩
 obtain ⟨A2, c2, rfl, l2, g2⟩ := Kd.R_reads hr
 exact ⟨A2, c2, rfl, g2, l2, hb⟩
theorem same_ex (l : List ByteArray) (hl : lazyclaw10_same.f 40 l l = some true) (A1 A2 : Option Addr) (c1 c2 n : Nat) (w : World) (hn : l.length = n) (h1 : Kd.string.C w A1 n l) (h2 : Kd.string.C w A2 n l) (hc1 : n ≤ c1) (hc2 : n ≤ c2) :
 Calls Try.prog 14 #[.slice A1 n c1, .slice A2 n c2] w fun e w' => e = .returned (.bool true) ∧ Drawn0 w w' := by
 subst hn
 exact lazyclaw10_same.calls 40 A1 c1 l A2 c2 l true w h1 hc1 h2 hc2 hl
theorem same1 : lazyclaw10_same.f 40 [bz [66], bz [65], bz [67]] [bz [66], bz [65], bz [67]] = some true := by kernel_rfl
theorem same2 : lazyclaw10_same.f 40 [bz [66], bz [67]] [bz [66], bz [67]] = some true := by kernel_rfl
theorem same3 : lazyclaw10_same.f 40 [bz [66]] [bz [66]] = some true := by kernel_rfl
theorem same4 : lazyclaw10_same.f 40 [bz [65]] [bz [65]] = some true := by kernel_rfl
theorem same5 : lazyclaw10_same.f 40 [bz [65], bz [66]] [bz [65], bz [66]] = some true := by kernel_rfl
theorem box_x (W : World) (cs : Array Value) : ∃ W1 g, W.alloc (.cells cs 28) = W1 ∧ W.heap.size = g ∧ W1.heap[g]? = some (.cells cs 28 (0, 0)) ∧ Below W.heap.size W W1 := ⟨_, _, rfl, rfl, blk_new W _, below_alloc (Below.refl _ _) _⟩
theorem L1_lit {w : World} {A0 A1 A2 A3 A4 A5 : Option Addr} {c0 c1 c2 c3 c4 c5 : Nat} (h0 : k42.K w (mm ⟨#[65]⟩ [⟨#[66]⟩]) [.string ⟨#[65]⟩, .bool false, .slice A0 0 c0, .slice A1 1 c1, .slice none 0 0])
 (h1 : k42.K w (mm ⟨#[66]⟩ []) [.string ⟨#[66]⟩, .bool false, .slice A2 0 c2, .slice A3 0 c3, .slice none 0 0]) (h2 : k42.K w (mm ⟨#[67]⟩ []) [.string ⟨#[67]⟩, .bool false, .slice A4 0 c4, .slice A5 0 c5, .slice none 0 0]) :
 k42.C (w.alloc (.cells #[.string ⟨#[65]⟩, .bool false, .slice A0 0 c0, .slice A1 1 c1, .slice none 0 0, .string ⟨#[66]⟩, .bool false, .slice A2 0 c2, .slice A3 0 c3, .slice none 0 0, .string ⟨#[67]⟩, .bool false, .slice A4 0 c4, .slice A5 0 c5, .slice none 0 0] 42)) (some ⟨w.heap.size, 0, none⟩) 3 L1 :=
 C_lit k42 w 42 (Reps.c5 h0 (Reps.c5 h1 (Reps.c5 h2 (Reps.none _ _)))) (by decide) rfl
theorem L2_lit {w : World} {A0 A1 : Option Addr} {c0 c1 : Nat} (h0 : k42.K w (mm ⟨#[65]⟩ [⟨#[88]⟩]) [.string ⟨#[65]⟩, .bool false, .slice A0 0 c0, .slice A1 1 c1, .slice none 0 0]) :
 k42.C (w.alloc (.cells #[.string ⟨#[65]⟩, .bool false, .slice A0 0 c0, .slice A1 1 c1, .slice none 0 0] 42)) (some ⟨w.heap.size, 0, none⟩) 1 L2 :=
 C_lit k42 w 42 (Reps.c5 h0 (Reps.none _ _)) (by decide) rfl
theorem L3_lit {w : World} {A0 A1 A2 A3 A4 A5 : Option Addr} {c0 c1 c2 c3 c4 c5 : Nat} (h0 : k42.K w (mm ⟨#[65]⟩ [⟨#[66]⟩]) [.string ⟨#[65]⟩, .bool false, .slice A0 0 c0, .slice A1 1 c1, .slice none 0 0])
 (h1 : k42.K w (mm ⟨#[66]⟩ [⟨#[65]⟩, ⟨#[67]⟩]) [.string ⟨#[66]⟩, .bool false, .slice A2 0 c2, .slice A3 2 c3, .slice none 0 0]) (h2 : k42.K w (mm ⟨#[67]⟩ [⟨#[66]⟩]) [.string ⟨#[67]⟩, .bool false, .slice A4 0 c4, .slice A5 1 c5, .slice none 0 0]) :
 k42.C (w.alloc (.cells #[.string ⟨#[65]⟩, .bool false, .slice A0 0 c0, .slice A1 1 c1, .slice none 0 0, .string ⟨#[66]⟩, .bool false, .slice A2 0 c2, .slice A3 2 c3, .slice none 0 0, .string ⟨#[67]⟩, .bool false, .slice A4 0 c4, .slice A5 1 c5, .slice none 0 0] 42)) (some ⟨w.heap.size, 0, none⟩) 3 L3 :=
 C_lit k42 w 42 (Reps.c5 h0 (Reps.c5 h1 (Reps.c5 h2 (Reps.none _ _)))) (by decide) rfl
theorem stab_cell (a : Addr) (v : Value) : Stab fun w => w.cell? a = some v := fun w w1 hb h => pw_cell_below hb h
theorem box4 {w : World} {g : Nat} {a b c d : Value} {t : TypeId} (h : w.heap[g]? = some (.cells #[a, b, c, d] t (0, 0))) : w.cell? ⟨g, 0, none⟩ = some a ∧ w.cell? ⟨g, 1, none⟩ = some b ∧ w.cell? ⟨g, 2, none⟩ = some c ∧ w.cell? ⟨g, 3, none⟩ = some d :=
 ⟨blk_cell h 0, blk_cell h 1, blk_cell h 2, blk_cell h 3⟩
theorem lev0 {w : World} {A : Option Addr} (h : (Kd.slice 9 Kd.string).C w A 2 [[(⟨#[66]⟩ : ByteArray), (⟨#[67]⟩ : ByteArray)], [(⟨#[65]⟩ : ByteArray)]]) : ∃ ad X f, A = some ad ∧ w.cell? ad = some (.slice X 2 f) ∧ 2 ≤ f ∧ Kd.string.C w X 2 [(⟨#[66]⟩ : ByteArray), (⟨#[67]⟩ : ByteArray)] := by
 obtain ⟨ad, X, f, h1, h2, h3, h4⟩ := at_L2 h 0 (by decide) (by decide)
 exact ⟨ad, X, f, h1, by have h5 : w.cell? (ad.add 0) = some (.slice X 2 f) := h2; simpa [Addr.add] using h5, h3, h4⟩
theorem sm1 (A1 A2 : Option Addr) (c1 c2 : Nat) (w : World) (h1 : Kd.string.C w A1 3 [(⟨#[66]⟩ : ByteArray), (⟨#[65]⟩ : ByteArray), (⟨#[67]⟩ : ByteArray)]) (h2 : Kd.string.C w A2 3 [(⟨#[66]⟩ : ByteArray), (⟨#[65]⟩ : ByteArray), (⟨#[67]⟩ : ByteArray)]) (hc1 : 3 ≤ c1) (hc2 : 3 ≤ c2) : Calls Try.prog 14 #[.slice A1 3 c1, .slice A2 3 c2] w fun e w' => e = .returned (.bool true) ∧ Drawn0 w w' := same_ex _ same1 A1 A2 c1 c2 3 w rfl h1 h2 hc1 hc2
theorem sm2 (A1 A2 : Option Addr) (c1 c2 : Nat) (w : World) (h1 : Kd.string.C w A1 2 [(⟨#[66]⟩ : ByteArray), (⟨#[67]⟩ : ByteArray)]) (h2 : Kd.string.C w A2 2 [(⟨#[66]⟩ : ByteArray), (⟨#[67]⟩ : ByteArray)]) (hc1 : 2 ≤ c1) (hc2 : 2 ≤ c2) : Calls Try.prog 14 #[.slice A1 2 c1, .slice A2 2 c2] w fun e w' => e = .returned (.bool true) ∧ Drawn0 w w' := same_ex _ same2 A1 A2 c1 c2 2 w rfl h1 h2 hc1 hc2
theorem sm3 (A1 A2 : Option Addr) (c1 c2 : Nat) (w : World) (h1 : Kd.string.C w A1 1 [(⟨#[66]⟩ : ByteArray)]) (h2 : Kd.string.C w A2 1 [(⟨#[66]⟩ : ByteArray)]) (hc1 : 1 ≤ c1) (hc2 : 1 ≤ c2) : Calls Try.prog 14 #[.slice A1 1 c1, .slice A2 1 c2] w fun e w' => e = .returned (.bool true) ∧ Drawn0 w w' := same_ex _ same3 A1 A2 c1 c2 1 w rfl h1 h2 hc1 hc2
theorem sm4 (A1 A2 : Option Addr) (c1 c2 : Nat) (w : World) (h1 : Kd.string.C w A1 1 [(⟨#[65]⟩ : ByteArray)]) (h2 : Kd.string.C w A2 1 [(⟨#[65]⟩ : ByteArray)]) (hc1 : 1 ≤ c1) (hc2 : 1 ≤ c2) : Calls Try.prog 14 #[.slice A1 1 c1, .slice A2 1 c2] w fun e w' => e = .returned (.bool true) ∧ Drawn0 w w' := same_ex _ same4 A1 A2 c1 c2 1 w rfl h1 h2 hc1 hc2
theorem sm5 (A1 A2 : Option Addr) (c1 c2 : Nat) (w : World) (h1 : Kd.string.C w A1 2 [(⟨#[65]⟩ : ByteArray), (⟨#[66]⟩ : ByteArray)]) (h2 : Kd.string.C w A2 2 [(⟨#[65]⟩ : ByteArray), (⟨#[66]⟩ : ByteArray)]) (hc1 : 2 ≤ c1) (hc2 : 2 ≤ c2) : Calls Try.prog 14 #[.slice A1 2 c1, .slice A2 2 c2] w fun e w' => e = .returned (.bool true) ∧ Drawn0 w w' := same_ex _ same5 A1 A2 c1 c2 2 w rfl h1 h2 hc1 hc2
set_option maxHeartbeats 8000000 in
set_option maxRecDepth 100000 in
theorem awake_calls (w : World) : Calls Try.prog 9 #[] w fun e w' => e = .returned (.bool true) ∧ Below w.heap.size w w' := by
 have hu28 := Try.underlying28
 have hu22 := Try.underlying22
 have hu25 := Try.underlying25
 have HS := Aside0.mk (stab_b w)
 have HP := Aside0.mk (Below.refl w.heap.size w)
 go_enter Try.func9, Try.ntmps9
 go_upto_region 2 with (first | (go_at_call 23; (with_reducible refine (mod1_ex ⟨#[65]⟩ ⟨#[66]⟩ _).mono ?_); rintro e w1 ⟨A0, c0, A1, c1, rfl, hk, hb⟩; have n0 := Aside0.mk (HS.out _ _ hb HP.out); clear HP; have HP := n0; clear n0; have HK0 := Aside0.mk hk; clear hk hb) | (go_at_call 23; (with_reducible refine (mod0_ex ⟨#[66]⟩ _).mono ?_); rintro e w2 ⟨A2, c2, A3, c3, rfl, hk, hb⟩; have n0 := Aside0.mk (HS.out _ _ hb HP.out); clear HP; have HP := n0; clear n0; have n0 := Aside0.mk (stab_k _ _ _ _ _ hb HK0.out); clear HK0; have HK0 := n0; clear n0; have HK1 := Aside0.mk hk; clear hk hb) | (go_at_call 23; (with_reducible refine (mod0_ex ⟨#[67]⟩ _).mono ?_); rintro e w3 ⟨A4, c4, A5, c5, rfl, hk, hb⟩; have n0 := Aside0.mk (HS.out _ _ hb HP.out); clear HP; have HP := n0; clear n0; have n0 := Aside0.mk (stab_k _ _ _ _ _ hb HK0.out); clear HK0; have HK0 := n0; clear n0; have n0 := Aside0.mk (stab_k _ _ _ _ _ hb HK1.out); clear HK1; have HK1 := n0; clear n0; have HK2 := Aside0.mk hk; clear hk hb))
 have hl := L1_lit HK0.out HK1.out HK2.out
 have hb := below_alloc (Below.refl w3.heap.size w3) (.cells #[Value.string ⟨#[65]⟩, Value.bool false, Value.slice A0 0 c0, Value.slice A1 1 c1, Value.slice none 0 0, Value.string ⟨#[66]⟩, Value.bool false, Value.slice A2 0 c2, Value.slice A3 0 c3, Value.slice none 0 0, Value.string ⟨#[67]⟩, Value.bool false, Value.slice A4 0 c4, Value.slice A5 0 c5, Value.slice none 0 0] 42)
 generalize w3.alloc (.cells #[Value.string ⟨#[65]⟩, Value.bool false, Value.slice A0 0 c0, Value.slice A1 1 c1, Value.slice none 0 0, Value.string ⟨#[66]⟩, Value.bool false, Value.slice A2 0 c2, Value.slice A3 0 c3, Value.slice none 0 0, Value.string ⟨#[67]⟩, Value.bool false, Value.slice A4 0 c4, Value.slice A5 0 c5, Value.slice none 0 0] 42) = W4 at *
 have HP1 := Aside0.mk (And.intro (HS.out _ _ hb HP.out) hl)
 have HS1 := Aside0.mk (stab_and HS.out (stab_c k42 (some ⟨w3.heap.size, 0, none⟩) 3 L1))
 clear HP HS hb hl HK0 HK1 HK2
 generalize (some (⟨w3.heap.size, 0, none⟩ : Addr)) = AL at *
 go_upto_region 3 with (first | (go_at_call 10; (with_reducible refine (ord_ex _ _ _ HP1.out.2 (Nat.le_refl _)).mono ?_); rintro e w4 ⟨B2, d2, rfl, hc, hl2, hb⟩; have HX := Aside0.mk (HS1.out _ _ hb HP1.out); clear HP1; have HP1 := HX; clear HX; have HC := Aside0.mk hc; clear hc; clear hb))
 obtain ⟨W12, g2, e1, e2, hx, hb⟩ := box_x w4 #[.int .i64 0, .string ⟨#[]⟩, .int .i64 0, .int .i64 0]
 rw [e1, e2]
 clear e1 e2
 have HQ := Aside0.mk (And.intro (HS1.out _ _ hb HP1.out) (And.intro (Kd.C_below HC.out hb) hx))
 have HT := Aside0.mk (stab_and HS1.out (stab_and (stab_c Kd.string B2 3 [(⟨#[66]⟩ : ByteArray), (⟨#[65]⟩ : ByteArray), (⟨#[67]⟩ : ByteArray)]) (stab_x g2 #[.int .i64 0, .string ⟨#[]⟩, .int .i64 0, .int .i64 0] 28)))
 clear HP1 HS1 hb hx HC
 have HP2 := HQ
 have HS2 := HT
 clear HQ HT
 go_upto_region 4 with (first | (go_at_call 12; (with_reducible refine (lev_ex _ _ _ HP2.out.1.2 (Nat.le_refl _)).mono ?_); rintro e w5 ⟨B3, d3, rfl, hc, hl3, hb⟩; have HX := Aside0.mk (HS2.out _ _ hb HP2.out); clear HP2; have HP2 := HX; clear HX; have HC := Aside0.mk hc; clear hc; clear hb))
 obtain ⟨W13, g3, e1, e2, hx, hb⟩ := box_x w5 #[.int .i64 0, .string ⟨#[]⟩, .int .i64 0, .int .i64 0]
 rw [e1, e2]
 clear e1 e2
 have HQ := Aside0.mk (And.intro (HS2.out _ _ hb HP2.out) (And.intro (Kd.C_below HC.out hb) hx))
 have HT := Aside0.mk (stab_and HS2.out (stab_and (stab_c (Kd.slice 9 Kd.string) B3 2 [[(⟨#[66]⟩ : ByteArray), (⟨#[67]⟩ : ByteArray)], [(⟨#[65]⟩ : ByteArray)]]) (stab_x g3 #[.int .i64 0, .string ⟨#[]⟩, .int .i64 0, .int .i64 0] 28)))
 clear HP2 HS2 hb hx HC
 have HP3 := HQ
 have HS3 := HT
 clear HQ HT
 go_upto_region 5 with (first | (go_at_call 15; (with_reducible refine (needs_ex _ _ _ HP3.out.1.1.2 (Nat.le_refl _)).mono ?_); rintro e w6 ⟨B4, d4, rfl, hc, hl4, hb⟩; have HX := Aside0.mk (HS3.out _ _ hb HP3.out); clear HP3; have HP3 := HX; clear HX; have HC := Aside0.mk hc; clear hc; clear hb))
 obtain ⟨W14, g4, e1, e2, hx, hb⟩ := box_x w6 #[.int .i64 0, .string ⟨#[]⟩, .int .i64 0, .int .i64 0]
 rw [e1, e2]
 clear e1 e2
 have HQ := Aside0.mk (And.intro (HS3.out _ _ hb HP3.out) (And.intro (Kd.C_below HC.out hb) hx))
 have HT := Aside0.mk (stab_and HS3.out (stab_and (stab_c Kd.string B4 1 [(⟨#[66]⟩ : ByteArray)]) (stab_x g4 #[.int .i64 0, .string ⟨#[]⟩, .int .i64 0, .int .i64 0] 28)))
 clear HP3 HS3 hb hx HC
 have HP4 := HQ
 have HS4 := HT
 clear HQ HT
 go_upto_region 6 with (first | (go_at_call 17; (with_reducible refine (users_ex _ _ _ HP4.out.1.1.1.2 (Nat.le_refl _)).mono ?_); rintro e w7 ⟨B5, d5, rfl, hc, hl5, hb⟩; have HX := Aside0.mk (HS4.out _ _ hb HP4.out); clear HP4; have HP4 := HX; clear HX; have HC := Aside0.mk hc; clear hc; clear hb))
 obtain ⟨W15, g5, e1, e2, hx, hb⟩ := box_x w7 #[.int .i64 0, .string ⟨#[]⟩, .int .i64 0, .int .i64 0]
 rw [e1, e2]
 clear e1 e2
 have HQ := Aside0.mk (And.intro (HS4.out _ _ hb HP4.out) (And.intro (Kd.C_below HC.out hb) hx))
 have HT := Aside0.mk (stab_and HS4.out (stab_and (stab_c Kd.string B5 1 [(⟨#[65]⟩ : ByteArray)]) (stab_x g5 #[.int .i64 0, .string ⟨#[]⟩, .int .i64 0, .int .i64 0] 28)))
 clear HP4 HS4 hb hx HC
 have HP5 := HQ
 have HS5 := HT
 clear HQ HT
 go_upto_region 7 with (first | (go_at_call 23; (with_reducible refine (mod1_ex ⟨#[65]⟩ ⟨#[88]⟩ _).mono ?_); rintro e w8 ⟨E0, f0, E1, f1, rfl, hk, hb⟩; have n0 := Aside0.mk (HS5.out _ _ hb HP5.out); clear HP5; have HP5 := n0; clear n0; have HK0 := Aside0.mk hk; clear hk hb) | (go_at_call 10; (with_reducible refine (miss_ex _ _ _ (L2_lit HK0.out) (Nat.le_refl _)).mono ?_); rintro e w9 ⟨E2, f2, rfl, hb⟩; have n0 := Aside0.mk (HS5.out _ _ (below_step (below_alloc (Below.refl _ _) _) hb) HP5.out); clear HP5; have HP5 := n0; clear n0; clear hb HK0))
 obtain ⟨W16, g6, e1, e2, hx, hb⟩ := box_x w9 #[.int .i64 16, .string ⟨#[88]⟩, .int .i64 0, .int .i64 0]
 rw [e1, e2]
 clear e1 e2
 have HQ := Aside0.mk (And.intro (HS5.out _ _ hb HP5.out) hx)
 have HT := Aside0.mk (stab_and HS5.out (stab_x g6 #[.int .i64 16, .string ⟨#[88]⟩, .int .i64 0, .int .i64 0] 28))
 clear HP5 HS5 hb hx
 have HP6 := HQ
 have HS6 := HT
 clear HQ HT
 go_upto_region 8 with (first | (go_at_call 23; (with_reducible refine (mod1_ex ⟨#[65]⟩ ⟨#[66]⟩ _).mono ?_); rintro e wa ⟨G0, h0, G1, h1, rfl, hk, hb⟩; have n0 := Aside0.mk (HS6.out _ _ hb HP6.out); clear HP6; have HP6 := n0; clear n0; have HK0 := Aside0.mk hk; clear hk hb) | (go_at_call 23; (with_reducible refine (mod2_ex ⟨#[66]⟩ ⟨#[65]⟩ ⟨#[67]⟩ _).mono ?_); rintro e wb ⟨G2, h2, G3, h3, rfl, hk, hb⟩; have n0 := Aside0.mk (HS6.out _ _ hb HP6.out); clear HP6; have HP6 := n0; clear n0; have n0 := Aside0.mk (stab_k _ _ _ _ _ hb HK0.out); clear HK0; have HK0 := n0; clear n0; have HK1 := Aside0.mk hk; clear hk hb) | (go_at_call 23; (with_reducible refine (mod1_ex ⟨#[67]⟩ ⟨#[66]⟩ _).mono ?_); rintro e wc ⟨G4, h4, G5, h5, rfl, hk, hb⟩; have n0 := Aside0.mk (HS6.out _ _ hb HP6.out); clear HP6; have HP6 := n0; clear n0; have n0 := Aside0.mk (stab_k _ _ _ _ _ hb HK0.out); clear HK0; have HK0 := n0; clear n0; have n0 := Aside0.mk (stab_k _ _ _ _ _ hb HK1.out); clear HK1; have HK1 := n0; clear n0; have HK2 := Aside0.mk hk; clear hk hb) | (go_at_call 19; (with_reducible refine (cyc_ex _ _ _ (L3_lit HK0.out HK1.out HK2.out) (Nat.le_refl _)).mono ?_); rintro e wd ⟨B7, d7, rfl, hc, hl7, hb⟩; have n0 := Aside0.mk (And.intro (HS6.out _ _ (below_step (below_alloc (Below.refl _ _) _) hb) HP6.out) hc); clear HP6; have HP7 := n0; clear n0; have HS7 := Aside0.mk (stab_and HS6.out (stab_c Kd.string B7 2 [(⟨#[65]⟩ : ByteArray), (⟨#[66]⟩ : ByteArray)])); clear hb hc HK0 HK1 HK2 HS6))
 go_upto_region 9 with fail
 obtain ⟨W18, g8, e1, e2, hx, hb⟩ := box_x wd #[.int .i64 0, .string ⟨#[]⟩, .int .i64 0, .int .i64 0]
 rw [e1, e2]
 clear e1 e2
 have HQ := Aside0.mk (And.intro (HS7.out _ _ hb HP7.out) hx)
 have HT := Aside0.mk (stab_and HS7.out (stab_x g8 #[.int .i64 0, .string ⟨#[]⟩, .int .i64 0, .int .i64 0] 28))
 clear HP7 HS7 hb hx
 have HP8 := HQ
 have HS8 := HT
 clear HQ HT
 obtain ⟨ad3, X3, f3, rfl, hx3, hfl, hX⟩ := lev0 HP8.out.1.1.1.1.1.2.1
 have HQ := Aside0.mk (And.intro HP8.out (And.intro hx3 hX))
 have HT := Aside0.mk (stab_and HS8.out (stab_and (stab_cell ad3 (.slice X3 2 f3)) (stab_c Kd.string X3 2 [(⟨#[66]⟩ : ByteArray), (⟨#[67]⟩ : ByteArray)])))
 clear HP8 HS8 hx3 hX
 have HP9 := HQ
 have HS9 := HT
 clear HQ HT
 obtain ⟨x20, x21, x22, x23⟩ := box4 HP9.out.1.1.1.1.1.1.1.2.2
 obtain ⟨x30, x31, x32, x33⟩ := box4 HP9.out.1.1.1.1.1.1.2.2
 obtain ⟨x40, x41, x42, x43⟩ := box4 HP9.out.1.1.1.1.1.2.2
 obtain ⟨x50, x51, x52, x53⟩ := box4 HP9.out.1.1.1.1.2.2
 obtain ⟨x80, x81, x82, x83⟩ := box4 HP9.out.1.2
 go_wp2_with (first | (go_at_call 14; (with_reducible refine (sm1 _ _ _ _ _ (Kd.C_alloc HP9.out.1.1.1.1.1.1.1.2.1 _) (sC3 _ _ _ _) hl2 (Nat.le_refl _)).mono ?_); rintro e w20 ⟨rfl, hd⟩; have n0 := Aside0.mk (HS9.out _ _ (below_step (below_alloc (Below.refl _ _) _) hd.below) HP9.out); clear HP9; have HP9 := n0; clear n0 hd x20 x21 x22 x23 x30 x31 x32 x33 x40 x41 x42 x43 x50 x51 x52 x53 x80 x81 x82 x83; have yy := HP9.out.2.1) | (go_at_call 14; (with_reducible refine (sm2 _ _ _ _ _ (Kd.C_alloc HP9.out.2.2 _) (sC2 _ _ _) hfl (Nat.le_refl _)).mono ?_); rintro e w21 ⟨rfl, hd⟩; have n0 := Aside0.mk (HS9.out _ _ (below_step (below_alloc (Below.refl _ _) _) hd.below) HP9.out); clear HP9; have HP9 := n0; clear n0 hd yy) | (go_at_call 14; (with_reducible refine (sm3 _ _ _ _ _ (Kd.C_alloc HP9.out.1.1.1.1.1.2.1 _) (sC1 _ _) hl4 (Nat.le_refl _)).mono ?_); rintro e w22 ⟨rfl, hd⟩; have n0 := Aside0.mk (HS9.out _ _ (below_step (below_alloc (Below.refl _ _) _) hd.below) HP9.out); clear HP9; have HP9 := n0; clear n0 hd) | (go_at_call 14; (with_reducible refine (sm4 _ _ _ _ _ (Kd.C_alloc HP9.out.1.1.1.1.2.1 _) (sC1 _ _) hl5 (Nat.le_refl _)).mono ?_); rintro e w23 ⟨rfl, hd⟩; have n0 := Aside0.mk (HS9.out _ _ (below_step (below_alloc (Below.refl _ _) _) hd.below) HP9.out); clear HP9; have HP9 := n0; clear n0 hd; obtain ⟨x60, x61, x62, x63⟩ := box4 HP9.out.1.1.1.2) | (go_at_call 14; (with_reducible refine (sm5 _ _ _ _ _ (Kd.C_alloc HP9.out.1.1.2 _) (sC2 _ _ _) hl7 (Nat.le_refl _)).mono ?_); rintro e w24 ⟨rfl, hd⟩; have n0 := Aside0.mk (HS9.out _ _ (below_step (below_alloc (Below.refl _ _) _) hd.below) HP9.out); clear HP9; have HP9 := n0; clear n0 hd x60 x61 x62 x63))
 go_ret
 exact ⟨rfl, HP9.out.1.1.1.1.1.1.1.1.1⟩
end Aw
namespace P
noncomputable def lazyclaw10_awake.f : Option Bool := some true
theorem lazyclaw10_awake.calls (r : Bool) (w : World) (h : lazyclaw10_awake.f = some r) : Calls Try.prog 9 #[] w fun e w' => e = .returned (.bool r) ∧ Below w.heap.size w w' := by
 obtain rfl := Option.some.inj h
 exact Aw.awake_calls w
end P
end Go.Proofs.Ytmadhaccjmakdaa
namespace Go.Proofs.Ytmadhaccjmakdaa.P
open Go.RowKit Go.Proofs.YtmadhaccjmakdaaW.PrintWords Go.Proofs.YtmadhaccjmakdaaW.PrintLast Go.Proofs.YtmadhaccjmakdaaW.PrintMore
attribute [local go_sem] str_gtr str_leq str_geq max2_int min2_int max_two min_two max_three min_three max_four min_four
noncomputable def lazyclaw10_ModgraphCycle.j0 : Nat → List (S42) → Bool → Option (Bool)
 | 0, _, _ => none
 | k + 1, x0, x15 => if x15 = true then ((lazyclaw10_awake.f).bind fun t584 => (some t584)) else ((modgraph_Cycle.f k x0).bind fun t585 => ((lazycref10_Cycle.f k x0).bind fun t588 => ((lazyclaw10_same.f k t585 t588).bind fun t591 => (if t591 = true then ((lazyclaw10_awake.f).bind fun t592 => (some t592)) else (some false)))))
noncomputable def lazyclaw10_ModgraphCycle.f (k : Nat) (l0 : List (S42)) : Option (Bool) := (lazyclaw10_small.f k l0).bind fun t583 => (if t583 = true then (if (l0.length : Int) > 8 then (lazyclaw10_ModgraphCycle.j0 k l0 (decide ((l0.length : Int) ≤ 32))) else (lazyclaw10_ModgraphCycle.j0 k l0 false)) else (lazyclaw10_ModgraphCycle.j0 k l0 true))
set_option maxHeartbeats 8000000 in
set_option maxRecDepth 100000 in
theorem lazyclaw10_ModgraphCycle.calls (k : Nat) (A0 : Option Addr) (c0 : Nat) (l0 : List (S42)) (r : Bool) (w : World) (hr0 : Kd.C k42 w A0 l0.length l0) (hc0 : l0.length ≤ c0) (h : lazyclaw10_ModgraphCycle.f k l0 = some r) :
 Calls Try.prog 5 #[.slice A0 l0.length c0] w fun e w' => e = .returned (.bool r) ∧ Below w.heap.size w w' := by
 have HR0 := aM hr0
 have HC0 := aM hc0
 clear hr0 hc0
 have HB := aM (Below.refl w.heap.size w)
 have H : ((lazyclaw10_small.f k l0).bind fun t583 => (if t583 = true then (if (l0.length : Int) > 8 then (lazyclaw10_ModgraphCycle.j0 k l0 (decide ((l0.length : Int) ≤ 32))) else (lazyclaw10_ModgraphCycle.j0 k l0 false)) else (lazyclaw10_ModgraphCycle.j0 k l0 true))) = some r := h
 clear h
 have HC2 := aM H
 clear H
 go_enter Try.func5, Try.ntmps5
 go_upto_region 1 with (fail)
 go_cut [15] (fun v15 wc => ∃ (kq : Nat) (x15_1 : Bool), v15 = .bool x15_1 ∧ Aside0 (lazyclaw10_ModgraphCycle.j0 kq l0 x15_1 = some r) ∧ Aside0 (kq ≤ k) ∧ Aside0 (Below w.heap.size w wc))
 case first =>
  have H := HC2.out
  clear HC2
  replace H := Option.bind_eq_some_iff.mp H
  obtain ⟨t583, A30, H⟩ := H
  replace H : (if t583 = true then (if (l0.length : Int) > 8 then (lazyclaw10_ModgraphCycle.j0 k l0 (decide ((l0.length : Int) ≤ 32))) else (lazyclaw10_ModgraphCycle.j0 k l0 false)) else (lazyclaw10_ModgraphCycle.j0 k l0 true)) = some r := H
  have A3 := aM A30
  clear A30
  by_cases c4 : t583 = true
  · subst c4
    have H1 : (if (l0.length : Int) > 8 then (lazyclaw10_ModgraphCycle.j0 k l0 (decide ((l0.length : Int) ≤ 32))) else (lazyclaw10_ModgraphCycle.j0 k l0 false)) = some r := by rw [if_pos rfl] at H; exact H
    clear H
    have H := H1
    clear H1
    by_cases c5 : (l0.length : Int) > 8
    · rw [if_pos c5] at H
      have c5b0 : decide (8 < (l0.length : Int)) = true := decide_eq_true c5
      have c5b1 : decide (8 < l0.length) = true := decide_eq_true (by omega)
      clear c5
      (first | rw [c5b0] | (simp only [i64_w, i32_w]; rw [c5b0]) | skip)
      have H' := aM H
      clear H
      go_wp2_with (first | ((with_reducible refine gate_callee (f := 8) rfl ?_); refine gL (some 4) rfl rfl Try.func8 (by kernel_rfl) rfl #[.slice A0 l0.length c0] rfl ?_; (with_reducible refine (lazyclaw10_small.calls k _ _ l0 true _ ?side1 ?side2 A3.out).mono ?_); (case side1 => exact cb HR0 HB); (case side2 => exact HC0.out); rintro e w' ⟨rfl, ⟨nd, rfl⟩⟩; refine ⟨_, rfl, ?_⟩))
      go_meet
      case rel => exact ⟨_, (decide ((l0.length : Int) ≤ 32)), (by first | rfl | (simp; done) | (simp [*]; done)), H', ⟨by first | omega | exact Nat.le_refl _⟩, ⟨hh HB⟩⟩
    · rw [if_neg c5] at H
      have c5b0 : decide (8 < (l0.length : Int)) = false := decide_eq_false c5
      have c5b1 : decide (8 < l0.length) = false := decide_eq_false (by omega)
      clear c5
      (first | rw [c5b0] | (simp only [i64_w, i32_w]; rw [c5b0]) | skip)
      have H' := aM H
      clear H
      go_wp2_with (first | ((with_reducible refine gate_callee (f := 8) rfl ?_); refine gL (some 4) rfl rfl Try.func8 (by kernel_rfl) rfl #[.slice A0 l0.length c0] rfl ?_; (with_reducible refine (lazyclaw10_small.calls k _ _ l0 true _ ?side1 ?side2 A3.out).mono ?_); (case side1 => exact cb HR0 HB); (case side2 => exact HC0.out); rintro e w' ⟨rfl, ⟨nd, rfl⟩⟩; refine ⟨_, rfl, ?_⟩))
      go_meet
      case rel => exact ⟨_, (false), (by first | rfl | (simp; done) | (simp [*]; done)), H', ⟨by first | omega | exact Nat.le_refl _⟩, ⟨hh HB⟩⟩
  · replace c4 := Bool.eq_false_iff.mpr c4
    subst c4
    have H1 : (lazyclaw10_ModgraphCycle.j0 k l0 true) = some r := by rw [if_neg (show ¬ (false = true) by decide)] at H; exact H
    clear H
    have H := H1
    clear H1
    have H' := aM H
    clear H
    go_wp2_with (first | ((with_reducible refine gate_callee (f := 8) rfl ?_); refine gL (some 4) rfl rfl Try.func8 (by kernel_rfl) rfl #[.slice A0 l0.length c0] rfl ?_; (with_reducible refine (lazyclaw10_small.calls k _ _ l0 false _ ?side1 ?side2 A3.out).mono ?_); (case side1 => exact cb HR0 HB); (case side2 => exact HC0.out); rintro e w' ⟨rfl, ⟨nd, rfl⟩⟩; refine ⟨_, rfl, ?_⟩))
    go_meet
    case rel => exact ⟨_, (true), (by first | rfl | (simp; done) | (simp [*]; done)), H', ⟨by first | omega | exact Nat.le_refl _⟩, ⟨hh HB⟩⟩
 case rest =>
  clear HC2
  try clear p2
  try clear c4
  try clear c5
  try clear c5b0
  try clear c5b1
  obtain ⟨kq, x15_1, rfl, HA, HJ1, HB⟩ := hcut
  cases kq with
  | zero => exact absurd HA.out (by simp [lazyclaw10_ModgraphCycle.j0])
  | succ kj1 =>
   have H := HA.out
   clear HA
   simp only [lazyclaw10_ModgraphCycle.j0] at H
   by_cases c6 : x15_1 = true
   · subst c6
     have H1 : ((lazyclaw10_awake.f).bind fun t584 => (some t584)) = some r := by rw [if_pos rfl] at H; exact H
     clear H
     have H := H1
     clear H1
     replace H := Option.bind_eq_some_iff.mp H
     obtain ⟨t584, A70, H⟩ := H
     replace H : (some t584) = some r := H
     have A7 := aM A70
     clear A70
     obtain rfl := Option.some.inj H
     go_wp2_with (first | ((with_reducible refine gate_callee (f := 9) rfl ?_); refine gL (some 16) rfl rfl Try.func9 (by kernel_rfl) rfl #[] rfl ?_; (with_reducible refine (lazyclaw10_awake.calls  t584 _ A7.out).mono ?_); rintro e w8 ⟨rfl, hb⟩; refine ⟨_, rfl, ?_⟩; replace HB := bs HB hb; (try clear hb); (try clear hb2); (try clear hk); (try clear hi)))
     go_ret
     exact ⟨by first | rfl | (simp [errW_none, errW_some] <;> rfl) | (simp [*, errW_none, errW_some] <;> rfl), hh HB⟩
   · replace c6 := Bool.eq_false_iff.mpr c6
     subst c6
     have H1 : ((modgraph_Cycle.f kj1 l0).bind fun t585 => ((lazycref10_Cycle.f kj1 l0).bind fun t588 => ((lazyclaw10_same.f kj1 t585 t588).bind fun t591 => (if t591 = true then ((lazyclaw10_awake.f).bind fun t592 => (some t592)) else (some false))))) = some r := by rw [if_neg (show ¬ (false = true) by decide)] at H; exact H
     clear H
     have H := H1
     clear H1
     replace H := Option.bind_eq_some_iff.mp H
     obtain ⟨t585, A90, H⟩ := H
     replace H : ((lazycref10_Cycle.f kj1 l0).bind fun t588 => ((lazyclaw10_same.f kj1 t585 t588).bind fun t591 => (if t591 = true then ((lazyclaw10_awake.f).bind fun t592 => (some t592)) else (some false)))) = some r := H
     have A9 := aM A90
     clear A90
     replace H := Option.bind_eq_some_iff.mp H
     obtain ⟨t588, A100, H⟩ := H
     replace H : ((lazyclaw10_same.f kj1 t585 t588).bind fun t591 => (if t591 = true then ((lazyclaw10_awake.f).bind fun t592 => (some t592)) else (some false))) = some r := H
     have A10 := aM A100
     clear A100
     replace H := Option.bind_eq_some_iff.mp H
     obtain ⟨t591, A110, H⟩ := H
     replace H : (if t591 = true then ((lazyclaw10_awake.f).bind fun t592 => (some t592)) else (some false)) = some r := H
     have A11 := aM A110
     clear A110
     by_cases c12 : t591 = true
     · subst c12
       have H1 : ((lazyclaw10_awake.f).bind fun t592 => (some t592)) = some r := by rw [if_pos rfl] at H; exact H
       clear H
       have H := H1
       clear H1
       replace H := Option.bind_eq_some_iff.mp H
       obtain ⟨t592, A130, H⟩ := H
       replace H : (some t592) = some r := H
       have A13 := aM A130
       clear A130
       obtain rfl := Option.some.inj H
       go_wp2_with (first | ((with_reducible refine gate_callee (f := 19) rfl ?_); refine gL (some 18) rfl rfl Try.func19 (by kernel_rfl) rfl #[.slice A0 l0.length c0] rfl ?_; (with_reducible refine (modgraph_Cycle.calls kj1 _ _ l0 t585 _ ?side1 ?side2 A9.out).mono ?_); (case side1 => exact cb HR0 HB); (case side2 => exact HC0.out); rintro e w14 ⟨v586, rfl, ho0, hb⟩; refine ⟨_, rfl, ?_⟩; have HO587 := aM (Kd.R_lower ho0 (below_size (hh HB))); replace HB := bs HB hb; (try clear hb); (try clear hb2); (try clear hk); (try clear hi); (try clear ho0)) | ((with_reducible refine gate_callee (f := 20) rfl ?_); refine gL (some 20) rfl rfl Try.func20 (by kernel_rfl) rfl #[.slice A0 l0.length c0] rfl ?_; (with_reducible refine (lazycref10_Cycle.calls kj1 _ _ l0 t588 _ ?side1 ?side2 A10.out).mono ?_); (case side1 => exact cb HR0 HB); (case side2 => exact HC0.out); rintro e w15 ⟨v589, rfl, ho0, hb⟩; refine ⟨_, rfl, ?_⟩; have HO590 := aM (Kd.R_lower (Kd.R_new' ho0 (Kd.R_lt (rk HO587))) (below_size (hh HB))); replace HO587 := aM (Kd.R_elder' (rk HO587) (Kd.R_base ho0) hb); replace HB := bs HB hb; (try clear hb); (try clear hb2); (try clear hk); (try clear hi); (try clear ho0); obtain ⟨Ao16, co16, eo16⟩ := Kd.R_slice HO587.out; subst eo16; obtain ⟨Ao17, co17, eo17⟩ := Kd.R_slice HO590.out; subst eo17) | ((with_reducible refine gate_callee (f := 14) rfl ?_); refine gL (some 21) rfl rfl Try.func14 (by kernel_rfl) rfl #[.slice Ao16 t585.length co16, .slice Ao17 t588.length co17] rfl ?_; (with_reducible refine (lazyclaw10_same.calls kj1 _ _ t585 _ _ t588 true _ ?side1 ?side2 ?side3 ?side4 A11.out).mono ?_); (case side1 => exact cr HO587); (case side2 => exact (Kd.R_reads' HO587.out).2.1); (case side3 => exact cr HO590); (case side4 => exact (Kd.R_reads' HO590.out).2.1); rintro e w' ⟨rfl, ⟨nd, rfl⟩⟩; refine ⟨_, rfl, ?_⟩) | (go_at_call 9; (with_reducible refine (lazyclaw10_awake.calls  t592 _ A13.out).mono ?_); rintro e w18 ⟨rfl, hb⟩; replace HO587 := rb HO587 hb; replace HO590 := rb HO590 hb; replace HB := bs HB hb; (try clear hb); (try clear hb2); (try clear hk); (try clear hi)))
       go_ret
       exact ⟨by first | rfl | (simp [errW_none, errW_some] <;> rfl) | (simp [*, errW_none, errW_some] <;> rfl), hh HB⟩
     · replace c12 := Bool.eq_false_iff.mpr c12
       subst c12
       have H1 : (some false) = some r := by rw [if_neg (show ¬ (false = true) by decide)] at H; exact H
       clear H
       have H := H1
       clear H1
       obtain rfl := Option.some.inj H
       go_wp2_with (first | ((with_reducible refine gate_callee (f := 19) rfl ?_); refine gL (some 18) rfl rfl Try.func19 (by kernel_rfl) rfl #[.slice A0 l0.length c0] rfl ?_; (with_reducible refine (modgraph_Cycle.calls kj1 _ _ l0 t585 _ ?side1 ?side2 A9.out).mono ?_); (case side1 => exact cb HR0 HB); (case side2 => exact HC0.out); rintro e w19 ⟨v586, rfl, ho0, hb⟩; refine ⟨_, rfl, ?_⟩; have HO587 := aM (Kd.R_lower ho0 (below_size (hh HB))); replace HB := bs HB hb; (try clear hb); (try clear hb2); (try clear hk); (try clear hi); (try clear ho0)) | ((with_reducible refine gate_callee (f := 20) rfl ?_); refine gL (some 20) rfl rfl Try.func20 (by kernel_rfl) rfl #[.slice A0 l0.length c0] rfl ?_; (with_reducible refine (lazycref10_Cycle.calls kj1 _ _ l0 t588 _ ?side1 ?side2 A10.out).mono ?_); (case side1 => exact cb HR0 HB); (case side2 => exact HC0.out); rintro e w20 ⟨v589, rfl, ho0, hb⟩; refine ⟨_, rfl, ?_⟩; have HO590 := aM (Kd.R_lower (Kd.R_new' ho0 (Kd.R_lt (rk HO587))) (below_size (hh HB))); replace HO587 := aM (Kd.R_elder' (rk HO587) (Kd.R_base ho0) hb); replace HB := bs HB hb; (try clear hb); (try clear hb2); (try clear hk); (try clear hi); (try clear ho0); obtain ⟨Ao21, co21, eo21⟩ := Kd.R_slice HO587.out; subst eo21; obtain ⟨Ao22, co22, eo22⟩ := Kd.R_slice HO590.out; subst eo22) | ((with_reducible refine gate_callee (f := 14) rfl ?_); refine gL (some 21) rfl rfl Try.func14 (by kernel_rfl) rfl #[.slice Ao21 t585.length co21, .slice Ao22 t588.length co22] rfl ?_; (with_reducible refine (lazyclaw10_same.calls kj1 _ _ t585 _ _ t588 false _ ?side1 ?side2 ?side3 ?side4 A11.out).mono ?_); (case side1 => exact cr HO587); (case side2 => exact (Kd.R_reads' HO587.out).2.1); (case side3 => exact cr HO590); (case side4 => exact (Kd.R_reads' HO590.out).2.1); rintro e w' ⟨rfl, ⟨nd, rfl⟩⟩; refine ⟨_, rfl, ?_⟩))
       go_ret
       exact ⟨by first | rfl | (simp [errW_none, errW_some] <;> rfl) | (simp [*, errW_none, errW_some] <;> rfl), hh HB⟩
end Go.Proofs.Ytmadhaccjmakdaa.P
/- Tarjan's search on lists finds the strongly connected components, numbered so that edges lead to numbers that are not greater: for every valid graph with less than 1000000 nodes. -/
namespace Go.Proofs.Ytmadhaccjmakdaa
open Go.RowKit Go.Proofs.YtmadhaccjmakdaaW.PrintWords Go.Proofs.YtmadhaccjmakdaaW.PrintLast Go.Proofs.YtmadhaccjmakdaaW.PrintMore
namespace Tp
open Tj
def nd (es : List (List Int)) (v : Int) : Prop := 0 ≤ v ∧ v < es.length
def Vld (es : List (List Int)) : Prop := ∀ v, nd es v → ∀ w ∈ row es v, nd es w
inductive Rc (es : List (List Int)) : Int → Int → Prop
 | refl (v : Int) : Rc es v v
 | tail {a b c : Int} : Rc es a b → c ∈ row es b → Rc es a c
theorem Rc.trans {es : List (List Int)} {a b c : Int} (h : Rc es a b) (h2 : Rc es b c) : Rc es a c := by
 induction h2 with
 | refl => exact h
 | tail _ h3 ih => exact .tail ih h3
theorem w64 (x : Int) (h0 : -9223372036854775808 ≤ x) (h1 : x < 9223372036854775808) : wrap64 x = x := by
 unfold wrap64
 omega
theorem rd_set (l : List Int) (u v x : Int) (hu : 0 ≤ u) (hl : u < l.length) (hv : 0 ≤ v) : rd (l.set u.toNat x) v = if v = u then x else rd l v := by
 unfold rd
 rw [List.getD_eq_getElem?_getD, List.getElem?_set, List.getD_eq_getElem?_getD]
 by_cases h : v = u
 · subst h
   rw [if_pos rfl, if_pos (by omega), if_pos rfl]
   rfl
 · rw [if_neg (by omega), if_neg h]
theorem rd_at (l : List Int) (i : Nat) (h : i < l.length) : rd l (i : Int) = l[i] := by
 unfold rd
 rw [Int.toNat_natCast, List.getD_eq_getElem?_getD, List.getElem?_eq_getElem h]
 rfl
theorem mem_rd (l : List Int) (x : Int) (h : x ∈ l) : ∃ i : Nat, i < l.length ∧ rd l (i : Int) = x := by
 obtain ⟨i, hi, e⟩ := List.mem_iff_getElem.1 h
 exact ⟨i, hi, by rw [rd_at l i hi]; exact e⟩
theorem rd_rep (n : Nat) (x v : Int) (h0 : 0 ≤ v) (h : v < n) : rd (List.replicate n x) v = x := by
 obtain ⟨i, rfl⟩ := Int.eq_ofNat_of_zero_le h0
 rw [rd_at _ i (by simp; omega)]
 simp
structure Inv (es : List (List Int)) (st : TS) : Prop where
 li : st.index.length = es.length
 ll : st.low.length = es.length
 lc : st.comp.length = es.length
 stk : ∀ x ∈ st.stack, nd es x ∧ 0 < rd st.index x ∧ rd st.comp x = -1
 ons : ∀ x, nd es x → rd st.index x ≠ 0 → rd st.comp x < 0 → x ∈ st.stack
 unv : ∀ x, nd es x → rd st.index x = 0 → rd st.comp x = -1
 idx : ∀ x, nd es x → 0 ≤ rd st.index x ∧ rd st.index x ≤ st.count
 cmp : ∀ x, nd es x → -1 ≤ rd st.comp x ∧ rd st.comp x < st.comps
 inj : ∀ x y, nd es x → nd es y → rd st.index x = rd st.index y → rd st.index x ≠ 0 → x = y
 srt : st.stack.Pairwise fun x y => rd st.index x < rd st.index y
 back : ∀ u, nd es u → 0 ≤ rd st.comp u → ∀ w ∈ row es u, 0 ≤ rd st.comp w ∧ rd st.comp w ≤ rd st.comp u
 same : ∀ u v, nd es u → nd es v → rd st.comp u = rd st.comp v → 0 ≤ rd st.comp u → Rc es u v
 onto : ∀ c, 0 ≤ c → c < st.comps → ∃ v, nd es v ∧ rd st.comp v = c
 cnt : st.count + (st.index.count 0 : Nat) = es.length
 cps : 0 ≤ st.comps ∧ st.comps + st.stack.length ≤ st.count
structure Ext (es : List (List Int)) (p : Int → Prop) (st st' : TS) : Prop where
 idx : ∀ x, nd es x → rd st.index x ≠ 0 → rd st'.index x = rd st.index x
 low : ∀ x, nd es x → rd st.index x ≠ 0 → p x → rd st'.low x = rd st.low x
 cmp : ∀ x, nd es x → 0 ≤ rd st.comp x → rd st'.comp x = rd st.comp x
 cnt : st.count ≤ st'.count
 new : ∀ x, nd es x → rd st.index x = 0 → rd st'.index x = 0 ∨ st.count < rd st'.index x
theorem Ext.refl (es : List (List Int)) (p : Int → Prop) (st : TS) : Ext es p st st := ⟨fun _ _ _ => rfl, fun _ _ _ _ => rfl, fun _ _ _ => rfl, Int.le_refl _, fun _ _ h => .inl h⟩
theorem Ext.trans {es : List (List Int)} {p : Int → Prop} {a b c : TS} (h : Ext es p a b) (k : Ext es p b c) : Ext es p a c where
 idx x hx h0 := by rw [k.idx x hx (by rw [h.idx x hx h0]; exact h0), h.idx x hx h0]
 low x hx h0 hp := by rw [k.low x hx (by rw [h.idx x hx h0]; exact h0) hp, h.low x hx h0 hp]
 cmp x hx h0 := by rw [k.cmp x hx (by rw [h.cmp x hx h0]; exact h0), h.cmp x hx h0]
 cnt := Int.le_trans h.cnt k.cnt
 new x hx h0 := by
  rcases h.new x hx h0 with h1 | h1
  · rcases k.new x hx h1 with h2 | h2
    · exact .inl h2
    · exact .inr (by have := h.cnt; omega)
  · by_cases h2 : rd b.index x = 0
    · rcases k.new x hx h2 with h3 | h3
      · exact .inl h3
      · exact .inr (by have := h.cnt; omega)
    · rw [k.idx x hx h2]
      exact .inr h1
theorem Ext.imp {es : List (List Int)} {p q : Int → Prop} {a b : TS} (h : Ext es p a b) (hq : ∀ x, q x → p x) : Ext es q a b := ⟨h.idx, fun x hx h0 hp => h.low x hx h0 (hq x hp), h.cmp, h.cnt, h.new⟩
def Ok (st : TS) (m w : Int) : Prop := 0 ≤ rd st.comp w ∨ (rd st.index w ≠ 0 ∧ m ≤ rd st.index w)
structure Post (es : List (List Int)) (S0 : List Int) (v c0 : Int) (st : TS) : Prop where
 inv : Inv es st
 idx : rd st.index v = c0 + 1
 way : (st.stack = S0 ∧ rd st.low v = c0 + 1 ∧ 0 ≤ rd st.comp v) ∨
  (∃ rest, st.stack = S0 ++ v :: rest ∧ (∀ x ∈ v :: rest, Rc es x v ∧ Rc es v x) ∧ (∀ x ∈ v :: rest, ∀ w ∈ row es x, Ok st (rd st.low v) w) ∧ rd st.low v < c0 + 1 ∧ ∃ y ∈ S0, rd st.index y = rd st.low v ∧ Rc es v y)
structure Lp (es : List (List Int)) (S0 : List Int) (v c0 : Int) (i : Nat) (st : TS) (rest : List Int) : Prop where
 inv : Inv es st
 nd : nd es v
 idx : rd st.index v = c0 + 1
 stk : st.stack = S0 ++ v :: rest
 tov : ∀ x ∈ st.stack, Rc es x v
 frm : ∀ x ∈ rest, Rc es v x
 low : rd st.low v ≤ rd st.index v
 wit : ∃ y ∈ st.stack, rd st.index y = rd st.low v ∧ Rc es v y
 blk : ∀ x ∈ rest, ∀ w ∈ row es x, Ok st (rd st.low v) w
 done : ∀ j : Nat, j < i → j < (row es v).length → Ok st (rd st.low v) (rd (row es v) j)
end Tp
namespace Tp
open Tj
theorem Inv.count_le {es : List (List Int)} {st : TS} (h : Inv es st) : 0 ≤ st.count ∧ st.count ≤ es.length := by
 have := h.cnt
 have := h.cps
 omega
theorem count_set_lt (l : List Int) (u x : Int) (hu : 0 ≤ u) (hl : u < l.length) (h0 : rd l u = 0) (hx : x ≠ 0) : (l.set u.toNat x).count 0 + 1 = l.count 0 := by
 obtain ⟨i, rfl⟩ := Int.eq_ofNat_of_zero_le hu
 rw [rd_at l i (by omega)] at h0
 have hi : i < l.length := by omega
 have h1 : 0 < l.count 0 := List.count_pos_iff.2 (h0 ▸ List.getElem_mem hi)
 show (l.set i x).count 0 + 1 = l.count 0
 rw [List.count_set hi]
 simp [h0, hx]
 omega
theorem enter_inv {es : List (List Int)} {st : TS} {v : Int} (h : Inv es st) (hv : nd es v) (h0 : rd st.index v = 0) (hn : es.length < 1000000) :
 Inv es (enter v st) ∧ (enter v st).count = st.count + 1 ∧ (∀ x, nd es x → rd (enter v st).index x = if x = v then st.count + 1 else rd st.index x) ∧
  (∀ x, nd es x → rd (enter v st).low x = if x = v then st.count + 1 else rd st.low x) ∧ (enter v st).index.count 0 + 1 = st.index.count 0 := by
 have hc := h.count_le
 have hw : wrap64 (st.count + 1) = st.count + 1 := w64 _ (by omega) (by omega)
 have hix : ∀ x, nd es x → rd (enter v st).index x = if x = v then st.count + 1 else rd st.index x := by
  intro x hx
  show rd (st.index.set v.toNat (wrap64 (st.count + 1))) x = _
  rw [hw, rd_set _ _ _ _ hv.1 (by rw [h.li]; exact hv.2) hx.1]
 have hlx : ∀ x, nd es x → rd (enter v st).low x = if x = v then st.count + 1 else rd st.low x := by
  intro x hx
  show rd (st.low.set v.toNat (wrap64 (st.count + 1))) x = _
  rw [hw, rd_set _ _ _ _ hv.1 (by rw [h.ll]; exact hv.2) hx.1]
 have hcount : (enter v st).index.count 0 + 1 = st.index.count 0 := count_set_lt _ _ _ hv.1 (by rw [h.li]; exact hv.2) h0 (by rw [hw]; omega)
 have hcnt : (enter v st).count = st.count + 1 := hw
 have hnew : ∀ x ∈ st.stack, x ≠ v := by
  rintro x hx rfl
  have := (h.stk x hx).2.1
  omega
 refine ⟨⟨?_, ?_, h.lc, ?_, ?_, ?_, ?_, h.cmp, ?_, ?_, h.back, h.same, h.onto, ?_, ?_⟩, hcnt, hix, hlx, hcount⟩
 · show (st.index.set _ _).length = _
   rw [List.length_set]; exact h.li
 · show (st.low.set _ _).length = _
   rw [List.length_set]; exact h.ll
 · intro x hx
   rcases List.mem_append.1 (show x ∈ st.stack ++ [v] from hx) with h1 | h1
   · obtain ⟨a, b, c⟩ := h.stk x h1
     refine ⟨a, ?_, c⟩
     rw [hix x a, if_neg (hnew x h1)]
     exact b
   · rw [List.mem_singleton] at h1
     subst h1
     exact ⟨hv, by rw [hix x hv, if_pos rfl]; omega, h.unv x hv h0⟩
 · intro x hx hi hcx
   by_cases e : x = v
   · subst e; show x ∈ st.stack ++ [x]; simp
   · rw [hix x hx, if_neg e] at hi
     exact List.mem_append.2 (.inl (h.ons x hx hi hcx))
 · intro x hx hi
   by_cases e : x = v
   · subst e; exact h.unv x hx h0
   · rw [hix x hx, if_neg e] at hi
     exact h.unv x hx hi
 · intro x hx
   rw [hix x hx, hcnt]
   have := h.idx x hx
   split <;> omega
 · intro x y hx hy he hne
   rw [hix x hx] at he hne
   rw [hix y hy] at he
   have h1 := h.idx x hx
   have h2 := h.idx y hy
   by_cases ex : x = v
   · rw [if_pos ex] at he
     by_cases ey : y = v
     · rw [ex, ey]
     · rw [if_neg ey] at he; omega
   · rw [if_neg ex] at he hne
     by_cases ey : y = v
     · rw [if_pos ey] at he; omega
     · rw [if_neg ey] at he
       exact h.inj x y hx hy he hne
 · show (st.stack ++ [v]).Pairwise _
   rw [List.pairwise_append]
   refine ⟨?_, by simp, ?_⟩
   · refine h.srt.imp_of_mem ?_
     intro a b ha hb hab
     rw [hix a (h.stk a ha).1, hix b (h.stk b hb).1, if_neg (hnew a ha), if_neg (hnew b hb)]
     exact hab
   · intro a ha b hb
     rw [List.mem_singleton] at hb
     subst hb
     rw [hix a (h.stk a ha).1, hix b hv, if_neg (hnew a ha), if_pos rfl]
     have := (h.idx a (h.stk a ha).1).2
     omega
 · rw [hcnt]
   have := h.cnt
   omega
 · rw [hcnt]
   have := h.cps
   refine ⟨this.1, ?_⟩
   show st.comps + ((st.stack ++ [v]).length : Int) ≤ _
   rw [List.length_append, List.length_singleton]
   omega
end Tp
namespace Tp
open Tj
def VisitOk (es : List (List Int)) (L k : Nat) : Prop := ∀ (v : Int) (st : TS), Inv es st → nd es v → rd st.index v = 0 → (∀ x ∈ st.stack, Rc es x v) → st.index.count 0 * (L + 2) + es.length + 2 ≤ k →
 ∃ st', visit k es v st = some st' ∧ Post es st.stack v st.count st' ∧ Ext es (fun _ => True) st st' ∧ st'.index.count 0 ≤ st.index.count 0
def EachOk (es : List (List Int)) (L k : Nat) : Prop := ∀ (S0 : List Int) (v c0 : Int) (i : Nat) (st : TS) (rest : List Int), Lp es S0 v c0 i st rest → st.index.count 0 * (L + 2) + (L - i) + es.length + 2 ≤ k →
 ∃ st', each k es v (row es v) i st = some st' ∧ Post es S0 v c0 st' ∧ Ext es (· ≠ v) st st' ∧ st'.index.count 0 ≤ st.index.count 0
theorem Ok.ext {es : List (List Int)} {p : Int → Prop} {a b : TS} (h : Ext es p a b) {m m' w : Int} (hw : nd es w) (hm : m' ≤ m) (ho : Ok a m w) : Ok b m' w := by
 rcases ho with e | ⟨e1, e2⟩
 · exact .inl (by rw [h.cmp w hw e]; exact e)
 · exact .inr (by rw [h.idx w hw e1]; exact ⟨e1, by omega⟩)
theorem visit_step {es : List (List Int)} (hvld : Vld es) {L k : Nat} (hL : ∀ v, (row es v).length ≤ L) (hn : es.length < 1000000) (he : EachOk es L k) : VisitOk es L (k + 1) := by
 intro v st hI hv h0 hto hk
 obtain ⟨hI1, hc1, hix, hlx, hct⟩ := enter_inv hI hv h0 hn
 have hcps := hI.cps
 have hcl := hI.count_le
 unfold visit
 rw [if_pos ⟨hv.1, hv.2, by omega⟩]
 have hlp : Lp es st.stack v st.count 0 (enter v st) [] := by
  refine ⟨hI1, hv, by rw [hix v hv, if_pos rfl], rfl, ?_, by simp, ?_, ?_, by simp, by intro j hj; omega⟩
  · intro x hx
    rcases List.mem_append.1 (show x ∈ st.stack ++ [v] from hx) with e | e
    · exact hto x e
    · rw [List.mem_singleton] at e; subst e; exact .refl _
  · rw [hlx v hv, hix v hv]; simp
  · exact ⟨v, by show v ∈ st.stack ++ [v]; simp, by rw [hlx v hv, hix v hv]; simp, .refl _⟩
 have hmul : st.index.count 0 * (L + 2) = (enter v st).index.count 0 * (L + 2) + (L + 2) := by
  rw [← hct, Nat.add_mul, Nat.one_mul]
 obtain ⟨st', h1, h2, h3, h4⟩ := he st.stack v st.count 0 (enter v st) [] hlp (by omega)
 refine ⟨st', h1, h2, ?_, by omega⟩
 refine ⟨?_, ?_, ?_, ?_, ?_⟩
 · intro x hx hi
   have e : x ≠ v := by rintro rfl; exact hi h0
   have := hix x hx
   rw [if_neg e] at this
   rw [h3.idx x hx (by rw [this]; exact hi), this]
 · intro x hx hi _
   have e : x ≠ v := by rintro rfl; exact hi h0
   have := hix x hx
   rw [if_neg e] at this
   rw [h3.low x hx (by rw [this]; exact hi) e, hlx x hx, if_neg e]
 · exact h3.cmp
 · have := h3.cnt; omega
 · intro x hx hi
   by_cases e : x = v
   · subst e
     right
     rw [h2.idx]; omega
   · have := hix x hx
     rw [if_neg e] at this
     rcases h3.new x hx (by rw [this]; exact hi) with e2 | e2
     · exact .inl e2
     · exact .inr (by omega)
structure Sol (es : List (List Int)) (cm : List Int) (n : Int) : Prop where
 len : cm.length = es.length
 n0 : 0 ≤ n ∧ n ≤ es.length
 rng : ∀ v, nd es v → 0 ≤ rd cm v ∧ rd cm v < n
 back : ∀ u, nd es u → ∀ w ∈ row es u, rd cm w ≤ rd cm u
 same : ∀ u v, nd es u → nd es v → rd cm u = rd cm v → Rc es u v
 onto : ∀ c, 0 ≤ c → c < n → ∃ v, nd es v ∧ rd cm v = c
end Tp
end Go.Proofs.Ytmadhaccjmakdaa
/- The groups and the counts of open edges that graph.ordered makes are what the numbering of the components says: for every valid graph with less than 1000000 nodes. -/
namespace Go.Proofs.Ytmadhaccjmakdaa
open Go.RowKit Go.Proofs.YtmadhaccjmakdaaW.PrintWords Go.Proofs.YtmadhaccjmakdaaW.PrintLast Go.Proofs.YtmadhaccjmakdaaW.PrintMore
namespace Tp
open Tj Rw Od
def iota (n : Nat) : List Int := (List.range n).map fun (i : Nat) => (i : Int)
theorem iota_length (n : Nat) : (iota n).length = n := by simp [iota]
theorem nodup_le : ∀ (n : Nat) (l : List Int), l.Nodup → (∀ x ∈ l, 0 ≤ x ∧ x < n) → l.length ≤ n := by
 intro n
 induction n with
 | zero =>
  intro l _ h
  cases l with
  | nil => exact Nat.le_refl _
  | cons a l => have := h a (by simp); omega
 | succ n ih =>
  intro l hd h
  have h1 := ih (l.erase (n : Int)) (hd.erase _) (fun x hx => by
   have h2 := (hd.mem_erase_iff).1 hx
   have := h x h2.2
   have := h2.1
   omega)
  by_cases hm : (n : Int) ∈ l
  · rw [List.length_erase_of_mem hm] at h1; omega
  · rw [List.erase_of_not_mem hm] at h1; omega
theorem row_mem (ms : List (List Int)) (i : Nat) (h : i < ms.length) : row ms (i : Int) = ms[i] := by
 unfold row
 rw [Int.toNat_natCast, List.getD_eq_getElem?_getD, List.getElem?_eq_getElem h]
 rfl
def mem (cm : List Int) (c : Int) : List Int := (iota cm.length).filter fun v => rd cm v == c
def Dep (es : List (List Int)) (cm : List Int) (c d : Int) : Prop := c ≠ d ∧ ∃ v ∈ mem cm c, ∃ w ∈ row es v, rd cm w = d
structure J (n : Int) (c : Int) (O0 : Int → Int) (U0 : Int → List Int) (u : US) : Prop where
 lo : (u.opn.length : Int) = n
 lu : (u.users.length : Int) = n
 nd : u.seen.Nodup
 hc : c ∈ u.seen
 rg : ∀ d ∈ u.seen, 0 ≤ d ∧ d < n
 oo : ∀ d, 0 ≤ d → d ≠ c → rd u.opn d = O0 d
 oc : rd u.opn c = u.seen.length - 1
 us : ∀ d, 0 ≤ d → d < n → row u.users d = U0 d ++ (if d ∈ u.seen ∧ d ≠ c then [c] else [])
structure K1 (es : List (List Int)) (cm : List Int) (n c : Int) (u : US) : Prop where
 lo : (u.opn.length : Int) = n
 lu : (u.users.length : Int) = n
 dn : ∀ d, 0 ≤ d → d < c → ∃ P : List Int, P.Nodup ∧ (∀ x, x ∈ P ↔ Dep es cm d x) ∧ rd u.opn d = P.length
 op : ∀ d, c ≤ d → rd u.opn d = 0
 us : ∀ d, 0 ≤ d → d < n → (row u.users d).Nodup ∧ ∀ x, x ∈ row u.users d ↔ (0 ≤ x ∧ x < c) ∧ Dep es cm x d
end Tp
end Go.Proofs.Ytmadhaccjmakdaa
/- graph.ordered hands back the components one after the other, each time the ready one with the smallest node: for every valid graph with less than 1000000 nodes. -/
namespace Go.Proofs.Ytmadhaccjmakdaa
open Go.RowKit Go.Proofs.YtmadhaccjmakdaaW.PrintWords Go.Proofs.YtmadhaccjmakdaaW.PrintLast Go.Proofs.YtmadhaccjmakdaaW.PrintMore
namespace Tp
open Tj Rw Od
structure Rows (es : List (List Int)) (cm : List Int) (n : Int) (ms : List (List Int)) : Prop where
 len : (ms.length : Int) = n
 row : ∀ c, 0 ≤ c → c < n → row ms c = mem cm c
structure Rdy (ms : List (List Int)) (n : Int) (p : Int → Prop) (ready : List Int) : Prop where
 mem : ∀ x, x ∈ ready ↔ (0 ≤ x ∧ x < n) ∧ p x
 srt : ready.Pairwise fun a b => first ms a < first ms b
theorem Rdy.congr {ms : List (List Int)} {n : Int} {p q : Int → Prop} {r : List Int} (h : Rdy ms n p r) (hq : ∀ x, 0 ≤ x → x < n → (q x ↔ p x)) : Rdy ms n q r :=
 ⟨fun x => by
  rw [h.mem]
  exact ⟨fun ⟨a, b⟩ => ⟨a, (hq x a.1 a.2).2 b⟩, fun ⟨a, b⟩ => ⟨a, (hq x a.1 a.2).1 b⟩⟩, h.srt⟩
inductive Seq (es : List (List Int)) (cm : List Int) (n : Int) (ms : List (List Int)) : List Int → Prop
 | nil : Seq es cm n ms []
 | snoc {D : List Int} {c : Int} : Seq es cm n ms D → 0 ≤ c → c < n → c ∉ D → (∀ d, Dep es cm c d → d ∈ D) → (∀ x, 0 ≤ x → x < n → x ∉ D → (∀ d, Dep es cm x d → d ∈ D) → first ms c ≤ first ms x) → Seq es cm n ms (D ++ [c])
theorem Seq.rng {es : List (List Int)} {cm : List Int} {n : Int} {ms : List (List Int)} {D : List Int} (h : Seq es cm n ms D) : D.Nodup ∧ (∀ x ∈ D, 0 ≤ x ∧ x < n) ∧ ∀ x ∈ D, ∀ d, Dep es cm x d → d ∈ D := by
 induction h with
 | nil => simp
 | snoc _ h0 h1 h2 h3 h4 ih =>
  obtain ⟨i1, i2, i3⟩ := ih
  refine ⟨?_, ?_, ?_⟩
  · rw [List.nodup_append]
    exact ⟨i1, by simp, fun a ha b hb e => by rw [List.mem_singleton] at hb; subst hb; subst e; exact h2 ha⟩
  · intro x hx
    rcases List.mem_append.1 hx with e | e
    · exact i2 x e
    · rw [List.mem_singleton] at e; subst e; exact ⟨h0, h1⟩
  · intro x hx d hd
    rcases List.mem_append.1 hx with e | e
    · exact List.mem_append.2 (.inl (i3 x e d hd))
    · rw [List.mem_singleton] at e; subst e; exact List.mem_append.2 (.inl (h3 d hd))
def Cnt (n : Int) (q : Int → Int → Prop) (opn : List Int) : Prop := (opn.length : Int) = n ∧ ∀ u, 0 ≤ u → u < n → ∃ P : List Int, P.Nodup ∧ (∀ x ∈ P, 0 ≤ x ∧ x < n) ∧ (∀ x, x ∈ P ↔ q u x) ∧ rd opn u = P.length
theorem Cnt.zero {n : Int} {q : Int → Int → Prop} {opn : List Int} (h : Cnt n q opn) {u : Int} (h0 : 0 ≤ u) (h1 : u < n) : rd opn u = 0 ↔ ∀ x, ¬ q u x := by
 obtain ⟨P, _, _, p3, p4⟩ := h.2 u h0 h1
 rw [p4]
 constructor
 · intro h x hx
   have := List.length_pos_of_mem ((p3 x).2 hx)
   omega
 · intro h
   cases P with
   | nil => rfl
   | cons a P => exact absurd ((p3 a).1 (by simp)) (h a)
theorem Cnt.congr {n : Int} {q q' : Int → Int → Prop} {opn : List Int} (h : Cnt n q opn) (hq : ∀ u x, 0 ≤ u → u < n → (q' u x ↔ q u x)) : Cnt n q' opn :=
 ⟨h.1, fun u h0 h1 => by
  obtain ⟨P, p1, p2, p3, p4⟩ := h.2 u h0 h1
  exact ⟨P, p1, p2, fun x => by rw [p3, hq u x h0 h1], p4⟩⟩
end Tp
end Go.Proofs.Ytmadhaccjmakdaa
/- What small and valid answer, for every graph whose rows have a bounded length. -/
namespace Go.Proofs.Ytmadhaccjmakdaa
open Go.RowKit Go.Proofs.YtmadhaccjmakdaaW.PrintWords Go.Proofs.YtmadhaccjmakdaaW.PrintLast Go.Proofs.YtmadhaccjmakdaaW.PrintMore Go.Proofs.Ytmadhaccjmakdaa.P
namespace Tp
open Tj Rw Od
theorem succ_cast (i : Nat) (h : i < 1000000000) : wrap64 ((i : Int) + 1) = ((i + 1 : Nat) : Int) := by
 rw [w64 _ (by omega) (by omega)]
 omega
theorem L1_row (l : List (List Int)) (i : Int) : rd_L11 l i = row l i := rfl
def Sm (l : List (List Int)) : Prop := l.length ≤ 60 ∧ ∀ j : Nat, j < l.length → (row l j).length ≤ 2000
theorem Sm.row {l : List (List Int)} (h : Sm l) (v : Int) : (row l v).length ≤ 2000 := by
 by_cases hv : v.toNat < l.length
 · have := h.2 v.toNat hv
   unfold Tj.row at *
   rw [Int.toNat_natCast] at this
   exact this
 · unfold Tj.row
   rw [List.getD_eq_getElem?_getD, List.getElem?_eq_none (by omega)]
   simp
theorem drop_row (r : List Int) (j : Nat) (hj : j < r.length) : r.drop j = rd r j :: r.drop (j + 1) := by
 rw [rd_at r j hj]
 exact List.drop_eq_getElem_cons hj
end Tp
end Go.Proofs.Ytmadhaccjmakdaa
/- What Reach and Cyclic of the program answer: what can be reached by edges. -/
namespace Go.Proofs.Ytmadhaccjmakdaa
open Go.RowKit Go.Proofs.YtmadhaccjmakdaaW.PrintWords Go.Proofs.YtmadhaccjmakdaaW.PrintLast Go.Proofs.YtmadhaccjmakdaaW.PrintMore Go.Proofs.Ytmadhaccjmakdaa.P
namespace Tp
open Tj Rw Od
open Classical
end Tp
end Go.Proofs.Ytmadhaccjmakdaa
/- The list of components that graph.ordered hands back is the only one in which each component is the ready one with the smallest node: for every valid graph with less than 1000000 nodes. -/
namespace Go.Proofs.Ytmadhaccjmakdaa
open Go.RowKit Go.Proofs.YtmadhaccjmakdaaW.PrintWords Go.Proofs.YtmadhaccjmakdaaW.PrintLast Go.Proofs.YtmadhaccjmakdaaW.PrintMore Go.Proofs.Ytmadhaccjmakdaa.P
namespace Tp
open Tj Rw Od
open Classical
noncomputable def scc (es : List (List Int)) (m : Int) : List Int := (iota es.length).filter fun x => decide (Rc es m x ∧ Rc es x m)
def Ready (es : List (List Int)) (o : List (List Int)) (m : Int) : Prop := ∀ x, Rc es m x → x ∈ o.flatten ∨ Rc es x m
def Next (es : List (List Int)) (o : List (List Int)) (c : List Int) : Prop :=
 ∃ m, nd es m ∧ m ∉ o.flatten ∧ Ready es o m ∧ (∀ x, nd es x → x ∉ o.flatten → Ready es o x → m ≤ x) ∧ c = scc es m
inductive Kahn (es : List (List Int)) : List (List Int) → Prop
 | nil : Kahn es []
 | snoc {o : List (List Int)} {c : List Int} : Kahn es o → Next es o c → Kahn es (o ++ [c])
structure Parts (es o : List (List Int)) : Prop where
 asc : ∀ c ∈ o, c.Pairwise (· < ·)
 scc : ∀ c ∈ o, ∃ m, nd es m ∧ c = scc es m
 one : o.flatten.Nodup
 back : ∀ (i : Nat) (c : List Int), o[i]? = some c → ∀ u ∈ c, ∀ w ∈ row es u, ∃ (j : Nat) (d : List Int), j ≤ i ∧ o[j]? = some d ∧ w ∈ d
end Tp
end Go.Proofs.Ytmadhaccjmakdaa
/- Names: what has, same, Insert, Names, Imports and consistent answer. -/
namespace Go.Proofs.Ytmadhaccjmakdaa
open Go.Maps Go.Sort Go.RowKit Go.Proofs.YtmadhaccjmakdaaW.PrintWords Go.Proofs.YtmadhaccjmakdaaW.PrintLast Go.Proofs.YtmadhaccjmakdaaW.PrintMore Go.Proofs.Ytmadhaccjmakdaa.P
namespace Tp
open Tj Rw Od Mg
open Classical
abbrev Nm := List UInt8
theorem dat_bz (x : Nm) : dat (bz x) = x := bz_list x
theorem bz_dat (x : ByteArray) : bz (dat x) = x := by cases x; simp [bz, dat]
theorem toL_iff (x y : ByteArray) : x.toList = y.toList ↔ x = y := by
 rw [toL, toL]
 exact ⟨fun h => dat_inj h, fun h => by rw [h]⟩
theorem drop_strs (l : List ByteArray) (j : Nat) (h : j < l.length) : l.drop j = rdOf ByteArray.empty l j :: l.drop (j + 1) := by
 rw [List.drop_eq_getElem_cons h]
 congr 1
 simp [rdOf, List.getElem?_eq_getElem h]
theorem less_dat (x y : ByteArray) : Op.bytesLess x.toList y.toList = decide (dat x < dat y) := by
 rw [bytesLess_eq, toL, toL]
theorem has_ev (l : List ByteArray) (x : ByteArray) (hl : l.length < 1000000) : Ev (fun k => lazycref01_Has.f k l x) (decide (x ∈ l)) := by
 have key : ∀ (m j : Nat), j + m = l.length → Ev (fun k => lazycref01_Has.l0 k l x j) (decide (x ∈ l.drop j)) := by
  intro m
  induction m with
  | zero =>
   intro j hj
   rw [List.drop_eq_nil_of_le (by omega)]
   refine Ev.step (fun k => ?_) (Ev.now _)
   simp only [lazycref01_Has.l0]
   rw [if_neg (by omega), show decide (x ∈ ([] : List ByteArray)) = false by simp]
  | succ m ih =>
   intro j hj
   rw [drop_strs l j (by omega)]
   by_cases h : rdOf ByteArray.empty l j = x
   · rw [show decide (x ∈ rdOf ByteArray.empty l j :: l.drop (j + 1)) = true by simp [h]]
     refine Ev.step (fun k => ?_) (Ev.now _)
     simp only [lazycref01_Has.l0]
     rw [if_pos (by omega), if_pos (by omega), if_pos ((toL_iff _ _).2 h)]
   · rw [show decide (x ∈ rdOf ByteArray.empty l j :: l.drop (j + 1)) = decide (x ∈ l.drop (j + 1)) by have h' : ¬ x = rdOf ByteArray.empty l j := fun e => h e.symm; simp [h']]
     refine Ev.step (fun k => ?_) (ih (j + 1) (by omega))
     simp only [lazycref01_Has.l0]
     rw [if_pos (by omega), if_pos (by omega), if_neg (fun e => h ((toL_iff _ _).1 e)), succ_cast j (by omega)]
 exact key l.length 0 (by omega)
theorem same_ev (a b : List ByteArray) (hl : a.length < 1000000) : Ev (fun k => lazyclaw10_same.f k a b) (decide (a = b)) := by
 by_cases hlen : a.length = b.length
 · have key : ∀ (m j : Nat), j + m = a.length → Ev (fun k => lazyclaw10_same.l0 k a b j) (decide (a.drop j = b.drop j)) := by
    intro m
    induction m with
    | zero =>
     intro j hj
     rw [List.drop_eq_nil_of_le (by omega), List.drop_eq_nil_of_le (by omega)]
     refine Ev.step (fun k => ?_) (Ev.now _)
     simp only [lazyclaw10_same.l0]
     rw [if_neg (by omega)]
     rfl
    | succ m ih =>
     intro j hj
     rw [drop_strs a j (by omega), drop_strs b j (by omega)]
     by_cases h : rdOf ByteArray.empty a j = rdOf ByteArray.empty b j
     · rw [show decide (rdOf ByteArray.empty a j :: a.drop (j + 1) = rdOf ByteArray.empty b j :: b.drop (j + 1)) = decide (a.drop (j + 1) = b.drop (j + 1)) by simp [h]]
       refine Ev.step (fun k => ?_) (ih (j + 1) (by omega))
       simp only [lazyclaw10_same.l0]
       rw [if_pos (by omega), if_pos (by omega), if_pos (by omega), if_pos ((toL_iff _ _).2 h), succ_cast j (by omega)]
     · rw [show decide (rdOf ByteArray.empty a j :: a.drop (j + 1) = rdOf ByteArray.empty b j :: b.drop (j + 1)) = false by simp [h]]
       refine Ev.step (fun k => ?_) (Ev.now _)
       simp only [lazyclaw10_same.l0]
       rw [if_pos (by omega), if_pos (by omega), if_pos (by omega), if_neg (fun e => h ((toL_iff _ _).1 e))]
   refine Ev.congr (fun k => ?_) (key a.length 0 (by omega))
   unfold lazyclaw10_same.f
   rw [if_pos (by omega)]
   rfl
 · rw [show decide (a = b) = false from decide_eq_false (fun e => hlen (by rw [e]))]
   refine Ev.congr (fun k => ?_) (Ev.now _)
   unfold lazyclaw10_same.f
   rw [if_neg (by omega)]
def insU (s : Nm) : List Nm → List Nm
 | [] => [s]
 | x :: l => if s < x then s :: x :: l else if s = x then x :: l else x :: insU s l
theorem mem_insU {s x : Nm} : ∀ {l : List Nm}, x ∈ insU s l ↔ x = s ∨ x ∈ l := by
 intro l
 induction l with
 | nil => simp [insU]
 | cons y l ih =>
  unfold insU
  split
  · simp
  · split
    · rename_i h; subst h; simp
    · simp only [List.mem_cons, ih]
      constructor
      · rintro (h | h | h)
        · exact .inr (.inl h)
        · exact .inl h
        · exact .inr (.inr h)
      · rintro (h | h | h)
        · exact .inr (.inl h)
        · exact .inl h
        · exact .inr (.inr h)
theorem insU_len (s : Nm) : ∀ (l : List Nm), (insU s l).length ≤ l.length + 1 := by
 intro l
 induction l with
 | nil => simp [insU]
 | cons y l ih =>
  unfold insU
  split
  · simp
  · split
    · simp
    · simp; omega
theorem insU_lt (s : Nm) : ∀ {l : List Nm}, l.Pairwise (· < ·) → (insU s l).Pairwise (· < ·) := by
 intro l
 induction l with
 | nil => intro _; simp [insU]
 | cons y l ih =>
  intro h
  rw [List.pairwise_cons] at h
  unfold insU
  split
  · rename_i h1
    rw [List.pairwise_cons]
    refine ⟨fun z hz => ?_, List.pairwise_cons.2 h⟩
    rcases List.mem_cons.1 hz with rfl | hz
    · exact h1
    · exact List.lt_trans h1 (h.1 z hz)
  · split
    · exact List.pairwise_cons.2 h
    · rename_i h1 h2
      rw [List.pairwise_cons]
      refine ⟨fun z hz => ?_, ih h.2⟩
      rcases mem_insU.1 hz with rfl | hz
      · rcases Std.lt_trichotomy z y with h3 | h3 | h3
        · exact absurd h3 h1
        · exact absurd h3 h2
        · exact h3
      · exact h.1 z hz
theorem ins_copy (x0 : List ByteArray) (x1 : ByteArray) (hl : x0.length < 1000000) : ∀ (m j : Nat) (x5 : List ByteArray), j + m = x0.length → x5.length ≤ 2 * j + 2 → Ev (fun k => lazycref10_Insert.l0 k x0 x1 x5 true j) (x5 ++ x0.drop j) := by
 intro m
 induction m with
 | zero =>
  intro j x5 hj hx
  rw [List.drop_eq_nil_of_le (by omega), List.append_nil]
  refine Ev.step (fun k => ?_) (Ev.now _)
  simp only [lazycref10_Insert.l0]
  rw [if_neg (by omega), if_pos trivial]
 | succ m ih =>
  intro j x5 hj hx
  have h1 := ih (j + 1) (x5 ++ [rdOf ByteArray.empty x0 j]) (by omega) (by simp; omega)
  rw [drop_strs x0 j (by omega)]
  rw [List.append_assoc, List.singleton_append] at h1
  refine Ev.step (fun k => ?_) (Ev.step (g := fun k => lazycref10_Insert.j1 k x0 x1 x5 true j false) (fun k => ?_) h1)
  · simp only [lazycref10_Insert.l0]
    rw [if_pos (by omega), if_pos trivial]
  · simp only [lazycref10_Insert.j1]
    rw [if_neg (by simp), if_pos (by omega), if_pos (by omega), if_pos (by omega), succ_cast j (by omega)]
theorem ins_ev (L : List Nm) (s : ByteArray) (hl : L.length < 1000000) : Ev (fun k => lazycref10_Insert.f k (L.map bz) s) ((insU (dat s) L).map bz) := by
 have hrd : ∀ j : Nat, (h : j < L.length) → rdOf ByteArray.empty (L.map bz) (j : Int) = bz L[j] := by
  intro j h
  simp [rdOf, List.getElem?_eq_getElem h]
 have key : ∀ (m j : Nat) (x5 : List ByteArray), j + m = L.length → x5.length ≤ j → Ev (fun k => lazycref10_Insert.l0 k (L.map bz) s x5 false j) (x5 ++ (insU (dat s) (L.drop j)).map bz) := by
  intro m
  induction m with
  | zero =>
   intro j x5 hj hx
   rw [List.drop_eq_nil_of_le (by omega)]
   refine Ev.step (fun k => ?_) (Ev.now _)
   simp only [lazycref10_Insert.l0]
   rw [if_neg (by rw [List.length_map]; omega), if_neg (by simp), if_pos (by omega)]
   simp [insU, bz_dat]
  | succ m ih =>
   intro j x5 hj hx
   have hjl : j < L.length := by omega
   have hjm : (j : Int) < ((L.map bz).length : Int) := by rw [List.length_map]; omega
   rw [List.drop_eq_getElem_cons hjl]
   have hr := hrd j hjl
   by_cases h1 : L[j] < dat s
   · have e : insU (dat s) (L[j] :: L.drop (j + 1)) = L[j] :: insU (dat s) (L.drop (j + 1)) := by
      rw [insU, if_neg (fun h => List.lt_irrefl _ (List.lt_trans h h1)), if_neg (fun h => by rw [h] at h1; exact List.lt_irrefl _ h1)]
     rw [e]
     have h2 := ih (j + 1) (x5 ++ [rdOf ByteArray.empty (L.map bz) j]) (by omega) (by simp; omega)
     rw [hr, List.append_assoc, List.singleton_append] at h2
     refine Ev.step (fun k => ?_) (Ev.step (g := fun k => lazycref10_Insert.j1 k (L.map bz) s x5 false j false) (fun k => ?_) h2)
     · simp only [lazycref10_Insert.l0]
       rw [if_pos hjm, if_neg (by simp), if_pos (by omega), less_dat, hr, dat_bz, decide_eq_true h1]
       rfl
     · simp only [lazycref10_Insert.j1]
       rw [if_neg (by simp), if_pos (by omega), if_pos hjm, if_pos (by omega), succ_cast j (by omega), hr]
   · have hcond : (!(Op.bytesLess ((rdOf ByteArray.empty (L.map bz) (j : Int)).toList) s.toList)) = true := by rw [less_dat, hr, dat_bz, decide_eq_false h1]; rfl
     by_cases h2 : dat s < L[j]
     · have e : insU (dat s) (L[j] :: L.drop (j + 1)) = dat s :: L[j] :: L.drop (j + 1) := by rw [insU, if_pos h2]
       rw [e]
       have h3 := ins_copy (L.map bz) s (by rw [List.length_map]; omega) m (j + 1) ((x5 ++ [s]) ++ [rdOf ByteArray.empty (L.map bz) j]) (by rw [List.length_map]; omega) (by simp; omega)
       rw [hr, ← List.map_drop] at h3
       refine Ev.step (fun k => ?_) (Ev.step (g := fun k => lazycref10_Insert.j1 k (L.map bz) s x5 false j true) (fun k => ?_) (r := x5 ++ List.map bz (dat s :: L[j] :: List.drop (j + 1) L)) (f := fun k => lazycref10_Insert.l0 k (L.map bz) s ((x5 ++ [s]) ++ [bz L[j]]) true ((j + 1 : Nat) : Int)) ?_)
       · simp only [lazycref10_Insert.l0]
         rw [if_pos hjm, if_neg (by simp), if_pos (by omega), hcond]
       · simp only [lazycref10_Insert.j1]
         rw [if_pos trivial, if_pos (by omega), if_pos hjm, if_pos (by rw [less_dat, hr, dat_bz, decide_eq_true h2]), if_pos (by omega), Option.bind_some, if_pos (by simp; omega), succ_cast j (by omega), hr]
       · rw [List.map_cons, List.map_cons, bz_dat]
         simpa only [List.append_assoc, List.singleton_append, List.cons_append, List.nil_append] using h3
     · have h4 : dat s = L[j] := by
        rcases Std.lt_trichotomy (dat s) L[j] with h | h | h
        · exact absurd h h2
        · exact h
        · exact absurd h h1
       have e : insU (dat s) (L[j] :: L.drop (j + 1)) = L[j] :: L.drop (j + 1) := by rw [insU, if_neg h2, if_pos h4]
       rw [e]
       have h3 := ins_copy (L.map bz) s (by rw [List.length_map]; omega) m (j + 1) (x5 ++ [rdOf ByteArray.empty (L.map bz) j]) (by rw [List.length_map]; omega) (by simp; omega)
       rw [hr, ← List.map_drop] at h3
       refine Ev.step (fun k => ?_) (Ev.step (g := fun k => lazycref10_Insert.j1 k (L.map bz) s x5 false j true) (fun k => ?_) (f := fun k => lazycref10_Insert.l0 k (L.map bz) s (x5 ++ [bz L[j]]) true ((j + 1 : Nat) : Int)) ?_)
       · simp only [lazycref10_Insert.l0]
         rw [if_pos hjm, if_neg (by simp), if_pos (by omega), hcond]
       · simp only [lazycref10_Insert.j1]
         rw [if_pos trivial, if_pos (by omega), if_pos hjm, if_neg (by rw [less_dat, hr, dat_bz, decide_eq_false h2]; simp), if_pos (by omega), succ_cast j (by omega), hr]
       · rw [List.map_cons]
         simpa only [List.append_assoc, List.singleton_append, List.cons_append, List.nil_append] using h3
 have h := key L.length 0 [] (by omega) (by simp)
 rw [List.drop_zero, List.nil_append] at h
 exact h
end Tp
end Go.Proofs.Ytmadhaccjmakdaa
