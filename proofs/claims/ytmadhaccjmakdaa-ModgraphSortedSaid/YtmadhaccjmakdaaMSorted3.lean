/- Part 3 of 6 of one proof: graph.Levels in the form in which printed texts call it -/
import Derived.ChangeAlike
import Derived.Laws.EntriesVeiled
import Derived.Orders
import Derived.RegionTactic
import Derived.Tactics
import Derived.Test.YtmadhaccjmakdaaMSorted1
import Derived.Test.YtmadhaccjmakdaaMSorted2
set_option linter.unusedVariables false
set_option linter.unusedSimpArgs false
set_option maxHeartbeats 8000000
set_option maxRecDepth 100000
namespace Go.Proofs.Ytmadhaccjmakdaa
open Go.RowKit Go.Proofs.Yw.A Go.Proofs.Yw.B Go.Proofs.Yw.C Go.Proofs.Ytmadhaccjmakdaa.P
namespace Tj
attribute [local go_sem] max2_int min2_int max_two min_two max_three min_three max_four min_four
theorem visit_step (X : Cx) (o : X.Ok) (k : Nat) (ih : Az (∀ k1, k1 < k -> ∀ (v : Int) (st st' : TS), visit k1 X.es v st = some st' -> ∀ w, Inv X st w -> Calls Try.prog 61 #[.int .i64 v, P1 X.bc, P1 X.bi, P1 X.bl, P1 X.bs, P1 X.be, P1 X.bv, P1 X.bp, P1 X.bm] w fun e w' => e = .returned (.tuple #[]) /\ Inv X st' w')) (v : Int) (st st' : TS) (w : World) (I : Inv X st w) (h : visit (k + 1) X.es v st = some st') :
    Calls Try.prog 61 #[.int .i64 v, P1 X.bc, P1 X.bi, P1 X.bl, P1 X.bs, P1 X.be, P1 X.bv, P1 X.bp, P1 X.bm] w fun e w' => e = .returned (.tuple #[]) /\ Inv X st' w' := by
  have H : (if 0 <= v /\ v < X.es.length /\ st.stack.length < 17592186044415 then each k X.es v (row X.es v) 0 (enter v st) else none) = some st' := by rw [<- h, visit]
  clear h
  by_cases hv : 0 <= v /\ v < X.es.length /\ st.stack.length < 17592186044415
  case neg => rw [if_neg hv] at H; cases H
  rw [if_pos hv] at H
  obtain ⟨hv0, hv1, hv2⟩ := hv
  have H' := Az.mk H
  clear H
  have J := Az.mk I
  have O := Az.mk o
  clear o
  have c1 := cell_of_one I.kc
  have f1 := free_of_one I.kc
  clear I
  go_enter Try.func61, Try.ntmps61
  go_wp2_with fail
  have J1 := Az.mk (J.1.setCount O.1 (wrap64 (st.count + 1)))
  clear J c1 f1
  generalize w.setCell ⟨X.bc, 0, none⟩ (.int .i64 (wrap64 (st.count + 1))) = w1 at J1 ⊢
  generalize hst1 : ({ st with count := wrap64 (st.count + 1) } : TS) = st1 at J1
  have N1 := Az.mk hst1
  clear hst1
  have c1 := cell_of_one J1.1.kc
  have c2 := cell_of_one J1.1.ki
  have c3 := cell_of_one J1.1.kl
  have c4 := arr_cell J1.1.ai v hv0 (by rw [J1.1.li]; exact hv1)
  have c5 := arr_cell J1.1.al v hv0 (by rw [J1.1.ll]; exact hv1)
  have f4 := arr_free J1.1.ai v.toNat
  have f5 := arr_free J1.1.al v.toNat
  have n1 : X.bc ≠ X.ai := O.1.t1.2.1
  have n2 : X.bl ≠ X.ai := blk_ne J1.1.kl J1.1.ai (by decide)
  have n3 : X.bc ≠ X.al := O.1.t1.2.2.1
  have n4 : X.bi ≠ X.al := blk_ne J1.1.ki J1.1.al (by decide)
  have n5 : X.al ≠ X.ai := O.1.t1.2.2.2.2.2.2.2.1.symm
  go_region
  go_upto_region 2 with fail
  have J2 := Az.mk ((J1.1.setIndex O.1 v.toNat st1.count).setLow O.1 v.toNat st1.count).drew
  clear J1 c1 c2 c3 c4 c5 f4 f5 n1 n2 n3 n4 n5
  generalize ((w1.setCell ⟨X.ai, v.toNat, none⟩ (.int .i64 st1.count)).setCell ⟨X.al, v.toNat, none⟩ (.int .i64 st1.count)).drew = w2 at J2 ⊢
  generalize hst2 : ({ st1 with index := st1.index.set v.toNat st1.count, low := st1.low.set v.toNat st1.count } : TS) = st2 at J2
  have N2 := Az.mk hst2
  clear hst2
  obtain ⟨vs, k1, k2⟩ := J2.1.ks
  have c1 := cell_of_one k1
  have f1 := free_of_one k1
  have K2 := Az.mk k2
  have S2 := Az.mk k1
  clear k1 k2
  go_wp2_with (first | ((with_reducible refine gate_builtin (b := .append) (xs := #[.tmp 23, .tmp 25]) rfl ?_); at_builtin; refine Kd.R_append (Kd.int .i64) (w0 := X.w0) X.w0.heap.size rfl (.tmp 23) (.tmp 25) 55 3 (.int .i64 0) 8 rfl Try.underlying55 info3 rfl (by decide) (by omega) vs st2.stack v [.int .i64 v] X.ok (fun _ => False) rfl rfl ?aP (fun _ hk => hk.elim) ?aF K2.1 J2.1.hB ?aS ?aL ?_) | fail)
  (case aP => exact rfl)
  (case aF => intro g hg; exact ⟨by have := blk_lt J2.1.kc; omega, by have := blk_lt J2.1.km; omega, by have := blk_lt J2.1.ai; omega, by have := blk_lt J2.1.al; omega, by have := blk_lt J2.1.ap; omega⟩)
  (case aS => exact J2.1.hB.size)
  (case aL => have e1 : st2.stack = st.stack := by rw [<- N2.1, <- N1.1]
              rw [e1]; omega)
  intro v1 w3 ho hb hg hat
  obtain ⟨A1, q1, rfl⟩ := Kd.R_slice ho
  have f3 := free_of_one (blk_grown S2.1 hg (Kd.R_ne K2.1 S2.1 (by decide)))
  have c3 := cell_of_one (blk_grown S2.1 hg (Kd.R_ne K2.1 S2.1 (by decide)))
  clear c1 f1 S2
  have Ho := Az.mk ho
  have Hb := Az.mk hb
  have Hg := Az.mk hg
  clear ho hb hg hat
  go_upto_region 3 with fail
  have J3 := Az.mk (J2.1.setStack O.1 Hg.1 Hb.1 (fun g hh => ⟨K2.1.1 g hh, (by obtain ⟨inner, hi⟩ := Kd.R_own K2.1; exact own_typed hi g hh)⟩) Ho.1)
  clear f3 c3 J2 K2 Ho Hb Hg
  have e3 : ({ st2 with stack := st2.stack ++ [v] } : TS) = enter v st := by rw [<- N2.1, <- N1.1]; rfl
  have e4 : (st2.stack ++ [v]).length = st2.stack.length + 1 := by simp
  rw [e3, e4] at J3
  (try rw [e4])
  clear e3 e4 N1 N2
  generalize w3.setCell ⟨X.bs, 0, none⟩ (.slice A1 (st2.stack.length + 1) q1) = w4 at J3 ⊢
  generalize hst3 : enter v st = st3 at J3 H'
  clear hst3
  have c1 := cell_of_one J3.1.ke
  obtain ⟨ad, A0, c0, eA, hx, hl0, hi0⟩ := at_L11 J3.1.hE v hv0 hv1
  have hx1 := (J3.1.hB.cell (World.block_lt_of_cell? _ _ hx)).trans hx
  rw [eA] at c1
  have hI0 := Az.mk hi0
  clear hx hl0 hi0 eA
  have q1 := eq_true hv0
  have q2 := eq_true hv1
  go_wp2_with fail
  have el : rd_L11 X.es v = row X.es v := rfl
  rw [el] at hI0 ⊢
  have hm : (row X.es v).length <= 9223372036854775807 := hI0.1.2.1
  go_loopg [32] k (fun kq v32 w' => ∃ (i : Int) (s : TS), v32 = .int .i64 i /\ Az (0 <= i) /\ Az (each kq X.es v (row X.es v) i s = some st') /\ Az (kq <= k) /\ Az (Inv X s w'))
  case atStart => exact ⟨0, st3, rfl, ⟨by omega⟩, H', ⟨Nat.le_refl _⟩, J3⟩
  case round => as_aux_lemma =>
    clear H' J3 c1 hx1
    obtain ⟨i, s, rfl, HI, HA, HK1, J⟩ := hrel
    cases gk with
    | zero => exact absurd HA.1 (by simp [each])
    | succ k1 =>
      have H := HA.1
      clear HA
      rw [each] at H
      by_cases ci : i < (row X.es v).length
      · rw [if_pos ci] at H
        have cb : decide (i < ((row X.es v).length : Int)) = true := decide_eq_true ci
        by_cases cr : 0 <= rd (row X.es v) i /\ rd (row X.es v) i < X.es.length
        case neg => rw [if_neg cr] at H; cases H
        rw [if_pos cr] at H
        obtain ⟨cr0, cr1⟩ := cr
        obtain ⟨ad2, e2, hx2⟩ := Kd.at_int hI0.1 i HI.1 ci
        cases e2
        have hx3 := (J.1.hB.cell (World.block_lt_of_cell? _ _ hx2)).trans hx2
        clear hx2
        have c2 := cell_of_one J.1.ki
        have hi0 := HI.1
        generalize rd (row X.es v) i = x at H cr0 cr1 hx3
        have c3 := arr_cell J.1.ai x cr0 (by rw [J.1.li]; exact cr1)
        have q3 := eq_true cr0
        have q4 := eq_true cr1
        have q5 := eq_true hi0
        have q6 := eq_true ci
        by_cases cz : rd s.index x = 0
        · as_aux_lemma =>
          rw [if_pos cz] at H
          obtain ⟨s1, hs1, H⟩ := Option.bind_eq_some_iff.1 H
          have Hs1 := Az.mk hs1
          have H' := Az.mk H
          clear hs1 H
          have cz1 : (rd s.index x == 0) = true := beq_iff_eq.2 cz
          clear cz
          have c5 := cell_of_one J.1.kv
          go_wp2_with (go_at_call 61; refine (ih.1 k1 (by have := HK1.1; omega) x s s1 Hs1.1 _ J.1).mono ?_; clear c2 c3 c5 hx3; rintro e w5 ⟨rfl, hI⟩; have J5 := Az.mk hI; clear hI)
          have c6 := cell_of_one J5.1.kl
          have c7 := arr_cell J5.1.al v hv0 (by rw [J5.1.ll]; exact hv1)
          have c8 := arr_cell J5.1.al x cr0 (by rw [J5.1.ll]; exact cr1)
          have f6 := arr_free J5.1.al v.toNat
          have key : ∀ y : Int, y = mn (rd s1.low v) (rd s1.low x) -> Az (Inv X (lower v (rd s1.low x) s1) ((w5.setCell ⟨X.al, v.toNat, none⟩ (.int .i64 y)).drew)) := by
            rintro y rfl
            exact ⟨(J5.1.setLow O.1 v.toNat _).drew⟩
          have KEY := Az.mk key
          clear key
          go_region
          all_goals (try go_wp2_with fail)
          all_goals as_aux_lemma =>
            first
            | (have J6 := KEY.1 (rd s1.low v) (by unfold mn; rw [if_neg (by omega)])
               generalize (w5.setCell ⟨X.al, v.toNat, none⟩ (.int .i64 (rd s1.low v))).drew = w6 at J6 ⊢
               clear KEY
               go_roundg k1
               case measure => have := HK1.1; omega
               case rel => exact ⟨i + 1, _, rfl, ⟨by omega⟩, H', ⟨by have := HK1.1; omega⟩, J6⟩)
            | (have J6 := KEY.1 (rd s1.low x) (by unfold mn; rw [if_pos (by omega)])
               generalize (w5.setCell ⟨X.al, v.toNat, none⟩ (.int .i64 (rd s1.low x))).drew = w6 at J6 ⊢
               clear KEY
               go_roundg k1
               case measure => have := HK1.1; omega
               case rel => exact ⟨i + 1, _, rfl, ⟨by omega⟩, H', ⟨by have := HK1.1; omega⟩, J6⟩)
        · as_aux_lemma =>
          rw [if_neg cz] at H
          have cz1 : (rd s.index x == 0) = false := beq_eq_false_iff_ne.2 cz
          clear cz
          have c9 := cell_of_one J.1.kp
          have c10 := arr_cell J.1.ap x cr0 (by rw [J.1.lp]; exact cr1)
          by_cases cn : rd s.comp x < 0
          · as_aux_lemma =>
            rw [if_pos cn] at H
            have H' := Az.mk H
            clear H
            have cn1 : decide (rd s.comp x < 0) = true := decide_eq_true cn
            clear cn
            go_wp2_with fail
            have c6 := cell_of_one J.1.kl
            have c7 := arr_cell J.1.al v hv0 (by rw [J.1.ll]; exact hv1)
            have f6 := arr_free J.1.al v.toNat
            have key : ∀ y : Int, y = mn (rd s.low v) (rd s.index x) -> Az (Inv X (lower v (rd s.index x) s) ((wr.setCell ⟨X.al, v.toNat, none⟩ (.int .i64 y)).drew)) := by
              rintro y rfl
              exact ⟨(J.1.setLow O.1 v.toNat _).drew⟩
            have KEY := Az.mk key
            clear key
            go_region
            all_goals (try go_wp2_with fail)
            all_goals as_aux_lemma =>
              first
              | (have J6 := KEY.1 (rd s.low v) (by unfold mn; rw [if_neg (by omega)])
                 generalize (wr.setCell ⟨X.al, v.toNat, none⟩ (.int .i64 (rd s.low v))).drew = w6 at J6 ⊢
                 clear KEY
                 go_roundg k1
                 case measure => have := HK1.1; omega
                 case rel => exact ⟨i + 1, _, rfl, ⟨by omega⟩, H', ⟨by have := HK1.1; omega⟩, J6⟩)
              | (have J6 := KEY.1 (rd s.index x) (by unfold mn; rw [if_pos (by omega)])
                 generalize (wr.setCell ⟨X.al, v.toNat, none⟩ (.int .i64 (rd s.index x))).drew = w6 at J6 ⊢
                 clear KEY
                 go_roundg k1
                 case measure => have := HK1.1; omega
                 case rel => exact ⟨i + 1, _, rfl, ⟨by omega⟩, H', ⟨by have := HK1.1; omega⟩, J6⟩)
          · as_aux_lemma =>
            rw [if_neg cn] at H
            have H' := Az.mk H
            clear H
            have cn1 : decide (rd s.comp x < 0) = false := decide_eq_false cn
            clear cn
            go_wp2_with fail
            go_roundg k1
            case measure => have := HK1.1; omega
            case rel => exact ⟨i + 1, _, rfl, ⟨by omega⟩, H', ⟨by have := HK1.1; omega⟩, J⟩
      · as_aux_lemma =>
        rw [if_neg ci] at H
        have cb : decide (i < ((row X.es v).length : Int)) = false := decide_eq_false ci
        have c2 := cell_of_one J.1.ki
        have c3 := cell_of_one J.1.kl
        have c4 := arr_cell J.1.ai v hv0 (by rw [J.1.li]; exact hv1)
        have c5 := arr_cell J.1.al v hv0 (by rw [J.1.ll]; exact hv1)
        by_cases ce : rd s.low v = rd s.index v
        case neg =>
          rw [if_neg ce] at H
          have H' := Az.mk H
          clear H
          have ce1 : (rd s.low v != rd s.index v) = true := bne_iff_ne.2 ce
          clear ce
          go_wp2_with fail
          go_region
          go_wp2_with fail
          refine bodyPost_ret (v := .tuple #[]) (by simp [results, Try.results61, go_sem]) rfl ⟨rfl, ?_⟩
          cases H'.1
          exact J.1.drew
        rw [if_pos ce] at H
        have H' := Az.mk H
        clear H
        have ce1 : (rd s.low v != rd s.index v) = false := bne_eq_false_iff_eq.2 ce
        clear ce
        go_wp2_with fail
        go_region
        go_wp2_with fail
        have J7 := Az.mk J.1.drew
        clear J c2 c3 c4 c5
        go_loopg [12] k1 (fun kq v12 w' => ∃ s : TS, Az (pop kq v s = some st') /\ Az (Inv X s w'))
        case atStart => exact ⟨s, H', J7⟩
        case round => as_aux_lemma =>
          clear H' J7
          obtain ⟨s2, HA, J⟩ := hrel
          cases gk with
          | zero => exact absurd HA.1 (by simp [pop])
          | succ k2 =>
            have H := HA.1
            clear HA
            rw [pop] at H
            by_cases cl : 0 < s2.stack.length
            case neg => rw [if_neg cl] at H; cases H
            rw [if_pos cl] at H
            obtain ⟨vs2, g1, g2⟩ := J.1.ks
            obtain ⟨A2, q2c, rfl, hle, hC⟩ := Kd.R_reads g2
            obtain ⟨ad3, e3, hx4⟩ := Kd.at_int hC ((s2.stack.length : Int) - 1) (by omega) (by omega)
            subst e3
            have e6 : ((s2.stack.length : Int) - 1).toNat = s2.stack.length - 1 := by omega
            rw [e6] at hx4
            generalize hgx : rd s2.stack ((s2.stack.length : Int) - 1) = x at H hx4
            clear hgx e6
            by_cases cx : 0 <= x /\ x < s2.comp.length
            case neg => rw [if_neg cx] at H; cases H
            rw [if_pos cx] at H
            obtain ⟨cx0, cx1⟩ := cx
            have H2 := Az.mk H
            clear H
            have c6 := cell_of_one g1
            have f6 := free_of_one g1
            have hm2 : s2.stack.length <= 9223372036854775807 := hC.2.1
            have qa : (0 <= (s2.stack.length : Int) - 1) = True := eq_true (by omega)
            have qb : ((s2.stack.length : Int) - 1 < (s2.stack.length : Int)) = True := eq_true (by omega)
            go_upto_region 14 with fail
            obtain ⟨i0, hi0, _, hsz, _⟩ := info_parts info3
            have hcut := cut_to (P := Try.prog) 55 3 .i64 Try.underlying55 hi0 (some ad3) s2.stack.length q2c ((s2.stack.length : Int) - 1) (by omega) (by omega) hle
            have e6 : ((s2.stack.length : Int) - 1).toNat = s2.stack.length - 1 := by omega
            rw [e6] at hcut
            have G2 := Az.mk (Kd.R_take (m := s2.stack.length - 1) g2 (by omega))
            clear hi0 hsz e6 g2 hx4
            have hl3 : (s2.stack.take (s2.stack.length - 1)).length = s2.stack.length - 1 := by rw [List.length_take]; omega
            go_upto_region 15 with fail
            have J8 := Az.mk (J.1.setStack O.1 (World.grownBy.refl _ none) J.1.hB (fun g hh => by cases hh) G2.1)
            generalize wr.setCell ⟨X.bs, 0, none⟩ (.slice (some ad3) (s2.stack.length - 1) q2c) = w8 at J8 ⊢
            clear c6 f6 hcut G2 g1
            have c7 := cell_of_one J8.1.kp
            have c8 := cell_of_one J8.1.km
            have c9 := arr_cell J8.1.ap x cx0 (by exact cx1)
            have f9 := arr_free J8.1.ap x.toNat
            have e9 : s2.comp.length = X.es.length := J.1.lp
            have qc : (0 <= x) = True := eq_true cx0
            have qd : (x < (X.es.length : Int)) = True := eq_true (by omega)
            clear e9
            go_upto_region 16 with fail
            have J9 := Az.mk (J8.1.setComp O.1 x.toNat s2.comps)
            clear c7 c8 c9 f9 J8
            generalize w8.setCell ⟨X.ap, x.toNat, none⟩ (.int .i64 s2.comps) = w9 at J9 ⊢
            by_cases cv : x = v
            · have cv1 : (x == v) = true := beq_iff_eq.2 cv
              have H3 := H2.1
              rw [if_pos cv] at H3
              have H4 := Az.mk H3
              clear H3 H2 cv
              have c8 := cell_of_one J9.1.km
              have f8 := free_of_one J9.1.km
              go_wp2_with fail
              have J10 := Az.mk (J9.1.setComps O.1 (wrap64 (s2.comps + 1)))
              go_end0
              refine ⟨rfl, ?_⟩
              cases H4.1
              exact J10.1
            · have cv1 : (x == v) = false := beq_eq_false_iff_ne.2 cv
              have H3 := H2.1
              rw [if_neg cv] at H3
              have H4 := Az.mk H3
              clear H3 H2 cv
              go_wp2_with fail
              go_roundg k2
              case measure => omega
              case rel => exact ⟨_, H4, J9⟩
theorem visit_calls (X : Cx) (o : X.Ok) (k : Nat) : ∀ (v : Int) (st st' : TS), visit k X.es v st = some st' -> ∀ w, Inv X st w -> Calls Try.prog 61 #[.int .i64 v, P1 X.bc, P1 X.bi, P1 X.bl, P1 X.bs, P1 X.be, P1 X.bv, P1 X.bp, P1 X.bm] w fun e w' => e = .returned (.tuple #[]) /\ Inv X st' w' := by
  induction k using Nat.strongRecOn with
  | _ k ih =>
    intro v st st' h w I
    cases k with
    | zero => exact absurd h (by simp [visit])
    | succ k => exact visit_step X o k ⟨fun k1 h1 => ih k1 (by omega)⟩ v st st' w I h
end Tj
end Go.Proofs.Ytmadhaccjmakdaa
namespace Go.Proofs.Ytmadhaccjmakdaa
namespace Rg
variable {P : Program} {ops : Array Oper} {Q : Exit -> Act -> World -> Prop} {md : Region.Mode}
theorem getD_size {l : Array Bool} {i : Nat} (h : l.getD i true = false) : ∃ hi : i < l.size, l[i] = false := by
 rcases Nat.lt_or_ge i l.size with h1 | h1
 · exact ⟨h1, by simpa [h1] using h⟩
 · simp [Array.getElem?_eq_none h1] at h
theorem count_set {l : Array Bool} {i : Nat} (h : l.getD i true = false) : (l.setIfInBounds i true).toList.count false + 1 = l.toList.count false := by
 obtain ⟨hi, he⟩ := getD_size h
 rw [Array.toList_setIfInBounds, List.count_set (by simpa using hi)]
 have h1 : l.toList[i]'(by simpa using hi) = false := by simpa using he
 have h2 : 0 < l.toList.count false := List.count_pos_iff.2 (by rw [<- h1]; exact List.getElem_mem _)
 rw [h1, if_pos (by decide), if_neg (by decide)]
 omega
theorem any_inv (J : Array Bool -> Act -> World -> Prop)
 (hs : ∀ l a w i, l.size = ops.size -> i ∈ Region.ready md ops l -> J l a w -> wpOp P ops Q i (fun a' w' => J (l.setIfInBounds i true) a' w') a w)
 (he : ∀ l a w, l.size = ops.size -> Region.ready md ops l = [] -> J l a w -> Q .normal a w) :
 ∀ (fuel : Nat) (l : Array Bool) (a : Act) (w : World), l.size = ops.size -> l.toList.count false <= fuel -> J l a w -> wpAny P md ops Q fuel l a w := by
 intro fuel
 induction fuel with
 | zero =>
  intro l a w hsz hc hJ
  have hr : Region.ready md ops l = [] := by
   refine List.eq_nil_iff_forall_not_mem.2 fun j hj => ?_
   obtain ⟨h1, _⟩ := mem_ready.1 hj
   obtain ⟨hi, h2⟩ := getD_size h1
   have h3 : 0 < l.toList.count false := List.count_pos_iff.2 (by rw [<- h2]; exact Array.getElem_mem_toList hi)
   omega
  exact ⟨hr, he l a w hsz hr hJ⟩
 | succ fuel ih =>
  intro l a w hsz hc hJ
  refine ⟨fun hr => he l a w hsz hr hJ, fun i hi => ?_⟩
  refine wpOp_mono (fun a' w' h => ih _ a' w' (by simpa using hsz) ?_ h) (hs l a w i hsz hi hJ)
  have := count_set (mem_ready.1 hi).1
  omega
theorem region_inv {id : Nat} {a : Act} {w : World} (hm : P.follows .mixedOrders = true) (J : Array Bool -> Act -> World -> Prop)
 (h0 : J (Array.replicate ops.size false) a w.drew)
 (hs : ∀ l a w i, l.size = ops.size -> i ∈ Region.ready .any ops l -> J l a w -> wpOp P ops Q i (fun a' w' => J (l.setIfInBounds i true) a' w') a w)
 (he : ∀ l a w, l.size = ops.size -> Region.ready .any ops l = [] -> J l a w -> Q .normal a w) : (Code.region id ops true).wp P Q a w :=
 wp_region_any hm (any_inv J hs he ops.size _ a _ (by simp) (Nat.le_trans List.count_le_length (by simp)) h0)
def backB (ops : Array Oper) : Bool := (List.range ops.size).all fun j => match ops[j]? with
 | some o => o.after.all fun e => decide (e.on < j)
 | none => true
theorem all_listed (hb : backB ops = true) {l : Array Bool} (hsz : l.size = ops.size) (hr : Region.ready md ops l = []) : ∀ i, i < ops.size -> l.getD i true = true := by
 intro i
 induction i using Nat.strongRecOn with
 | _ i ih =>
  intro hi
  cases hl : l.getD i true with
  | true => rfl
  | false =>
   have h1 := List.all_eq_true.1 hb i (List.mem_range.2 hi)
   rw [Array.getElem?_eq_getElem hi] at h1
   have h2 : i ∈ Region.ready md ops l := by
    refine mem_ready.2 ⟨hl, _, Array.getElem?_eq_getElem hi, fun e he _ => ?_⟩
    have h3 := of_decide_eq_true (Array.all_eq_true_iff_forall_mem.1 h1 e he)
    have h4 := ih e.on h3 (by omega)
    have h5 : e.on < l.size := by omega
    simpa [h5] using h4
   rw [hr] at h2
   cases h2
theorem up_of {l : Array Bool} {i : Nat} (h : l.getD i true = false) : l.getD i false = false := by
 obtain ⟨hi, he⟩ := getD_size h
 simpa [hi] using he
theorem up_ne {l : Array Bool} {i j : Nat} (h : i ≠ j) : (l.setIfInBounds i true).getD j false = l.getD j false := getD_set_ne false h
theorem up_eq {l : Array Bool} {i : Nat} (h : i < l.size) : (l.setIfInBounds i true).getD i false = true := by simp [h]
theorem none_up {m i : Nat} (h : (Array.replicate m false).getD i false = true) : False := by
 rw [Array.getD_eq_getD_getElem?, Array.getElem?_replicate] at h
 split at h <;> cases h
theorem op_of {i : Nat} {o : Oper} {K : Act -> World -> Prop} {a : Act} {w : World} (ho : ops[i]? = some o) (h : if Region.wanted o (yielded ops a.tmps) = true then Oper.wp P o a w K Q else K (a.put o.dst undef) w) : wpOp P ops Q i K a w := by
 unfold wpOp
 rw [ho]
 split at h
 · rename_i hw
   simp only [hw, if_true]
   exact .inl h
 · rename_i hw
   simp only [hw]
   exact h
theorem op_val {i : Nat} {o : Oper} {K : Act -> World -> Prop} {a : Act} {w w1 : World} {v : Value} (ho : ops[i]? = some o) (hg : o.guard = none) (hrun : (execOp a.eval o).run P w = .ok (.value v) w1) (h : K (a.put o.dst v) w1) : wpOp P ops Q i K a w := by
 refine op_of ho ?_
 have hw : Region.wanted o (yielded ops a.tmps) = true := by simp [Region.wanted, hg]
 rw [if_pos hw]
 unfold Oper.wp
 rw [hrun]
 exact h
theorem op_skip {i : Nat} {o : Oper} {K : Act -> World -> Prop} {a : Act} {w w1 : World} (ho : ops[i]? = some o) (hg : o.guard = none) (hd : o.dst = none) (hrun : (execOp a.eval o).run P w = .ok .skip w1) (h : K a w1) : wpOp P ops Q i K a w := by
 refine op_of ho ?_
 have hw : Region.wanted o (yielded ops a.tmps) = true := by simp [Region.wanted, hg]
 rw [if_pos hw]
 unfold Oper.wp
 rw [hrun]
 show K (a.put o.dst undef) w1
 rw [hd]
 exact h
end Rg
end Go.Proofs.Ytmadhaccjmakdaa
namespace Go.Proofs.Ytmadhaccjmakdaa
open Go.RowKit Go.Proofs.Yw.A Go.Proofs.Yw.B Go.Proofs.Yw.C Go.Proofs.Ytmadhaccjmakdaa.P
namespace Tj
abbrev sl (n g : Nat) : Value := .slice (some ⟨g, 0, none⟩) n n
def up (l : Array Bool) (i : Nat) (v : Value) : Value := if l.getD i false = true then v else undef
def Fr (A : Option Addr) (c n be : Nat) (M : Nat -> Nat) (l : Array Bool) : Act :=
  { tmps := #[.slice A n c, P1 be, .slice none 0 0, .int .i64 0, .int .i64 n, up l 6 (P1 (M 6)), up l 7 (P1 (M 7)), up l 8 (P1 (M 8)), undef, undef, undef, undef, undef, undef, .slice A n c, .int .i64 n,
      up l 0 (.int .i64 n), up l 1 (sl n (M 1)), up l 2 (.int .i64 n), up l 3 (sl n (M 3)), up l 4 (.int .i64 n), up l 5 (sl n (M 5)),
      undef, undef, undef, undef, undef, undef, undef, undef, undef, undef, undef, undef, undef, undef, undef, undef, undef, undef, undef, undef, undef, undef, undef, undef, undef], defers := [] }
def held (l : Array Bool) (n i : Nat) (g : Nat) : Value := if l.getD i false = true then sl n g else .slice none 0 0
def cont (n : Nat) (M : Nat -> Nat) (l : Array Bool) : Nat -> Obj
  | 6 => .cells #[held l n 9 (M 1)] 55 (0, 0)
  | 7 => .cells #[held l n 10 (M 3)] 55 (0, 0)
  | 8 => .cells #[held l n 11 (M 5)] 55 (0, 0)
  | _ => arr (List.replicate n 0)
def mk6 : List Nat := [1, 3, 5, 6, 7, 8]
def J2 (A : Option Addr) (c n be : Nat) (wb : World) (l : Array Bool) (a : Act) (w : World) : Prop :=
  ∃ M : Nat -> Nat, a = Fr A c n be M l /\ Below wb.heap.size wb w /\
    (∀ i, i ∈ mk6 -> l.getD i false = true -> wb.heap.size <= M i /\ w.heap[M i]? = some (cont n M l i)) /\
    (∀ i j, i ∈ mk6 -> j ∈ mk6 -> i ≠ j -> l.getD i false = true -> l.getD j false = true -> M i ≠ M j) /\
    (l.getD 9 false = true -> l.getD 6 false = true /\ l.getD 1 false = true) /\ (l.getD 10 false = true -> l.getD 7 false = true /\ l.getD 3 false = true) /\ (l.getD 11 false = true -> l.getD 8 false = true /\ l.getD 5 false = true)
theorem J2.move {A : Option Addr} {c n be : Nat} {wb w : World} {l : Array Bool} {a : Act} (h : J2 A c n be wb l a w) (hsz : l.size = 12) (i d : Nat) (hi : i = 0 /\ d = 16 \/ i = 2 /\ d = 18 \/ i = 4 /\ d = 20) :
    J2 A c n be wb (l.setIfInBounds i true) (a.put (some d) (.int .i64 n)) w := by
  obtain ⟨M, rfl, hb, hm, hd, h9, h10, h11⟩ := h
  have hne : ∀ j, j ≠ 0 -> j ≠ 2 -> j ≠ 4 -> (l.setIfInBounds i true).getD j false = l.getD j false := fun j a0 a2 a4 => Rg.up_ne (by omega)
  have hc : ∀ j, j ∈ mk6 -> cont n M (l.setIfInBounds i true) j = cont n M l j := by
    intro j hj
    simp only [mk6, List.mem_cons, List.not_mem_nil, or_false] at hj
    rcases hj with rfl | rfl | rfl | rfl | rfl | rfl <;> simp only [cont, held] <;> rw [hne _ (by decide) (by decide) (by decide)]
  have hk : ∀ j, j ∈ mk6 -> (l.setIfInBounds i true).getD j false = l.getD j false := by
    intro j hj
    simp only [mk6, List.mem_cons, List.not_mem_nil, or_false] at hj
    exact hne j (by omega) (by omega) (by omega)
  refine ⟨M, ?_, hb, fun j hj hl => ?_, fun j j' hj hj' hne' hl hl' => hd j j' hj hj' hne' (by rw [<- hk j hj]; exact hl) (by rw [<- hk j' hj']; exact hl'), ?_, ?_, ?_⟩
  · have h1 := hne 1 (by decide) (by decide) (by decide)
    have h3 := hne 3 (by decide) (by decide) (by decide)
    have h5 := hne 5 (by decide) (by decide) (by decide)
    have h6 := hne 6 (by decide) (by decide) (by decide)
    have h7 := hne 7 (by decide) (by decide) (by decide)
    have h8 := hne 8 (by decide) (by decide) (by decide)
    rcases hi with ⟨rfl, rfl⟩ | ⟨rfl, rfl⟩ | ⟨rfl, rfl⟩
    · have e0 := Rg.up_eq (l := l) (i := 0) (by omega)
      have e2 : (l.setIfInBounds 0 true).getD 2 false = _ := Rg.up_ne (by decide)
      have e4 : (l.setIfInBounds 0 true).getD 4 false = _ := Rg.up_ne (by decide)
      simp only [Fr, up, Act.put, h1, h3, h5, h6, h7, h8, e0, e2, e4, if_true]
      rfl
    · have e0 := Rg.up_eq (l := l) (i := 2) (by omega)
      have e2 : (l.setIfInBounds 2 true).getD 0 false = _ := Rg.up_ne (by decide)
      have e4 : (l.setIfInBounds 2 true).getD 4 false = _ := Rg.up_ne (by decide)
      simp only [Fr, up, Act.put, h1, h3, h5, h6, h7, h8, e0, e2, e4, if_true]
      rfl
    · have e0 := Rg.up_eq (l := l) (i := 4) (by omega)
      have e2 : (l.setIfInBounds 4 true).getD 0 false = _ := Rg.up_ne (by decide)
      have e4 : (l.setIfInBounds 4 true).getD 2 false = _ := Rg.up_ne (by decide)
      simp only [Fr, up, Act.put, h1, h3, h5, h6, h7, h8, e0, e2, e4, if_true]
      rfl
  · rw [hc j hj]
    exact hm j hj (by rw [<- hk j hj]; exact hl)
  · rw [hne 9 (by decide) (by decide) (by decide), hne 6 (by decide) (by decide) (by decide), hne 1 (by decide) (by decide) (by decide)]; exact h9
  · rw [hne 10 (by decide) (by decide) (by decide), hne 7 (by decide) (by decide) (by decide), hne 3 (by decide) (by decide) (by decide)]; exact h10
  · rw [hne 11 (by decide) (by decide) (by decide), hne 8 (by decide) (by decide) (by decide), hne 5 (by decide) (by decide) (by decide)]; exact h11
theorem J2.make {A : Option Addr} {c n be : Nat} {wb w : World} {l : Array Bool} {a : Act} (h : J2 A c n be wb l a w) (hsz : l.size = 12) (i d : Nat) (v : Value) (hl0 : l.getD i false = false)
    (hi : (i = 1 /\ d = 17 /\ v = sl n w.heap.size) \/ (i = 3 /\ d = 19 /\ v = sl n w.heap.size) \/ (i = 5 /\ d = 21 /\ v = sl n w.heap.size) \/ (i = 6 /\ d = 5 /\ v = P1 w.heap.size) \/ (i = 7 /\ d = 6 /\ v = P1 w.heap.size) \/ (i = 8 /\ d = 7 /\ v = P1 w.heap.size))
    {o : Obj} (ho : o = if i < 6 then arr (List.replicate n 0) else .cells #[.slice none 0 0] 55 (0, 0)) :
    J2 A c n be wb (l.setIfInBounds i true) (a.put (some d) v) (w.alloc o) := by
  obtain ⟨M, rfl, hb, hm, hd, h9, h10, h11⟩ := h
  have hne : ∀ j, j ≠ i -> (l.setIfInBounds i true).getD j false = l.getD j false := fun j a0 => Rg.up_ne (by omega)
  have he : (l.setIfInBounds i true).getD i false = true := Rg.up_eq (by omega)
  have hmi : i ∈ mk6 := by simp only [mk6, List.mem_cons, List.not_mem_nil, or_false]; omega
  have n9 : l.getD i false = true -> False := by rw [hl0]; exact fun h => by cases h
  refine ⟨fun j => if j = i then w.heap.size else M j, ?_, hb.alloc hb.size _, fun j hj hl => ?_, fun j j' hj hj' hn hl hl' => ?_, ?_, ?_, ?_⟩
  · have z : ∀ j, j ≠ i -> (if j = i then w.heap.size else M j) = M j := fun j hj => if_neg hj
    have hw : ∀ (j : Nat) (x : Nat -> Value), j ≠ i -> up (l.setIfInBounds i true) j (x (if j = i then w.heap.size else M j)) = up l j (x (M j)) := fun j x hj => by rw [z j hj]; unfold up; rw [hne j hj]
    rcases hi with ⟨rfl, rfl, rfl⟩ | ⟨rfl, rfl, rfl⟩ | ⟨rfl, rfl, rfl⟩ | ⟨rfl, rfl, rfl⟩ | ⟨rfl, rfl, rfl⟩ | ⟨rfl, rfl, rfl⟩ <;>
      simp (config := { decide := true }) only [Fr, up, Act.put, he, hne, ne_eq, if_true, if_false] <;> rfl
  · have hcont : ∀ j, j ∈ mk6 -> j ≠ i -> l.getD j false = true -> cont n (fun j => if j = i then w.heap.size else M j) (l.setIfInBounds i true) j = cont n M l j := by
      intro j hj hji hlj
      simp only [mk6, List.mem_cons, List.not_mem_nil, or_false] at hj
      have key : ∀ (s m : Nat), s ≠ i -> (l.getD s false = true -> l.getD m false = true) -> held (l.setIfInBounds i true) n s (if m = i then w.heap.size else M m) = held l n s (M m) := by
        intro s m hs hsm
        unfold held
        rw [hne s hs]
        cases hq : l.getD s false with
        | false => rfl
        | true =>
          have : m ≠ i := by rintro rfl; exact n9 (hsm hq)
          rw [if_neg this]
      have b9 : 9 ≠ i := by omega
      have b10 : 10 ≠ i := by omega
      have b11 : 11 ≠ i := by omega
      rcases hj with rfl | rfl | rfl | rfl | rfl | rfl
      · rfl
      · rfl
      · rfl
      · simp only [cont]; rw [key 9 1 b9 (fun h => (h9 h).2)]
      · simp only [cont]; rw [key 10 3 b10 (fun h => (h10 h).2)]
      · simp only [cont]; rw [key 11 5 b11 (fun h => (h11 h).2)]
    dsimp only
    by_cases hji : j = i
    · subst hji
      rw [if_pos rfl]
      refine ⟨hb.size, ?_⟩
      rw [blk_new, ho]
      congr 1
      have e9 : ∀ s, s ≠ j -> (l.getD s false = true -> l.getD j false = true) -> (l.setIfInBounds j true).getD s false = false := fun s hs hsj => by
        rw [hne s hs]
        cases hq : l.getD s false with
        | false => rfl
        | true => exact (n9 (hsj hq)).elim
      rcases hi with ⟨rfl, rfl, rfl⟩ | ⟨rfl, rfl, rfl⟩ | ⟨rfl, rfl, rfl⟩ | ⟨rfl, rfl, rfl⟩ | ⟨rfl, rfl, rfl⟩ | ⟨rfl, rfl, rfl⟩
      · rfl
      · rfl
      · rfl
      · rw [if_neg (by decide)]; simp only [cont, held]; rw [e9 9 (by decide) (fun h => (h9 h).1)]; rfl
      · rw [if_neg (by decide)]; simp only [cont, held]; rw [e9 10 (by decide) (fun h => (h10 h).1)]; rfl
      · rw [if_neg (by decide)]; simp only [cont, held]; rw [e9 11 (by decide) (fun h => (h11 h).1)]; rfl
    · rw [hne j hji] at hl
      obtain ⟨h1, h2⟩ := hm j hj hl
      rw [if_neg hji, hcont j hj hji hl]
      exact ⟨h1, blk_alloc h2 _⟩
  · have lt : ∀ j, j ∈ mk6 -> l.getD j false = true -> M j < w.heap.size := fun j hj hl => blk_lt (hm j hj hl).2
    dsimp only
    by_cases h1 : j = i
    · have h2 : j' ≠ i := by omega
      rw [hne j' h2] at hl'
      rw [if_pos h1, if_neg h2]
      have := lt j' hj' hl'
      omega
    · rw [hne j h1] at hl
      by_cases h2 : j' = i
      · rw [if_neg h1, if_pos h2]
        have := lt j hj hl
        omega
      · rw [hne j' h2] at hl'
        rw [if_neg h1, if_neg h2]
        exact hd j j' hj hj' hn hl hl'
  · intro h
    rw [hne 9 (by omega)] at h
    obtain ⟨a1, a2⟩ := h9 h
    exact ⟨by rw [hne 6 (by rintro rfl; exact n9 a1)]; exact a1, by rw [hne 1 (by rintro rfl; exact n9 a2)]; exact a2⟩
  · intro h
    rw [hne 10 (by omega)] at h
    obtain ⟨a1, a2⟩ := h10 h
    exact ⟨by rw [hne 7 (by rintro rfl; exact n9 a1)]; exact a1, by rw [hne 3 (by rintro rfl; exact n9 a2)]; exact a2⟩
  · intro h
    rw [hne 11 (by omega)] at h
    obtain ⟨a1, a2⟩ := h11 h
    exact ⟨by rw [hne 8 (by rintro rfl; exact n9 a1)]; exact a1, by rw [hne 5 (by rintro rfl; exact n9 a2)]; exact a2⟩
theorem J2.store {A : Option Addr} {c n be : Nat} {wb w : World} {l : Array Bool} {a : Act} (h : J2 A c n be wb l a w) (hsz : l.size = 12) (i p m : Nat)
    (hi : i = 9 /\ p = 6 /\ m = 1 \/ i = 10 /\ p = 7 /\ m = 3 \/ i = 11 /\ p = 8 /\ m = 5) (hp : l.getD p false = true) (hm1 : l.getD m false = true) :
    ∃ M : Nat -> Nat, a = Fr A c n be M l /\ w.heap[M p]? = some (cont n M l p) /\ J2 A c n be wb (l.setIfInBounds i true) a (w.setCell ⟨M p, 0, none⟩ (sl n (M m))) := by
  obtain ⟨M, rfl, hb, hm, hd, h9, h10, h11⟩ := h
  have hne : ∀ j, j ≠ i -> (l.setIfInBounds i true).getD j false = l.getD j false := fun j a0 => Rg.up_ne (by omega)
  have he : (l.setIfInBounds i true).getD i false = true := Rg.up_eq (by omega)
  have hpm : p ∈ mk6 := by simp only [mk6, List.mem_cons, List.not_mem_nil, or_false]; omega
  obtain ⟨b1, b2⟩ := hm p hpm hp
  refine ⟨M, rfl, b2, M, ?_, hb.setCell b1 _, fun j hj hl => ?_, fun j j' hj hj' hn hl hl' => ?_, ?_, ?_, ?_⟩
  · have q0 := hne 0 (by omega)
    have q1 := hne 1 (by omega)
    have q2 := hne 2 (by omega)
    have q3 := hne 3 (by omega)
    have q4 := hne 4 (by omega)
    have q5 := hne 5 (by omega)
    have q6 := hne 6 (by omega)
    have q7 := hne 7 (by omega)
    have q8 := hne 8 (by omega)
    simp only [Fr, up, q0, q1, q2, q3, q4, q5, q6, q7, q8]
  · have hji : j ≠ i := by simp only [mk6, List.mem_cons, List.not_mem_nil, or_false] at hj; omega
    rw [hne j hji] at hl
    obtain ⟨a1, a2⟩ := hm j hj hl
    refine ⟨a1, ?_⟩
    by_cases hjp : j = p
    · subst hjp
      rcases hi with ⟨rfl, rfl, rfl⟩ | ⟨rfl, rfl, rfl⟩ | ⟨rfl, rfl, rfl⟩ <;>
        (simp only [cont] at a2 ⊢; rw [one_setCell a2]; unfold held; rw [he]; rfl)
    · have hh : (w.setCell ⟨M p, 0, none⟩ (sl n (M m))).heap[M j]? = w.heap[M j]? := Below.heap_setCell _ _ _ _ (hd j p hj hpm hjp hl hp)
      rw [hh, a2]
      have hq : ∀ s x, s ≠ i -> held (l.setIfInBounds i true) n s x = held l n s x := fun s x hs => by unfold held; rw [hne s hs]
      simp only [mk6, List.mem_cons, List.not_mem_nil, or_false] at hj
      rcases hj with rfl | rfl | rfl | rfl | rfl | rfl
      · rfl
      · rfl
      · rfl
      · simp only [cont]; rw [hq 9 _ (by omega)]
      · simp only [cont]; rw [hq 10 _ (by omega)]
      · simp only [cont]; rw [hq 11 _ (by omega)]
  · have z : ∀ j, j ∈ mk6 -> j ≠ i := fun j hj => by simp only [mk6, List.mem_cons, List.not_mem_nil, or_false] at hj; omega
    rw [hne j (z j hj)] at hl
    rw [hne j' (z j' hj')] at hl'
    exact hd j j' hj hj' hn hl hl'
  all_goals
    intro h
    rw [hne _ (by omega), hne _ (by omega)]
    first
    | (by_cases hq : i = 9
       · obtain ⟨rfl, rfl⟩ : p = 6 /\ m = 1 := by omega
         first | exact ⟨hp, hm1⟩ | (rw [hne _ (by omega)] at h; first | exact h10 h | exact h11 h)
       · by_cases hq2 : i = 10
         · obtain ⟨rfl, rfl⟩ : p = 7 /\ m = 3 := by omega
           first | exact ⟨hp, hm1⟩ | (rw [hne _ (by omega)] at h; first | exact h9 h | exact h11 h)
         · obtain ⟨rfl, rfl⟩ : p = 8 /\ m = 5 := by omega
           first | exact ⟨hp, hm1⟩ | (rw [hne _ (by omega)] at h; first | exact h9 h | exact h10 h))
structure Pre (w0 : World) (A : Option Addr) (c n be bi bl bp ai al ap : Nat) (comp : List Int) (w : World) : Prop where
 hB : Below w0.heap.size w0 w
 ke : w.heap[be]? = some (.cells #[.slice A n c] 47 (0, 0))
 ki : w.heap[bi]? = some (.cells #[sl n ai] 55 (0, 0))
 kl : w.heap[bl]? = some (.cells #[sl n al] 55 (0, 0))
 kp : w.heap[bp]? = some (.cells #[sl n ap] 55 (0, 0))
 fi : w.heap[ai]? = some (arr (List.replicate n 0))
 fl : w.heap[al]? = some (arr (List.replicate n 0))
 fp : w.heap[ap]? = some (arr comp)
 lp : comp.length = n
 d : ai ≠ al /\ ai ≠ ap /\ al ≠ ap /\ bi ≠ bl /\ bi ≠ bp /\ bl ≠ bp
 b : w0.heap.size <= ai /\ w0.heap.size <= al /\ w0.heap.size <= ap
theorem Pre.setComp {w0 : World} {A : Option Addr} {c n be bi bl bp ai al ap : Nat} {comp : List Int} {w : World} (h : Pre w0 A c n be bi bl bp ai al ap comp w) (j : Nat) (x : Int) :
 Pre w0 A c n be bi bl bp ai al ap (comp.set j x) (w.setCell ⟨ap, j, none⟩ (.int .i64 x)) where
 hB := h.hB.setCell h.b.2.2 _
 ke := blk_far h.ke (blk_ne h.ke h.fp (by decide)) _
 ki := blk_far h.ki (blk_ne h.ki h.fp (by decide)) _
 kl := blk_far h.kl (blk_ne h.kl h.fp (by decide)) _
 kp := blk_far h.kp (blk_ne h.kp h.fp (by decide)) _
 fi := blk_far h.fi h.d.2.1 _
 fl := blk_far h.fl h.d.2.2.1 _
 fp := by unfold arr; rw [<- nums_set]; exact blk_set h.fp j _
 lp := by simpa using h.lp
 d := h.d
 b := h.b
theorem made_zeros (n : Nat) : Obj.cells (madeCells (Value.int IntKind.i64 0).cells ((n : Int).toNat * 1)) 3 (0, 0) = arr (List.replicate n 0) := by
 unfold arr madeCells nums
 congr 1
 rw [Int.toNat_natCast, Nat.mul_one]
 apply Array.ext
 · simp
 · intro i h1 h2
   simp [Value.cells, Nat.mod_one]
theorem arr_R {w : World} {base g : Nat} {xs : List Int} (h : w.heap[g]? = some (arr xs)) (hb : base <= g) (hm : xs.length <= maxLen) : Kd.R (Kd.int .i64) 3 w base (fun _ => True) (sl xs.length g) xs :=
 Kd.R_of_own ⟨by simp [encs], .inr ⟨g, xs.length, _, rfl, hb, h, Nat.le_refl _, hm, by simp [nums], by simp only [nums, encs, Nat.mul_one]; exact List.take_of_length_le (by simp)⟩⟩ (fun _ _ => trivial)
theorem strong_calls (k : Nat) (A : Option Addr) (c : Nat) (es : List (List Int)) (r1 : List Int) (r2 : Int) (w : World) (hr : Kd.C (Kd.slice 3 (Kd.int .i64)) w A es.length es) (hc : es.length <= c) (h : strongF k es = some (r1, r2)) :
 Calls Try.prog 50 #[.slice A es.length c] w fun e w' => ∃ v, e = .returned (.tuple #[v, .int .i64 r2]) /\ Kd.R (Kd.int .i64) 3 w' w.heap.size (fun _ => True) v r1 /\ Below w.heap.size w w' := by
 unfold strongF at h
 by_cases hn : es.length < 17592186044416
 case neg => rw [if_neg hn] at h; cases h
 rw [if_pos hn] at h
 obtain ⟨stf, hst, hrr⟩ := Option.map_eq_some_iff.1 h
 have HST := Az.mk hst
 have HRR := Az.mk hrr
 have HR := Az.mk hr
 clear h hst hrr hr
 generalize hN : es.length = n at *
 have HN := Az.mk hN
 clear hN
 go_enter Try.func50, Try.ntmps50
 go_wp2_with fail
 refine Rg.region_inv (by kernel_rfl) (J2 A c n w.heap.size (w.alloc (.cells #[.slice A n c] 47))) ?h0 ?hs ?he
 case h0 =>
  refine ⟨fun _ => 0, rfl, below_drew (Below.refl _ _), ?_, ?_, ?_, ?_, ?_⟩
  · intro i hi hl; exact (Rg.none_up hl).elim
  · intro i j hi hj hn hl; exact (Rg.none_up hl).elim
  all_goals (intro hl; exact (Rg.none_up hl).elim)
 case hs => as_aux_lemma =>
  generalize hw0 : w = w0
  clear hw0
  intro l a w i hsz hi hJ
  obtain ⟨hl, o, ho, hall⟩ := mem_ready.1 hi
  have hl0 := Rg.up_of hl
  match i, ho with
  | 0, ho =>
   simp at ho
   subst ho
   refine Rg.op_val (v := .int .i64 n) (w1 := w) rfl rfl ?_ (hJ.move hsz 0 16 (by omega))
   obtain ⟨M, rfl, -⟩ := hJ
   go_simp
   first | done | rfl
  | 1, ho =>
   simp at ho
   subst ho
   have hm := hall ⟨0, .data⟩ (by simp) (by rfl)
   refine Rg.op_val (v := sl n w.heap.size) (w1 := w.alloc (arr (List.replicate n 0))) rfl rfl ?_ (hJ.make hsz 1 17 _ hl0 (by simp) (by simp))
   obtain ⟨M, rfl, -⟩ := hJ
   have hm2 : (Fr A c n w0.heap.size M l).tmps[16]?.getD undef = .int .i64 n := by
    show up l 0 (.int .i64 n) = _
    unfold up
    rw [hm]
    rfl
   obtain ⟨i0, e0, e1, e2, e3⟩ := info_parts info3
   have hrun := run_make w 55 3 i0 _ Try.underlying55 e0 e1 .i64 .i64 n n (by omega) (by omega) (by rw [e3]; omega) (by omega)
   have hz : Obj.cells (madeCells (Value.int IntKind.i64 0).cells ((n : Int).toNat * i0.size)) 3 (0, 0) = arr (List.replicate n 0) := by rw [e2]; exact made_zeros n
   rw [hz] at hrun
   rw [Int.toNat_natCast] at hrun
   clear e0 e1 e2 e3 HST HRR HR hall hl hl0 hi
   go_simp
   first | done | rfl
  | 2, ho =>
   simp at ho
   subst ho
   refine Rg.op_val (v := .int .i64 n) (w1 := w) rfl rfl ?_ (hJ.move hsz 2 18 (by omega))
   obtain ⟨M, rfl, -⟩ := hJ
   go_simp
   first | done | rfl
  | 3, ho =>
   simp at ho
   subst ho
   have hm := hall ⟨2, .data⟩ (by simp) (by rfl)
   refine Rg.op_val (v := sl n w.heap.size) (w1 := w.alloc (arr (List.replicate n 0))) rfl rfl ?_ (hJ.make hsz 3 19 _ hl0 (by simp) (by simp))
   obtain ⟨M, rfl, -⟩ := hJ
   have hm2 : (Fr A c n w0.heap.size M l).tmps[18]?.getD undef = .int .i64 n := by
    show up l 2 (.int .i64 n) = _
    unfold up
    rw [hm]
    rfl
   obtain ⟨i0, e0, e1, e2, e3⟩ := info_parts info3
   have hrun := run_make w 55 3 i0 _ Try.underlying55 e0 e1 .i64 .i64 n n (by omega) (by omega) (by rw [e3]; omega) (by omega)
   have hz : Obj.cells (madeCells (Value.int IntKind.i64 0).cells ((n : Int).toNat * i0.size)) 3 (0, 0) = arr (List.replicate n 0) := by rw [e2]; exact made_zeros n
   rw [hz] at hrun
   rw [Int.toNat_natCast] at hrun
   clear e0 e1 e2 e3 HST HRR HR hall hl hl0 hi
   go_simp
   first | done | rfl
  | 4, ho =>
   simp at ho
   subst ho
   refine Rg.op_val (v := .int .i64 n) (w1 := w) rfl rfl ?_ (hJ.move hsz 4 20 (by omega))
   obtain ⟨M, rfl, -⟩ := hJ
   go_simp
   first | done | rfl
  | 5, ho =>
   simp at ho
   subst ho
   have hm := hall ⟨4, .data⟩ (by simp) (by rfl)
   refine Rg.op_val (v := sl n w.heap.size) (w1 := w.alloc (arr (List.replicate n 0))) rfl rfl ?_ (hJ.make hsz 5 21 _ hl0 (by simp) (by simp))
   obtain ⟨M, rfl, -⟩ := hJ
   have hm2 : (Fr A c n w0.heap.size M l).tmps[20]?.getD undef = .int .i64 n := by
    show up l 4 (.int .i64 n) = _
    unfold up
    rw [hm]
    rfl
   obtain ⟨i0, e0, e1, e2, e3⟩ := info_parts info3
   have hrun := run_make w 55 3 i0 _ Try.underlying55 e0 e1 .i64 .i64 n n (by omega) (by omega) (by rw [e3]; omega) (by omega)
   have hz : Obj.cells (madeCells (Value.int IntKind.i64 0).cells ((n : Int).toNat * i0.size)) 3 (0, 0) = arr (List.replicate n 0) := by rw [e2]; exact made_zeros n
   rw [hz] at hrun
   rw [Int.toNat_natCast] at hrun
   clear e0 e1 e2 e3 HST HRR HR hall hl hl0 hi
   go_simp
   first | done | rfl
  | 6, ho =>
   simp at ho
   subst ho
   refine Rg.op_val (v := P1 w.heap.size) (w1 := w.alloc (.cells #[.slice none 0 0] 55)) rfl rfl ?_ (hJ.make hsz 6 5 _ hl0 (by simp) (by simp))
   go_simp
   first | done | rfl
  | 7, ho =>
   simp at ho
   subst ho
   refine Rg.op_val (v := P1 w.heap.size) (w1 := w.alloc (.cells #[.slice none 0 0] 55)) rfl rfl ?_ (hJ.make hsz 7 6 _ hl0 (by simp) (by simp))
   go_simp
   first | done | rfl
  | 8, ho =>
   simp at ho
   subst ho
   refine Rg.op_val (v := P1 w.heap.size) (w1 := w.alloc (.cells #[.slice none 0 0] 55)) rfl rfl ?_ (hJ.make hsz 8 7 _ hl0 (by simp) (by simp))
   go_simp
   first | done | rfl
  | 9, ho =>
   simp at ho
   subst ho
   have hp := hall ⟨6, .data⟩ (by simp) (by rfl)
   have hm := hall ⟨1, .data⟩ (by simp) (by rfl)
   obtain ⟨M, rfl, hb, hK⟩ := hJ.store hsz 9 6 1 (by omega) hp hm
   refine Rg.op_skip (w1 := w.setCell ⟨M 6, 0, none⟩ (sl n (M 1))) rfl rfl rfl ?_ hK
   have e1 : (Fr A c n w0.heap.size M l).tmps[5]?.getD undef = P1 (M 6) := by
    show up l 6 (P1 (M 6)) = _
    unfold up
    rw [hp]
    rfl
   have e2 : (Fr A c n w0.heap.size M l).tmps[17]?.getD undef = sl n (M 1) := by
    show up l 1 (sl n (M 1)) = _
    unfold up
    rw [hm]
    rfl
   have c1 := cell_of_one hb
   have f1 := free_of_one hb
   clear hK hJ hb HST HRR HR hall hl hl0 hi
   go_simp
   first | done | rfl
  | 10, ho =>
   simp at ho
   subst ho
   have hp := hall ⟨7, .data⟩ (by simp) (by rfl)
   have hm := hall ⟨3, .data⟩ (by simp) (by rfl)
   obtain ⟨M, rfl, hb, hK⟩ := hJ.store hsz 10 7 3 (by omega) hp hm
   refine Rg.op_skip (w1 := w.setCell ⟨M 7, 0, none⟩ (sl n (M 3))) rfl rfl rfl ?_ hK
   have e1 : (Fr A c n w0.heap.size M l).tmps[6]?.getD undef = P1 (M 7) := by
    show up l 7 (P1 (M 7)) = _
    unfold up
    rw [hp]
    rfl
   have e2 : (Fr A c n w0.heap.size M l).tmps[19]?.getD undef = sl n (M 3) := by
    show up l 3 (sl n (M 3)) = _
    unfold up
    rw [hm]
    rfl
   have c1 := cell_of_one hb
   have f1 := free_of_one hb
   clear hK hJ hb HST HRR HR hall hl hl0 hi
   go_simp
   first | done | rfl
  | 11, ho =>
   simp at ho
   subst ho
   have hp := hall ⟨8, .data⟩ (by simp) (by rfl)
   have hm := hall ⟨5, .data⟩ (by simp) (by rfl)
   obtain ⟨M, rfl, hb, hK⟩ := hJ.store hsz 11 8 5 (by omega) hp hm
   refine Rg.op_skip (w1 := w.setCell ⟨M 8, 0, none⟩ (sl n (M 5))) rfl rfl rfl ?_ hK
   have e1 : (Fr A c n w0.heap.size M l).tmps[7]?.getD undef = P1 (M 8) := by
    show up l 8 (P1 (M 8)) = _
    unfold up
    rw [hp]
    rfl
   have e2 : (Fr A c n w0.heap.size M l).tmps[21]?.getD undef = sl n (M 5) := by
    show up l 5 (sl n (M 5)) = _
    unfold up
    rw [hm]
    rfl
   have c1 := cell_of_one hb
   have f1 := free_of_one hb
   clear hK hJ hb HST HRR HR hall hl hl0 hi
   go_simp
   first | done | rfl
  | i + 12, ho => simp at ho
 case he => as_aux_lemma =>
  intro l a w2 hsz hrd hJ
  have hall := Rg.all_listed (by kernel_rfl) hsz hrd
  have hal : ∀ i, i < 12 -> l.getD i false = true := by
   intro i hi
   have h1 := hall i hi
   have h2 : i < l.size := by rw [hsz]; exact hi
   simpa [h2] using h1
  obtain ⟨M, rfl, hb, hm, hd, -, -, -⟩ := hJ
  have P0 : Pre w A c n w.heap.size (M 6) (M 7) (M 8) (M 1) (M 3) (M 5) (List.replicate n 0) w2 := by
   have k1 := hm 1 (by decide) (hal 1 (by decide))
   have k3 := hm 3 (by decide) (hal 3 (by decide))
   have k5 := hm 5 (by decide) (hal 5 (by decide))
   have k6 := hm 6 (by decide) (hal 6 (by decide))
   have k7 := hm 7 (by decide) (hal 7 (by decide))
   have k8 := hm 8 (by decide) (hal 8 (by decide))
   have hsz2 : (w.alloc (.cells #[.slice A n c] 47)).heap.size = w.heap.size + 1 := by simp
   rw [hsz2] at k1 k3 k5
   simp only [cont, held, hal 9 (by decide), hal 10 (by decide), hal 11 (by decide), if_true] at k1 k3 k5 k6 k7 k8
   have dd : ∀ i j, i ∈ mk6 -> j ∈ mk6 -> i < 12 -> j < 12 -> i ≠ j -> M i ≠ M j := fun i j hi hj h1 h2 hne => hd i j hi hj hne (hal i h1) (hal j h2)
   exact {
    hB := (below_alloc (Below.refl _ _) _).trans (hb.mono (by rw [hsz2]; omega))
    ke := blk_below (blk_new w _) hb
    ki := k6.2
    kl := k7.2
    kp := k8.2
    fi := k1.2
    fl := k3.2
    fp := k5.2
    lp := by simp
    d := ⟨dd 1 3 (by decide) (by decide) (by decide) (by decide) (by decide), dd 1 5 (by decide) (by decide) (by decide) (by decide) (by decide), dd 3 5 (by decide) (by decide) (by decide) (by decide) (by decide), dd 6 7 (by decide) (by decide) (by decide) (by decide) (by decide), dd 6 8 (by decide) (by decide) (by decide) (by decide) (by decide), dd 7 8 (by decide) (by decide) (by decide) (by decide) (by decide)⟩
    b := ⟨by omega, by omega, by omega⟩ }
  have hF : Fr A c n w.heap.size M l = Fr A c n w.heap.size M (Array.replicate 12 true) := by
   unfold Fr up
   simp only [hal 0 (by decide), hal 1 (by decide), hal 2 (by decide), hal 3 (by decide), hal 4 (by decide), hal 5 (by decide), hal 6 (by decide), hal 7 (by decide), hal 8 (by decide)]
   rfl
  rw [hF]
  clear hF hm hd hal hall hrd hsz hb
  unfold Fr
  have u0 : ∀ i v, i < 12 -> up (Array.replicate 12 true) i v = v := by
   intro i v hi
   unfold up
   simp [hi]
  rw [u0 6 _ (by decide), u0 7 _ (by decide), u0 8 _ (by decide), u0 0 _ (by decide), u0 1 _ (by decide), u0 2 _ (by decide), u0 3 _ (by decide), u0 4 _ (by decide), u0 5 _ (by decide)]
  generalize M 1 = ai at P0 ⊢
  generalize M 3 = al at P0 ⊢
  generalize M 5 = ap at P0 ⊢
  generalize M 6 = bi at P0 ⊢
  generalize M 7 = bl at P0 ⊢
  generalize M 8 = bp at P0 ⊢
  clear u0
  have P1_ := Az.mk P0
  have c1 := cell_of_one P0.kp
  clear P0
  go_wp2_with fail
  go_loopg [24] n (fun kq v24 w' => ∃ (i : Nat) (comp : List Int), v24 = .int .i64 i /\ Az (kq + i = n) /\ Az (Pre w A c n w.heap.size bi bl bp ai al ap comp w') /\ Az (∀ j, j < i -> comp.getD j 0 = -1))
  case atStart => exact ⟨0, _, rfl, ⟨by omega⟩, P1_, ⟨fun j hj => by omega⟩⟩
  case round => as_aux_lemma =>
   clear P1_ c1
   obtain ⟨i, comp, rfl, HK, HP, HJ⟩ := hrel
   by_cases hi : i < n
   · as_aux_lemma =>
     have hk := HK.1
     obtain ⟨k1, rfl⟩ : ∃ m, gk = m + 1 := ⟨gk - 1, by omega⟩
     have c2 := cell_of_one HP.1.kp
     have e1 := HP.1.lp
     have c3 := arr_cell HP.1.fp i (by omega) (by omega)
     have f3 := arr_free HP.1.fp i
     rw [Int.toNat_natCast] at c3
     clear e1 hk
     go_upto_region 7 with fail
     have HP2 := Az.mk (HP.1.setComp i (-1))
     clear c2 c3 f3
     generalize wr.setCell ⟨ap, i, none⟩ (.int .i64 (-1)) = w3 at HP2 ⊢
     go_wp2_with fail
     go_roundg k1
     case measure => omega
     case rel =>
      refine ⟨i + 1, _, by go_num, ⟨by have := HK.1; omega⟩, HP2, ⟨fun j hj => ?_⟩⟩
      have hlen : i < comp.length := by rw [HP.1.lp]; exact hi
      rw [List.getD_eq_getElem?_getD, List.getElem?_set]
      by_cases hji : i = j
      · subst hji
        rw [if_pos rfl, if_pos hlen]
        rfl
      rw [if_neg hji, <- List.getD_eq_getElem?_getD]
      exact HJ.1 j (by omega)
   have hin : i = n := by have := HK.1; omega
   subst hin
   have ec : comp = List.replicate i (-1) := by
    apply List.ext_getElem
    · rw [HP.1.lp]; simp
    · intro j h1 h2
      have := HJ.1 j (by simpa using h2)
      rw [List.getD_eq_getElem?_getD, List.getElem?_eq_getElem h1] at this
      simpa using this
   rw [ec] at HP
   clear ec HJ HK comp hi
   go_upto_region 11 with fail
   have n1 := blk_new wr (.cells #[.slice none 0 0] 55)
   have n2 := blk_new (wr.alloc (.cells #[.slice none 0 0] 55)) (.cells #[.int .i64 0] 3)
   have n3 := blk_new ((wr.alloc (.cells #[.slice none 0 0] 55)).alloc (.cells #[.int .i64 0] 3)) (.cells #[.int .i64 0] 3)
   have n4 := blk_new (((wr.alloc (.cells #[.slice none 0 0] 55)).alloc (.cells #[.int .i64 0] 3)).alloc (.cells #[.int .i64 0] 3)) (.cells #[.nilFunc] 88)
   have n1' := blk_alloc (blk_alloc (blk_alloc n1 (.cells #[.int .i64 0] 3)) (.cells #[.int .i64 0] 3)) (.cells #[.nilFunc] 88)
   have n2' := blk_alloc (blk_alloc n2 (.cells #[.int .i64 0] 3)) (.cells #[.nilFunc] 88)
   have n3' := blk_alloc n3 (.cells #[.nilFunc] 88)
   have hb := below_alloc (below_alloc (below_alloc (below_alloc (Below.refl wr.heap.size wr) (.cells #[.slice none 0 0] 55)) (.cells #[.int .i64 0] 3)) (.cells #[.int .i64 0] 3)) (.cells #[.nilFunc] 88)
   have s2 : (wr.alloc (.cells #[.slice none 0 0] 55)).heap.size = wr.heap.size + 1 := by simp
   have s3 : ((wr.alloc (.cells #[.slice none 0 0] 55)).alloc (.cells #[.int .i64 0] 3)).heap.size = wr.heap.size + 1 + 1 := by simp
   have s4 : (((wr.alloc (.cells #[.slice none 0 0] 55)).alloc (.cells #[.int .i64 0] 3)).alloc (.cells #[.int .i64 0] 3)).heap.size = wr.heap.size + 1 + 1 + 1 := by simp
   rw [s2] at n2'
   rw [s3] at n3'
   rw [s4] at n4
   clear n1 n2 n3 s2 s3 s4
   have M1 := Az.mk n1'
   have M2 := Az.mk n2'
   have M3 := Az.mk n3'
   have M4 := Az.mk n4
   have HB := Az.mk hb
   have c4 := cell_of_one n4
   have f4 := free_of_one n4
   clear n1' n2' n3' n4 hb
   generalize ((((wr.alloc (.cells #[.slice none 0 0] 55)).alloc (.cells #[.int .i64 0] 3)).alloc (.cells #[.int .i64 0] 3)).alloc (.cells #[.nilFunc] 88)) = w5 at M1 M2 M3 M4 HB c4 f4 ⊢
   go_wp2_with fail
   have hN := HN.1
   subst hN
   have hlt1 := blk_lt HP.1.ke
   have hlt2 := blk_lt HP.1.ki
   have hlt3 := blk_lt HP.1.kl
   have hlt4 := blk_lt HP.1.kp
   have hlt5 := blk_lt HP.1.fi
   have hlt6 := blk_lt HP.1.fl
   have hlt7 := blk_lt HP.1.fp
   have hw := HP.1.hB.size
   obtain ⟨d1, d2, d3, d4, d5, d6⟩ := HP.1.d
   obtain ⟨b1, b2, b3⟩ := HP.1.b
   have OK : Cx.Ok { bc := wr.heap.size + 1, bi := bi, bl := bl, bs := wr.heap.size, be := w.heap.size, bv := wr.heap.size + 1 + 1 + 1, bp := bp, bm := wr.heap.size + 1 + 1, ai := ai, al := al, ap := ap, A := A, c := c, w0 := w, es := es } := by
    constructor
    · refine ⟨?_, ?_, ?_, ?_, ?_, ?_, ?_, d1, d2, d3⟩ <;> (dsimp only; omega)
    · refine ⟨?_, ?_, ?_⟩ <;> (dsimp only; omega)
    · refine ⟨?_, ?_, ?_, b1, b2, b3⟩ <;> (dsimp only; omega)
   have I0 : Inv { bc := wr.heap.size + 1, bi := bi, bl := bl, bs := wr.heap.size, be := w.heap.size, bv := wr.heap.size + 1 + 1 + 1, bp := bp, bm := wr.heap.size + 1 + 1, ai := ai, al := al, ap := ap, A := A, c := c, w0 := w, es := es } (init es.length)
    (w5.setCell ⟨wr.heap.size + 1 + 1 + 1, 0, none⟩ (.func (.func 61) #[] #[P1 (wr.heap.size + 1), P1 bi, P1 bl, P1 wr.heap.size, P1 w.heap.size, P1 (wr.heap.size + 1 + 1 + 1), P1 bp, P1 (wr.heap.size + 1 + 1)])) := {
    hB := (HP.1.hB.trans (HB.1.mono hw)).setCell (by dsimp only; omega) _
    hE := HR.1
    kc := blk_far M2.1 (by dsimp only; omega) _
    ki := blk_far (blk_below HP.1.ki HB.1) (by dsimp only; omega) _
    kl := blk_far (blk_below HP.1.kl HB.1) (by dsimp only; omega) _
    ks := ⟨.slice none 0 0, blk_far M1.1 (by dsimp only; omega) _, Kd.R_nil _ _ _ _ _⟩
    ke := blk_far (blk_below HP.1.ke HB.1) (by dsimp only; omega) _
    kv := one_setCell M4.1
    kp := blk_far (blk_below HP.1.kp HB.1) (by dsimp only; omega) _
    km := blk_far M3.1 (by dsimp only; omega) _
    ai := blk_far (blk_below HP.1.fi HB.1) (by dsimp only; omega) _
    al := blk_far (blk_below HP.1.fl HB.1) (by dsimp only; omega) _
    ap := blk_far (blk_below HP.1.fp HB.1) (by dsimp only; omega) _
    li := by simp [init]
    ll := by simp [init]
    lp := by simp [init] }
   have VC := Az.mk (visit_calls _ OK)
   have HBP := Az.mk b3
   have J0 := Az.mk I0
   clear I0 OK d1 d2 d3 d4 d5 d6 b1 b2 b3 hw hlt1 hlt2 hlt3 hlt4 hlt5 hlt6 hlt7 c4 f4 M1 M2 M3 M4 HB HP
   generalize (w5.setCell ⟨wr.heap.size + 1 + 1 + 1, 0, none⟩ (.func (.func 61) #[] #[P1 (wr.heap.size + 1), P1 bi, P1 bl, P1 wr.heap.size, P1 w.heap.size, P1 (wr.heap.size + 1 + 1 + 1), P1 bp, P1 (wr.heap.size + 1 + 1)])) = w6 at J0 ⊢
   generalize wr.heap.size = s at J0 VC ⊢
   go_loopg [33] k (fun kq v33 w' => ∃ (v : Int) (st : TS), v33 = .int .i64 v /\ Az (0 <= v) /\ Az (outer kq es v st = some stf) /\ Az (kq <= k) /\ Az (Inv { bc := s + 1, bi := bi, bl := bl, bs := s, be := w.heap.size, bv := s + 1 + 1 + 1, bp := bp, bm := s + 1 + 1, ai := ai, al := al, ap := ap, A := A, c := c, w0 := w, es := es } st w'))
   case atStart => exact ⟨0, _, rfl, ⟨by omega⟩, HST, ⟨Nat.le_refl _⟩, J0⟩
   case round => as_aux_lemma =>
    clear J0 HST
    obtain ⟨v, st, rfl, HV, HA, HK1, J⟩ := hrel
    cases gk with
    | zero => exact absurd HA.1 (by simp [outer])
    | succ k1 =>
     have H := HA.1
     clear HA
     rw [outer] at H
     have hm : es.length <= 9223372036854775807 := HR.1.2.1
     by_cases ci : v < es.length
     rotate_left
     · as_aux_lemma =>
       rw [if_neg ci] at H
       have cb : decide (v < (es.length : Int)) = false := decide_eq_false ci
       have c2 := cell_of_one J.1.kp
       have c3 := cell_of_one J.1.km
       obtain rfl : st = stf := Option.some.inj H
       go_wp2_with fail
       go_region
       go_wp2_with fail
       go_ret2
       obtain ⟨rfl, rfl⟩ := Prod.mk.inj HRR.1
       refine ⟨sl es.length ap, rfl, ?_, below_drew J.1.hB⟩
       have hl := J.1.lp
       have h1 := arr_R (w := wr) (base := w.heap.size) J.1.ap (by have := HBP.1; omega) (by rw [hl]; unfold maxLen; omega)
       rw [hl] at h1
       exact Kd.R_drew h1
     as_aux_lemma =>
     rw [if_pos ci] at H
     have hv0 := HV.1
     have cb : decide (v < (es.length : Int)) = true := decide_eq_true ci
     have c2 := cell_of_one J.1.ki
     have c3 := arr_cell J.1.ai v hv0 (by rw [J.1.li]; exact ci)
     have q1 := eq_true hv0
     have q2 := eq_true ci
     by_cases cz : rd st.index v = 0
     rotate_left
     · as_aux_lemma =>
       rw [if_neg cz] at H
       have H' := Az.mk H
       clear H
       have cz1 : (rd st.index v == 0) = false := beq_eq_false_iff_ne.2 cz
       clear cz
       go_wp2_with fail
       go_roundg k1
       case measure => omega
       case rel => exact ⟨v + 1, _, rfl, ⟨by have := HV.1; omega⟩, H', ⟨by have := HK1.1; omega⟩, J⟩
     as_aux_lemma =>
     rw [if_pos cz] at H
     obtain ⟨s1, hs1, H⟩ := Option.bind_eq_some_iff.1 H
     have Hs1 := Az.mk hs1
     have H' := Az.mk H
     clear hs1 H
     have cz1 : (rd st.index v == 0) = true := beq_iff_eq.2 cz
     clear cz
     have c5 := cell_of_one J.1.kv
     go_wp2_with (go_at_call 61; refine (VC.1 k1 v st s1 Hs1.1 _ J.1).mono ?_; clear c2 c3 c5; rintro e w7 ⟨rfl, hI⟩; have J5 := Az.mk hI; clear hI)
     go_roundg k1
     case measure => omega
     case rel => exact ⟨v + 1, _, rfl, ⟨by have := HV.1; omega⟩, H', ⟨by have := HK1.1; omega⟩, J5⟩
end Tj
end Go.Proofs.Ytmadhaccjmakdaa
namespace Go.Proofs.Ytmadhaccjmakdaa
open Go.RowKit Go.Proofs.Yw.A Go.Proofs.Yw.B Go.Proofs.Yw.C Go.Proofs.Ytmadhaccjmakdaa.P
namespace Od
open Tj Rw
abbrev KS : Kd (List Int) := Kd.slice 3 (Kd.int .i64)
theorem S_upd {g n cap base : Nat} {W : World} {ok : Nat -> Prop} {xs : List (List Int)} (h : Kd.S KS 55 W base ok (.slice (some ⟨g, 0, none⟩) n cap) xs) (hfresh : ∀ k, W.heap.size <= k -> ok k) (i : Int) (h0 : 0 <= i) (h1 : i < n) :
    ∃ (v0 : Value) (oki : Nat -> Prop), W.cell? ⟨g, i.toNat, none⟩ = some v0 /\ W.frozen? ⟨g, i.toNat, none⟩ = false /\ Kd.R (Kd.int .i64) 3 W base oki v0 (row xs i) /\ (∀ k, oki k -> ok k /\ k ≠ g) /\
      ∀ (w1 : World) (v1 : Value) (ys : List Int), W.grownBy w1 v0.ownBlock -> Kd.R (Kd.int .i64) 3 w1 base (fun k => oki k \/ W.heap.size <= k) v1 ys ->
        Kd.S KS 55 (w1.setCell ⟨g, i.toNat, none⟩ v1) base ok (.slice (some ⟨g, 0, none⟩) n cap) (xs.set i.toNat ys) /\ w1.grownBy (w1.setCell ⟨g, i.toNat, none⟩ v1) (some g) := by
  obtain ⟨oki, c, hcl, hM, hcc, hfr, hoki, hH⟩ := Kd.S_elem h [] i h0 h1
  obtain ⟨v0, rfl, hR⟩ := hM
  have hsz : KS.sz = 1 := rfl
  have hg : g < W.heap.size := Kd.S_lt h g (by simp [Value.ownBlock])
  refine ⟨v0, oki, ?_, ?_, hR, hoki, ?_⟩
  · have := hcc 0 v0 rfl
    rwa [hsz, Nat.mul_one, Nat.add_zero] at this
  · have := hfr 0
    rwa [hsz, Nat.mul_one, Nat.add_zero] at this
  · intro w1 v1 ys hg1 hR1
    have hw : Kd.H KS 55 W base ok (.slice (some ⟨g, 0, none⟩) n cap) xs i (fun k => oki k \/ W.heap.size <= k) [v0] := by
      have := Kd.H_widen hH
      have e : (fun k => oki k \/ ok k /\ W.heap.size <= k) = (fun k => oki k \/ W.heap.size <= k) := by
        funext k
        exact propext ⟨fun hk => hk.elim .inl (fun h2 => .inr h2.2), fun hk => hk.elim .inl (fun h2 => .inr ⟨hfresh k h2, h2⟩)⟩
      rwa [e] at this
    have h2 := Kd.H_grown hw hg1 (fun k hk => .inl (hR.1 k hk))
    obtain ⟨h3, h4⟩ := Kd.H_seg h2 h0 h1 (seg := [v1]) (j := 0) (by rw [hsz]; simp) (by
      intro q hq
      rw [List.mem_singleton.1 hq]
      exact (Kd.R_val hR1).2)
    have e1 : w1.setCells g (i.toNat * KS.sz + 0) [v1] = w1.setCell ⟨g, i.toNat, none⟩ v1 := by rw [hsz, Nat.mul_one, Nat.add_zero]; rfl
    rw [e1] at h3 h4
    refine ⟨Kd.H_back h3 (okp := fun k => oki k \/ W.heap.size <= k) ⟨v1, rfl, ?_⟩ (fun _ hk => hk), h4⟩
    refine Kd.R_far (p := ⟨g, i.toNat, none⟩) hR1 (fun k hk => ?_) _
    rcases hk with hk | hk
    · exact (hoki k hk).2
    · show k ≠ g
      omega
theorem S_made {W : World} {g n base : Nat} {ok : Nat -> Prop} (hh : W.heap[g]? = some (.cells (madeCells #[.slice none 0 0] n) 55 (0, 0))) (hb : base <= g) (hm : n <= maxLen) (hok : ok g) :
    Kd.S KS 55 W base ok (.slice (some ⟨g, 0, none⟩) n n) (List.replicate n []) := by
  refine Kd.S_bare ⟨fun k hk => by obtain rfl : g = k := by simpa [Value.ownBlock] using hk
                                   exact hok, List.replicate n (.slice none 0 0), ?_, ?_, fun j p hj => ?_⟩
  · refine ⟨by simp [Kd.bare, KS, Kd.slice], .inr ⟨g, n, _, by rw [List.length_replicate], hb, hh, by rw [List.length_replicate]; exact Nat.le_refl _, hm, by rw [size_madeCells]; simp [Kd.bare, KS, Kd.slice], ?_⟩⟩
    have e : (madeCells #[.slice none 0 0] n).toList = List.replicate n (.slice none 0 0) := by
      apply List.ext_getElem
      · simp [madeCells]
      · intro i h1 h2
        simp [madeCells, Nat.mod_one]
    rw [e, List.length_replicate]
    simp [Kd.bare, KS, Kd.slice]
  · simp [Kd.bare, KS, Kd.slice]
  · have hjl := (List.getElem?_eq_some_iff.1 hj).1
    rw [List.length_replicate] at hjl
    have hp : p = [] := by
      rw [List.getElem?_replicate_of_lt hjl] at hj
      exact (Option.some.inj hj).symm
    subst hp
    show ∃ v, _ = [v] /\ _
    refine ⟨.slice none 0 0, ?_, Kd.R_nil _ _ _ _ _⟩
    have e1 : (Kd.bare KS).sz = 1 := rfl
    rw [e1, Nat.mul_one, List.drop_replicate, List.take_replicate]
    rw [show min 1 (n - j) = 1 by omega]
    rfl
section
variable {P : Program} {ops : Array Oper} {o : Oper} {a : Act} {Q : Exit -> Act -> World -> Prop} {Kc : Act -> World -> Prop}
theorem skip_step {W w1 : World} (hw : Region.wanted o (yielded ops a.tmps) = true) (hd : o.dst = none) (hrun : (execOp a.eval o).run P W = .ok .skip w1) (h : Kc a w1) :
    if Region.wanted o (yielded ops a.tmps) = true then Oper.wp P o a W Kc Q else Kc (a.put none undef) W := by
  rw [if_pos hw]
  unfold Oper.wp
  rw [hrun]
  show Kc (a.put o.dst undef) w1
  rw [hd]
  exact h
end
theorem S_mapstep {w w1 : World} {e base gs c : Nat} {ok : Nat -> Prop} {v : Value} {xs : List (List Int)} {es : Array MapEntry} (h : Kd.S KS e w base ok v xs) (hm : w.heap[gs]? = some (.map es c)) (hg : w.grownBy w1 (some gs)) : Kd.S KS e w1 base ok v xs :=
  Kd.S_mono (Kd.S_grown (Kd.S_bound h) hg (fun k hk he => by
    obtain ⟨_, _, _, q, _, cells, hc⟩ := hk
    injection he with he
    subst he
    rw [hm] at hc
    cases hc)) (fun k hk => hk.1)
theorem arr_made {W : World} {g n : Nat} (hh : W.heap[g]? = some (.cells (madeCells #[.int .i64 0] n) 3 (0, 0))) : W.heap[g]? = some (arr (List.replicate n 0)) := by
  rw [hh, <- made_zeros n]
  simp [Value.cells]
def outK (W1 : World) (okm : Nat -> Prop) : Kd (List Int) where
  sz := 1
  E := []
  K := fun _ x cs => Kd.FK KS W1 okm x cs
  M := fun _ _ _ x cs => Kd.FK KS W1 okm x cs
  K_len := fun h => KS.K_len (Kd.FK_now h)
  K_one := fun h => KS.K_one (Kd.FK_now h)
  K_below := fun _ h => h
  K_of_M := fun h => h
  M_mono := fun _ h => h
  M_bound := fun h => h
  M_move := fun _ h => h
  M_lower := fun _ h => h
theorem outK_V {W1 w : World} {gm base b0 : Nat} {ok : Nat -> Prop} {v : Value} {xs : List (List Int)} (h : (outK W1 (fun k => gm <= k)).R 55 w base ok v xs) (hb : Below W1.heap.size W1 w) (hg : gm <= base) {g0 : Nat} (hg0 : g0 <= gm) :
    Kd.V KS 55 w b0 (fun k => g0 <= k) v xs := by
  obtain ⟨A, c, rfl⟩ := Kd.R_slice h
  have hl := (Kd.R_reads' h).2.1
  refine ⟨A, c, rfl, hl, fun W' hW => ?_⟩
  have hbase := Kd.R_base h
  have hR := Kd.R_step (w1 := W') (Kd.R_tight rfl h) (fun k hk hlt => hW k (by have := hbase k hk.symm; omega) hlt)
  have h2 := (Kd.R_reads' hR).2.2
  refine ReadsRow.imp_ h2 (Below.refl _ _) (fun x cs hx => hx W' (fun k hk hlt => ?_))
  rw [hW k (by omega) (by have := hb.size; omega)]
  exact hb.block k hlt
def ReadyAt (w : World) (br : Nat) (ready : List Int) : Prop := ∃ vr, w.heap[br]? = some (.cells #[vr] 55 (0, 0)) /\ RowAt w (br + 1) vr ready
theorem Entered.keeps {W1 w w' : World} {br : Nat} {vr : Value} {ready ready' : List Int} {e : Ending} (h : Entered W1 (br + 1) br vr ready' w e w') (hR : RowAt w (br + 1) vr ready) :
    e = .returned (.tuple #[]) /\ Below W1.heap.size W1 w' /\ w.heap.size <= w'.heap.size /\ ReadyAt w' br ready' /\ (∀ k, k < br -> k < w.heap.size -> w'.heap[k]? = w.heap[k]?) /\
      ∀ (k : Nat) (t : TypeId) (cs : Array Value), k ≠ br -> w.heap[k]? = some (.cells cs t (0, 0)) -> t ≠ 3 -> w'.heap[k]? = w.heap[k]? := by
  obtain ⟨h1, h2, h3, h4, h5⟩ := h
  refine ⟨h1, h2, h3, h4, fun k hk hlt => h5 k hlt (by omega) (fun e => ?_), fun k t cs hk hc ht => h5 k (blk_lt hc) hk (fun e => ?_)⟩
  · have := (hR.lt k e).1
    omega
  · obtain ⟨_, _, cur, a3⟩ := hR.lt k e
    rw [hc] at a3
    injection a3 with a3
    injection a3 with _ a3
    exact ht a3
theorem ReadyAt.kept {w w1 : World} {br : Nat} {ready : List Int} (h : ReadyAt w br ready) (hk : ∀ k, br <= k -> k < w.heap.size -> w1.heap[k]? = w.heap[k]?) : ReadyAt w1 br ready := by
  obtain ⟨vr, h1, h2⟩ := h
  exact ⟨vr, by rw [hk br (Nat.le_refl _) (blk_lt h1)]; exact h1, h2.kept (fun k hkk => by
    obtain ⟨a1, a2, _⟩ := h2.lt k hkk
    exact hk k (by omega) a2)⟩
end Od
end Go.Proofs.Ytmadhaccjmakdaa
namespace Go.Proofs.Ytmadhaccjmakdaa
open Go.RowKit Go.Proofs.Yw.A Go.Proofs.Yw.B Go.Proofs.Yw.C Go.Proofs.Ytmadhaccjmakdaa.P
namespace Rw
open Tj
theorem RowAt.cut {w : World} {base : Nat} {v : Value} {xs : List Int} (h : RowAt w base v xs) (hne : 0 < xs.length) :
    ∃ g off cap A, v = .slice (some ⟨g, off, none⟩) xs.length cap /\ base <= g /\ g < w.heap.size /\ xs.length <= cap /\ w.cell? ⟨g, off, none⟩ = some (.int .i64 (rd xs 0)) /\
      (if cap = 1 then some ⟨g, off, none⟩ else some ⟨g, off + 1, none⟩) = A /\ RowAt w base (.slice A (xs.length - 1) (cap - 1)) (xs.drop 1) := by
  rcases h with ⟨rfl, rfl⟩ | ⟨g, off, cap, cur, rfl, hb, hh, hl, hs, hm, hc⟩
  · cases hne
  · refine ⟨g, off, cap, _, rfl, hb, blk_lt hh, hl, ?_, rfl, ?_⟩
    · rw [blk_cell hh]
      have := hc 0 (rd xs 0) (by
        show xs[0]? = some (xs.getD 0 0)
        rw [List.getD_eq_getElem?_getD, List.getElem?_eq_getElem hne]
        rfl)
      rwa [Nat.add_zero] at this
    · have hdl : (xs.drop 1).length = xs.length - 1 := by simp
      rw [<- hdl]
      by_cases h1 : cap = 1
      · rw [if_pos h1]
        refine .inr ⟨g, off, cap - 1, cur, rfl, hb, hh, by omega, by omega, by omega, fun j x hj => ?_⟩
        have := (List.getElem?_eq_some_iff.1 hj).1
        omega
      · rw [if_neg h1]
        refine .inr ⟨g, off + 1, cap - 1, cur, rfl, hb, hh, by omega, by omega, by omega, fun j x hj => ?_⟩
        rw [List.getElem?_drop] at hj
        have := hc (1 + j) x hj
        rwa [show off + (1 + j) = off + 1 + j by omega] at this
end Rw
namespace Od
open Tj Rw
abbrev OutR (W1 : World) (gm : Nat) (w : World) (base : Nat) (v : Value) (xs : List (List Int)) : Prop := (outK W1 (fun k => gm <= k)).R 55 w base (fun _ => True) v xs
theorem OutR.kept {W1 w w1 : World} {gm base : Nat} {v : Value} {xs : List (List Int)} (h : OutR W1 gm w base v xs) (hk : ∀ k, v.ownBlock = some k -> w1.heap[k]? = w.heap[k]?) : OutR W1 gm w1 base v xs :=
  Kd.R_mono (Kd.R_step (Kd.R_tight rfl h) (fun k e _ => hk k e.symm)) (fun _ _ => trivial)
theorem OutR.typed {W1 w : World} {gm base : Nat} {v : Value} {xs : List (List Int)} (h : OutR W1 gm w base v xs) : ∀ k, v.ownBlock = some k -> base <= k /\ k < w.heap.size /\ ∃ cells, w.heap[k]? = some (.cells cells 55 (0, 0)) := by
  intro k hk
  obtain ⟨inner, hi⟩ := Kd.R_own h
  obtain ⟨cells, hc⟩ := own_typed hi k hk
  exact ⟨Kd.R_base h k hk, blk_lt hc, cells, hc⟩
theorem row_out_ne {W1 w : World} {gm base base' : Nat} {v u : Value} {xs : List (List Int)} {ys : List Int} (h : OutR W1 gm w base v xs) (hR : RowAt w base' u ys) : ∀ k, u.ownBlock = some k -> some k ≠ v.ownBlock := by
  intro k hk e
  obtain ⟨_, _, cells, hc⟩ := h.typed k e.symm
  obtain ⟨_, _, cur, hc2⟩ := hR.lt k hk
  rw [hc] at hc2
  injection hc2 with hc2
  injection hc2 with _ hc2
  exact absurd hc2 (by decide)
end Od
end Go.Proofs.Ytmadhaccjmakdaa
namespace Go.Proofs.Ytmadhaccjmakdaa
open Go.RowKit Go.Proofs.Yw.A Go.Proofs.Yw.B Go.Proofs.Yw.C Go.Proofs.Ytmadhaccjmakdaa.P
namespace Od
open Tj Rw
theorem ordered_calls (k : Nat) (A : Option Addr) (c : Nat) (es : List (List Int)) (r : List (List Int)) (w : World) (hr : Kd.C KS w A es.length es) (hc : es.length <= c) (h : orderedF k es = some r) :
 Calls Try.prog 40 #[.slice A es.length c] w fun e w' => ∃ v, e = .returned v /\ Kd.V KS 55 w' w.heap.size (fun k_ => w.heap.size <= k_) v r /\ Below w.heap.size w w' := by
 unfold orderedF at h
 obtain ⟨⟨comp, n⟩, hs, h⟩ := Option.bind_eq_some_iff.1 h
 dsimp only at h
 by_cases hn : 0 <= n /\ n < 5864062014805
 case neg => rw [if_neg hn] at h; cases h
 rw [if_pos hn] at h
 obtain ⟨n0, n1⟩ := hn
 obtain ⟨n, rfl⟩ := Int.eq_ofNat_of_zero_le n0
 rw [Int.toNat_natCast] at h
 obtain ⟨ms, hms, h⟩ := Option.bind_eq_some_iff.1 h
 obtain ⟨u, hu, h⟩ := Option.bind_eq_some_iff.1 h
 obtain ⟨rd0, hrd, h⟩ := Option.bind_eq_some_iff.1 h
 have HS := Az.mk (strong_calls k A c es comp n w hr hc hs)
 have HMS := Az.mk hms
 have HU := Az.mk hu
 have HRD := Az.mk hrd
 have HDR := Az.mk h
 have HR := Az.mk hr
 clear hs hms hu hrd h hr
 generalize hL : es.length = L at *
 have HL := Az.mk hL
 clear hL
 go_enter Try.func40, Try.ntmps40
 go_upto_region 2 with (go_at_call 50; refine HS.1.mono ?_; rintro e w1 ⟨vc, rfl, hcm, hb1⟩; obtain ⟨Ac, cc, rfl, hlc, hCC⟩ := Kd.R_reads hcm; have HCC := Az.mk hCC; have HB1 := Az.mk hb1; clear hcm hCC hb1 HS)
 obtain ⟨i0, e0, e1, e2, e3⟩ := info_parts info55
 have hmk := run_make w1 47 55 i0 _ Try.underlying47 e0 e1 .i64 .i64 n n (by omega) (by omega) (by rw [e3]; omega) (by omega)
 rw [Int.toNat_natCast, e2, Nat.mul_one] at hmk
 clear e0 e1 e2 e3
 go_upto_region 3 with fail
 have hb2 := below_alloc (below_alloc (Below.refl w1.heap.size w1) (.cells (madeCells #[.slice none 0 0] n) 55)) (.cells #[.slice (some ⟨w1.heap.size, 0, none⟩) n n] 47)
 have hgm := blk_alloc (blk_new w1 (.cells (madeCells #[.slice none 0 0] n) 55)) (.cells #[.slice (some ⟨w1.heap.size, 0, none⟩) n n] 47)
 have hbm := blk_new (w1.alloc (.cells (madeCells #[.slice none 0 0] n) 55)) (.cells #[.slice (some ⟨w1.heap.size, 0, none⟩) n n] 47)
 have hs1 : (w1.alloc (.cells (madeCells #[.slice none 0 0] n) 55)).heap.size = w1.heap.size + 1 := by simp
 rw [hs1] at hbm
 have B2 := Az.mk hb2
 have S2 := Az.mk (S_made (base := w1.heap.size) (ok := fun _ => True) hgm (Nat.le_refl _) (by unfold maxLen; omega) trivial)
 have V2 := Az.mk hbm
 clear hb2 hgm hbm hs1 hmk
 generalize ((w1.alloc (.cells (madeCells #[.slice none 0 0] n) 55)).alloc (.cells #[.slice (some ⟨w1.heap.size, 0, none⟩) n n] 47)) = w2 at B2 S2 V2 ⊢
 generalize hgm : w1.heap.size = gm at B2 S2 V2 ⊢
 have HG := Az.mk hgm
 clear hgm
 go_wp2_with fail
 have hml : comp.length <= 9223372036854775807 := HCC.1.2.1
 go_loopg [34] k (fun kq v34 w' => ∃ (v : Int) (m : List (List Int)), v34 = .int .i64 v /\ Az (0 <= v) /\ Az (m.length = n) /\ Az (grp kq comp v m = some ms) /\ Az (kq <= k) /\ Az (Kd.S KS 55 w' gm (fun _ => True) (.slice (some ⟨gm, 0, none⟩) n n) m) /\ Az (w'.heap[gm + 1]? = some (.cells #[.slice (some ⟨gm, 0, none⟩) n n] 47 (0, 0))) /\ Az (Below gm w1 w'))
 case atStart => exact ⟨0, _, rfl, ⟨by omega⟩, ⟨by simp⟩, HMS, ⟨Nat.le_refl _⟩, S2, V2, B2⟩
 case round => as_aux_lemma =>
  clear HMS S2 V2 B2
  obtain ⟨v, m, rfl, HV, HML, HA, HK1, S, V, B⟩ := hrel
  cases gk with
  | zero => exact absurd HA.1 (by simp [grp])
  | succ k1 =>
   have H := HA.1
   clear HA
   rw [grp] at H
   by_cases ci : v < comp.length
   · as_aux_lemma =>
     rw [if_pos ci] at H
     by_cases cx : 0 <= rd comp v /\ rd comp v < m.length /\ (row m (rd comp v)).length < 17592186044415
     case neg => rw [if_neg cx] at H; cases H
     rw [if_pos cx] at H
     obtain ⟨cx0, cx1, cx2⟩ := cx
     have cb : decide (v < (comp.length : Int)) = true := decide_eq_true ci
     have hv0 := HV.1
     have q1 := eq_true hv0
     have q2 := eq_true ci
     obtain ⟨ad, rfl, hx⟩ := Kd.at_int HCC.1 v hv0 ci
     have hB := B.1
     rw [<- HG.1] at hB
     have hx1 := (hB.cell (World.block_lt_of_cell? _ _ hx)).trans hx
     clear hx hB
     generalize rd comp v = x at H cx0 cx1 cx2 hx1
     have H' := Az.mk H
     clear H
     go_upto_region 6 with fail
     rw [HML.1] at cx1
     obtain ⟨v0, oki, u1, u2, u3, u4, u5⟩ := S_upd S.1 (fun _ _ => trivial) x cx0 cx1
     have U2 := Az.mk u2
     have U3 := Az.mk u3
     have U4 := Az.mk u4
     have U5 := Az.mk (@u5)
     have q3 := eq_true cx0
     have q4 := eq_true cx1
     have c1 := cell_of_one V.1
     clear u2 u3 u4 u5 hx1
     have hH0 := True.intro
     refine start_ (n := 11) (S := fun w' => w'.cell? ⟨gm + 1, 0, none⟩ = some (.slice (some ⟨gm, 0, none⟩) n n) /\ w'.cell? ⟨gm, x.toNat, none⟩ = some v0) (ds := [10]) #[false, false, false, false, false, false, false, false, false, false, false] (by kernel_rfl) rfl rfl ⟨c1, u1⟩ (fun hHeld => ?_)
     generalize hwd : wr.drew = wd at hHeld ⊢
     refine pure_ (i := 1) (N := some 40) (v := ?_) (a' := ?_) #[false, true, false, false, false, false, false, false, false, false, false] rfl rfl (by kernel_rfl) (fun _ _ _ h => h) (Or.inl ⟨by rfl, ?_⟩) ?_ ?_
     rotate_left
     · intro w'
       go_simp
       with_reducible rfl
     rotate_left
     · simp only [Act.put, List.setIfInBounds_toArray, List.set_cons_zero, List.set_cons_succ, i64_w, i32_w]
       rfl
     refine pure_ (i := 3) (N := some 42) (v := ?_) (a' := ?_) #[false, true, false, true, false, false, false, false, false, false, false] rfl rfl (by kernel_rfl) (fun _ _ _ h => h) (Or.inl ⟨by rfl, ?_⟩) ?_ ?_
     rotate_left
     · intro w'
       go_simp
       with_reducible rfl
     rotate_left
     · simp only [Act.put, List.setIfInBounds_toArray, List.set_cons_zero, List.set_cons_succ, i64_w, i32_w]
       rfl
     refine pure_ (i := 6) (N := some 45) (v := ?_) (a' := ?_) #[false, true, false, true, false, false, true, false, false, false, false] rfl rfl (by kernel_rfl) (fun _ _ _ h => h) (Or.inl ⟨by rfl, ?_⟩) ?_ ?_
     rotate_left
     · intro w'
       go_simp
       with_reducible rfl
     rotate_left
     · simp only [Act.put, List.setIfInBounds_toArray, List.set_cons_zero, List.set_cons_succ, i64_w, i32_w]
       rfl
     refine take_ (i := 0) (N := some 39) (v := ?_) (a' := ?_) #[true, true, false, true, false, false, true, false, false, false, false] rfl rfl (by kernel_rfl) (fun _ _ _ h => h) (Or.inl ⟨by rfl, ?_⟩) hHeld ?_ ?_
     rotate_left
     · rintro w' ⟨s0, s1⟩
       go_simp
       with_reducible rfl
     rotate_left
     · simp only [Act.put, List.setIfInBounds_toArray, List.set_cons_zero, List.set_cons_succ, i64_w, i32_w]
       rfl
     refine take_ (i := 2) (N := some 41) (v := ?_) (a' := ?_) #[true, true, true, true, false, false, true, false, false, false, false] rfl rfl (by kernel_rfl) (fun _ _ _ h => h) (Or.inl ⟨by rfl, ?_⟩) hHeld ?_ ?_
     rotate_left
     · rintro w' ⟨s0, s1⟩
       go_simp
       with_reducible rfl
     rotate_left
     · simp only [Act.put, List.setIfInBounds_toArray, List.set_cons_zero, List.set_cons_succ, i64_w, i32_w]
       rfl
     refine pure_ (i := 4) (N := some 43) (v := ?_) (a' := ?_) #[true, true, true, true, true, false, true, false, false, false, false] rfl rfl (by kernel_rfl) (fun _ _ _ h => h) (Or.inl ⟨by rfl, ?_⟩) ?_ ?_
     rotate_left
     · intro w'
       go_simp
       with_reducible rfl
     rotate_left
     · simp only [Act.put, List.setIfInBounds_toArray, List.set_cons_zero, List.set_cons_succ, i64_w, i32_w]
       rfl
     refine take_ (i := 5) (N := some 44) (v := ?_) (a' := ?_) #[true, true, true, true, true, true, true, false, false, false, false] rfl rfl (by kernel_rfl) (fun _ _ _ h => h) (Or.inl ⟨by rfl, ?_⟩) hHeld ?_ ?_
     rotate_left
     · rintro w' ⟨s0, s1⟩
       go_simp
       with_reducible rfl
     rotate_left
     · simp only [Act.put, List.setIfInBounds_toArray, List.set_cons_zero, List.set_cons_succ, i64_w, i32_w]
       rfl
     refine one_ (i := 7) (N := some 46) #[true, true, true, true, true, true, true, true, false, false, false] rfl rfl (by kernel_rfl) (by decide) (fun K hK => ?_)
     refine event_step (w1 := wd.alloc (.cells #[.int .i64 v] 3)) (v := .slice (some ⟨wd.heap.size, 0, none⟩) 1 1) rfl (by go_simp; first | done | rfl) (hK.out _ _ ?_ (fun hHeld => ?_))
     · exact ⟨((below_alloc (Below.refl _ _) _).cell (World.block_lt_of_cell? _ _ hHeld.1)).trans hHeld.1, ((below_alloc (Below.refl _ _) _).cell (World.block_lt_of_cell? _ _ hHeld.2)).trans hHeld.2⟩
     refine norm_ (a' := ?_) ?_ ?_
     rotate_left
     · show Act.put _ (some 46) _ = _
       simp only [Act.put, List.setIfInBounds_toArray, List.set_cons_zero, List.set_cons_succ, i64_w, i32_w]
       rfl
     have hsd : wd.heap.size = wr.heap.size := by rw [<- hwd]; rfl
     have hRd : Kd.R (Kd.int .i64) 3 wd gm (fun k => oki k \/ wr.heap.size <= k) v0 (row m x) := by rw [<- hwd]; exact Kd.R_mono (Kd.R_drew U3.1) (fun k hk => .inl hk)
     have hBd : Below gm w1 wd := by rw [<- hwd]; exact below_drew B.1
     have hVd : wd.heap[gm + 1]? = some (.cells #[.slice (some ⟨gm, 0, none⟩) n n] 47 (0, 0)) := by rw [<- hwd]; exact V.1
     have hgmb : gm <= wd.heap.size := by have := blk_lt hVd; omega
     refine one_ (i := 8) (N := some 47) #[true, true, true, true, true, true, true, true, true, false, false] rfl rfl (by kernel_rfl) (by decide) (fun K hK => ?_)
     refine Kd.R_append_step (Kd.int .i64) (w0 := w1) gm rfl (.tmp 44) (.tmp 46) 55 3 (.int .i64 0) 8 rfl Try.underlying55 info3 rfl (by decide) (by omega) v0 (row m x) v [.int .i64 v] (fun k => oki k \/ wr.heap.size <= k) (fun _ => False) rfl rfl rfl (fun _ hk => hk.elim) (fun k hk => .inr (by omega)) hRd hBd hgmb (by omega) ?_
     intro v1 w3 ho hb hg hat
     obtain ⟨A1, q1c, rfl⟩ := Kd.R_slice ho
     have hown : ∀ k, v0.ownBlock = some k -> oki k := fun k hk => U3.1.1 k hk
     have hnm : v0.ownBlock ≠ some (gm + 1) := fun e => Kd.R_ne hRd hVd (by decide) e.symm
     have hng : v0.ownBlock ≠ some gm := fun e => (U4.1 gm (hown gm e)).2 rfl
     have hgl : gm < wd.heap.size := by have := blk_lt hVd; omega
     have w1c : wd.cell? ⟨gm + 1, 0, none⟩ = some (.slice (some ⟨gm, 0, none⟩) n n) := by rw [<- hwd]; exact c1
     have w2c : wd.cell? ⟨gm, x.toNat, none⟩ = some v0 := by rw [<- hwd]; exact u1
     have w2f : wd.frozen? ⟨gm, x.toNat, none⟩ = false := by rw [<- hwd]; exact U2.1
     have k1 : w3.cell? ⟨gm + 1, 0, none⟩ = some (.slice (some ⟨gm, 0, none⟩) n n) := (World.cell?_of_block (hg.block _ (blk_lt hVd) (fun e => hnm e.symm))).trans w1c
     have k2 : w3.cell? ⟨gm, x.toNat, none⟩ = some v0 := (World.cell?_of_block (hg.block gm hgl (fun e => hng e.symm))).trans w2c
     have k3 : w3.frozen? ⟨gm, x.toNat, none⟩ = false := (World.frozen?_of_block (hg.block gm hgl (fun e => hng e.symm))).trans w2f
     have G3 := Az.mk hg
     have R3 := Az.mk ho
     have B3 := Az.mk hb
     have V3 := Az.mk ((hg.block _ (blk_lt hVd) (fun e => hnm e.symm)).trans hVd)
     clear hg ho hb hat w1c w2c w2f hown hnm hng hRd hBd hVd
     refine hK.out _ _ ⟨k1, k2⟩ (fun hHeld => ?_)
     refine norm_ (a' := ?_) ?_ ?_
     rotate_left
     · show Act.put _ (some 47) _ = _
       simp only [Act.put, List.setIfInBounds_toArray, List.set_cons_zero, List.set_cons_succ, i64_w, i32_w]
       rfl
     refine pure_ (i := 9) (N := some 48) (v := ?_) (a' := ?_) #[true, true, true, true, true, true, true, true, true, true, false] rfl rfl (by kernel_rfl) (fun _ _ _ h => h) (Or.inl ⟨by rfl, ?_⟩) ?_ ?_
     rotate_left
     · intro w'
       go_simp
       with_reducible rfl
     rotate_left
     · simp only [Act.put, List.setIfInBounds_toArray, List.set_cons_zero, List.set_cons_succ, i64_w, i32_w]
       rfl
     refine last_ (i := 10) (N := none) #[true, true, true, true, true, true, true, true, true, true, true] rfl rfl (by kernel_rfl) (by decide) (fun K hK => ?_)
     refine skip_step (w1 := w3.setCell ⟨gm, x.toNat, none⟩ (.slice A1 (row m x ++ [v]).length q1c)) rfl rfl (by go_simp; first | done | rfl) (hK.out _ _ ?_)
     refine done_ (by kernel_rfl) ?_
     obtain ⟨S4, g4⟩ := U5.1 w3 _ _ (by rw [<- hwd] at G3; exact World.grownBy.trans (grown_of_below (below_drew (Below.refl _ _)) _) G3.1) R3.1
     have S5 := Az.mk S4
     have V5 := Az.mk (blk_grown V3.1 g4 (by simp))
     have B5 := Az.mk ((B3.1.grown g4 (by have := B.1.size; have := blk_lt V3.1; omega) (fun k hk => by cases hk; exact Nat.le_refl _)))
     clear S4 g4 k1 k2 k3 hHeld hK hH0 V3 B3 G3 R3 U5 U4 U3 U2
     generalize w3.setCell ⟨gm, x.toNat, none⟩ (.slice A1 (row m x ++ [v]).length q1c) = w5 at S5 V5 B5 ⊢
     go_wp2_with fail
     go_roundg k1
     case measure => omega
     case rel => exact ⟨v + 1, _, rfl, ⟨by omega⟩, ⟨by unfold app; rw [List.length_set]; exact HML.1⟩, H', ⟨by have := HK1.1; omega⟩, S5, V5, B5⟩
   as_aux_lemma =>
   rw [if_neg ci] at H
   obtain rfl := Option.some.inj H
   have cb : decide (v < (comp.length : Int)) = false := decide_eq_false ci
   have MM : MsAt wr (gm + 1) m := by
    obtain ⟨A5, c5, e5, l5, r5⟩ := Kd.S_reads S.1
    injection e5 with e6 e7 e8
    exact ⟨some ⟨gm, 0, none⟩, n, by rw [HML.1]; exact V.1, by rw [HML.1, e6]; rw [HML.1] at r5; exact r5⟩
   have M := Az.mk MM
   have MF := Az.mk (show Kd.F KS wr (fun k => gm <= k) (some ⟨gm, 0, none⟩) n m from Kd.S_F (Kd.S_mono (Kd.S_bound S.1) (fun k hk => hk.2.1)))
   clear H MM S
   go_upto_region 8 with fail
   obtain ⟨i0, e0, e1, e2, e3⟩ := info_parts info3
   have hmk := run_make wr 55 3 i0 _ Try.underlying55 e0 e1 .i64 .i64 n n (by omega) (by omega) (by rw [e3]; omega) (by omega)
   rw [Int.toNat_natCast, e2, Nat.mul_one] at hmk
   obtain ⟨i1, f0, f1, f2, f3⟩ := info_parts info55
   have hmk2 := run_make (wr.alloc (.cells (madeCells (Value.int .i64 0).cells n) 3)) 47 55 i1 _ Try.underlying47 f0 f1 .i64 .i64 n n (by omega) (by omega) (by rw [f3]; omega) (by omega)
   rw [Int.toNat_natCast, f2, Nat.mul_one] at hmk2
   clear e0 e1 e2 e3 f0 f1 f2 f3
   have hz0 : (Value.int .i64 0).cells = #[.int .i64 0] := rfl
   have hz1 : (Value.slice none 0 0).cells = #[.slice none 0 0] := rfl
   rw [hz0] at hmk hmk2
   rw [hz1] at hmk2
   clear hz0 hz1
   go_upto_region 10 with fail
   obtain ⟨W1, rfl⟩ : ∃ W1 : World, W1 = wr := ⟨_, rfl⟩
   have hgo1 := blk_alloc (blk_new W1 (.cells (madeCells #[.int .i64 0] n) 3)) (.cells (madeCells #[.slice none 0 0] n) 55)
   have hgu1 := blk_new (W1.alloc (.cells (madeCells #[.int .i64 0] n) 3)) (.cells (madeCells #[.slice none 0 0] n) 55)
   have hs1 : (W1.alloc (.cells (madeCells #[.int .i64 0] n) 3)).heap.size = W1.heap.size + 1 := by simp
   rw [hs1] at hgu1
   have B2 := Az.mk (below_alloc (below_alloc (Below.refl W1.heap.size W1) (.cells (madeCells #[.int .i64 0] n) 3)) (.cells (madeCells #[.slice none 0 0] n) 55))
   have O2 := Az.mk (arr_made hgo1)
   have S2 := Az.mk (S_made (base := W1.heap.size + 1) (ok := fun _ => True) hgu1 (Nat.le_refl _) (by unfold maxLen; omega) trivial)
   clear hgo1 hgu1 hs1 hmk hmk2
   generalize ((W1.alloc (.cells (madeCells #[.int .i64 0] n) 3)).alloc (.cells (madeCells #[.slice none 0 0] n) 55)) = W2 at B2 O2 S2 ⊢
   generalize hgo : W1.heap.size = go at B2 O2 S2 ⊢
   have HGO := Az.mk hgo
   clear hgo
   have cm := cell_of_one (blk_below V.1 (by rw [HGO.1]; exact B2.1))
   go_wp2_with fail
   clear cm
   go_loopg [56] k (fun kq v56 w' => ∃ (ci : Int) (u1 : US), v56 = .int .i64 ci /\ Az (0 <= ci) /\ Az (u1.opn.length = n /\ u1.users.length = n) /\ Az (ed1 kq es comp m ci u1 = some u) /\ Az (kq <= k) /\ Az (Below go W1 w') /\ Az (w'.heap[go]? = some (arr u1.opn)) /\ Az (Kd.S KS 55 w' (go + 1) (fun _ => True) (.slice (some ⟨go + 1, 0, none⟩) n n) u1.users))
   case atStart => exact ⟨0, _, rfl, ⟨by omega⟩, ⟨by simp, by simp⟩, HU, ⟨Nat.le_refl _⟩, B2, O2, S2⟩
   case round => as_aux_lemma =>
    clear HU B2 O2 S2
    obtain ⟨ci, u1, rfl, HC0, HL1, HA, HK2, B2, O2, S2⟩ := hrel
    obtain ⟨W2b, rfl⟩ : ∃ W2b : World, W2b = wr := ⟨_, rfl⟩
    cases gk with
    | zero => exact absurd HA.1 (by simp [ed1])
    | succ k2 =>
     have H := HA.1
     clear HA
     rw [ed1] at H
     have hml2 : m.length <= 9223372036854775807 := by rw [HML.1]; omega
     by_cases cc1 : ci < m.length
     · as_aux_lemma =>
       rw [if_pos cc1] at H
       by_cases cw : (Lit.int .i64 ci).wf = true
       case neg => rw [if_neg cw] at H; cases H
       rw [if_pos cw] at H
       have CW := Az.mk cw
       clear cw
       obtain ⟨u2, hu2, H⟩ := Option.bind_eq_some_iff.1 H
       have H' := Az.mk H
       have HU2 := Az.mk hu2
       clear H hu2
       have hc0 := HC0.1
       have hcn : ci < (n : Int) := by rw [<- HML.1]; exact cc1
       have cb2 : decide (ci < (n : Int)) = true := decide_eq_true hcn
       obtain ⟨Am, cm, km1, km2⟩ := M.1.cell
       have eA : Am = some ⟨gm, 0, none⟩ := by
        have e9 := V.1.symm.trans km1
        simp at e9
        exact e9.1.symm
       subst eA
       obtain ⟨adm, Ar, cr, er, hx, hxl, hxi⟩ := at_L11 km2 ci hc0 cc1
       cases er
       have hx1 := (B2.1.cell (by rw [<- HGO.1]; exact World.block_lt_of_cell? _ _ hx)).trans hx
       have el : rd_L11 m ci = row m ci := rfl
       rw [el] at hx1 hxi hxl
       have HXI := Az.mk hxi
       clear hx hxi hxl km1 km2 el
       rw [Addr.add_lit, Nat.zero_add] at hx1
       have q1 := eq_true hc0
       have q2 := eq_true hcn
       have q1b := eq_true cc1
       go_upto_region 13 with fail
       have hmm := @run_makeMap Try.prog
       obtain ⟨w6, hput, hseen, hg6⟩ := (SeenAt.made W2b).put (by unfold maxLen; simp) ci CW.1
       have hput1 := hput
       have HG6 := Az.mk hg6
       have HSE := Az.mk hseen
       clear hput hg6 hseen hx1
       go_upto_region 14 with fail
       have hgs : go + 1 < W2b.heap.size := Kd.S_lt S2.1 (go + 1) (by simp [Value.ownBlock])
       have B6 := Az.mk (show Below go W1 w6 from (B2.1.alloc (by omega) (.map #[] 0)).grown HG6.1 (by simp; omega) (fun k hk => by cases hk; omega))
       have O6 := Az.mk (blk_grown (blk_alloc O2.1 (.map #[] 0)) HG6.1 (by intro e; injection e with e; omega))
       have S6 := Az.mk (S_mapstep (Kd.S_alloc S2.1 (.map #[] 0)) (blk_new W2b _) HG6.1)
       have Q6 := Az.mk (show SeenAt w6 W2b.heap.size [ci] from HSE.1)
       have HXL : Az ((row m ci).length <= 9223372036854775807) := ⟨HXI.1.2.1⟩
       clear hmm hput1 HG6 HSE
       generalize hgs2 : W2b.heap.size = gs at hgs B6 O6 S6 Q6 ⊢
       have HGS := Az.mk (show go + 1 < gs from hgs)
       clear hgs2 hgs O2 S2 B2
       have hxl := HXL.1
       go_wp2_with fail
       go_loopg [66] k2 (fun kq v66 w' => ∃ (i : Int) (u3 : US), v66 = .int .i64 i /\ Az (0 <= i) /\ Az (u3.opn.length = n /\ u3.users.length = n) /\ Az (ed2 kq es comp ci (row m ci) i u3 = some u2) /\ Az (kq <= k2) /\ Az (Below go W1 w') /\ Az (w'.heap[go]? = some (arr u3.opn)) /\ Az (Kd.S KS 55 w' (go + 1) (fun _ => True) (.slice (some ⟨go + 1, 0, none⟩) n n) u3.users) /\ Az (SeenAt w' gs u3.seen))
       case atStart => exact ⟨0, { opn := u1.opn, users := u1.users, seen := [ci] }, rfl, ⟨by omega⟩, HL1, HU2, ⟨Nat.le_refl _⟩, B6, O6, S6, Q6⟩
       case round => as_aux_lemma =>
        clear HU2 B6 O6 S6 Q6
        obtain ⟨i, u3, rfl, HI0, HL3, HA, HK3, B6, O6, S6, Q6⟩ := hrel
        obtain ⟨W3b, rfl⟩ : ∃ W3b : World, W3b = wr := ⟨_, rfl⟩
        cases gk with
        | zero => exact absurd HA.1 (by simp [ed2])
        | succ k3 =>
         have H := HA.1
         clear HA
         rw [ed2] at H
         by_cases ci3 : i < (row m ci).length
         rotate_left
         · as_aux_lemma =>
           rw [if_neg ci3] at H
           obtain rfl := Option.some.inj H
           have cb3 : decide (i < ((row m ci).length : Int)) = false := decide_eq_false ci3
           go_wp2_with fail
           go_roundg k2
           case measure => omega
           case rel => exact ⟨ci + 1, _, rfl, ⟨by have := HC0.1; omega⟩, HL3, H', ⟨by have := HK2.1; omega⟩, B6, O6, S6⟩
         as_aux_lemma =>
         rw [if_pos ci3] at H
         have hi0 := HI0.1
         obtain ⟨ad3, e3, hx⟩ := Kd.at_int HXI.1 i hi0 ci3
         subst e3
         have hx3 := (B6.1.cell (by rw [<- HGO.1]; exact World.block_lt_of_cell? _ _ hx)).trans hx
         clear hx
         generalize rd (row m ci) i = y at H hx3
         by_cases cy : 0 <= y /\ y < es.length
         case neg => rw [if_neg cy] at H; cases H
         rw [if_pos cy] at H
         obtain ⟨cy0, cy1⟩ := cy
         obtain ⟨u4, hu4, H⟩ := Option.bind_eq_some_iff.1 H
         have H' := Az.mk H
         have HU4 := Az.mk hu4
         clear H hu4
         have hrr := HR.1
         rw [<- HL.1] at hrr
         obtain ⟨adE, Ay, cyy, eE, hy, hyl, hyi⟩ := at_L11 hrr y cy0 cy1
         subst eE
         have hW1 : Below w.heap.size w W3b := (HB1.1.trans (B.1.mono (by rw [<- HG.1]; exact HB1.1.size))).trans (B6.1.mono (by rw [<- HGO.1]; have h1 := B.1.size; have h2 := HB1.1.size; have h3 := HG.1; omega))
         have hy1 := (hW1.cell (World.block_lt_of_cell? _ _ hy)).trans hy
         have el : rd_L11 es y = row es y := rfl
         rw [el] at hy1 hyi hyl
         have HYI := Az.mk hyi
         have hyl2 : (row es y).length <= 9223372036854775807 := hyi.2.1
         rw [HL.1] at cy1
         have cb3 : decide (i < ((row m ci).length : Int)) = true := decide_eq_true ci3
         have q3 := eq_true hi0
         have q4 := eq_true ci3
         have q5 := eq_true cy0
         have q6 := eq_true cy1
         clear hy hyi hyl hrr el
         go_upto_region 17 with fail
         go_wp2_with fail
         have HYL := Az.mk hyl2
         clear hy1 hx3
         go_loopg [75] k3 (fun kq v75 w' => ∃ (j : Int) (u5 : US), v75 = .int .i64 j /\ Az (0 <= j) /\ Az (u5.opn.length = n /\ u5.users.length = n) /\ Az (ed3 kq comp ci (row es y) j u5 = some u4) /\ Az (kq <= k3) /\ Az (Below go W1 w') /\ Az (w'.heap[go]? = some (arr u5.opn)) /\ Az (Kd.S KS 55 w' (go + 1) (fun _ => True) (.slice (some ⟨go + 1, 0, none⟩) n n) u5.users) /\ Az (SeenAt w' gs u5.seen))
         case atStart => exact ⟨0, _, rfl, ⟨by omega⟩, HL3, HU4, ⟨Nat.le_refl _⟩, B6, O6, S6, Q6⟩
         case round => as_aux_lemma =>
          clear HU4 B6 O6 S6 Q6 HL3
          obtain ⟨j, u5, rfl, HJ0, HL5, HA, HK4, B6, O6, S6, Q6⟩ := hrel
          obtain ⟨W4b, rfl⟩ : ∃ W4b : World, W4b = wr := ⟨_, rfl⟩
          cases gk with
          | zero => exact absurd HA.1 (by simp [ed3])
          | succ k4 =>
           have H := HA.1
           clear HA
           rw [ed3] at H
           by_cases cj : j < (row es y).length
           rotate_left
           · as_aux_lemma =>
             rw [if_neg cj] at H
             obtain rfl := Option.some.inj H
             have cb4 : decide (j < ((row es y).length : Int)) = false := decide_eq_false cj
             go_wp2_with fail
             go_roundg k3
             case measure => omega
             case rel => exact ⟨i + 1, _, rfl, ⟨by have := HI0.1; omega⟩, HL5, H', ⟨by have := HK3.1; omega⟩, B6, O6, S6, Q6⟩
           as_aux_lemma =>
           rw [if_pos cj] at H
           have hj0 := HJ0.1
           obtain ⟨ad4, e4, hx⟩ := Kd.at_int HYI.1 j hj0 cj
           subst e4
           have hWw : Below w.heap.size w W4b := (HB1.1.trans (B.1.mono (by rw [<- HG.1]; exact HB1.1.size))).trans (B6.1.mono (by rw [<- HGO.1]; have h1 := B.1.size; have h2 := HB1.1.size; have h3 := HG.1; omega))
           have hx4 := (hWw.cell (World.block_lt_of_cell? _ _ hx)).trans hx
           clear hx hWw
           generalize rd (row es y) j = z at H hx4
           by_cases cz : 0 <= z /\ z < comp.length /\ (Lit.int .i64 (rd comp z)).wf = true
           case neg => rw [if_neg cz] at H; cases H
           rw [if_pos cz] at H
           obtain ⟨cz0, cz1, cz2⟩ := cz
           obtain ⟨ad5, e5, hx⟩ := Kd.at_int HCC.1 z cz0 cz1
           subst e5
           have hWc : Below w1.heap.size w1 W4b := by
            have h1 := B.1
            rw [<- HG.1] at h1
            exact h1.trans (B6.1.mono (by rw [<- HGO.1]; exact h1.size))
           have hx5 := (hWc.cell (World.block_lt_of_cell? _ _ hx)).trans hx
           clear hx hWc
           generalize rd comp z = d at H hx5 cz2
           have CZ := Az.mk cz2
           clear cz2
           have cb4 : decide (j < ((row es y).length : Int)) = true := decide_eq_true cj
           have q1 := eq_true hj0
           have q2 := eq_true cj
           have q5 := eq_true cz0
           have q6 := eq_true cz1
           have hyl3 := HYL.1
           have hlook := Q6.1.look d CZ.1
           by_cases cs : u5.seen.contains d = true
           · as_aux_lemma =>
             rw [if_pos cs] at H
             have H' := Az.mk H
             clear H
             rw [cs] at hlook
             clear cs
             go_wp2_with fail
             go_roundg k4
             case measure => omega
             case rel => exact ⟨j + 1, _, rfl, ⟨by omega⟩, HL5, H', ⟨by have := HK4.1; omega⟩, B6, O6, S6, Q6⟩
           as_aux_lemma =>
           rw [if_neg cs] at H
           have cs2 : u5.seen.contains d = false := by simpa using cs
           rw [cs2] at hlook
           clear cs
           by_cases ca : 0 <= ci /\ ci < u5.opn.length /\ 0 <= d /\ d < u5.users.length /\ (row u5.users d).length < 17592186044415 /\ u5.seen.length < 17592186044415
           case neg => rw [if_neg ca] at H; cases H
           rw [if_pos ca] at H
           obtain ⟨ca0, ca1, ca2, ca3, ca4, ca5⟩ := ca
           have H' := Az.mk H
           clear H cs2
           go_upto_region 22 with fail
           obtain ⟨w7, hput, hq7, hg7⟩ := Q6.1.put (by unfold maxLen; omega) d CZ.1
           have hput1 := hput
           clear hput hlook hx4 hx5
           go_upto_region 23 with fail
           obtain ⟨mes, mc, hmo⟩ := Q6.1.obj
           have hgl := blk_lt O6.1
           have hgg := HGS.1
           have B7 := Az.mk (B6.1.grown hg7 (by omega) (fun k hk => by cases hk; omega))
           have O7 := Az.mk (blk_grown O6.1 hg7 (by intro e; injection e with e; omega))
           have S7 := Az.mk (S_mapstep S6.1 hmo hg7)
           have Q7 := Az.mk hq7
           clear hput1 hq7 hg7 hmo B6 O6 S6 Q6 hgl
           have c1 := arr_cell O7.1 ci ca0 ca1
           have f1 := arr_free O7.1 ci.toNat
           have q7 := eq_true ca0
           have q8 : (ci < (n : Int)) = True := by rw [<- HL5.1.1]; exact eq_true ca1
           go_upto_region 24 with fail
           have hgr : w7.grownBy (w7.setCell ⟨go, ci.toNat, none⟩ (.int .i64 (wrap64 (rd u5.opn ci + 1)))) (some go) := ⟨rfl, rfl, rfl, by simp, fun i hi hne => Below.heap_setCell w7 _ _ i (fun e => hne (by rw [e]))⟩
           have B8 := Az.mk (B7.1.setCell (show go <= (⟨go, ci.toNat, none⟩ : Addr).block from Nat.le_refl go) (.int .i64 (wrap64 (rd u5.opn ci + 1))))
           have O8 := Az.mk (show (w7.setCell ⟨go, ci.toNat, none⟩ (.int .i64 (wrap64 (rd u5.opn ci + 1)))).heap[go]? = some (arr (u5.opn.set ci.toNat (wrap64 (rd u5.opn ci + 1)))) from by unfold arr; rw [<- nums_set]; exact blk_set O7.1 ci.toNat _)
           have S8 := Az.mk (Kd.S_mono (ok' := fun k => go + 1 <= k) (Kd.S_far (p := ⟨go, ci.toNat, none⟩) (Kd.S_bound S7.1) (fun k hk => by have := hk.2.1; show k ≠ go; omega) (.int .i64 (wrap64 (rd u5.opn ci + 1)))) (fun k hk => hk.2.1))
           have Q8 := Az.mk (Q7.1.kept hgr (by intro e; injection e with e; omega))
           clear hgr B7 O7 S7 Q7 c1 f1
           generalize w7.setCell ⟨go, ci.toNat, none⟩ (.int .i64 (wrap64 (rd u5.opn ci + 1))) = w8 at B8 O8 S8 Q8 ⊢
           have hs8 := blk_lt O8.1
           rw [HL5.1.2] at ca3
           obtain ⟨v0, oki, x1, x2, x3, x4, x5⟩ := S_upd S8.1 (fun k hk => by omega) d ca2 ca3
           have X3 := Az.mk (Kd.R_mono (ok' := fun k => oki k \/ w8.heap.size <= k) x3 (fun k hk => .inl hk))
           have X4 := Az.mk x4
           have X5 := Az.mk (@x5)
           have X6 := Az.mk x3
           have q9 := eq_true ca2
           have q10 := eq_true ca3
           clear x3 x4 x5 hgg
           go_wp2_with ((with_reducible refine gate_builtin (b := .append) (xs := #[.tmp 100, .tmp 102]) rfl ?_); at_builtin; refine Kd.R_append (Kd.int .i64) (w0 := w8) (go + 1) rfl (.tmp 100) (.tmp 102) 55 3 (.int .i64 0) 8 rfl Try.underlying55 info3 rfl (by decide) (by omega) v0 (row u5.users d) ci [.int .i64 ci] (fun k => oki k \/ w8.heap.size <= k) (fun _ => False) rfl rfl rfl (fun _ hk => hk.elim) (fun k hk => .inr hk) X3.1 (Below.refl _ _) ?hs ?hl ?_)
           (case hs => omega)
           (case hl => omega)
           intro v1 w9 ho hb hg hat
           obtain ⟨A9, q9c, rfl⟩ := Kd.R_slice ho
           have hown : ∀ k, v0.ownBlock = some k -> go + 1 <= k /\ k ≠ go + 1 := fun k hk => X4.1 k (X6.1.1 k hk)
           obtain ⟨mes2, mc2, hmo2⟩ := Q8.1.obj
           have hqn : some gs ≠ v0.ownBlock := by
            intro e
            obtain ⟨inner, hi⟩ := Kd.R_own X6.1
            obtain ⟨cells, hc⟩ := own_typed hi gs e.symm
            rw [hmo2] at hc
            cases hc
           have O9 := Az.mk (blk_grown O8.1 hg (fun e => by have := (hown go e.symm).1; omega))
           have B9 := Az.mk (B8.1.grown hg (by omega) (fun k hk => by have := (hown k hk).1; omega))
           have Q9 := Az.mk (Q8.1.kept hg hqn)
           have hgu : go + 1 < w8.heap.size := Kd.S_lt S8.1 (go + 1) (by simp [Value.ownBlock])
           have hne9 : some (go + 1) ≠ v0.ownBlock := fun e => (hown _ e.symm).2 rfl
           have k2 : w9.cell? ⟨go + 1, d.toNat, none⟩ = some v0 := (World.cell?_of_block (hg.block (go + 1) hgu hne9)).trans x1
           have k3 : w9.frozen? ⟨go + 1, d.toNat, none⟩ = false := (World.frozen?_of_block (hg.block (go + 1) hgu hne9)).trans x2
           have hs9 := hg.size
           have G9 := Az.mk hg
           have R9 := Az.mk ho
           clear hg ho hb hat hown hqn hmo2 x1 x2 hne9 B8 O8 S8 Q8 X3 X4 X6
           go_upto_region 25 with fail
           obtain ⟨S10, g10⟩ := X5.1 w9 _ _ G9.1 R9.1
           have S11 := Az.mk (Kd.S_mono (ok' := fun _ => True) S10 (fun _ _ => trivial))
           have O11 := Az.mk (blk_grown O9.1 g10 (by intro e; injection e with e; omega))
           have B11 := Az.mk (B9.1.grown g10 (by omega) (fun k hk => by cases hk; omega))
           have Q11 := Az.mk (Q9.1.kept g10 (by have := HGS.1; intro e; injection e with e; omega))
           have HL11 : Az ((link ci d u5).opn.length = n /\ (link ci d u5).users.length = n) := ⟨by unfold link app; simp only [List.length_set]; exact HL5.1⟩
           clear S10 g10 k2 k3 hs9 G9 R9 X5 O9 B9 Q9 hs8 hgu
           have e9 : (row u5.users d ++ [ci]).length = (row u5.users d).length + 1 := by simp
           rw [e9] at S11 O11 B11 Q11
           clear e9
           generalize w9.setCell ⟨go + 1, d.toNat, none⟩ (.slice A9 ((row u5.users d).length + 1) q9c) = w11 at S11 O11 B11 Q11 ⊢
           go_wp2_with fail
           go_roundg k4
           case measure => omega
           case rel => exact ⟨j + 1, link ci d u5, rfl, ⟨by omega⟩, HL11, H', ⟨by have := HK4.1; omega⟩, B11, O11, S11, Q11⟩
     as_aux_lemma =>
     rw [if_neg cc1] at H
     obtain rfl := Option.some.inj H
     have hcn : ¬ ci < (n : Int) := by rw [<- HML.1]; exact cc1
     have cb2 : decide (ci < (n : Int)) = false := decide_eq_false hcn
     clear H
     go_upto_region 28 with fail
     obtain ⟨W2, rfl⟩ : ∃ W2 : World, W2 = W2b := ⟨_, rfl⟩
     have hbr := blk_new W2 (.cells #[.slice none 0 0] 55)
     have B3 := Az.mk (B2.1.alloc (by have := blk_lt O2.1; omega) (.cells #[.slice none 0 0] 55))
     have O3 := Az.mk (blk_alloc O2.1 (.cells #[.slice none 0 0] 55))
     have S3 := Az.mk (Kd.S_alloc (Kd.S_mono (ok' := fun k => go + 1 <= k /\ k < W2.heap.size) (Kd.S_bound S2.1) (fun k hk => ⟨hk.2.1, hk.2.2.1⟩)) (.cells #[.slice none 0 0] 55))
     have R3 := Az.mk (show ReadyAt (W2.alloc (.cells #[.slice none 0 0] 55)) W2.heap.size [] from ⟨_, hbr, .inl ⟨rfl, rfl⟩⟩)
     have Z3 := Az.mk (show W2.heap.size + 1 <= (W2.alloc (.cells #[.slice none 0 0] 55)).heap.size by simp)
     have HGB := Az.mk (show go < W2.heap.size from blk_lt O2.1)
     clear hbr B2 O2 S2
     go_upto_region 29 with fail
     generalize (W2.alloc (.cells #[.slice none 0 0] 55)) = W3 at B3 O3 S3 R3 Z3 ⊢
     generalize W2.heap.size = br at S3 R3 Z3 HGB ⊢
     go_wp2_with fail
     have hgB := HGO.1
     go_loopg [110] k (fun kq v110 w' => ∃ (cI : Int) (ready : List Int), v110 = .int .i64 cI /\ Az (0 <= cI) /\ Az (starts kq m n cI u1.opn ready = some rd0) /\ Az (kq <= k) /\ Az (Below go W1 w') /\ Az (w'.heap[go]? = some (arr u1.opn)) /\ Az (Kd.S KS 55 w' (go + 1) (fun k => go + 1 <= k /\ k < br) (.slice (some ⟨go + 1, 0, none⟩) n n) u1.users) /\ Az (ReadyAt w' br ready) /\ Az (br + 1 <= w'.heap.size))
     case atStart => exact ⟨0, _, rfl, ⟨by omega⟩, HRD, ⟨Nat.le_refl _⟩, B3, O3, S3, R3, Z3⟩
     case round => as_aux_lemma =>
      clear HRD B3 O3 S3 R3 Z3
      obtain ⟨cI, ready, rfl, HC0, HA, HK5, B3, O3, S3, R3, Z3⟩ := hrel
      obtain ⟨W4, rfl⟩ : ∃ W4 : World, W4 = wr := ⟨_, rfl⟩
      cases gk with
      | zero => exact absurd HA.1 (by simp [starts])
      | succ k5 =>
       have H := HA.1
       clear HA
       rw [starts] at H
       by_cases cc5 : cI < (n : Int)
       · as_aux_lemma =>
         rw [if_pos cc5] at H
         by_cases cx : 0 <= cI /\ cI < u1.opn.length
         case neg => rw [if_neg cx] at H; cases H
         rw [if_pos cx] at H
         obtain ⟨cx0, cx1⟩ := cx
         have c1 := arr_cell O3.1 cI cx0 cx1
         have q1 := eq_true cx0
         have q2 := eq_true cc5
         have cb5 : decide (cI < (n : Int)) = true := decide_eq_true cc5
         by_cases cz : rd u1.opn cI = 0
         rotate_left
         · as_aux_lemma =>
           rw [if_neg cz] at H
           have H' := Az.mk H
           have cz1 : (rd u1.opn cI == 0) = false := beq_eq_false_iff_ne.2 cz
           clear cz H
           go_wp2_with fail
           go_roundg k5
           case measure => omega
           case rel => exact ⟨cI + 1, _, rfl, ⟨by omega⟩, H', ⟨by have := HK5.1; omega⟩, B3, O3, S3, R3, Z3⟩
         as_aux_lemma =>
         rw [if_pos cz] at H
         obtain ⟨ready2, hent, H⟩ := Option.bind_eq_some_iff.1 H
         have H' := Az.mk H
         have HE := Az.mk hent
         have cz1 : (rd u1.opn cI == 0) = true := beq_iff_eq.2 cz
         clear cz H hent
         obtain ⟨vr, hv, hra⟩ := R3.1
         have HRA := Az.mk hra
         have hB4 : Below W1.heap.size W1 W4 := by rw [HGO.1]; exact B3.1
         have ENT := Az.mk (enter_calls W1 W4 (gm + 1) br m cI (br + 1) vr ready ready2 M.1 hB4 (by have := HGB.1; omega) (by have := HGB.1; omega) Z3.1 hv hra HE.1)
         clear hv hra hB4
         go_wp2_with (go_at_call 51; refine ENT.1.mono ?_; clear ENT c1; intro e w9 hen; obtain ⟨rfl, e1, e2, e3, e4, e5⟩ := hen.keeps HRA.1; rw [HGO.1] at e1; have E1 := Az.mk e1; have E2 := Az.mk e2; have E3 := Az.mk e3; have E4 := Az.mk e4; clear e1 e2 e3 e4 e5 hen)
         have O9 := Az.mk ((E4.1 go HGB.1 (blk_lt O3.1)).trans O3.1)
         have S9 := Az.mk (Kd.S_step S3.1 (fun k hk hlt => E4.1 k hk.2 hlt))
         go_roundg k5
         case measure => omega
         case rel => exact ⟨cI + 1, _, rfl, ⟨by omega⟩, H', ⟨by have := HK5.1; omega⟩, E1, O9, S9, E3, ⟨by have := Z3.1; have := E2.1; omega⟩⟩
       as_aux_lemma =>
       rw [if_neg cc5] at H
       obtain rfl := Option.some.inj H
       have cb5 : decide (cI < (n : Int)) = false := decide_eq_false cc5
       clear H
       obtain ⟨W5, rfl⟩ : ∃ W5 : World, W5 = W4 := ⟨_, rfl⟩
       have X3 := Az.mk (show OutR W1 gm W5 (br + 1) (.slice none 0 0) [] from Kd.R_nil _ _ _ _ _)
       have HU1 := Az.mk HL1.1
       go_upto_region 37 with fail
       go_loopg [21] k (fun kq v21 w' => ∃ (ready opn : List Int) (out : List (List Int)), Az (drain kq m u1.users opn ready out = some r) /\ Az (kq <= k) /\ Az (opn.length = n) /\ Az (Below go W1 w') /\ Az (w'.heap[go]? = some (arr opn)) /\ Az (Kd.S KS 55 w' (go + 1) (fun k => go + 1 <= k /\ k < br) (.slice (some ⟨go + 1, 0, none⟩) n n) u1.users) /\ Az (ReadyAt w' br ready) /\ Az (br + 1 <= w'.heap.size) /\ Az (OutR W1 gm w' (br + 1) v21 out))
       case atStart => exact ⟨_, _, _, HDR, ⟨Nat.le_refl _⟩, ⟨HL1.1.1⟩, B3, O3, S3, R3, Z3, X3⟩
       case round => as_aux_lemma =>
        clear HDR B3 O3 S3 R3 Z3 X3
        obtain ⟨ready, opn, out, HA, HK6, HLO, B3, O3, S3, R3, Z3, X3⟩ := hrel
        obtain ⟨W6, rfl⟩ : ∃ W6 : World, W6 = wr := ⟨_, rfl⟩
        obtain ⟨Ao, co, rfl⟩ := Kd.R_slice X3.1
        cases gk with
        | zero => exact absurd HA.1 (by simp [drain])
        | succ k6 =>
         have H := HA.1
         clear HA
         rw [drain] at H
         obtain ⟨vr, hv, hra⟩ := R3.1
         have HV := Az.mk hv
         have HRA := Az.mk hra
         clear hv hra R3
         by_cases ce : 0 < ready.length
         rotate_left
         · as_aux_lemma =>
           rw [if_neg ce] at H
           obtain rfl := Option.some.inj H
           obtain ⟨A2, c2, rfl, _, _⟩ := HRA.1.slice
           have c1 := cell_of_one HV.1
           have cb : decide ((0 : Int) < (ready.length : Int)) = false := decide_eq_false (by omega)
           go_wp2_with fail
           go_ret
           have e1 : w.heap.size <= gm := by rw [<- HG.1]; exact HB1.1.size
           have e2 : gm + 1 < go := by rw [<- HGO.1]; exact blk_lt V.1
           refine ⟨_, rfl, ?_, ?_⟩
           · exact outK_V X3.1 (by rw [HGO.1]; exact B3.1) (by have := HGB.1; omega) (g0 := w.heap.size) e1
           · exact HB1.1.trans ((B.1.mono e1).trans (B3.1.mono (by omega)))
         as_aux_lemma =>
         rw [if_pos ce] at H
         obtain ⟨gr, off, cap, A1, rfl, hg1, hg2, hcp, hc0, hif, hcut⟩ := HRA.1.cut ce
         have c1 := cell_of_one HV.1
         have cb : decide ((0 : Int) < (ready.length : Int)) = true := decide_eq_true (by omega)
         by_cases cx : 0 <= rd ready 0 /\ rd ready 0 < m.length /\ rd ready 0 < u1.users.length /\ out.length < 5864062014805
         case neg => rw [if_neg cx] at H; cases H
         rw [if_pos cx] at H
         obtain ⟨⟨opn2, ready2⟩, hdec, H2⟩ := Option.bind_eq_some_iff.1 H
         have HDC := Az.mk hdec
         have H' := Az.mk H2
         clear hdec H2 H
         have f1 := free_of_one HV.1
         have q1 : (1 <= (ready.length : Int)) = True := eq_true (by omega)
         go_upto_region 40 with fail
         have hr7 : ∀ k, (Value.slice A1 (ready.length - 1) (cap - 1)).ownBlock = some k -> k ≠ br := fun k hk => by have := (hcut.lt k hk).1; omega
         have B7 := Az.mk (B3.1.setCell (show go <= (⟨br, 0, none⟩ : Addr).block from Nat.le_of_lt HGB.1) (.slice A1 (ready.length - 1) (cap - 1)))
         have O7 := Az.mk (blk_far O3.1 (p := ⟨br, 0, none⟩) (show go ≠ br from Nat.ne_of_lt HGB.1) (.slice A1 (ready.length - 1) (cap - 1)))
         have S7 := Az.mk (Kd.S_far (p := ⟨br, 0, none⟩) S3.1 (fun k hk => show k ≠ br from Nat.ne_of_lt hk.2) (.slice A1 (ready.length - 1) (cap - 1)))
         have R7 := Az.mk (show ReadyAt (W6.setCell ⟨br, 0, none⟩ (.slice A1 (ready.length - 1) (cap - 1))) br (ready.drop 1) from ⟨_, one_setCell HV.1, hcut.kept (fun k hk => Below.heap_setCell _ _ _ _ (hr7 k hk))⟩)
         have Z7 := Az.mk (show br + 1 <= (W6.setCell ⟨br, 0, none⟩ (.slice A1 (ready.length - 1) (cap - 1))).heap.size by simpa using Z3.1)
         have X7 := Az.mk (X3.1.kept (w1 := W6.setCell ⟨br, 0, none⟩ (.slice A1 (ready.length - 1) (cap - 1))) (fun k hk => Below.heap_setCell _ _ _ _ (show k ≠ br from fun e => by have := (X3.1.typed k hk).1; omega)))
         clear hr7 hcut hg1 hg2 hcp hc0 c1 f1 q1 hif B3 O3 S3 Z3 X3 HV HRA cb
         generalize W6.setCell ⟨br, 0, none⟩ (.slice A1 (ready.length - 1) (cap - 1)) = W7 at B7 O7 S7 R7 Z7 X7 ⊢
         have BW := Az.mk (show Below W1.heap.size W1 W7 by rw [HGO.1]; exact B7.1)
         have c1 := cell_of_one (blk_below V.1 BW.1)
         obtain ⟨cx0, cx1, cx2, cx3⟩ := cx
         obtain ⟨adm, cm, er, hcl, hfk, hcc, _⟩ := Kd.F_get MF.1 ([] : List Int) (rd ready 0) cx0 (by rw [<- HML.1]; exact cx1)
         cases er
         obtain ⟨Ar, cr, rfl, hlr, hF⟩ := Kd.FK_slice_open hfk
         have hFK := Az.mk hfk
         have hx := hcc 0 _ rfl
         have hx1 := (BW.1.cell (World.block_lt_of_cell? _ _ hx)).trans hx
         have ek : KS.sz = 1 := rfl
         have el : m.getD (rd ready 0).toNat [] = row m (rd ready 0) := rfl
         rw [ek, Nat.mul_one, Nat.add_zero] at hx1
         rw [el] at hx1 hFK
         rw [Addr.add_lit, Nat.zero_add] at hx1
         have q1 := eq_true cx0
         have q2 : (rd ready 0 < (n : Int)) = True := eq_true (by rw [<- HML.1]; exact cx1)
         have HCX := Az.mk (And.intro cx0 (And.intro cx1 (And.intro cx2 cx3)))
         clear cx0 cx1 cx2 cx3 ce
         clear hcc hcl hlr hF hx ek el hfk
         go_wp2_with ((with_reducible refine gate_builtin (b := .append) (xs := #[.tmp 130, .tmp 135]) rfl ?_); at_builtin; refine Kd.R_append (outK W1 (fun k => gm <= k)) (w0 := W7) (br + 1) rfl (.tmp 130) (.tmp 135) 47 55 (.slice none 0 0) 24 rfl Try.underlying47 info55 rfl Nat.zero_lt_one (by omega) (.slice Ao out.length co) out (row m (rd ready 0)) [.slice Ar (row m (rd ready 0)).length cr] (fun _ => True) (fun _ => False) rfl rfl hFK.1 (fun _ hk => hk.elim) (fun k hk => trivial) X7.1 (Below.refl _ _) Z7.1 ?hl ?_)
         (case hl => have := HCX.1.2.2.2; omega)
         intro v1 w9 ho hb hg hat
         obtain ⟨A9, q9c, rfl⟩ := Kd.R_slice ho
         have hty := X7.1.typed
         obtain ⟨vr7, hv7, hra7⟩ := R7.1
         have hroe := row_out_ne X7.1 hra7
         have B9 := Az.mk (B7.1.grown hg (by have := HGB.1; have := Z7.1; omega) (fun k hk => by have := (hty k hk).1; have := HGB.1; omega))
         have O9 := Az.mk (blk_grown O7.1 hg (fun e => by have := (hty go e.symm).1; have := HGB.1; omega))
         have S9 := Az.mk (Kd.S_grown S7.1 hg (fun k hk e => by have := (hty k e.symm).1; have := hk.2; omega))
         have R9 := Az.mk (show ReadyAt w9 br (ready.drop 1) from ⟨vr7, (hg.block br (blk_lt hv7) (fun e => by have := (hty br e.symm).1; omega)).trans hv7, hra7.kept (fun k hk => hg.block k (hra7.lt k hk).2.1 (hroe k hk))⟩)
         have Z9 := Az.mk (Nat.le_trans Z7.1 hg.size)
         have X9 := Az.mk ho
         clear ho hb hg hat hty hv7 hra7 hroe vr7 B7 O7 S7 R7 Z7 X7 BW hx1 c1 hFK
         have e9 : (out ++ [row m (rd ready 0)]).length = out.length + 1 := by simp
         rw [e9] at X9 ⊢
         clear e9
         obtain ⟨adu, cu, er, hcl, hfk, hcc, hrst⟩ := Kd.F_get (Kd.S_F S9.1) ([] : List Int) (rd ready 0) HCX.1.1 (by rw [<- HU1.1.2]; exact HCX.1.2.2.1)
         cases er
         obtain ⟨Au, cu, rfl, hlu, hF⟩ := Kd.FK_slice_open hfk
         have hx := hcc 0 _ rfl
         have ek : KS.sz = 1 := rfl
         have el : u1.users.getD (rd ready 0).toNat [] = row u1.users (rd ready 0) := rfl
         simp only [ek, Nat.mul_one, Nat.add_zero, Addr.add_lit, Nat.zero_add] at hx
         rw [el] at hx hF
         have F9 := Az.mk hF
         have HUL : Az ((row u1.users (rd ready 0)).length <= 9223372036854775807) := ⟨Kd.F_max hF⟩
         clear hcc hcl hlu hF hfk ek el hrst
         go_upto_region 41 with fail
         have hul := HUL.1
         go_wp2_with fail
         go_loopg [142] k6 (fun kq v142 w' => ∃ (i : Int) (opn3 ready3 : List Int), v142 = .int .i64 i /\ Az (0 <= i) /\ Az (opn3.length = n) /\ Az (dec kq m (row u1.users (rd ready 0)) i opn3 ready3 = some (opn2, ready2)) /\ Az (kq <= k6) /\ Az (Below go W1 w') /\ Az (w'.heap[go]? = some (arr opn3)) /\ Az (Kd.S KS 55 w' (go + 1) (fun k => go + 1 <= k /\ k < br) (.slice (some ⟨go + 1, 0, none⟩) n n) u1.users) /\ Az (Kd.F (Kd.int .i64) w' (fun k => go + 1 <= k /\ k < br) Au (row u1.users (rd ready 0)).length (row u1.users (rd ready 0))) /\ Az (ReadyAt w' br ready3) /\ Az (br + 1 <= w'.heap.size) /\ Az (OutR W1 gm w' (br + 1) (.slice A9 (out.length + 1) q9c) (out ++ [row m (rd ready 0)])))
         case atStart => exact ⟨0, _, _, rfl, ⟨by omega⟩, HLO, HDC, ⟨Nat.le_refl _⟩, B9, O9, S9, F9, R9, Z9, X9⟩
         case round => as_aux_lemma =>
          clear HDC B9 O9 S9 F9 R9 Z9 X9 hx q1 q2
          obtain ⟨i, opn3, ready3, rfl, HI, HLO3, HA, HK7, B3, O3, S3, F3, R3, Z3, X3⟩ := hrel
          obtain ⟨W8, rfl⟩ : ∃ W8 : World, W8 = wr := ⟨_, rfl⟩
          cases gk with
          | zero => exact absurd HA.1 (by simp [dec])
          | succ k7 =>
           have H := HA.1
           clear HA
           rw [dec] at H
           by_cases ci : i < (row u1.users (rd ready 0)).length
           rotate_left
           · as_aux_lemma =>
             rw [if_neg ci] at H
             obtain ⟨rfl, rfl⟩ := Prod.mk.inj (Option.some.inj H)
             have cb7 : decide (i < ((row u1.users (rd ready 0)).length : Int)) = false := decide_eq_false ci
             clear H
             go_wp2_with fail
             go_roundg k6
             case measure => omega
             case rel => exact ⟨_, _, _, H', ⟨by have := HK6.1; omega⟩, HLO3, B3, O3, S3, R3, Z3, X3⟩
           as_aux_lemma =>
           rw [if_pos ci] at H
           have hi0 := HI.1
           obtain ⟨ad4, e4, hx4⟩ := Kd.at_int (Kd.F_now F3.1) i hi0 ci
           subst e4
           generalize rd (row u1.users (rd ready 0)) i = d at H hx4
           by_cases cd : 0 <= d /\ d < opn3.length
           case neg => rw [if_neg cd] at H; cases H
           rw [if_pos cd] at H
           obtain ⟨cd0, cd1⟩ := cd
           have cb7 : decide (i < ((row u1.users (rd ready 0)).length : Int)) = true := decide_eq_true ci
           have q0 := eq_true hi0
           have q1 := eq_true cd0
           have q2 : (d < (n : Int)) = True := eq_true (by rw [<- HLO3.1]; exact cd1)
           have c1 := arr_cell O3.1 d cd0 cd1
           have f1 := arr_free O3.1 d.toNat
           have HH := Az.mk H
           clear H
           go_upto_region 45 with fail
           have B10 := Az.mk (B3.1.setCell (show go <= (⟨go, d.toNat, none⟩ : Addr).block from Nat.le_refl go) (.int .i64 (wrap64 (rd opn3 d - 1))))
           have O10 := Az.mk (show (W8.setCell ⟨go, d.toNat, none⟩ (.int .i64 (wrap64 (rd opn3 d - 1)))).heap[go]? = some (arr (opn3.set d.toNat (wrap64 (rd opn3 d - 1)))) from by unfold arr; rw [<- nums_set]; exact blk_set O3.1 d.toNat _)
           have S10 := Az.mk (Kd.S_far (p := ⟨go, d.toNat, none⟩) S3.1 (fun k hk => by have := hk.1; show k ≠ go; omega) (.int .i64 (wrap64 (rd opn3 d - 1))))
           have F10 := Az.mk (Kd.F_far (p := ⟨go, d.toNat, none⟩) F3.1 (fun k hk => by have := hk.1; show k ≠ go; omega) (.int .i64 (wrap64 (rd opn3 d - 1))))
           have R10 := Az.mk (R3.1.kept (w1 := W8.setCell ⟨go, d.toNat, none⟩ (.int .i64 (wrap64 (rd opn3 d - 1)))) (fun k hk hlt => Below.heap_setCell _ _ _ _ (show k ≠ go by have := HGB.1; omega)))
           have Z10 := Az.mk (show br + 1 <= (W8.setCell ⟨go, d.toNat, none⟩ (.int .i64 (wrap64 (rd opn3 d - 1)))).heap.size by simpa using Z3.1)
           have X10 := Az.mk (X3.1.kept (w1 := W8.setCell ⟨go, d.toNat, none⟩ (.int .i64 (wrap64 (rd opn3 d - 1)))) (fun k hk => Below.heap_setCell _ _ _ _ (show k ≠ go from fun e => by have := (X3.1.typed k hk).1; have := HGB.1; omega)))
           have L10 : Az ((opn3.set d.toNat (wrap64 (rd opn3 d - 1))).length = n) := ⟨by rw [List.length_set]; exact HLO3.1⟩
           clear B3 O3 S3 F3 R3 Z3 X3 c1 f1 hx4 HLO3
           generalize W8.setCell ⟨go, d.toNat, none⟩ (.int .i64 (wrap64 (rd opn3 d - 1))) = W10 at B10 O10 S10 F10 R10 Z10 X10 ⊢
           generalize (opn3.set d.toNat (wrap64 (rd opn3 d - 1))) = opn4 at HH O10 L10
           clear cd1
           have c1 := arr_cell O10.1 d cd0 (by rw [L10.1]; exact of_eq_true q2)
           by_cases cz : rd opn4 d = 0
           rotate_left
           · as_aux_lemma =>
             have H := HH.1
             clear HH
             rw [if_neg cz] at H
             have H3 := Az.mk H
             have cz1 : (rd opn4 d == 0) = false := beq_eq_false_iff_ne.2 cz
             clear cz H
             go_wp2_with fail
             go_roundg k7
             case measure => omega
             case rel => exact ⟨i + 1, _, _, rfl, ⟨by have := HI.1; omega⟩, L10, H3, ⟨by have := HK7.1; omega⟩, B10, O10, S10, F10, R10, Z10, X10⟩
           as_aux_lemma =>
           have H := HH.1
           clear HH
           rw [if_pos cz] at H
           obtain ⟨ready4, hent, H⟩ := Option.bind_eq_some_iff.1 H
           have H3 := Az.mk H
           have HE := Az.mk hent
           have cz1 : (rd opn4 d == 0) = true := beq_iff_eq.2 cz
           clear cz H hent
           obtain ⟨vr, hv, hra⟩ := R10.1
           have HRA := Az.mk hra
           have hB4 : Below W1.heap.size W1 W10 := by rw [HGO.1]; exact B10.1
           have ENT := Az.mk (enter_calls W1 W10 (gm + 1) br m d (br + 1) vr ready3 ready4 M.1 hB4 (by have := HGB.1; omega) (by have := HGB.1; omega) Z10.1 hv hra HE.1)
           clear hv hra hB4
           go_wp2_with (go_at_call 51; refine ENT.1.mono ?_; clear ENT c1; intro e w9 hen; obtain ⟨rfl, e1, e2, e3, e4, e5⟩ := hen.keeps HRA.1; rw [HGO.1] at e1; have E1 := Az.mk e1; have E2 := Az.mk e2; have E3 := Az.mk e3; have E4 := Az.mk e4; have E5 := Az.mk e5; clear e1 e2 e3 e4 e5 hen)
           have O12 := Az.mk ((E4.1 go HGB.1 (blk_lt O10.1)).trans O10.1)
           have S12 := Az.mk (Kd.S_step S10.1 (fun k hk hlt => E4.1 k hk.2 hlt))
           have F12 := Az.mk (Kd.F_step F10.1 (fun k hk hlt => E4.1 k hk.2 hlt))
           have X12 := Az.mk (X10.1.kept (fun k hk => by obtain ⟨x1, x2, cells, x3⟩ := X10.1.typed k hk; exact E5.1 k 55 cells (by omega) x3 (by decide)))
           go_roundg k7
           case measure => omega
           case rel => exact ⟨i + 1, _, _, rfl, ⟨by have := HI.1; omega⟩, L10, H3, ⟨by have := HK7.1; omega⟩, E1, O12, S12, F12, E3, ⟨by have := Z10.1; have := E2.1; omega⟩, X12⟩
end Od
end Go.Proofs.Ytmadhaccjmakdaa
namespace Go.Proofs.Ytmadhaccjmakdaa
open Go.RowKit Go.Proofs.Yw.A Go.Proofs.Yw.B Go.Proofs.Yw.C Go.Proofs.Ytmadhaccjmakdaa.P
namespace Od
noncomputable def lim {α : Type} (F : Nat -> Option α) : Option α :=
  open Classical in if h : ∃ (r : α) (k0 : Nat), ∀ k, k0 <= k -> F k = some r then some h.choose else none
theorem lim_of {α : Type} {F : Nat -> Option α} {r : α} {k0 : Nat} (h : ∀ k, k0 <= k -> F k = some r) : lim F = some r := by
  have hx : ∃ (r : α) (k0 : Nat), ∀ k, k0 <= k -> F k = some r := ⟨r, k0, h⟩
  unfold lim
  rw [dif_pos hx]
  obtain ⟨k1, h1⟩ := hx.choose_spec
  have e1 := h1 (max k0 k1) (by omega)
  rw [h _ (by omega)] at e1
  exact e1.symm
theorem lim_some {α : Type} {F : Nat -> Option α} {r : α} (h : lim F = some r) : ∃ k0, ∀ k, k0 <= k -> F k = some r := by
  unfold lim at h
  split at h
  · rename_i hx
    obtain rfl := Option.some.inj h
    exact hx.choose_spec
  · cases h
end Od
namespace P
noncomputable def g_ordered.f (l : List (List Int)) : Option (List (List Int)) := Od.lim fun k => Od.orderedF k l
theorem g_ordered.calls (A0 : Option Addr) (c0 : Nat) (l0 : List (List Int)) (r : List (List Int)) (w : World) (hr0 : Kd.C (Kd.slice 3 (Kd.int .i64)) w A0 l0.length l0) (hc0 : l0.length <= c0) (h : g_ordered.f l0 = some r) :
    Calls Try.prog 40 #[.slice A0 l0.length c0] w fun e w' => ∃ v0_, e = .returned v0_ /\ Kd.V (Kd.slice 3 (Kd.int .i64)) 55 w' w.heap.size (fun k_ => w.heap.size <= k_) v0_ r /\ Below w.heap.size w w' := by
  obtain ⟨k0, h0⟩ := Od.lim_some h
  exact Od.ordered_calls k0 A0 c0 l0 r w hr0 hc0 (h0 k0 (Nat.le_refl _))
end P
end Go.Proofs.Ytmadhaccjmakdaa
namespace Go.Proofs.Ytmadhaccjmakdaa.P
open Go.RowKit Go.Proofs.Yw.A Go.Proofs.Yw.A.Kd Go.Proofs.Yw.B Go.Proofs.Yw.C
attribute [local go_sem] str_gtr str_leq str_geq max2_int min2_int max_two min_two max_three min_three max_four min_four
noncomputable def g_Components.f (k : Nat) (l0_0 : List (List Int)) : Option ((List (List Int))) := (g_valid.f k l0_0).bind fun t167 => (if t167 = true then ((g_ordered.f l0_0).bind fun t168 => (some t168)) else (some ([] : List (List Int))))
theorem g_Components.calls (k : Nat) (A0_0 : Option Addr) (c0_0 : Nat) (l0_0 : List (List Int)) (r : List (List Int)) (w : World) (hr0_0 : Kd.C (Kd.slice 3 (Kd.int .i64)) w A0_0 l0_0.length l0_0) (hc0_0 : l0_0.length <= c0_0) (h : g_Components.f k l0_0 = some r) :
 Calls Try.prog 25 #[.agg #[.slice A0_0 l0_0.length c0_0]] w fun e w' => ∃ v0_ : Value, e = .returned (v0_) /\ Kd.V (Kd.slice 3 (Kd.int .i64)) 55 w' w.heap.size (fun k_ => (w.heap.size <= k_)) v0_ r /\ Below w.heap.size w w' := by
 have hu49 := Try.underlying49
 have HR0_0 := aM hr0_0
 have HC0_0 := aM hc0_0
 clear hr0_0 hc0_0
 have HB := aM (Below.refl w.heap.size w)
 have H : ((g_valid.f k l0_0).bind fun t167 => (if t167 = true then ((g_ordered.f l0_0).bind fun t168 => (some t168)) else (some ([] : List (List Int))))) = some r := h
 clear h
 replace H := Option.bind_eq_some_iff.mp H
 obtain ⟨t167, A20, H⟩ := H
 try dsimp only at H
 have A2 := aM A20
 clear A20
 by_cases c3 : t167 = true
 rotate_left
 · replace c3 := Bool.eq_false_iff.mpr c3
   subst c3
   rw [if_neg (show ¬ (false = true) by decide)] at H
   obtain rfl := Option.some.inj H
   go_enter Try.func25, Try.ntmps25
   go_wp2_with (first | ((with_reducible refine gate_dst (N := 1) rfl ?_); refine be 1 rfl rfl #[.slice A0_0 l0_0.length c0_0] 49 ?_; intro gb166 hg w10 hbox hb; have BK166 := aM hbox; have GE166 := gs hg HB; replace HB := bs HB hb; clear hb hbox hg; have hcz11_0 : w10.cell? ⟨gb166, 0, none⟩ = some (.slice A0_0 l0_0.length c0_0) := (blk_cell BK166.1 0).trans rfl; have hfz11_0 := blk_frozen BK166.1 0) | ((with_reducible refine gate_callee (f := 39) rfl ?_); refine gL (some 4) rfl rfl Try.func39 (by kernel_rfl) rfl #[.agg #[.slice A0_0 l0_0.length c0_0]] rfl ?_; (with_reducible refine (g_valid.calls k _ _ l0_0 false _ ?side1 ?side2 A2.1).mono ?_); (case side1 => exact cb HR0_0 HB); (case side2 => exact HC0_0.1); rintro e w12 ⟨rfl, hb⟩; refine ⟨_, rfl, ?_⟩; replace BK166 := kb BK166 hb; replace HB := bs HB hb; clear hb))
   go_ret
   exact ⟨_, by first | rfl | (simp [errW_none, errW_some] <;> rfl) | (simp [*, errW_none, errW_some] <;> rfl), (by first | exact V_nil _ _ _ _ _ | exact S_V (S_nil _ _ 0 _ _) | exact N_nil _ _ _ _ _ | exact V_nil _ _ _ _ _ | exact Q_nil _ _ _ _ _ | exact R_nil _ _ _ _ _), hh HB⟩
 subst c3
 rw [if_pos rfl] at H
 replace H := Option.bind_eq_some_iff.mp H
 obtain ⟨t168, A40, H⟩ := H
 try dsimp only at H
 have A4 := aM A40
 clear A40
 obtain rfl := Option.some.inj H
 go_enter Try.func25, Try.ntmps25
 go_wp2_with (first | ((with_reducible refine gate_dst (N := 1) rfl ?_); refine be 1 rfl rfl #[.slice A0_0 l0_0.length c0_0] 49 ?_; intro gb166 hg w5 hbox hb; have BK166 := aM hbox; have GE166 := gs hg HB; replace HB := bs HB hb; clear hb hbox hg; have hcz6_0 : w5.cell? ⟨gb166, 0, none⟩ = some (.slice A0_0 l0_0.length c0_0) := (blk_cell BK166.1 0).trans rfl; have hfz6_0 := blk_frozen BK166.1 0) | ((with_reducible refine gate_callee (f := 39) rfl ?_); refine gL (some 4) rfl rfl Try.func39 (by kernel_rfl) rfl #[.agg #[.slice A0_0 l0_0.length c0_0]] rfl ?_; (with_reducible refine (g_valid.calls k _ _ l0_0 true _ ?side1 ?side2 A2.1).mono ?_); (case side1 => exact cb HR0_0 HB); (case side2 => exact HC0_0.1); rintro e w7 ⟨rfl, hb⟩; refine ⟨_, rfl, ?_⟩; replace BK166 := kb BK166 hb; replace HB := bs HB hb; clear hb; have hcz8_0 : w7.cell? ⟨gb166, 0, none⟩ = some (.slice A0_0 l0_0.length c0_0) := (blk_cell BK166.1 0).trans rfl; have hfz8_0 := blk_frozen BK166.1 0) | ((with_reducible refine gate_callee (f := 40) rfl ?_); refine gL (some 8) rfl rfl Try.func40 (by kernel_rfl) rfl #[.slice A0_0 l0_0.length c0_0] rfl ?_; (with_reducible refine (g_ordered.calls _ _ l0_0 t168 _ ?side1 ?side2 A4.1).mono ?_); (case side1 => exact cb HR0_0 HB); (case side2 => exact HC0_0.1); rintro e w9 ⟨v169, rfl, ho0, hb⟩; refine ⟨_, rfl, ?_⟩; have HO170 := aM (V_lower (V_mono (ok' := fun k_ => (w.heap.size <= k_) /\ k_ ≠ gb166) ho0 (fun k_ hk_ => ⟨(Nat.le_trans (below_size (hh HB)) hk_), (Kd.freshB (g := gb166) (o := .cells #[.slice A0_0 l0_0.length c0_0] 49 (0, 0)) (kk BK166) k_ hk_)⟩)) (below_size (hh HB))); replace BK166 := kb BK166 hb; replace HB := bs HB hb; clear hb ho0))
 go_ret
 exact ⟨_, by first | rfl | (simp [errW_none, errW_some] <;> rfl) | (simp [*, errW_none, errW_some] <;> rfl), by (with_reducible repeat (first | apply V_alloc | apply V_drewN | apply V_drew)); exact V_mono HO170.1 (fun _ hk => hk.1), hh HB⟩
noncomputable def p_named.l0 : Nat -> List ByteArray -> List Int -> Int -> Int -> List ByteArray -> List (List Int) -> Option (List ByteArray)
 | 0, _, _, _, _, _, _ => none
 | k + 1, x5, x8, x9, x10, x172000, x172001 => if x10 < x9 then (if 0 <= x10 then (if x10 < (x8.length : Int) then (if 0 <= (rd x8 x10) then (if (rd x8 x10) < (x172000.length : Int) then (if x5.length < 8796093022208 then (p_named.l0 k (x5 ++ [rdOf ByteArray.empty x172000 (rd x8 x10)]) x8 x9 (wrap64 (x10 + 1)) x172000 x172001) else (none)) else (none)) else (none)) else (none)) else (none)) else (some x5)
noncomputable def p_named.f (k : Nat) (l0_0 : List ByteArray) (l0_1 : List (List Int)) (l1 : List Int) : Option (List ByteArray) := p_named.l0 k ([] : List ByteArray) l1 (l1.length : Int) 0 l0_0 l0_1
theorem p_named.calls (k : Nat) (A0_0 : Option Addr) (c0_0 : Nat) (l0_0 : List ByteArray) (A0_1 : Option Addr) (c0_1 : Nat) (l0_1 : List (List Int)) (A1 : Option Addr) (c1 : Nat) (l1 : List Int) (r : List ByteArray) (w : World) (hr0_0 : Kd.C Kd.string w A0_0 l0_0.length l0_0) (hc0_0 : l0_0.length <= c0_0) (hr0_1 : Kd.C (Kd.slice 3 (Kd.int .i64)) w A0_1 l0_1.length l0_1) (hc0_1 : l0_1.length <= c0_1) (hr1 : Kd.C (Kd.int .i64) w A1 l1.length l1) (hc1 : l1.length <= c1) (h : p_named.f k l0_0 l0_1 l1 = some r) :
 Calls Try.prog 26 #[.agg #[.slice A0_0 l0_0.length c0_0, .slice A0_1 l0_1.length c0_1], .slice A1 l1.length c1] w fun e w' => ∃ v0_ : Value, e = .returned (v0_) /\ Kd.R Kd.string 9 w' w.heap.size (fun _ => True) v0_ r /\ Below w.heap.size w w' := by
 have hu51 := Try.underlying51
 have HR0_0 := aM hr0_0
 have HC0_0 := aM hc0_0
 clear hr0_0 hc0_0
 have HR0_1 := aM hr0_1
 have HC0_1 := aM hc0_1
 clear hr0_1 hc0_1
 have HR1 := aM hr1
 have HC1 := aM hc1
 clear hr1 hc1
 have HB := aM (Below.refl w.heap.size w)
 have H : (p_named.l0 k ([] : List ByteArray) l1 (l1.length : Int) 0 l0_0 l0_1) = some r := h
 clear h
 have H' := aM H
 clear H
 go_enter Try.func26, Try.ntmps26
 go_wp2_with (first | ((with_reducible refine gate_dst (N := 2) rfl ?_); refine be 2 rfl rfl #[.slice A0_0 l0_0.length c0_0, .slice A0_1 l0_1.length c0_1] 51 ?_; intro gb171 hg w3 hbox hb; have BK171 := aM hbox; have GE171 := gs hg HB; replace HB := bs HB hb; clear hb hbox hg))
 go_loopg [5, 10] k (fun kq v5 v10 w' => ∃ (x5_1 : List ByteArray) (x10_1 : Int), v10 = .int .i64 x10_1 /\ Az (p_named.l0 kq x5_1 l1 (l1.length : Int) x10_1 l0_0 l0_1 = some r) /\ Az (kq <= k) /\ Az (Kd.R Kd.string 9 w' w.heap.size (fun _ => True) v5 x5_1) /\ Az (w'.heap[gb171]? = some (.cells #[(.slice A0_0 l0_0.length c0_0), (.slice A0_1 l0_1.length c0_1)] 51 (0, 0))) /\ Az (Below w.heap.size w w'))
 case atStart => exact ⟨(([] : List ByteArray)), (0), rr, H', ⟨Nat.le_refl _⟩, ⟨by first | exact R_nil _ _ _ _ _ | exact N_nil _ _ _ _ _ | exact V_nil _ _ _ _ _ | exact Q_nil _ _ _ _ _ | exact S_nil _ _ _ _ _⟩, ⟨kk BK171⟩, ⟨hh HB⟩⟩
 case round =>
  clear H'
  obtain ⟨x5_1, x10_1, rfl, HA, HK1, HO_5, BK171, HB⟩ := hrel
  cases gk with
  | zero => exact absurd HA.1 (by simp [p_named.l0])
  | succ k1 =>
   have H := HA.1
   clear HA
   simp only [p_named.l0] at H
   by_cases c4 : x10_1 < (l1.length : Int)
   rotate_left
   · rw [if_neg c4] at H
     have c4b0 : decide (x10_1 < (l1.length : Int)) = false := decide_eq_false c4
     clear c4
     obtain rfl := Option.some.inj H
     go_wp2
     go_ret
     exact ⟨_, by first | rfl | (simp [errW_none, errW_some] <;> rfl) | (simp [*, errW_none, errW_some] <;> rfl), rk HO_5, hh HB⟩
   rw [if_pos c4] at H
   have c4b0 : decide (x10_1 < (l1.length : Int)) = true := decide_eq_true c4
   clear c4
   by_cases c5 : 0 <= x10_1
   rotate_left
   · rw [if_neg c5] at H
     exact absurd H (by simp)
   rw [if_pos c5] at H
   have c5b0 : decide (0 <= x10_1) = true := decide_eq_true c5
   clear c5
   by_cases c6 : x10_1 < (l1.length : Int)
   rotate_left
   · rw [if_neg c6] at H
     exact absurd H (by simp)
   rw [if_pos c6] at H
   have c6b0 : decide (x10_1 < (l1.length : Int)) = true := decide_eq_true c6
   clear c6
   by_cases c7 : 0 <= (rd l1 x10_1)
   rotate_left
   · rw [if_neg c7] at H
     exact absurd H (by simp)
   rw [if_pos c7] at H
   have c7b0 : decide (0 <= (rd l1 x10_1)) = true := decide_eq_true c7
   clear c7
   by_cases c8 : (rd l1 x10_1) < (l0_0.length : Int)
   rotate_left
   · rw [if_neg c8] at H
     exact absurd H (by simp)
   rw [if_pos c8] at H
   have c8b0 : decide ((rd l1 x10_1) < (l0_0.length : Int)) = true := decide_eq_true c8
   clear c8
   by_cases c9 : x5_1.length < 8796093022208
   rotate_left
   · rw [if_neg c9] at H
     exact absurd H (by simp)
   rw [if_pos c9] at H
   have LMc9 := aM c9
   clear c9
   obtain ⟨y174, hy174⟩ : ∃ y_ : List ByteArray, y_ = (x5_1 ++ [rdOf ByteArray.empty l0_0 (rd l1 x10_1)]) := ⟨_, rfl⟩
   replace H : (p_named.l0 k1 y174 l1 (l1.length : Int) (wrap64 (x10_1 + 1)) l0_0 l0_1) = some r := by first | (rw [hy174]; with_reducible exact H) | (have H2_ := (Option.bind_some _ _).symm.trans H; rw [hy174]; with_reducible exact H2_) | (have H2_ := (Option.bind_some _ _).symm.trans H; with_reducible exact H2_) | with_reducible exact H | (rw [hy174]; exact H) | exact H
   have Ny174 := aM hy174
   clear hy174
   have H' := aM H
   clear H
   have p172 : 0 <= (x10_1 : Int) := dt
   have q172 : x10_1 < (l1.length : Int) := dt
   obtain ⟨ad172, e172, hx172_0⟩ := Kd.at_int HR1.1 x10_1 p172 q172
   cases e172
   replace hx172_0 := hx HB hx172_0
   replace p172 := eq_true p172
   replace q172 := eq_true q172
   obtain ⟨hcz10_0, hcz10_1⟩ := cz2 BK171
   obtain ⟨hfz10_0, hfz10_1⟩ := fz2 BK171
   have p173 : 0 <= ((rd l1 x10_1) : Int) := dt
   have q173 : (rd l1 x10_1) < (l0_0.length : Int) := dt
   obtain ⟨ad173, e173, hx173_0⟩ := Kd.at_string HR0_0.1 (rd l1 x10_1) p173 q173
   cases e173
   replace hx173_0 := hx HB hx173_0
   replace p173 := eq_true p173
   replace q173 := eq_true q173
   go_wp2_with (first | ((with_reducible refine gate_builtin (b := .append) (xs := #[.tmp 14, .tmp 20]) rfl ?_); at_builtin; refine R_append Kd.string (w0 := w) w.heap.size rfl (.tmp 14) (.tmp 20) 25 9 (.string ⟨#[]⟩) 16 rfl Try.underlying25 info9 rfl (by decide) (by omega) u5 x5_1 (rdOf ByteArray.empty l0_0 (rd l1 x10_1)) [.string (rdOf ByteArray.empty l0_0 (rd l1 x10_1))] (fun _ => True) (fun _ => False) rfl rfl ?aP (fun _ hk => hk.elim) ?aF ?aO ?aB ?aS ?aL ?_; (case aP => exact rfl); (case aB => exact (hh HB)); (case aF => exact (fun _ _ => trivial)); (case aO => exact (rk HO_5)); (case aS => exact (below_size (hh HB))); (case aL => have := LMc9.1; omega); intro v175 w11 ho hb hg hat; rw [<- Ny174.1] at ho; have HO176 := aM (ho); replace BK171 := aM (blk_grown (g := gb171) (o := .cells #[.slice (some ad173) l0_0.length c0_0, .slice A0_1 l0_1.length c0_1] 51 (0, 0)) (kk BK171) hg (R_ne HO_5.1 BK171.1 (by decide))); replace HB := aM (hb); clear HO_5; clear ho hb hg hat))
   go_roundg k1
   case measure => have := HK1.1; omega
   case rel => exact ⟨(y174), (wrap64 (x10_1 + 1)), rr, H', ⟨by have := HK1.1; omega⟩, ⟨rk HO176⟩, ⟨kk BK171⟩, ⟨hh HB⟩⟩
noncomputable def m_Order.l0 : Nat -> List ByteArray -> List (List Int) -> Int -> Int -> List ByteArray -> List (List Int) -> Option (List ByteArray × Int × ByteArray × Int × Int)
 | 0, _, _, _, _, _, _ => none
 | k + 1, x6, x20, x21, x22, x189000, x189001 => if x22 < x21 then (if 0 <= x22 then (if x22 < (x20.length : Int) then ((p_named.f k x189000 x189001 (rd_L11 x20 x22)).bind fun t194 => (if x6.length + t194.length < 8796093022208 then (m_Order.l0 k (x6 ++ t194) x20 x21 (wrap64 (x22 + 1)) x189000 x189001) else (none))) else (none)) else (none)) else (some (x6, 0, (⟨#[]⟩ : ByteArray), 0, 0))
noncomputable def m_Order.f (k : Nat) (l0 : List (S42)) : Option (List ByteArray × Int × ByteArray × Int × Int) := (m_acyclic.f k l0).bind fun bt178 => (if bt178.2.2.1 = 0 then ((g_Components.f k bt178.2.1).bind fun t190 => (m_Order.l0 k ([] : List ByteArray) t190 (t190.length : Int) 0 bt178.1 bt178.2.1)) else (some (([] : List ByteArray), bt178.2.2.1, bt178.2.2.2.1, bt178.2.2.2.2.1, bt178.2.2.2.2.2)))
theorem m_Order.calls (k : Nat) (A0 : Option Addr) (c0 : Nat) (l0 : List (S42)) (r1 : List ByteArray) (r2 : Int) (r3 : ByteArray) (r4 : Int) (r5 : Int) (w : World) (hr0 : Kd.C k42 w A0 l0.length l0) (hc0 : l0.length <= c0) (h : m_Order.f k l0 = some (r1, r2, r3, r4, r5)) :
 Calls Try.prog 10 #[.slice A0 l0.length c0] w fun e w' => ∃ v0_ : Value, e = .returned (.tuple #[v0_, .agg #[.int .i64 r2, .string r3, .int .i64 r4, .int .i64 r5]]) /\ Kd.R Kd.string 9 w' w.heap.size (fun _ => True) v0_ r1 /\ Below w.heap.size w w' := by
 have hu28 := Try.underlying28
 have hu51 := Try.underlying51
 have hu49 := Try.underlying49
 have HR0 := aM hr0
 have HC0 := aM hc0
 clear hr0 hc0
 have HB := aM (Below.refl w.heap.size w)
 have H : ((m_acyclic.f k l0).bind fun bt178 => (if bt178.2.2.1 = 0 then ((g_Components.f k bt178.2.1).bind fun t190 => (m_Order.l0 k ([] : List ByteArray) t190 (t190.length : Int) 0 bt178.1 bt178.2.1)) else (some (([] : List ByteArray), bt178.2.2.1, bt178.2.2.2.1, bt178.2.2.2.2.1, bt178.2.2.2.2.2)))) = some (r1, r2, r3, r4, r5) := h
 clear h
 replace H := Option.bind_eq_some_iff.mp H
 obtain ⟨⟨t178, t181, t184, t185, t186, t187⟩, A20, H⟩ := H
 replace H : (if t184 = 0 then ((g_Components.f k t181).bind fun t190 => (m_Order.l0 k ([] : List ByteArray) t190 (t190.length : Int) 0 t178 t181)) else (some (([] : List ByteArray), t184, t185, t186, t187))) = some (r1, r2, r3, r4, r5) := H
 have A2 := aM A20
 clear A20
 by_cases c3 : t184 = 0
 rotate_left
 · rw [if_neg c3] at H
   have c3b0 : (t184 == 0) = false := beq_eq_false_iff_ne.mpr c3
   have c3b1 : (t184 != 0) = true := bne_iff_ne.mpr c3
   simp only [Option.some.injEq, Prod.mk.injEq] at H
   obtain ⟨rfl, rfl, rfl, rfl, rfl⟩ := H
   go_enter Try.func10, Try.ntmps10
   try go_wp2_with (first | ((with_reducible refine gate_dst (N := 3) rfl ?_); refine be 3 rfl rfl #[.int .i64 0, .string (⟨#[]⟩ : ByteArray), .int .i64 0, .int .i64 0] 28 ?_; intro gb177 hg w32 hbox hb; have BK177 := aM hbox; have GE177 := gs hg HB; replace HB := bs HB hb; clear hb hbox hg) | ((with_reducible refine gate_callee (f := 24) rfl ?_); refine gL (some 11) rfl rfl Try.func24 (by kernel_rfl) rfl #[.slice A0 l0.length c0] rfl ?_; (with_reducible refine (m_acyclic.calls k _ _ l0 t178 t181 t184 t185 t186 t187 _ ?side1 ?side2 A2.1).mono ?_); (case side1 => exact cb HR0 HB); (case side2 => exact HC0.1); rintro e w33 ⟨v179, v182, rfl, ho0, ho1, hb⟩; refine ⟨_, rfl, ?_⟩; have HO180 := aM (R_lower ho0 (below_size (hh HB))); have HO183 := aM (S_lower ho1 (below_size (hh HB))); replace BK177 := kb BK177 hb; replace HB := bs HB hb; clear hb ho0 ho1) | ((with_reducible refine gate_dst (N := 4) rfl ?_); refine be 4 rfl rfl #[.slice none 0 0, .slice none 0 0] 51 ?_; intro gb188 hg w34 hbox hb; have BK188 := aM hbox; have GE188 := gs hg HB; have NB177_188 := nl hg BK177; have NB188_177 := nr hg BK177; replace HO180 := rb HO180 hb; replace HO183 := sb HO183 hb; replace BK177 := kb BK177 hb; replace HB := bs HB hb; clear hb hbox hg) | ((with_reducible refine gate_dst (N := 5) rfl ?_); refine be 5 rfl rfl #[.int .i64 0, .string (⟨#[]⟩ : ByteArray), .int .i64 0, .int .i64 0] 28 ?_; intro gb189 hg w35 hbox hb; have BK189 := aM hbox; have GE189 := gs hg HB; have NB177_189 := nl hg BK177; have NB189_177 := nr hg BK177; have NB188_189 := nl hg BK188; have NB189_188 := nr hg BK188; replace HO180 := rb HO180 hb; replace HO183 := sb HO183 hb; replace BK177 := kb BK177 hb; replace BK188 := kb BK188 hb; replace HB := bs HB hb; clear hb hbox hg; obtain ⟨Ao36, co36, eo36⟩ := R_slice HO180.1; subst eo36; have hnb37 := NB188_177.1; have hnc37 := NB177_188.1; have hnb38 := NB188_189.1; have hnc38 := NB189_188.1; obtain ⟨hcz39_0, hcz39_1⟩ := cz2 BK188; obtain ⟨hfz39_0, hfz39_1⟩ := fz2 BK188; obtain ⟨Ao40, co40, eo40⟩ := S_slice HO183.1; subst eo40; have hnb41 := NB189_177.1; have hnc41 := NB177_189.1; obtain ⟨hcz42_0, hcz42_1, hcz42_2, hcz42_3⟩ := cz BK189; obtain ⟨hfz42_0, hfz42_1, hfz42_2, hfz42_3⟩ := fz BK189))
   have n0_ : Az (Kd.R Kd.string 9 ((((((w35.setCell ⟨gb188, 0, none⟩ (.slice Ao36 t178.length co36)).setCell ⟨gb188, 1, none⟩ (.slice Ao40 t181.length co40)).setCell ⟨gb189, 0, none⟩ (.int .i64 t184)).setCell ⟨gb189, 1, none⟩ (.string t185)).setCell ⟨gb189, 2, none⟩ (.int .i64 t186)).setCell ⟨gb189, 3, none⟩ (.int .i64 t187)) w.heap.size (fun _ => True) (.slice Ao36 t178.length co36) t178) := ⟨rz (R_mono (R_far (p := ⟨gb189, 3, none⟩) (R_far (p := ⟨gb189, 2, none⟩) (R_far (p := ⟨gb189, 1, none⟩) (R_far (p := ⟨gb189, 0, none⟩) (R_far (p := ⟨gb188, 1, none⟩) (R_far (p := ⟨gb188, 0, none⟩) (R_types (R_types HO180.1 BK188.1 (by decide)) BK189.1 (by decide)) (fun _ hk => hk.1.2) (.slice Ao36 t178.length co36)) (fun _ hk => hk.1.2) (.slice Ao40 t181.length co40)) (fun _ hk => hk.2) (.int .i64 t184)) (fun _ hk => hk.2) (.string t185)) (fun _ hk => hk.2) (.int .i64 t186)) (fun _ hk => hk.2) (.int .i64 t187)) (fun _ hk => trivial))⟩
   have n1_ : Az (Kd.S (Kd.slice 3 (Kd.int .i64)) 55 ((((((w35.setCell ⟨gb188, 0, none⟩ (.slice Ao36 t178.length co36)).setCell ⟨gb188, 1, none⟩ (.slice Ao40 t181.length co40)).setCell ⟨gb189, 0, none⟩ (.int .i64 t184)).setCell ⟨gb189, 1, none⟩ (.string t185)).setCell ⟨gb189, 2, none⟩ (.int .i64 t186)).setCell ⟨gb189, 3, none⟩ (.int .i64 t187)) w.heap.size (fun _ => True) (.slice Ao40 t181.length co40) t181) := ⟨sz (S_mono (S_far (p := ⟨gb189, 3, none⟩) (S_far (p := ⟨gb189, 2, none⟩) (S_far (p := ⟨gb189, 1, none⟩) (S_far (p := ⟨gb189, 0, none⟩) (S_far (p := ⟨gb188, 1, none⟩) (S_far (p := ⟨gb188, 0, none⟩) (S_types (S_types HO183.1 BK188.1 (by decide)) BK189.1 (by decide)) (fun _ hk => hk.1.2) (.slice Ao36 t178.length co36)) (fun _ hk => hk.1.2) (.slice Ao40 t181.length co40)) (fun _ hk => hk.2) (.int .i64 t184)) (fun _ hk => hk.2) (.string t185)) (fun _ hk => hk.2) (.int .i64 t186)) (fun _ hk => hk.2) (.int .i64 t187)) (fun _ hk => trivial))⟩
   have n2_ : Az (((((((w35.setCell ⟨gb188, 0, none⟩ (.slice Ao36 t178.length co36)).setCell ⟨gb188, 1, none⟩ (.slice Ao40 t181.length co40)).setCell ⟨gb189, 0, none⟩ (.int .i64 t184)).setCell ⟨gb189, 1, none⟩ (.string t185)).setCell ⟨gb189, 2, none⟩ (.int .i64 t186)).setCell ⟨gb189, 3, none⟩ (.int .i64 t187)).heap[gb177]? = some (.cells #[.int .i64 0, .string (⟨#[]⟩ : ByteArray), .int .i64 0, .int .i64 0] 28 (0, 0))) := ⟨kf BK177⟩
   have n3_ : Az (((((((w35.setCell ⟨gb188, 0, none⟩ (.slice Ao36 t178.length co36)).setCell ⟨gb188, 1, none⟩ (.slice Ao40 t181.length co40)).setCell ⟨gb189, 0, none⟩ (.int .i64 t184)).setCell ⟨gb189, 1, none⟩ (.string t185)).setCell ⟨gb189, 2, none⟩ (.int .i64 t186)).setCell ⟨gb189, 3, none⟩ (.int .i64 t187)).heap[gb188]? = some (.cells #[.slice Ao36 t178.length co36, .slice Ao40 t181.length co40] 51 (0, 0))) := ⟨kf BK188⟩
   have n4_ : Az (((((((w35.setCell ⟨gb188, 0, none⟩ (.slice Ao36 t178.length co36)).setCell ⟨gb188, 1, none⟩ (.slice Ao40 t181.length co40)).setCell ⟨gb189, 0, none⟩ (.int .i64 t184)).setCell ⟨gb189, 1, none⟩ (.string t185)).setCell ⟨gb189, 2, none⟩ (.int .i64 t186)).setCell ⟨gb189, 3, none⟩ (.int .i64 t187)).heap[gb189]? = some (.cells #[.int .i64 t184, .string t185, .int .i64 t186, .int .i64 t187] 28 (0, 0))) := ⟨kf BK189⟩
   have n5_ : Az (Below w.heap.size w ((((((w35.setCell ⟨gb188, 0, none⟩ (.slice Ao36 t178.length co36)).setCell ⟨gb188, 1, none⟩ (.slice Ao40 t181.length co40)).setCell ⟨gb189, 0, none⟩ (.int .i64 t184)).setCell ⟨gb189, 1, none⟩ (.string t185)).setCell ⟨gb189, 2, none⟩ (.int .i64 t186)).setCell ⟨gb189, 3, none⟩ (.int .i64 t187))) := ⟨hh HB⟩
   (clear HO180)
   (clear HO183)
   (clear BK177)
   (clear BK188)
   (clear BK189)
   (clear HB)
   generalize ((((((w35.setCell ⟨gb188, 0, none⟩ (.slice Ao36 t178.length co36)).setCell ⟨gb188, 1, none⟩ (.slice Ao40 t181.length co40)).setCell ⟨gb189, 0, none⟩ (.int .i64 t184)).setCell ⟨gb189, 1, none⟩ (.string t185)).setCell ⟨gb189, 2, none⟩ (.int .i64 t186)).setCell ⟨gb189, 3, none⟩ (.int .i64 t187)) = w43 at n0_ n1_ n2_ n3_ n4_ n5_ ⊢
   have HO180 := n0_
   have HO183 := n1_
   have BK177 := n2_
   have BK188 := n3_
   have BK189 := n4_
   have HB := n5_
   clear n0_ n1_ n2_ n3_ n4_ n5_
   replace HO180 := aM (R_drew HO180.1)
   replace HO183 := aM (S_drew HO183.1)
   replace BK177 := aM (blk_drew BK177.1)
   replace BK188 := aM (blk_drew BK188.1)
   replace BK189 := aM (blk_drew BK189.1)
   replace HB := aM (below_drew1 HB.1)
   refine start_ (n := 3) (S := fun w' => w'.cell? ⟨gb189, 0, none⟩ = some (.int .i64 t184) /\ w'.cell? ⟨gb189, 1, none⟩ = some (.string t185) /\ w'.cell? ⟨gb189, 2, none⟩ = some (.int .i64 t186) /\ w'.cell? ⟨gb189, 3, none⟩ = some (.int .i64 t187)) (ds := []) #[F_, F_, F_] (by kernel_rfl) rfl rfl ⟨(blk_cell BK189.1 0).trans rfl, (blk_cell BK189.1 1).trans rfl, (blk_cell BK189.1 2).trans rfl, (blk_cell BK189.1 3).trans rfl⟩ (fun hHeld => ?_)
   generalize w43.drew = w44 at HO180 HO183 BK177 BK188 BK189 HB hHeld ⊢
   refine pure_ (i := 1) (N := some 2) (v := ?_) (a' := ?_) #[F_, T_, F_] rfl rfl (by kernel_rfl) (fun _ _ _ h => h) (Or.inl ⟨by rfl, ?_⟩) ?_ ?_
   rotate_left
   · intro w'
     go_simp
     with_reducible rfl
   rotate_left
   · simp only [Act.put, sA, sZ, sS, i64_w, i32_w]
     rfl
   refine take_ (i := 0) (N := some 17) (v := ?_) (a' := ?_) #[T_, T_, F_] rfl rfl (by kernel_rfl) (fun _ _ _ h => h) (Or.inl ⟨by rfl, ?_⟩) hHeld ?_ ?_
   rotate_left
   · rintro w' ⟨s0, s1, s2, s3⟩
     go_simp
     with_reducible rfl
   rotate_left
   · simp only [Act.put, sA, sZ, sS, i64_w, i32_w]
     rfl
   refine one_ (i := 2) (N := none) #[T_, T_, T_] rfl rfl (by kernel_rfl) (by decide) (fun K hK => ?_)
   have hs45 : w44.cell? ⟨gb177, 0, none⟩ = some (.int .i64 0) := (blk_cell BK177.1 0).trans rfl
   have hfs45 := blk_frozen BK177.1 0
   have hns45_1 := NB188_177.1
   have hns45_2 := NB189_177.1
   have hms45_1 := NB177_188.1
   have hms45_2 := NB177_189.1
   have hs46 : w44.cell? ⟨gb177, 1, none⟩ = some (.string (⟨#[]⟩ : ByteArray)) := (blk_cell BK177.1 1).trans rfl
   have hfs46 := blk_frozen BK177.1 1
   have hns46_1 := NB188_177.1
   have hns46_2 := NB189_177.1
   have hms46_1 := NB177_188.1
   have hms46_2 := NB177_189.1
   have hs47 : w44.cell? ⟨gb177, 2, none⟩ = some (.int .i64 0) := (blk_cell BK177.1 2).trans rfl
   have hfs47 := blk_frozen BK177.1 2
   have hns47_1 := NB188_177.1
   have hns47_2 := NB189_177.1
   have hms47_1 := NB177_188.1
   have hms47_2 := NB177_189.1
   have hs48 : w44.cell? ⟨gb177, 3, none⟩ = some (.int .i64 0) := (blk_cell BK177.1 3).trans rfl
   have hfs48 := blk_frozen BK177.1 3
   have hns48_1 := NB188_177.1
   have hns48_2 := NB189_177.1
   have hms48_1 := NB177_188.1
   have hms48_2 := NB177_189.1
   refine skip_ (w1 := ?_) (by rfl) rfl ?_ ?_
   rotate_left
   · go_simp
     rfl
   refine hK.out _ _ ⟨((cell_far (p := ⟨gb177, _, none⟩) NB189_177.1 _).trans (((cell_far (p := ⟨gb177, _, none⟩) NB189_177.1 _).trans (((cell_far (p := ⟨gb177, _, none⟩) NB189_177.1 _).trans (((cell_far (p := ⟨gb177, _, none⟩) NB189_177.1 _).trans (hHeld.1)))))))), ((cell_far (p := ⟨gb177, _, none⟩) NB189_177.1 _).trans (((cell_far (p := ⟨gb177, _, none⟩) NB189_177.1 _).trans (((cell_far (p := ⟨gb177, _, none⟩) NB189_177.1 _).trans (((cell_far (p := ⟨gb177, _, none⟩) NB189_177.1 _).trans (hHeld.2.1)))))))), ((cell_far (p := ⟨gb177, _, none⟩) NB189_177.1 _).trans (((cell_far (p := ⟨gb177, _, none⟩) NB189_177.1 _).trans (((cell_far (p := ⟨gb177, _, none⟩) NB189_177.1 _).trans (((cell_far (p := ⟨gb177, _, none⟩) NB189_177.1 _).trans (hHeld.2.2.1)))))))), ((cell_far (p := ⟨gb177, _, none⟩) NB189_177.1 _).trans (((cell_far (p := ⟨gb177, _, none⟩) NB189_177.1 _).trans (((cell_far (p := ⟨gb177, _, none⟩) NB189_177.1 _).trans (((cell_far (p := ⟨gb177, _, none⟩) NB189_177.1 _).trans (hHeld.2.2.2))))))))⟩ (fun hHeld => ?_)
   clear hK K
   refine done_ (by kernel_rfl) ?_
   try go_wp2
   refine bodyPost_ret (results_tc rfl _ _ gb177 28 #[.int .i64 t184, .string t185, .int .i64 t186, .int .i64 t187] (0, 0) _ rfl (kf BK177) Try.underlying28 rfl (by kernel_rfl)) rfl ?_
   exact ⟨_, by first | rfl | (simp [errW_none, errW_some] <;> rfl) | (simp [*, errW_none, errW_some] <;> rfl), by first | exact R_nil _ _ _ _ _ | exact N_nil _ _ _ _ _ | exact V_nil _ _ _ _ _ | exact Q_nil _ _ _ _ _ | exact S_nil _ _ _ _ _, hh HB⟩
 rw [if_pos c3] at H
 have c3b0 : (t184 == 0) = true := beq_iff_eq.mpr c3
 have c3b1 : (t184 != 0) = false := bne_eq_false_iff_eq.mpr c3
 clear c3
 replace H := Option.bind_eq_some_iff.mp H
 obtain ⟨t190, A40, H⟩ := H
 replace H : (m_Order.l0 k ([] : List ByteArray) t190 (t190.length : Int) 0 t178 t181) = some (r1, r2, r3, r4, r5) := H
 have A4 := aM A40
 clear A40
 have H' := aM H
 clear H
 go_enter Try.func10, Try.ntmps10
 go_wp2_with (first | ((with_reducible refine gate_dst (N := 3) rfl ?_); refine be 3 rfl rfl #[.int .i64 0, .string (⟨#[]⟩ : ByteArray), .int .i64 0, .int .i64 0] 28 ?_; intro gb177 hg w5 hbox hb; have BK177 := aM hbox; have GE177 := gs hg HB; replace HB := bs HB hb; clear hb hbox hg) | ((with_reducible refine gate_callee (f := 24) rfl ?_); refine gL (some 11) rfl rfl Try.func24 (by kernel_rfl) rfl #[.slice A0 l0.length c0] rfl ?_; (with_reducible refine (m_acyclic.calls k _ _ l0 t178 t181 t184 t185 t186 t187 _ ?side1 ?side2 A2.1).mono ?_); (case side1 => exact cb HR0 HB); (case side2 => exact HC0.1); rintro e w6 ⟨v179, v182, rfl, ho0, ho1, hb⟩; refine ⟨_, rfl, ?_⟩; have HO180 := aM (R_lower ho0 (below_size (hh HB))); have HO183 := aM (S_lower ho1 (below_size (hh HB))); replace BK177 := kb BK177 hb; replace HB := bs HB hb; clear hb ho0 ho1) | ((with_reducible refine gate_dst (N := 4) rfl ?_); refine be 4 rfl rfl #[.slice none 0 0, .slice none 0 0] 51 ?_; intro gb188 hg w7 hbox hb; have BK188 := aM hbox; have GE188 := gs hg HB; have NB177_188 := nl hg BK177; have NB188_177 := nr hg BK177; replace HO180 := rb HO180 hb; replace HO183 := sb HO183 hb; replace BK177 := kb BK177 hb; replace HB := bs HB hb; clear hb hbox hg) | ((with_reducible refine gate_dst (N := 5) rfl ?_); refine be 5 rfl rfl #[.int .i64 0, .string (⟨#[]⟩ : ByteArray), .int .i64 0, .int .i64 0] 28 ?_; intro gb189 hg w8 hbox hb; have BK189 := aM hbox; have GE189 := gs hg HB; have NB177_189 := nl hg BK177; have NB189_177 := nr hg BK177; have NB188_189 := nl hg BK188; have NB189_188 := nr hg BK188; replace HO180 := rb HO180 hb; replace HO183 := sb HO183 hb; replace BK177 := kb BK177 hb; replace BK188 := kb BK188 hb; replace HB := bs HB hb; clear hb hbox hg; obtain ⟨Ao9, co9, eo9⟩ := R_slice HO180.1; subst eo9; have hnb10 := NB188_177.1; have hnc10 := NB177_188.1; have hnb11 := NB188_189.1; have hnc11 := NB189_188.1; obtain ⟨hcz12_0, hcz12_1⟩ := cz2 BK188; obtain ⟨hfz12_0, hfz12_1⟩ := fz2 BK188; obtain ⟨Ao13, co13, eo13⟩ := S_slice HO183.1; subst eo13; have hnb14 := NB189_177.1; have hnc14 := NB177_189.1; obtain ⟨hcz15_0, hcz15_1, hcz15_2, hcz15_3⟩ := cz BK189; obtain ⟨hfz15_0, hfz15_1, hfz15_2, hfz15_3⟩ := fz BK189) | ((with_reducible refine gate_callee (f := 25) rfl ?_); refine gL (some 20) rfl rfl Try.func25 (by kernel_rfl) rfl #[.agg #[.slice Ao13 t181.length co13]] rfl ?_; (with_reducible refine (g_Components.calls k _ _ t181 t190 _ ?side1 ?side2 A4.1).mono ?_); (case side1 => exact c3 (sf24 HO183 BK188 (by decide) BK189 (by decide))); (case side2 => exact (S_reads' HO183.1).2.1); rintro e w16 ⟨v191, rfl, ho0, hb⟩; refine ⟨_, rfl, ?_⟩; have HO192 := aM (V_lower (V_mono (ok' := fun k_ => some k_ ≠ (.slice Ao9 t178.length co9 : Value).ownBlock /\ some k_ ≠ (.slice Ao13 t181.length co13 : Value).ownBlock /\ k_ ≠ gb177 /\ k_ ≠ gb188 /\ k_ ≠ gb189) ho0 (fun k_ hk_ => ⟨(Kd.fresh' (R_lt (rz (rf24 HO180 BK188 (by decide) BK189 (by decide)))) k_ hk_), (Kd.fresh' (S_lt (sz (sf24 HO183 BK188 (by decide) BK189 (by decide)))) k_ hk_), (Kd.freshB (g := gb177) (o := .cells #[.int .i64 0, .string (⟨#[]⟩ : ByteArray), .int .i64 0, .int .i64 0] 28 (0, 0)) (kf BK177) k_ hk_), (Kd.freshB (g := gb188) (o := .cells #[.slice Ao9 t178.length co9, .slice Ao13 t181.length co13] 51 (0, 0)) (kf BK188) k_ hk_), (Kd.freshB (g := gb189) (o := .cells #[.int .i64 t184, .string t185, .int .i64 t186, .int .i64 t187] 28 (0, 0)) (kf BK189) k_ hk_)⟩)) (below_size (hh HB))); replace HO180 := aM (R_below (rz (rf24 HO180 BK188 (by decide) BK189 (by decide))) hb); replace HO183 := aM (S_below (sz (sf24 HO183 BK188 (by decide) BK189 (by decide))) hb); replace BK177 := kg (o' := .cells #[.int .i64 0, .string (⟨#[]⟩ : ByteArray), .int .i64 0, .int .i64 0] 28 (0, 0)) BK177 hb; replace BK188 := kg (o' := .cells #[.slice Ao9 t178.length co9, .slice Ao13 t181.length co13] 51 (0, 0)) BK188 hb; replace BK189 := kg (o' := .cells #[.int .i64 t184, .string t185, .int .i64 t186, .int .i64 t187] 28 (0, 0)) BK189 hb; replace HB := bs HB hb; clear hb ho0; obtain ⟨Ao17, co17, eo17⟩ := V_slice HO192.1; subst eo17))
 go_loopg [6, 22] k (fun kq v6 v22 w' => ∃ (x6_1 : List ByteArray) (x22_1 : Int), v22 = .int .i64 x22_1 /\ Az (m_Order.l0 kq x6_1 t190 (t190.length : Int) x22_1 t178 t181 = some (r1, r2, r3, r4, r5)) /\ Az (kq <= k) /\ Az (Kd.R Kd.string 9 w' w.heap.size (fun k_ => some k_ ≠ ((.slice Ao9 t178.length co9) : Value).ownBlock) v6 x6_1) /\ Az (Kd.V (Kd.slice 3 (Kd.int .i64)) 55 w' w.heap.size (fun k_ => some k_ ≠ (v6 : Value).ownBlock /\ some k_ ≠ ((.slice Ao9 t178.length co9) : Value).ownBlock /\ some k_ ≠ ((.slice Ao13 t181.length co13) : Value).ownBlock /\ k_ ≠ gb177 /\ k_ ≠ gb188 /\ k_ ≠ gb189) (.slice Ao17 t190.length co17) t190) /\ Az (Kd.R Kd.string 9 w' w.heap.size (fun k_ => some k_ ≠ (v6 : Value).ownBlock) (.slice Ao9 t178.length co9) t178) /\ Az (Kd.S (Kd.slice 3 (Kd.int .i64)) 55 w' w.heap.size (fun _ => True) (.slice Ao13 t181.length co13) t181) /\ Az (w'.heap[gb177]? = some (.cells #[.int .i64 0, .string (⟨#[]⟩ : ByteArray), .int .i64 0, .int .i64 0] 28 (0, 0))) /\ Az (w'.heap[gb188]? = some (.cells #[(.slice Ao9 t178.length co9), (.slice Ao13 t181.length co13)] 51 (0, 0))) /\ Az (w'.heap[gb189]? = some (.cells #[.int .i64 t184, .string t185, .int .i64 t186, .int .i64 t187] 28 (0, 0))) /\ Az (Below w.heap.size w w'))
 case atStart => exact ⟨(([] : List ByteArray)), (0), rr, H', ⟨Nat.le_refl _⟩, ⟨by first | exact R_nil _ _ _ _ _ | exact N_nil _ _ _ _ _ | exact V_nil _ _ _ _ _ | exact Q_nil _ _ _ _ _ | exact S_nil _ _ _ _ _⟩, ⟨by (with_reducible repeat (first | apply V_alloc | apply V_drewN | apply V_drew)); exact V_mono HO192.1 (fun _ hk => ⟨(by simp [Value.ownBlock]), ⟨hk.1, ⟨hk.2.1, ⟨hk.2.2.1, ⟨hk.2.2.2.1, hk.2.2.2.2⟩⟩⟩⟩⟩)⟩, ⟨rz (R_mono HO180.1 (fun _ hk => (by simp [Value.ownBlock])))⟩, ⟨sk HO183⟩, ⟨kk BK177⟩, ⟨kk BK188⟩, ⟨kk BK189⟩, ⟨hh HB⟩⟩
 case round =>
  clear H'
  clear c3b0 c3b1 hcz12_0 hcz12_1 hcz15_0 hcz15_1 hcz15_2 hcz15_3 hfz12_0 hfz12_1 hfz15_0 hfz15_1 hfz15_2 hfz15_3
  obtain ⟨x6_1, x22_1, rfl, HA, HK1, HO_6, HO_20, HO_189000, HO_189001, BK177, BK188, BK189, HB⟩ := hrel
  cases gk with
  | zero => exact absurd HA.1 (by simp [m_Order.l0])
  | succ k1 =>
   have H := HA.1
   clear HA
   simp only [m_Order.l0] at H
   by_cases c18 : x22_1 < (t190.length : Int)
   rotate_left
   · rw [if_neg c18] at H
     have c18b0 : decide (x22_1 < (t190.length : Int)) = false := decide_eq_false c18
     clear c18
     simp only [Option.some.injEq, Prod.mk.injEq] at H
     obtain ⟨rfl, rfl, rfl, rfl, rfl⟩ := H
     have hnb29 := NB177_188.1
     have hnc29 := NB188_177.1
     have hnb30 := NB177_189.1
     have hnc30 := NB189_177.1
     obtain ⟨hcz31_0, hcz31_1, hcz31_2, hcz31_3⟩ := cz BK177
     obtain ⟨hfz31_0, hfz31_1, hfz31_2, hfz31_3⟩ := fz BK177
     go_wp2
     refine bodyPost_ret (results_tc rfl _ _ gb177 28 #[.int .i64 0, .string (⟨#[]⟩ : ByteArray), .int .i64 0, .int .i64 0] (0, 0) _ rfl (kf BK177) Try.underlying28 rfl (by kernel_rfl)) rfl ?_
     exact ⟨_, by first | rfl | (simp [errW_none, errW_some] <;> rfl) | (simp [*, errW_none, errW_some] <;> rfl), rz (R_mono (R_far (p := ⟨gb177, 3, none⟩) (R_far (p := ⟨gb177, 2, none⟩) (R_far (p := ⟨gb177, 1, none⟩) (R_far (p := ⟨gb177, 0, none⟩) (R_types HO_6.1 BK177.1 (by decide)) (fun _ hk => hk.2) (.int .i64 0)) (fun _ hk => hk.2) (.string (⟨#[]⟩ : ByteArray))) (fun _ hk => hk.2) (.int .i64 0)) (fun _ hk => hk.2) (.int .i64 0)) (fun _ hk => trivial)), hh HB⟩
   rw [if_pos c18] at H
   have c18b0 : decide (x22_1 < (t190.length : Int)) = true := decide_eq_true c18
   clear c18
   by_cases c19 : 0 <= x22_1
   rotate_left
   · rw [if_neg c19] at H
     exact absurd H (by simp)
   rw [if_pos c19] at H
   have c19b0 : decide (0 <= x22_1) = true := decide_eq_true c19
   clear c19
   by_cases c20 : x22_1 < (t190.length : Int)
   rotate_left
   · rw [if_neg c20] at H
     exact absurd H (by simp)
   rw [if_pos c20] at H
   have c20b0 : decide (x22_1 < (t190.length : Int)) = true := decide_eq_true c20
   clear c20
   replace H := Option.bind_eq_some_iff.mp H
   obtain ⟨t194, A210, H⟩ := H
   replace H : (if x6_1.length + t194.length < 8796093022208 then (m_Order.l0 k1 (x6_1 ++ t194) t190 (t190.length : Int) (wrap64 (x22_1 + 1)) t178 t181) else (none)) = some (r1, r2, r3, r4, r5) := H
   have A21 := aM A210
   clear A210
   by_cases c22 : x6_1.length + t194.length < 8796093022208
   rotate_left
   · rw [if_neg c22] at H
     exact absurd H (by simp)
   rw [if_pos c22] at H
   have LMc22 := aM c22
   clear c22
   obtain ⟨y197, hy197⟩ : ∃ y_ : List ByteArray, y_ = (x6_1 ++ t194) := ⟨_, rfl⟩
   replace H : (m_Order.l0 k1 y197 t190 (t190.length : Int) (wrap64 (x22_1 + 1)) t178 t181) = some (r1, r2, r3, r4, r5) := by first | (rw [hy197]; with_reducible exact H) | (have H2_ := (Option.bind_some _ _).symm.trans H; rw [hy197]; with_reducible exact H2_) | (have H2_ := (Option.bind_some _ _).symm.trans H; with_reducible exact H2_) | with_reducible exact H | (rw [hy197]; exact H) | exact H
   have Ny197 := aM hy197
   clear hy197
   have H' := aM H
   clear H
   have p193 : 0 <= (x22_1 : Int) := dt
   have q193 : x22_1 < (t190.length : Int) := dt
   obtain ⟨ad193, A193_0, c193_0, e193, hx193_0, hl193_0, hi193_0⟩ := at_L11 (V_reads' HO_20.1).2.2 x22_1 p193 q193
   cases e193
   obtain ⟨ce193, hce193, hMe193, hcc193⟩ := V_get HO_20.1 [] x22_1 p193 (by first | exact q193 | exact dt | (have e_ := (V_reads' HO_20.1).1; omega))
   obtain ⟨ua193_0, uc193_0, rfl, ul193_0, ge193_0⟩ := FK_slice_open hMe193
   have hv193_0 := hcc193 0 _ rfl
   rw [Nat.add_zero, show ((Kd.slice 3 (Kd.int .i64))).sz = 1 from rfl, Nat.mul_one] at hv193_0
   replace hv193_0 := Option.some.inj (hv193_0.symm.trans hx193_0)
   injection hv193_0 with hva_ hvn_ hvc_
   rw [hva_] at ge193_0
   rw [hvc_] at ul193_0
   have HL193_0 := aM (show Kd.V (Kd.int .i64) 3 _ w.heap.size _ _ (rd_L11 t190 x22_1) from V_mk ul193_0 ge193_0)
   clear hva_ hvn_ hvc_ ge193_0 ul193_0
   clear hcc193 hce193
   have HR193_0 := aM hi193_0
   have HC193_0 := aM hl193_0
   clear hi193_0 hl193_0
   replace p193 := eq_true p193
   replace q193 := eq_true q193
   have hnb23 := NB188_177.1
   have hnc23 := NB177_188.1
   have hnb24 := NB188_189.1
   have hnc24 := NB189_188.1
   obtain ⟨hcz25_0, hcz25_1⟩ := cz2 BK188
   obtain ⟨hfz25_0, hfz25_1⟩ := fz2 BK188
   go_wp2_with (first | ((with_reducible refine gate_callee (f := 26) rfl ?_); refine gL (some 29) rfl rfl Try.func26 (by kernel_rfl) rfl #[.agg #[.slice Ao9 t178.length co9, .slice Ao13 t181.length co13], .slice A193_0 (rd_L11 t190 x22_1).length c193_0] rfl ?_; (with_reducible refine (p_named.calls k1 _ _ t178 _ _ t181 _ _ (rd_L11 t190 x22_1) t194 _ ?side1 ?side2 ?side3 ?side4 ?side5 ?side6 A21.1).mono ?_); (case side1 => exact cr HO_189000); (case side2 => exact (R_reads' HO_189000.1).2.1); (case side3 => repeat (first | exact (S_reads' HO_189001.1).2.2 | (with_reducible refine C_alloc ?_ _) | (with_reducible refine C_drewN ?_ _) | (with_reducible refine C_drew ?_))); (case side4 => exact (S_reads' HO_189001.1).2.1); (case side5 => repeat (first | exact (by repeat (first | (with_reducible exact HR193_0.1) | (with_reducible refine C_alloc ?_ _) | (with_reducible refine C_drewN ?_ _) | (with_reducible refine C_drew ?_) | exact HR193_0.1)) | (with_reducible refine C_alloc ?_ _) | (with_reducible refine C_drewN ?_ _) | (with_reducible refine C_drew ?_))); (case side6 => exact HC193_0.1); rintro e w26 ⟨v195, rfl, ho0, hb⟩; refine ⟨_, rfl, ?_⟩; have HO196 := aM (R_lower (R_new' (R_new' ho0 (R_lt (rk HO_6))) (R_lt (rk HO_189000))) (below_size (hh HB))); replace HO_6 := aM (R_elder' (rk HO_6) (R_base ho0) hb); replace HO_20 := aM (V_elder' (by (with_reducible repeat (first | apply V_alloc | apply V_drewN | apply V_drew)); exact HO_20.1) (R_base ho0) hb); replace HO_189000 := aM (R_elder' (rk HO_189000) (R_base ho0) hb); replace HO_189001 := sb HO_189001 hb; replace HL193_0 := aM (V_elder' (by (with_reducible repeat (first | apply V_alloc | apply V_drewN | apply V_drew)); exact HL193_0.1) (R_base ho0) hb); replace BK177 := kb BK177 hb; replace BK188 := kb BK188 hb; replace BK189 := kb BK189 hb; replace HR193_0 := aM (C_below (by repeat (first | (with_reducible exact HR193_0.1) | (with_reducible refine C_alloc ?_ _) | (with_reducible refine C_drewN ?_ _) | (with_reducible refine C_drew ?_) | exact HR193_0.1)) hb); replace HB := bs HB hb; clear hb ho0; obtain ⟨Ao28, co28, eo28⟩ := R_slice HO196.1; subst eo28) | ((with_reducible refine gate_builtin (b := .append) (xs := #[.tmp 26, .tmp 29]) rfl ?_); at_builtin; refine R_append_rows Kd.string (w0 := w) w.heap.size rfl (.tmp 26) (.tmp 29) 25 9 (.string ⟨#[]⟩) 16 rfl Try.underlying25 info9 rfl (by decide) (by omega) u6 x6_1 t194 _ _ _ (fun k_ => some k_ ≠ (.slice Ao9 t178.length co9 : Value).ownBlock /\ some k_ ≠ (.slice Ao28 t194.length co28 : Value).ownBlock) (fun _ => False) rfl rfl ?aO ?aR (fun _ _ h => h) (fun _ h => h.elim) ?aF ?aB ?aS ?aL ?_; (case aR => exact cr HO196); (case aB => exact (hh HB)); (case aF => exact (fun k_ hk => ⟨Kd.fresh' (R_lt (rk HO_189000)) k_ hk, Kd.fresh' (R_lt (rk HO196)) k_ hk⟩)); (case aO => exact (rk HO_6)); (case aS => exact (below_size (hh HB))); (case aL => have := LMc22.1; omega); intro v198 w27 ho hb hg hat; rw [<- Ny197.1] at ho; have HO199 := aM (ho); replace HO_20 := aM (V_afterv (ok := (fun k_ => some k_ ≠ (.slice Ao9 t178.length co9 : Value).ownBlock /\ some k_ ≠ (.slice Ao13 t181.length co13 : Value).ownBlock /\ some k_ ≠ (.slice Ao28 t194.length co28 : Value).ownBlock /\ k_ ≠ gb177 /\ k_ ≠ gb188 /\ k_ ≠ gb189)) (by (with_reducible repeat (first | apply V_alloc | apply V_drewN | apply V_drew)); exact V_mono HO_20.1 (fun _ hk => ⟨⟨hk.1.2.1, ⟨hk.1.2.2.1, ⟨hk.2, ⟨hk.1.2.2.2.1, ⟨hk.1.2.2.2.2.1, hk.1.2.2.2.2.2⟩⟩⟩⟩⟩, hk.1.1⟩)) hg hat); replace HO_189000 := aM (R_after (ok := (fun k_ => some k_ ≠ (.slice Ao28 t194.length co28 : Value).ownBlock)) (rz (R_mono HO_189000.1 (fun _ hk => ⟨hk.2, hk.1⟩))) hg hat); replace HO_189001 := aM (S_over' (sk HO_189001) (R_typed (rk HO_6)) (by decide) hg); replace BK177 := aM (blk_grown (g := gb177) (o := .cells #[.int .i64 0, .string (⟨#[]⟩ : ByteArray), .int .i64 0, .int .i64 0] 28 (0, 0)) (kk BK177) hg (R_ne HO_6.1 BK177.1 (by decide))); replace BK188 := aM (blk_grown (g := gb188) (o := .cells #[.slice Ao9 t178.length co9, .slice Ao13 t181.length co13] 51 (0, 0)) (kk BK188) hg (R_ne HO_6.1 BK188.1 (by decide))); replace BK189 := aM (blk_grown (g := gb189) (o := .cells #[.int .i64 t184, .string t185, .int .i64 t186, .int .i64 t187] 28 (0, 0)) (kk BK189) hg (R_ne HO_6.1 BK189.1 (by decide))); replace HL193_0 := aM (V_afterv (ok := (fun k_ => some k_ ≠ (.slice Ao9 t178.length co9 : Value).ownBlock /\ some k_ ≠ (.slice Ao13 t181.length co13 : Value).ownBlock /\ some k_ ≠ (.slice Ao28 t194.length co28 : Value).ownBlock /\ k_ ≠ gb177 /\ k_ ≠ gb188 /\ k_ ≠ gb189)) (by (with_reducible repeat (first | apply V_alloc | apply V_drewN | apply V_drew)); exact V_mono HL193_0.1 (fun _ hk => ⟨⟨hk.1.2.1, ⟨hk.1.2.2.1, ⟨hk.2, ⟨hk.1.2.2.2.1, ⟨hk.1.2.2.2.2.1, hk.1.2.2.2.2.2⟩⟩⟩⟩⟩, hk.1.1⟩)) hg hat); replace HO196 := aM (R_after (ok := (fun k_ => some k_ ≠ (.slice Ao9 t178.length co9 : Value).ownBlock)) (rz (R_mono HO196.1 (fun _ hk => ⟨hk.2, hk.1.2⟩))) hg hat); replace HB := aM (hb); clear HO_6; clear ho hb hg hat))
   go_roundg k1
   case measure => have := HK1.1; omega
   case rel => exact ⟨(y197), (wrap64 (x22_1 + 1)), rr, H', ⟨by have := HK1.1; omega⟩, ⟨rz (R_mono HO199.1 (fun _ hk => hk.1))⟩, ⟨by (with_reducible repeat (first | apply V_alloc | apply V_drewN | apply V_drew)); exact V_mono HO_20.1 (fun _ hk => ⟨hk.2, ⟨hk.1.1, ⟨hk.1.2.1, ⟨hk.1.2.2.2.1, ⟨hk.1.2.2.2.2.1, hk.1.2.2.2.2.2⟩⟩⟩⟩⟩)⟩, ⟨rz (R_mono HO_189000.1 (fun _ hk => hk.2))⟩, ⟨sk HO_189001⟩, ⟨kk BK177⟩, ⟨kk BK188⟩, ⟨kk BK189⟩, ⟨hh HB⟩⟩
noncomputable def w_same.l0 : Nat -> List ByteArray -> List ByteArray -> Int -> Option (Bool)
 | 0, _, _, _ => none
 | k + 1, x0, x1, x5 => if x5 < (x0.length : Int) then (if 0 <= x5 then (if x5 < (x1.length : Int) then (if (rdOf ByteArray.empty x0 x5).toList = (rdOf ByteArray.empty x1 x5).toList then (w_same.l0 k x0 x1 (wrap64 (x5 + 1))) else (some false)) else (none)) else (none)) else (some true)
noncomputable def w_same.f (k : Nat) (l0 : List ByteArray) (l1 : List ByteArray) : Option (Bool) := if (l0.length : Int) = (l1.length : Int) then (w_same.l0 k l0 l1 0) else (some false)
theorem w_same.calls (k : Nat) (A0 : Option Addr) (c0 : Nat) (l0 : List ByteArray) (A1 : Option Addr) (c1 : Nat) (l1 : List ByteArray) (r : Bool) (w : World) (hr0 : Kd.C Kd.string w A0 l0.length l0) (hc0 : l0.length <= c0) (hr1 : Kd.C Kd.string w A1 l1.length l1) (hc1 : l1.length <= c1) (h : w_same.f k l0 l1 = some r) :
 Calls Try.prog 14 #[.slice A0 l0.length c0, .slice A1 l1.length c1] w fun e w' => e = .returned (.bool r) /\ Drawn0 w w' := by
 have HR0 := aM hr0
 have HC0 := aM hc0
 clear hr0 hc0
 have HR1 := aM hr1
 have HC1 := aM hc1
 clear hr1 hc1
 have H : (if (l0.length : Int) = (l1.length : Int) then (w_same.l0 k l0 l1 0) else (some false)) = some r := h
 clear h
 by_cases c3 : (l0.length : Int) = (l1.length : Int)
 rotate_left
 · rw [if_neg c3] at H
   have c3b0 : ((l0.length : Int) == (l1.length : Int)) = false := beq_eq_false_iff_ne.mpr c3
   have c3b1 : ((l0.length : Int) != (l1.length : Int)) = true := bne_iff_ne.mpr c3
   have c3b2 : (l0.length == l1.length) = false := by first | simpa using c3 | (simp at c3 ⊢; omega)
   obtain rfl := Option.some.inj H
   go_enter Try.func14, Try.ntmps14
   go_wp2
   repeat (go_quiet (fail); try go_wp2)
   go_ret
   exact ⟨by first | rfl | (simp; done) | (simp [*]; done), by repeat (first | exact Drawn0.refl _ | apply Drawn0.step)⟩
 rw [if_pos c3] at H
 have c3b0 : ((l0.length : Int) == (l1.length : Int)) = true := beq_iff_eq.mpr c3
 have c3b1 : ((l0.length : Int) != (l1.length : Int)) = false := bne_eq_false_iff_eq.mpr c3
 have c3b2 : (l0.length == l1.length) = true := by first | simpa using c3 | (simp at c3 ⊢; omega)
 clear c3
 have H' := aM H
 clear H
 go_enter Try.func14, Try.ntmps14
 go_wp2
 repeat (go_quiet (fail); try go_wp2)
 go_loopg [5] k (fun kq v5 w' => ∃ (x5_1 : Int), v5 = .int .i64 x5_1 /\ Az (w_same.l0 kq l0 l1 x5_1 = some r) /\ Az (kq <= k) /\ Drawn0 w w')
 case atStart => exact ⟨(0), rr, H', ⟨Nat.le_refl _⟩, by repeat (first | exact Drawn0.refl _ | apply Drawn0.step)⟩
 case round =>
  clear H'
  clear c3b0 c3b1 c3b2
  obtain ⟨x5_1, rfl, HA, HK1, ⟨m1, rfl⟩⟩ := hrel
  cases gk with
  | zero => exact absurd HA.1 (by simp [w_same.l0])
  | succ k1 =>
   have H := HA.1
   clear HA
   simp only [w_same.l0] at H
   by_cases c4 : x5_1 < (l0.length : Int)
   rotate_left
   · rw [if_neg c4] at H
     have c4b0 : decide (x5_1 < (l0.length : Int)) = false := decide_eq_false c4
     clear c4
     obtain rfl := Option.some.inj H
     go_wp2
     repeat (go_quiet (fail); try go_wp2)
     go_ret
     exact ⟨by first | rfl | (simp; done) | (simp [*]; done), by repeat (first | exact Drawn0.refl _ | apply Drawn0.step)⟩
   rw [if_pos c4] at H
   have c4b0 : decide (x5_1 < (l0.length : Int)) = true := decide_eq_true c4
   clear c4
   by_cases c5 : 0 <= x5_1
   rotate_left
   · rw [if_neg c5] at H
     exact absurd H (by simp)
   rw [if_pos c5] at H
   have c5b0 : decide (0 <= x5_1) = true := decide_eq_true c5
   clear c5
   by_cases c6 : x5_1 < (l1.length : Int)
   rotate_left
   · rw [if_neg c6] at H
     exact absurd H (by simp)
   rw [if_pos c6] at H
   have c6b0 : decide (x5_1 < (l1.length : Int)) = true := decide_eq_true c6
   clear c6
   by_cases c7 : (rdOf ByteArray.empty l0 x5_1).toList = (rdOf ByteArray.empty l1 x5_1).toList
   rotate_left
   · rw [if_neg c7] at H
     have c7b0 : ((rdOf ByteArray.empty l0 x5_1).toList == (rdOf ByteArray.empty l1 x5_1).toList) = false := beq_eq_false_iff_ne.mpr c7
     have c7b1 : ((rdOf ByteArray.empty l0 x5_1).toList != (rdOf ByteArray.empty l1 x5_1).toList) = true := bne_iff_ne.mpr c7
     obtain rfl := Option.some.inj H
     have p226 : 0 <= (x5_1 : Int) := dt
     have q226 : x5_1 < (l0.length : Int) := dt
     obtain ⟨ad226, e226, hx226_0⟩ := Kd.at_string HR0.1 x5_1 p226 q226
     cases e226
     replace p226 := eq_true p226
     replace q226 := eq_true q226
     have p227 : 0 <= (x5_1 : Int) := dt
     have q227 : x5_1 < (l1.length : Int) := dt
     obtain ⟨ad227, e227, hx227_0⟩ := Kd.at_string HR1.1 x5_1 p227 q227
     cases e227
     replace p227 := eq_true p227
     replace q227 := eq_true q227
     go_wp2
     repeat (go_quiet (fail); try go_wp2)
     go_ret
     exact ⟨by first | rfl | (simp; done) | (simp [*]; done), by repeat (first | exact Drawn0.refl _ | apply Drawn0.step)⟩
   rw [if_pos c7] at H
   have c7b0 : ((rdOf ByteArray.empty l0 x5_1).toList == (rdOf ByteArray.empty l1 x5_1).toList) = true := beq_iff_eq.mpr c7
   have c7b1 : ((rdOf ByteArray.empty l0 x5_1).toList != (rdOf ByteArray.empty l1 x5_1).toList) = false := bne_eq_false_iff_eq.mpr c7
   clear c7
   have H' := aM H
   clear H
   have p226 : 0 <= (x5_1 : Int) := dt
   have q226 : x5_1 < (l0.length : Int) := dt
   obtain ⟨ad226, e226, hx226_0⟩ := Kd.at_string HR0.1 x5_1 p226 q226
   cases e226
   replace p226 := eq_true p226
   replace q226 := eq_true q226
   have p227 : 0 <= (x5_1 : Int) := dt
   have q227 : x5_1 < (l1.length : Int) := dt
   obtain ⟨ad227, e227, hx227_0⟩ := Kd.at_string HR1.1 x5_1 p227 q227
   cases e227
   replace p227 := eq_true p227
   replace q227 := eq_true q227
   go_wp2
   repeat (go_quiet (fail); try go_wp2)
   go_roundg k1
   case measure => have := HK1.1; omega
   case rel => exact ⟨(wrap64 (x5_1 + 1)), rr, H', ⟨by have := HK1.1; omega⟩, by repeat (first | exact Drawn0.refl _ | apply Drawn0.step)⟩
noncomputable def w_module.l0 : Nat -> List ByteArray -> Int -> ByteArray -> Bool -> List (S66) -> RawS -> Option (ByteArray × Bool × (List (S138)) × (List (S66)) × RawS)
 | 0, _, _, _, _, _, _ => none
 | k + 1, x1, x6, x296000, x296001, x296003, x296004 => if x6 < (x1.length : Int) then (if 0 <= x6 then (if x296003.length < 1954687338268 then (w_module.l0 k x1 (wrap64 (x6 + 1)) x296000 x296001 (x296003 ++ [(⟨rdOf ByteArray.empty x1 x6, false, (⟨#[]⟩ : ByteArray), false, false, ([] : List (S138))⟩ : S66)]) x296004) else (none)) else (none)) else (some (x296000, x296001, ([] : List (S138)), x296003, x296004))
noncomputable def w_module.f (k : Nat) (a0 : ByteArray) (l1 : List ByteArray) : Option (ByteArray × Bool × (List (S138)) × (List (S66)) × RawS) := w_module.l0 k l1 0 a0 false ([] : List (S66)) RawS.nil
noncomputable def w_module.T5 : Bool × List (List Nat × List Nat) := (true, [([], []), ([0], [0]), ([], []), ([], []), ([2, 3], [2, 3]), ([4], [4]), ([5], [5]), ([6], [6]), ([1, 7], [1, 7]), ([0, 1, 2, 3, 4, 5, 6, 7, 8], []), ([9, 8, 8, 0, 1, 2, 3, 4, 5, 6, 7, 8], [8, 9])])
noncomputable def w_module.B5 : List Nat := [0, 1, 0, 0, 12, 28, 60, 124, 255, 511, 1023]
theorem w_module.tab5 : rtab .any (opsOf Try.f23 5) = w_module.T5 := by kernel_rfl
theorem w_module.bits5 : waitsOk w_module.T5.2 w_module.B5 = true := by kernel_rfl
theorem w_module.calls (k : Nat) (a0 : ByteArray) (A1 : Option Addr) (c1 : Nat) (l1 : List ByteArray) (r1 : ByteArray) (r2 : Bool) (r3 : List (S138)) (r4 : List (S66)) (r5 : RawS) (w : World) (hr1 : Kd.C Kd.string w A1 l1.length l1) (hc1 : l1.length <= c1) (h : w_module.f k a0 l1 = some (r1, r2, r3, r4, r5)) :
 Calls Try.prog 23 #[.string a0, .slice A1 l1.length c1] w fun e w' => ∃ v2_ v3_ : Value, e = .returned (.agg #[.string r1, .bool r2, v2_, v3_, .slice r5.a r5.n r5.c]) /\ Kd.S k138 138 w' w.heap.size (fun _ => True) v2_ r3 /\ Kd.R k66 66 w' w.heap.size (fun k_ => some k_ ≠ (v2_ : Value).ownBlock) v3_ r4 /\ Below w.heap.size w w' := by
 have hu42 := Try.underlying42
 have hu66 := Try.underlying66
 have HR1 := aM hr1
 have HC1 := aM hc1
 clear hr1 hc1
 have HB := aM (Below.refl w.heap.size w)
 have H : (w_module.l0 k l1 0 a0 false ([] : List (S66)) RawS.nil) = some (r1, r2, r3, r4, r5) := h
 clear h
 have H' := aM H
 clear H
 go_enter Try.func23, Try.ntmps23
 go_wp2_with (first | ((with_reducible refine gate_dst (N := 4) rfl ?_); refine be 4 rfl rfl #[.string (⟨#[]⟩ : ByteArray), .bool false, .slice none 0 0, .slice none 0 0, .slice RawS.nil.a RawS.nil.n RawS.nil.c] 42 ?_; intro gb294 hg w3 hbox hb; have BK294 := aM hbox; have GE294 := gs hg HB; replace HB := bs HB hb; clear hb hbox hg) | ((with_reducible refine gate_dst (N := 5) rfl ?_); refine be 5 rfl rfl #[.string (⟨#[]⟩ : ByteArray), .bool false, .slice none 0 0, .slice none 0 0, .slice RawS.nil.a RawS.nil.n RawS.nil.c] 42 ?_; intro gb295 hg w4 hbox hb; have BK295 := aM hbox; have GE295 := gs hg HB; have NB294_295 := nl hg BK294; have NB295_294 := nr hg BK294; replace BK294 := kb BK294 hb; replace HB := bs HB hb; clear hb hbox hg; have hnb5 := NB295_294.1; have hnc5 := NB294_295.1; have hcz6_0 : w4.cell? ⟨gb295, 0, none⟩ = some (.string (⟨#[]⟩ : ByteArray)) := (blk_cell BK295.1 0).trans rfl; have hcz6_1 : w4.cell? ⟨gb295, 1, none⟩ = some (.bool false) := (blk_cell BK295.1 1).trans rfl; have hcz6_2 : w4.cell? ⟨gb295, 2, none⟩ = some (.slice none 0 0) := (blk_cell BK295.1 2).trans rfl; have hcz6_3 : w4.cell? ⟨gb295, 3, none⟩ = some (.slice none 0 0) := (blk_cell BK295.1 3).trans rfl; have hcz6_4 : w4.cell? ⟨gb295, 4, none⟩ = some (.slice RawS.nil.a RawS.nil.n RawS.nil.c) := (blk_cell BK295.1 4).trans rfl; have hfz6_0 := blk_frozen BK295.1 0; have hfz6_1 := blk_frozen BK295.1 1; have hfz6_2 := blk_frozen BK295.1 2; have hfz6_3 := blk_frozen BK295.1 3; have hfz6_4 := blk_frozen BK295.1 4))
 go_loopg [6] k (fun kq v6 w' => ∃ (x6_1 : Int) (x296003_1 : List (S66)) (u296003 : Value), v6 = .int .i64 x6_1 /\ Az (w_module.l0 kq l1 x6_1 a0 false x296003_1 RawS.nil = some (r1, r2, r3, r4, r5)) /\ Az (kq <= k) /\ Az (Kd.R k66 66 w' w.heap.size (fun _ => True) u296003 x296003_1) /\ Az (w'.heap[gb294]? = some (.cells #[.string (⟨#[]⟩ : ByteArray), .bool false, (.slice none 0 0), (.slice none 0 0), .slice RawS.nil.a RawS.nil.n RawS.nil.c] 42 (0, 0))) /\ Az (w'.heap[gb295]? = some (.cells #[.string a0, .bool false, (.slice none 0 0), u296003, .slice RawS.nil.a RawS.nil.n RawS.nil.c] 42 (0, 0))) /\ Az (Below w.heap.size w w'))
 case atStart => exact ⟨(0), (([] : List (S66))), (.slice none 0 0), rr, H', ⟨Nat.le_refl _⟩, ⟨by first | exact R_nil _ _ _ _ _ | exact N_nil _ _ _ _ _ | exact V_nil _ _ _ _ _ | exact Q_nil _ _ _ _ _ | exact S_nil _ _ _ _ _⟩, ⟨kf BK294⟩, ⟨by (with_reducible repeat (first | refine kN ?_ _ | refine kD ?_ | refine kA ?_ _)); refine blk_put (cs := #[.string a0, .bool false, .slice none 0 0, .slice none 0 0, .slice RawS.nil.a RawS.nil.n RawS.nil.c]) ?_ 4 _ rfl; (with_reducible repeat (first | refine kN ?_ _ | refine kD ?_ | refine kA ?_ _)); refine blk_put (cs := #[.string a0, .bool false, .slice none 0 0, .slice none 0 0, .slice RawS.nil.a RawS.nil.n RawS.nil.c]) ?_ 3 _ rfl; (with_reducible repeat (first | refine kN ?_ _ | refine kD ?_ | refine kA ?_ _)); refine blk_put (cs := #[.string a0, .bool false, .slice none 0 0, .slice none 0 0, .slice RawS.nil.a RawS.nil.n RawS.nil.c]) ?_ 2 _ rfl; (with_reducible repeat (first | refine kN ?_ _ | refine kD ?_ | refine kA ?_ _)); refine blk_put (cs := #[.string a0, .bool false, .slice none 0 0, .slice none 0 0, .slice RawS.nil.a RawS.nil.n RawS.nil.c]) ?_ 1 _ rfl; (with_reducible repeat (first | refine kN ?_ _ | refine kD ?_ | refine kA ?_ _)); refine blk_put (cs := #[.string (⟨#[]⟩ : ByteArray), .bool false, .slice none 0 0, .slice none 0 0, .slice RawS.nil.a RawS.nil.n RawS.nil.c]) ?_ 0 _ rfl; (with_reducible repeat (first | refine kN ?_ _ | refine kD ?_ | refine kA ?_ _)); exact BK295.1⟩, ⟨hh HB⟩⟩
 case round =>
  clear H'
  clear hcz6_0 hcz6_1 hcz6_2 hcz6_3 hcz6_4 hfz6_0 hfz6_1 hfz6_2 hfz6_3 hfz6_4
  obtain ⟨x6_1, x296003_1, u296003, rfl, HA, HK1, HO_296003, BK294, BK295, HB⟩ := hrel
  cases gk with
  | zero => exact absurd HA.1 (by simp [w_module.l0])
  | succ k1 =>
   have H := HA.1
   clear HA
   simp only [w_module.l0] at H
   by_cases c7 : x6_1 < (l1.length : Int)
   rotate_left
   · rw [if_neg c7] at H
     have c7b0 : decide (x6_1 < (l1.length : Int)) = false := decide_eq_false c7
     clear c7
     simp only [Option.some.injEq, Prod.mk.injEq] at H
     obtain ⟨rfl, rfl, rfl, rfl, rfl⟩ := H
     have hnb14 := NB295_294.1
     have hnc14 := NB294_295.1
     obtain ⟨hcz15_0, hcz15_1, hcz15_2, hcz15_3⟩ := cz BK295
     have hcz15_4 : wr.cell? ⟨gb295, 4, none⟩ = some (.slice RawS.nil.a RawS.nil.n RawS.nil.c) := (blk_cell BK295.1 4).trans rfl
     obtain ⟨hfz15_0, hfz15_1, hfz15_2, hfz15_3⟩ := fz BK295
     have hfz15_4 := blk_frozen BK295.1 4
     obtain ⟨hcz16_0, hcz16_1, hcz16_2, hcz16_3⟩ := cz BK294
     have hcz16_4 : wr.cell? ⟨gb294, 4, none⟩ = some (.slice RawS.nil.a RawS.nil.n RawS.nil.c) := (blk_cell BK294.1 4).trans rfl
     obtain ⟨hfz16_0, hfz16_1, hfz16_2, hfz16_3⟩ := fz BK294
     have hfz16_4 := blk_frozen BK294.1 4
     obtain ⟨Ao17, co17, eo17⟩ := R_slice HO_296003.1
     subst eo17
     go_wp2
     refine bodyPost_ret (results_cell_row rfl _ _ gb294 42 #[.string a0, .bool false, .slice none 0 0, .slice Ao17 x296003_1.length co17, .slice RawS.nil.a RawS.nil.n RawS.nil.c] (0, 0) _ rfl (by (with_reducible repeat (first | refine kN ?_ _ | refine kD ?_ | refine kA ?_ _)); refine blk_put (cs := #[.string a0, .bool false, .slice none 0 0, .slice Ao17 x296003_1.length co17, .slice RawS.nil.a RawS.nil.n RawS.nil.c]) ?_ 4 _ rfl; (with_reducible repeat (first | refine kN ?_ _ | refine kD ?_ | refine kA ?_ _)); refine blk_put (cs := #[.string a0, .bool false, .slice none 0 0, .slice none 0 0, .slice RawS.nil.a RawS.nil.n RawS.nil.c]) ?_ 3 _ rfl; (with_reducible repeat (first | refine kN ?_ _ | refine kD ?_ | refine kA ?_ _)); refine blk_put (cs := #[.string a0, .bool false, .slice none 0 0, .slice none 0 0, .slice RawS.nil.a RawS.nil.n RawS.nil.c]) ?_ 2 _ rfl; (with_reducible repeat (first | refine kN ?_ _ | refine kD ?_ | refine kA ?_ _)); refine blk_put (cs := #[.string a0, .bool false, .slice none 0 0, .slice none 0 0, .slice RawS.nil.a RawS.nil.n RawS.nil.c]) ?_ 1 _ rfl; (with_reducible repeat (first | refine kN ?_ _ | refine kD ?_ | refine kA ?_ _)); refine blk_put (cs := #[.string (⟨#[]⟩ : ByteArray), .bool false, .slice none 0 0, .slice none 0 0, .slice RawS.nil.a RawS.nil.n RawS.nil.c]) ?_ 0 _ rfl; (with_reducible repeat (first | refine kN ?_ _ | refine kD ?_ | refine kA ?_ _)); exact BK294.1) Try.underlying42 rfl (by kernel_rfl)) rfl ?_
     exact ⟨_, _, by first | rfl | (simp [errW_none, errW_some] <;> rfl) | (simp [*, errW_none, errW_some] <;> rfl), by first | exact S_nil _ _ _ _ _ | exact N_nil _ _ _ _ _ | exact V_nil _ _ _ _ _ | exact Q_nil _ _ _ _ _ | exact R_nil _ _ _ _ _, rz (R_mono (R_far (p := ⟨gb294, 4, none⟩) (R_far (p := ⟨gb294, 3, none⟩) (R_far (p := ⟨gb294, 2, none⟩) (R_far (p := ⟨gb294, 1, none⟩) (R_far (p := ⟨gb294, 0, none⟩) (R_types HO_296003.1 BK294.1 (by decide)) (fun _ hk => hk.2) (.string a0)) (fun _ hk => hk.2) (.bool false)) (fun _ hk => hk.2) (.slice none 0 0)) (fun _ hk => hk.2) (.slice Ao17 x296003_1.length co17)) (fun _ hk => hk.2) (.slice RawS.nil.a RawS.nil.n RawS.nil.c)) (fun _ hk => (by simp [Value.ownBlock]))), hh HB⟩
   rw [if_pos c7] at H
   have c7b0 : decide (x6_1 < (l1.length : Int)) = true := decide_eq_true c7
   clear c7
   by_cases c8 : 0 <= x6_1
   rotate_left
   · rw [if_neg c8] at H
     exact absurd H (by simp)
   rw [if_pos c8] at H
   have c8b0 : decide (0 <= x6_1) = true := decide_eq_true c8
   clear c8
   by_cases c9 : x296003_1.length < 1954687338268
   rotate_left
   · rw [if_neg c9] at H
     exact absurd H (by simp)
   rw [if_pos c9] at H
   have LMc9 := aM c9
   clear c9
   obtain ⟨y297, hy297⟩ : ∃ y_ : List (S66), y_ = (x296003_1 ++ [(⟨rdOf ByteArray.empty l1 x6_1, false, (⟨#[]⟩ : ByteArray), false, false, ([] : List (S138))⟩ : S66)]) := ⟨_, rfl⟩
   replace H : (w_module.l0 k1 l1 (wrap64 (x6_1 + 1)) a0 false y297 RawS.nil) = some (r1, r2, r3, r4, r5) := by first | (rw [hy297]; with_reducible exact H) | (have H2_ := (Option.bind_some _ _).symm.trans H; rw [hy297]; with_reducible exact H2_) | (have H2_ := (Option.bind_some _ _).symm.trans H; with_reducible exact H2_) | with_reducible exact H | (rw [hy297]; exact H) | exact H
   have Ny297 := aM hy297
   clear hy297
   have H' := aM H
   clear H
   try go_wp2
   replace HO_296003 := aM (R_drew HO_296003.1)
   replace BK294 := aM (blk_drew BK294.1)
   replace BK295 := aM (blk_drew BK295.1)
   replace HB := aM (below_drew1 HB.1)
   have p296 : 0 <= (x6_1 : Int) := dt
   have q296 : x6_1 < (l1.length : Int) := dt
   obtain ⟨ad296, e296, hx296_0⟩ := Kd.at_string HR1.1 x6_1 p296 q296
   have hw296_0 := hx296_0
   cases e296
   replace hx296_0 := hx HB hx296_0
   replace p296 := eq_true p296
   replace q296 := eq_true q296
   refine start_ (n := 11) (S := fun w' => w'.cell? ⟨gb295, 0, none⟩ = some (.string a0) /\ w'.cell? ⟨gb295, 1, none⟩ = some (.bool false) /\ w'.cell? ⟨gb295, 2, none⟩ = some (.slice none 0 0) /\ w'.cell? ⟨gb295, 3, none⟩ = some (u296003) /\ w'.cell? ⟨gb295, 4, none⟩ = some (.slice RawS.nil.a RawS.nil.n RawS.nil.c) /\ w'.cell? (ad296.add (x6_1).toNat) = some (.string (rdOf ByteArray.empty l1 x6_1))) (ds := [10]) #[F_, F_, F_, F_, F_, F_, F_, F_, F_, F_, F_] (by kernel_rfl) rfl rfl ⟨(blk_cell BK295.1 0).trans rfl, (blk_cell BK295.1 1).trans rfl, (blk_cell BK295.1 2).trans rfl, (blk_cell BK295.1 3).trans rfl, (blk_cell BK295.1 4).trans rfl, (hx HB hw296_0)⟩ (fun hHeld => ?_); refine with_tabW w_module.tab5 w_module.bits5 (fun HT_ HW_ => ?_)
   generalize wr.drew = w10 at HO_296003 BK294 BK295 HB hx296_0 hHeld ⊢
   refine pure_ (i := 0) (N := some 15) (v := ?_) (a' := ?_) #[T_, F_, F_, F_, F_, F_, F_, F_, F_, F_, F_] rfl rfl (any_of HT_.1 (by kernel_rfl)) (fun _ _ _ h => h) (Or.inl ⟨by rfl, ?_⟩) ?_ ?_
   rotate_left
   · intro w'
     go_simp
     with_reducible rfl
   rotate_left
   · simp only [Act.put, sA, sZ, sS, i64_w, i32_w]
     rfl
   refine pure_ (i := 2) (N := some 17) (v := ?_) (a' := ?_) #[T_, F_, T_, F_, F_, F_, F_, F_, F_, F_, F_] rfl rfl (any_of HT_.1 (by kernel_rfl)) (fun _ _ _ h => h) (Or.inl ⟨by rfl, ?_⟩) ?_ ?_
   rotate_left
   · intro w'
     go_simp
     with_reducible rfl
   rotate_left
   · simp only [Act.put, sA, sZ, sS, i64_w, i32_w]
     rfl
   refine pure_ (i := 3) (N := some 18) (v := ?_) (a' := ?_) #[T_, F_, T_, T_, F_, F_, F_, F_, F_, F_, F_] rfl rfl (any_of HT_.1 (by kernel_rfl)) (fun _ _ _ h => h) (Or.inl ⟨by rfl, ?_⟩) ?_ ?_
   rotate_left
   · intro w'
     go_simp
     with_reducible rfl
   rotate_left
   · simp only [Act.put, sA, sZ, sS, i64_w, i32_w]
     rfl
   refine pure_ (i := 4) (N := some 19) (v := ?_) (a' := ?_) #[T_, F_, T_, T_, T_, F_, F_, F_, F_, F_, F_] rfl rfl (any_of HT_.1 (by kernel_rfl)) (fun _ _ _ h => h) (Or.inl ⟨by rfl, ?_⟩) ?_ ?_
   rotate_left
   · intro w'
     go_simp
     with_reducible rfl
   rotate_left
   · simp only [Act.put, sA, sZ, sS, i64_w, i32_w]
     rfl
   refine take_ (i := 1) (N := some 16) (v := ?_) (a' := ?_) #[T_, T_, T_, T_, T_, F_, F_, F_, F_, F_, F_] rfl rfl (take_ofW HT_.1 HW_.1 (by kernel_rfl)) (fun _ _ _ h => h) (Or.inl ⟨by rfl, ?_⟩) hHeld ?_ ?_
   rotate_left
   · rintro w' ⟨s0, s1, s2, s3, s4, s5⟩
     go_simp
     with_reducible rfl
   rotate_left
   · simp only [Act.put, sA, sZ, sS, i64_w, i32_w]
     rfl
   refine take_ (i := 5) (N := some 20) (v := ?_) (a' := ?_) #[T_, T_, T_, T_, T_, T_, F_, F_, F_, F_, F_] rfl rfl (take_ofW HT_.1 HW_.1 (by kernel_rfl)) (fun _ _ _ h => h) (Or.inl ⟨by rfl, ?_⟩) hHeld ?_ ?_
   rotate_left
   · rintro w' ⟨s0, s1, s2, s3, s4, s5⟩
     go_simp
     with_reducible rfl
   rotate_left
   · simp only [Act.put, sA, sZ, sS, i64_w, i32_w]
     rfl
   refine pure_ (i := 6) (N := some 21) (v := ?_) (a' := ?_) #[T_, T_, T_, T_, T_, T_, T_, F_, F_, F_, F_] rfl rfl (any_of HT_.1 (by kernel_rfl)) (fun _ _ _ h => h) (Or.inl ⟨by rfl, ?_⟩) ?_ ?_
   rotate_left
   · intro w'
     go_simp
     with_reducible rfl
   rotate_left
   · simp only [Act.put, sA, sZ, sS, i64_w, i32_w]
     rfl
   refine one_ (i := 7) (N := some 22) #[T_, T_, T_, T_, T_, T_, T_, T_, F_, F_, F_] rfl rfl (one_of HT_.1 (by kernel_rfl)) (by decide) (fun K hK => ?_)
   refine value_ (w1 := ?_) (v := ?_) (by rfl) rfl ?_ ?_
   rotate_left 2
   · go_simp
     constructor
     · rfl
     · rfl
   refine hK.out _ _ ⟨(blk_cell (blk_alloc BK295.1 _) 0).trans rfl, (blk_cell (blk_alloc BK295.1 _) 1).trans rfl, (blk_cell (blk_alloc BK295.1 _) 2).trans rfl, (blk_cell (blk_alloc BK295.1 _) 3).trans rfl, (blk_cell (blk_alloc BK295.1 _) 4).trans rfl, (World.cell?_alloc_lt _ _ _ (World.block_lt_of_cell? _ _ ((hx HB hw296_0)))).trans ((hx HB hw296_0))⟩ (fun hHeld => ?_)
   clear hK K
   refine norm_ (a' := ?_) ?_ ?_
   rotate_left
   · show Act.put _ (some 22) _ = _
     simp only [Act.put, sA, sZ, sS, i64_w, i32_w]
     rfl
   refine one_ (i := 8) (N := some 23) #[T_, T_, T_, T_, T_, T_, T_, T_, T_, F_, F_] rfl rfl (one_of HT_.1 (by kernel_rfl)) (by decide) (fun K hK => ?_)
   refine R_append_step k66 (w0 := w) w.heap.size (by rfl) (.tmp 16) (.tmp 22) 39 66 (.agg #[(.string ⟨#[]⟩), (.bool false), (.string ⟨#[]⟩), (.bool false), (.bool false), (.slice none 0 0)]) 72 rfl Try.underlying39 info66 rfl (by decide) (by omega) u296003 x296003_1 (⟨rdOf ByteArray.empty l1 x6_1, false, (⟨#[]⟩ : ByteArray), false, false, ([] : List (S138))⟩ : S66) [.string (rdOf ByteArray.empty l1 x6_1), .bool false, .string (⟨#[]⟩ : ByteArray), .bool false, .bool false, .slice none 0 0] (fun _ => True) (fun k_ => ((fun _ => True)) k_ /\ some k_ ≠ (u296003 : Value).ownBlock) rfl rfl ?aP (fun _ hk => hk) ?aF ?aO ?aB ?aS ?aL ?_
   (case aP => exact k66_mkM _ _ _ (⟨rdOf ByteArray.empty l1 x6_1, false, (⟨#[]⟩ : ByteArray), false, false, ([] : List (S138))⟩ : S66) (R_nil _ _ _ _ _))
   (case aB => exact (hh HB))
   (case aF => exact (fun _ _ => trivial))
   (case aO => exact (rk HO_296003))
   (case aS => exact (below_size (hh HB)))
   (case aL => have := LMc9.1; omega)
   intro v298 w11 ho hb hg hat
   rw [<- Ny297.1] at ho
   have HO299 := aM (ho)
   replace BK294 := aM (blk_grown (g := gb294) (o := .cells #[.string (⟨#[]⟩ : ByteArray), .bool false, .slice none 0 0, .slice none 0 0, .slice RawS.nil.a RawS.nil.n RawS.nil.c] 42 (0, 0)) (kk BK294) hg (R_ne HO_296003.1 BK294.1 (by decide)))
   replace BK295 := aM (blk_grown (g := gb295) (o := .cells #[.string a0, .bool false, .slice none 0 0, u296003, .slice RawS.nil.a RawS.nil.n RawS.nil.c] 42 (0, 0)) (kk BK295) hg (R_ne HO_296003.1 BK295.1 (by decide)))
   replace HB := aM (hb)
   clear HO_296003
   clear ho hb hg hat
   obtain ⟨Ao12, co12, eo12⟩ := R_slice HO299.1
   (first | subst eo12 | (injection eo12 with f1_ f2_ f3_; have f4_ := f1_.symm; have f5_ := f3_.symm; clear f1_ f2_ f3_; subst f4_; subst f5_))
   refine hK.out _ _ ⟨(blk_cell BK295.1 0).trans rfl, (blk_cell BK295.1 1).trans rfl, (blk_cell BK295.1 2).trans rfl, (blk_cell BK295.1 3).trans rfl, (blk_cell BK295.1 4).trans rfl, (hx HB hw296_0)⟩ (fun hHeld => ?_)
   clear hK K
   refine norm_ (a' := ?_) ?_ ?_
   rotate_left
   · show Act.put _ (some 23) _ = _
     simp only [Act.put, sA, sZ, sS, i64_w, i32_w]
     rfl
   refine pure_ (i := 9) (N := some 24) (v := ?_) (a' := ?_) #[T_, T_, T_, T_, T_, T_, T_, T_, T_, T_, F_] rfl rfl (any_of HT_.1 (by kernel_rfl)) (fun _ _ _ h => h) (Or.inl ⟨by rfl, ?_⟩) ?_ ?_
   rotate_left
   · intro w'
     go_simp
     with_reducible rfl
   rotate_left
   · simp only [Act.put, sA, sZ, sS, i64_w, i32_w]
     rfl
   refine last_ (i := 10) (N := none) #[T_, T_, T_, T_, T_, T_, T_, T_, T_, T_, T_] rfl rfl (one_of HT_.1 (by kernel_rfl)) (by decide) (fun K hK => ?_)
   have hs13 : w11.cell? ⟨gb295, 3, none⟩ = some (u296003) := (blk_cell BK295.1 3).trans rfl
   have hfs13 := blk_frozen BK295.1 3
   have hns13_0 := NB294_295.1
   have hms13_0 := NB295_294.1
   refine skip_ (w1 := ?_) (by rfl) rfl ?_ ?_
   rotate_left
   · go_simp
     rfl
   refine hK.out _ _ ?_
   clear hK K
   refine done_ (done_of HT_.1 (by kernel_rfl)) ?_
   try go_wp2
   go_roundg k1
   case measure => have := HK1.1; omega
   case rel => exact ⟨(wrap64 (x6_1 + 1)), (y297), (.slice Ao12 y297.length co12), rr, H', ⟨by have := HK1.1; omega⟩, ⟨rz (R_mono (R_far (p := ⟨gb295, 3, none⟩) (R_types HO299.1 BK295.1 (by decide)) (fun _ hk => hk.2) (.slice Ao12 y297.length co12)) (fun _ hk => trivial))⟩, ⟨kf BK294⟩, ⟨by (with_reducible repeat (first | refine kN ?_ _ | refine kD ?_ | refine kA ?_ _)); refine blk_put (cs := #[.string a0, .bool false, .slice none 0 0, u296003, .slice RawS.nil.a RawS.nil.n RawS.nil.c]) ?_ 3 _ rfl; (with_reducible repeat (first | refine kN ?_ _ | refine kD ?_ | refine kA ?_ _)); exact BK295.1⟩, ⟨hh HB⟩⟩
noncomputable def q_Has.l0 : Nat -> List ByteArray -> ByteArray -> Int -> Option (Bool)
 | 0, _, _, _ => none
 | k + 1, x0, x1, x5 => if x5 < (x0.length : Int) then (if 0 <= x5 then (if (rdOf ByteArray.empty x0 x5).toList = x1.toList then (some true) else (q_Has.l0 k x0 x1 (wrap64 (x5 + 1)))) else (none)) else (some false)
noncomputable def q_Has.f (k : Nat) (l0 : List ByteArray) (a1 : ByteArray) : Option (Bool) := q_Has.l0 k l0 a1 0
theorem q_Has.calls (k : Nat) (A0 : Option Addr) (c0 : Nat) (l0 : List ByteArray) (a1 : ByteArray) (r : Bool) (w : World) (hr0 : Kd.C Kd.string w A0 l0.length l0) (hc0 : l0.length <= c0) (h : q_Has.f k l0 a1 = some r) :
 Calls Try.prog 21 #[.slice A0 l0.length c0, .string a1] w fun e w' => e = .returned (.bool r) /\ Drawn0 w w' := by
 have HR0 := aM hr0
 have HC0 := aM hc0
 clear hr0 hc0
 have H : (q_Has.l0 k l0 a1 0) = some r := h
 clear h
 have H' := aM H
 clear H
 go_enter Try.func21, Try.ntmps21
 go_wp2
 go_loopg [5] k (fun kq v5 w' => ∃ (x5_1 : Int), v5 = .int .i64 x5_1 /\ Az (q_Has.l0 kq l0 a1 x5_1 = some r) /\ Az (kq <= k) /\ Drawn0 w w')
 case atStart => exact ⟨(0), rr, H', ⟨Nat.le_refl _⟩, by repeat (first | exact Drawn0.refl _ | apply Drawn0.step)⟩
 case round =>
  clear H'
  obtain ⟨x5_1, rfl, HA, HK1, ⟨m1, rfl⟩⟩ := hrel
  cases gk with
  | zero => exact absurd HA.1 (by simp [q_Has.l0])
  | succ k1 =>
   have H := HA.1
   clear HA
   simp only [q_Has.l0] at H
   by_cases c3 : x5_1 < (l0.length : Int)
   rotate_left
   · rw [if_neg c3] at H
     have c3b0 : decide (x5_1 < (l0.length : Int)) = false := decide_eq_false c3
     clear c3
     obtain rfl := Option.some.inj H
     go_wp2
     go_ret
     exact ⟨by first | rfl | (simp; done) | (simp [*]; done), by repeat (first | exact Drawn0.refl _ | apply Drawn0.step)⟩
   rw [if_pos c3] at H
   have c3b0 : decide (x5_1 < (l0.length : Int)) = true := decide_eq_true c3
   clear c3
   by_cases c4 : 0 <= x5_1
   rotate_left
   · rw [if_neg c4] at H
     exact absurd H (by simp)
   rw [if_pos c4] at H
   have c4b0 : decide (0 <= x5_1) = true := decide_eq_true c4
   clear c4
   by_cases c5 : (rdOf ByteArray.empty l0 x5_1).toList = a1.toList
   · rw [if_pos c5] at H
     have c5b0 : ((rdOf ByteArray.empty l0 x5_1).toList == a1.toList) = true := beq_iff_eq.mpr c5
     have c5b1 : ((rdOf ByteArray.empty l0 x5_1).toList != a1.toList) = false := bne_eq_false_iff_eq.mpr c5
     clear c5
     obtain rfl := Option.some.inj H
     have p300 : 0 <= (x5_1 : Int) := dt
     have q300 : x5_1 < (l0.length : Int) := dt
     obtain ⟨ad300, e300, hx300_0⟩ := Kd.at_string HR0.1 x5_1 p300 q300
     cases e300
     replace p300 := eq_true p300
     replace q300 := eq_true q300
     go_wp2
     go_ret
     exact ⟨by first | rfl | (simp; done) | (simp [*]; done), by repeat (first | exact Drawn0.refl _ | apply Drawn0.step)⟩
   rw [if_neg c5] at H
   have c5b0 : ((rdOf ByteArray.empty l0 x5_1).toList == a1.toList) = false := beq_eq_false_iff_ne.mpr c5
   have c5b1 : ((rdOf ByteArray.empty l0 x5_1).toList != a1.toList) = true := bne_iff_ne.mpr c5
   have H' := aM H
   clear H
   have p300 : 0 <= (x5_1 : Int) := dt
   have q300 : x5_1 < (l0.length : Int) := dt
   obtain ⟨ad300, e300, hx300_0⟩ := Kd.at_string HR0.1 x5_1 p300 q300
   cases e300
   replace p300 := eq_true p300
   replace q300 := eq_true q300
   go_wp2
   go_roundg k1
   case measure => have := HK1.1; omega
   case rel => exact ⟨(wrap64 (x5_1 + 1)), rr, H', ⟨by have := HK1.1; omega⟩, by repeat (first | exact Drawn0.refl _ | apply Drawn0.step)⟩
mutual
noncomputable def r_Insert.l0 : Nat -> List ByteArray -> ByteArray -> List ByteArray -> Bool -> Int -> Option (List ByteArray)
 | 0, _, _, _, _, _ => none
 | k + 1, x0, x1, x5, x6, x7 => if x7 < (x0.length : Int) then (if x6 = true then (r_Insert.j1 k x0 x1 x5 x6 x7 false) else (if 0 <= x7 then (r_Insert.j1 k x0 x1 x5 x6 x7 (!(Op.bytesLess ((rdOf ByteArray.empty x0 x7).toList) x1.toList))) else (none))) else (if x6 = true then (some x5) else (if x5.length < 8796093022208 then (some (x5 ++ [x1])) else (none)))
noncomputable def r_Insert.j1 : Nat -> List ByteArray -> ByteArray -> List ByteArray -> Bool -> Int -> Bool -> Option (List ByteArray)
 | 0, _, _, _, _, _, _ => none
 | k + 1, x0, x1, x5, x6, x7, x23 => if x23 = true then (if 0 <= x7 then (if x7 < (x0.length : Int) then (if (Op.bytesLess x1.toList ((rdOf ByteArray.empty x0 x7).toList)) = true then (if x5.length < 8796093022208 then ((some (x5 ++ [x1] : List ByteArray)).bind fun y306 => (if y306.length < 8796093022208 then (r_Insert.l0 k x0 x1 (y306 ++ [rdOf ByteArray.empty x0 x7]) true (wrap64 (x7 + 1))) else (none))) else (none)) else (if x5.length < 8796093022208 then (r_Insert.l0 k x0 x1 (x5 ++ [rdOf ByteArray.empty x0 x7]) true (wrap64 (x7 + 1))) else (none))) else (none)) else (none)) else (if 0 <= x7 then (if x7 < (x0.length : Int) then (if x5.length < 8796093022208 then (r_Insert.l0 k x0 x1 (x5 ++ [rdOf ByteArray.empty x0 x7]) x6 (wrap64 (x7 + 1))) else (none)) else (none)) else (none))
end
noncomputable def r_Insert.f (k : Nat) (l0 : List ByteArray) (a1 : ByteArray) : Option (List ByteArray) := r_Insert.l0 k l0 a1 ([] : List ByteArray) false 0
theorem r_Insert.calls (k : Nat) (A0 : Option Addr) (c0 : Nat) (l0 : List ByteArray) (a1 : ByteArray) (r : List ByteArray) (w : World) (hr0 : Kd.C Kd.string w A0 l0.length l0) (hc0 : l0.length <= c0) (h : r_Insert.f k l0 a1 = some r) :
 Calls Try.prog 38 #[.slice A0 l0.length c0, .string a1] w fun e w' => ∃ v0_ : Value, e = .returned (v0_) /\ Kd.R Kd.string 9 w' w.heap.size (fun _ => True) v0_ r /\ Below w.heap.size w w' := by
 have HR0 := aM hr0
 have HC0 := aM hc0
 clear hr0 hc0
 have HB := aM (Below.refl w.heap.size w)
 have H : (r_Insert.l0 k l0 a1 ([] : List ByteArray) false 0) = some r := h
 clear h
 have H' := aM H
 clear H
 go_enter Try.func38, Try.ntmps38
 go_wp2
 go_loopg [5, 6, 7] k (fun kq v5 v6 v7 w' => ∃ (x5_1 : List ByteArray) (x6_1 : Bool) (x7_1 : Int), v6 = .bool x6_1 /\ v7 = .int .i64 x7_1 /\ Az (r_Insert.l0 kq l0 a1 x5_1 x6_1 x7_1 = some r) /\ Az (kq <= k) /\ Az (Kd.R Kd.string 9 w' w.heap.size (fun _ => True) v5 x5_1) /\ Az (Below w.heap.size w w'))
 case atStart => exact ⟨(([] : List ByteArray)), (false), (0), rr, rr, H', ⟨Nat.le_refl _⟩, ⟨by first | exact R_nil _ _ _ _ _ | exact N_nil _ _ _ _ _ | exact V_nil _ _ _ _ _ | exact Q_nil _ _ _ _ _ | exact S_nil _ _ _ _ _⟩, ⟨hh HB⟩⟩
 case round =>
  clear H'
  obtain ⟨x5_1, x6_1, x7_1, rfl, rfl, HA, HK1, HO_5, HB⟩ := hrel
  cases gk with
  | zero => exact absurd HA.1 (by simp [r_Insert.l0])
  | succ k1 =>
   have H := HA.1
   clear HA
   simp only [r_Insert.l0] at H
   by_cases c3 : x7_1 < (l0.length : Int)
   rotate_left
   · rw [if_neg c3] at H
     have c3b0 : decide (x7_1 < (l0.length : Int)) = false := decide_eq_false c3
     clear c3
     by_cases c21 : x6_1 = true
     · subst c21
       rw [if_pos rfl] at H
       obtain rfl := Option.some.inj H
       go_wp2
       go_ret
       exact ⟨_, by first | rfl | (simp [errW_none, errW_some] <;> rfl) | (simp [*, errW_none, errW_some] <;> rfl), rk HO_5, hh HB⟩
     replace c21 := Bool.eq_false_iff.mpr c21
     subst c21
     rw [if_neg (show ¬ (false = true) by decide)] at H
     by_cases c22 : x5_1.length < 8796093022208
     rotate_left
     · rw [if_neg c22] at H
       exact absurd H (by simp)
     rw [if_pos c22] at H
     have LMc22 := aM c22
     clear c22
     obtain ⟨y301, hy301⟩ : ∃ y_ : List ByteArray, y_ = (x5_1 ++ [a1]) := ⟨_, rfl⟩
     replace H : (some y301) = some r := by first | (rw [hy301]; with_reducible exact H) | (have H2_ := (Option.bind_some _ _).symm.trans H; rw [hy301]; with_reducible exact H2_) | (have H2_ := (Option.bind_some _ _).symm.trans H; with_reducible exact H2_) | with_reducible exact H | (rw [hy301]; exact H) | exact H
     have Ny301 := aM hy301
     clear hy301
     obtain rfl := Option.some.inj H
     go_wp2_with (first | ((with_reducible refine gate_builtin (b := .append) (xs := #[.tmp 43, .tmp 45]) rfl ?_); at_builtin; refine R_append Kd.string (w0 := w) w.heap.size rfl (.tmp 43) (.tmp 45) 25 9 (.string ⟨#[]⟩) 16 rfl Try.underlying25 info9 rfl (by decide) (by omega) u5 x5_1 a1 [.string a1] (fun _ => True) (fun _ => False) rfl rfl ?aP (fun _ hk => hk.elim) ?aF ?aO ?aB ?aS ?aL ?_; (case aP => exact rfl); (case aB => exact (hh HB)); (case aF => exact (fun _ _ => trivial)); (case aO => exact (rk HO_5)); (case aS => exact (below_size (hh HB))); (case aL => have := LMc22.1; omega); intro v302 w23 ho hb hg hat; rw [<- Ny301.1] at ho; have HO303 := aM (ho); replace HB := aM (hb); clear HO_5; clear ho hb hg hat))
     go_ret
     exact ⟨_, by first | rfl | (simp [errW_none, errW_some] <;> rfl) | (simp [*, errW_none, errW_some] <;> rfl), rk HO303, hh HB⟩
   rw [if_pos c3] at H
   have c3b0 : decide (x7_1 < (l0.length : Int)) = true := decide_eq_true c3
   clear c3
   have HC4 := aM H
   clear H
   go_upto_region 6 with (fail)
   go_cut [23] (fun v23 wc => ∃ (kq : Nat) (x23_3 : Bool), v23 = .bool x23_3 /\ Az (r_Insert.j1 kq l0 a1 x5_1 x6_1 x7_1 x23_3 = some r) /\ Az (kq <= k1) /\ Az (Kd.R Kd.string 9 wc w.heap.size (fun _ => True) u5 x5_1) /\ Az (Below w.heap.size w wc))
   case first =>
    have H := HC4.1
    clear HC4
    by_cases c5 : x6_1 = true
    · subst c5
      rw [if_pos rfl] at H
      have H' := aM H
      clear H
      go_wp2
      go_meet
      case rel => exact ⟨_, (false), rr, H', (ol HK1), ⟨rk HO_5⟩, ⟨hh HB⟩⟩
    replace c5 := Bool.eq_false_iff.mpr c5
    subst c5
    rw [if_neg (show ¬ (false = true) by decide)] at H
    by_cases c6 : 0 <= x7_1
    rotate_left
    · rw [if_neg c6] at H
      exact absurd H (by simp)
    rw [if_pos c6] at H
    have c6b0 : decide (0 <= x7_1) = true := decide_eq_true c6
    clear c6
    (first | rw [c6b0] | (simp only [i64_w, i32_w]; rw [c6b0]) | skip)
    have H' := aM H
    clear H
    have p304 : 0 <= (x7_1 : Int) := dt
    have q304 : x7_1 < (l0.length : Int) := dt
    obtain ⟨ad304, e304, hx304_0⟩ := Kd.at_string HR0.1 x7_1 p304 q304
    cases e304
    replace hx304_0 := hx HB hx304_0
    replace p304 := eq_true p304
    replace q304 := eq_true q304
    go_wp2
    go_meet
    case rel => exact ⟨_, (!(Op.bytesLess ((rdOf ByteArray.empty l0 x7_1).toList) a1.toList)), rr, H', (ol HK1), ⟨rk HO_5⟩, ⟨hh HB⟩⟩
   case rest =>
    clear HC4
    clear c3b0
    obtain ⟨kq, x23_3, rfl, HA, HJ3, HO_5, HB⟩ := hcut
    cases kq with
    | zero => exact absurd HA.1 (by simp [r_Insert.j1])
    | succ kj3 =>
     have H := HA.1
     clear HA
     simp only [r_Insert.j1] at H
     by_cases c7 : x23_3 = true
     rotate_left
     · replace c7 := Bool.eq_false_iff.mpr c7
       subst c7
       rw [if_neg (show ¬ (false = true) by decide)] at H
       by_cases c17 : 0 <= x7_1
       rotate_left
       · rw [if_neg c17] at H
         exact absurd H (by simp)
       rw [if_pos c17] at H
       have c17b0 : decide (0 <= x7_1) = true := decide_eq_true c17
       clear c17
       by_cases c18 : x7_1 < (l0.length : Int)
       rotate_left
       · rw [if_neg c18] at H
         exact absurd H (by simp)
       rw [if_pos c18] at H
       have c18b0 : decide (x7_1 < (l0.length : Int)) = true := decide_eq_true c18
       clear c18
       by_cases c19 : x5_1.length < 8796093022208
       rotate_left
       · rw [if_neg c19] at H
         exact absurd H (by simp)
       rw [if_pos c19] at H
       have LMc19 := aM c19
       clear c19
       obtain ⟨y318, hy318⟩ : ∃ y_ : List ByteArray, y_ = (x5_1 ++ [rdOf ByteArray.empty l0 x7_1]) := ⟨_, rfl⟩
       replace H : (r_Insert.l0 kj3 l0 a1 y318 x6_1 (wrap64 (x7_1 + 1))) = some r := by first | (rw [hy318]; with_reducible exact H) | (have H2_ := (Option.bind_some _ _).symm.trans H; rw [hy318]; with_reducible exact H2_) | (have H2_ := (Option.bind_some _ _).symm.trans H; with_reducible exact H2_) | with_reducible exact H | (rw [hy318]; exact H) | exact H
       have Ny318 := aM hy318
       clear hy318
       have H' := aM H
       clear H
       have p317 : 0 <= (x7_1 : Int) := dt
       have q317 : x7_1 < (l0.length : Int) := dt
       obtain ⟨ad317, e317, hx317_0⟩ := Kd.at_string HR0.1 x7_1 p317 q317
       cases e317
       replace hx317_0 := hx HB hx317_0
       replace p317 := eq_true p317
       replace q317 := eq_true q317
       go_wp2_with (first | ((with_reducible refine gate_builtin (b := .append) (xs := #[.tmp 34, .tmp 39]) rfl ?_); at_builtin; refine R_append Kd.string (w0 := w) w.heap.size rfl (.tmp 34) (.tmp 39) 25 9 (.string ⟨#[]⟩) 16 rfl Try.underlying25 info9 rfl (by decide) (by omega) u5 x5_1 (rdOf ByteArray.empty l0 x7_1) [.string (rdOf ByteArray.empty l0 x7_1)] (fun _ => True) (fun _ => False) rfl rfl ?aP (fun _ hk => hk.elim) ?aF ?aO ?aB ?aS ?aL ?_; (case aP => exact rfl); (case aB => exact (hh HB)); (case aF => exact (fun _ _ => trivial)); (case aO => exact (rk HO_5)); (case aS => exact (below_size (hh HB))); (case aL => have := LMc19.1; omega); intro v319 w20 ho hb hg hat; rw [<- Ny318.1] at ho; have HO320 := aM (ho); replace HB := aM (hb); clear HO_5; clear ho hb hg hat))
       go_roundg kj3
       case measure => have := HK1.1; have := HJ3.1; omega
       case rel => exact ⟨(y318), (x6_1), (wrap64 (x7_1 + 1)), rr, rr, H', ⟨by have := HK1.1; have := HJ3.1; omega⟩, ⟨rk HO320⟩, ⟨hh HB⟩⟩
     subst c7
     rw [if_pos rfl] at H
     by_cases c8 : 0 <= x7_1
     rotate_left
     · rw [if_neg c8] at H
       exact absurd H (by simp)
     rw [if_pos c8] at H
     have c8b0 : decide (0 <= x7_1) = true := decide_eq_true c8
     clear c8
     by_cases c9 : x7_1 < (l0.length : Int)
     rotate_left
     · rw [if_neg c9] at H
       exact absurd H (by simp)
     rw [if_pos c9] at H
     have c9b0 : decide (x7_1 < (l0.length : Int)) = true := decide_eq_true c9
     clear c9
     by_cases c10 : (Op.bytesLess a1.toList ((rdOf ByteArray.empty l0 x7_1).toList)) = true
     rotate_left
     · rw [if_neg c10] at H
       have c10b0 : (Op.bytesLess a1.toList ((rdOf ByteArray.empty l0 x7_1).toList)) = false := by simpa using c10
       clear c10
       by_cases c15 : x5_1.length < 8796093022208
       rotate_left
       · rw [if_neg c15] at H
         exact absurd H (by simp)
       rw [if_pos c15] at H
       have LMc15 := aM c15
       clear c15
       obtain ⟨y314, hy314⟩ : ∃ y_ : List ByteArray, y_ = (x5_1 ++ [rdOf ByteArray.empty l0 x7_1]) := ⟨_, rfl⟩
       replace H : (r_Insert.l0 kj3 l0 a1 y314 true (wrap64 (x7_1 + 1))) = some r := by first | (rw [hy314]; with_reducible exact H) | (have H2_ := (Option.bind_some _ _).symm.trans H; rw [hy314]; with_reducible exact H2_) | (have H2_ := (Option.bind_some _ _).symm.trans H; with_reducible exact H2_) | with_reducible exact H | (rw [hy314]; exact H) | exact H
       have Ny314 := aM hy314
       clear hy314
       have H' := aM H
       clear H
       have p305 : 0 <= (x7_1 : Int) := dt
       have q305 : x7_1 < (l0.length : Int) := dt
       obtain ⟨ad305, e305, hx305_0⟩ := Kd.at_string HR0.1 x7_1 p305 q305
       cases e305
       replace hx305_0 := hx HB hx305_0
       replace p305 := eq_true p305
       replace q305 := eq_true q305
       have p313 : 0 <= (x7_1 : Int) := dt
       have q313 : x7_1 < (l0.length : Int) := dt
       obtain ⟨ad313, e313, hx313_0⟩ := Kd.at_string HR0.1 x7_1 p313 q313
       obtain rfl : ad305 = ad313 := (by injection e313)
       replace hx313_0 := hx HB hx313_0
       replace p313 := eq_true p313
       replace q313 := eq_true q313
       go_wp2_with (first | ((with_reducible refine gate_builtin (b := .append) (xs := #[.tmp 34, .tmp 39]) rfl ?_); at_builtin; refine R_append Kd.string (w0 := w) w.heap.size rfl (.tmp 34) (.tmp 39) 25 9 (.string ⟨#[]⟩) 16 rfl Try.underlying25 info9 rfl (by decide) (by omega) u5 x5_1 (rdOf ByteArray.empty l0 x7_1) [.string (rdOf ByteArray.empty l0 x7_1)] (fun _ => True) (fun _ => False) rfl rfl ?aP (fun _ hk => hk.elim) ?aF ?aO ?aB ?aS ?aL ?_; (case aP => exact rfl); (case aB => exact (hh HB)); (case aF => exact (fun _ _ => trivial)); (case aO => exact (rk HO_5)); (case aS => exact (below_size (hh HB))); (case aL => have := LMc15.1; omega); intro v315 w16 ho hb hg hat; rw [<- Ny314.1] at ho; have HO316 := aM (ho); replace HB := aM (hb); clear HO_5; clear ho hb hg hat))
       go_roundg kj3
       case measure => have := HK1.1; have := HJ3.1; omega
       case rel => exact ⟨(y314), (true), (wrap64 (x7_1 + 1)), rr, rr, H', ⟨by have := HK1.1; have := HJ3.1; omega⟩, ⟨rk HO316⟩, ⟨hh HB⟩⟩
     rw [if_pos c10] at H
     have c10b0 : (Op.bytesLess a1.toList ((rdOf ByteArray.empty l0 x7_1).toList)) = true := c10
     clear c10
     by_cases c11 : x5_1.length < 8796093022208
     rotate_left
     · rw [if_neg c11] at H
       exact absurd H (by simp)
     rw [if_pos c11] at H
     have LMc11 := aM c11
     clear c11
     obtain ⟨y306, hy306⟩ : ∃ y_ : List ByteArray, y_ = (x5_1 ++ [a1]) := ⟨_, rfl⟩
     replace H : (if y306.length < 8796093022208 then (r_Insert.l0 kj3 l0 a1 (y306 ++ [rdOf ByteArray.empty l0 x7_1]) true (wrap64 (x7_1 + 1))) else (none)) = some r := by first | (rw [hy306]; with_reducible exact H) | (have H2_ := (Option.bind_some _ _).symm.trans H; rw [hy306]; with_reducible exact H2_) | (have H2_ := (Option.bind_some _ _).symm.trans H; with_reducible exact H2_) | with_reducible exact H | (rw [hy306]; exact H) | exact H
     have Ny306 := aM hy306
     clear hy306
     by_cases c12 : y306.length < 8796093022208
     rotate_left
     · rw [if_neg c12] at H
       exact absurd H (by simp)
     rw [if_pos c12] at H
     have LMc12 := aM c12
     clear c12
     obtain ⟨y310, hy310⟩ : ∃ y_ : List ByteArray, y_ = (y306 ++ [rdOf ByteArray.empty l0 x7_1]) := ⟨_, rfl⟩
     replace H : (r_Insert.l0 kj3 l0 a1 y310 true (wrap64 (x7_1 + 1))) = some r := by first | (rw [hy310]; with_reducible exact H) | (have H2_ := (Option.bind_some _ _).symm.trans H; rw [hy310]; with_reducible exact H2_) | (have H2_ := (Option.bind_some _ _).symm.trans H; with_reducible exact H2_) | with_reducible exact H | (rw [hy310]; exact H) | exact H
     have Ny310 := aM hy310
     clear hy310
     have H' := aM H
     clear H
     have p305 : 0 <= (x7_1 : Int) := dt
     have q305 : x7_1 < (l0.length : Int) := dt
     obtain ⟨ad305, e305, hx305_0⟩ := Kd.at_string HR0.1 x7_1 p305 q305
     cases e305
     replace hx305_0 := hx HB hx305_0
     replace p305 := eq_true p305
     replace q305 := eq_true q305
     go_wp2_with (first | ((with_reducible refine gate_builtin (b := .append) (xs := #[.tmp 30, .tmp 32]) rfl ?_); at_builtin; refine R_append Kd.string (w0 := w) w.heap.size rfl (.tmp 30) (.tmp 32) 25 9 (.string ⟨#[]⟩) 16 rfl Try.underlying25 info9 rfl (by decide) (by omega) u5 x5_1 a1 [.string a1] (fun _ => True) (fun _ => False) rfl rfl ?aP (fun _ hk => hk.elim) ?aF ?aO ?aB ?aS ?aL ?_; (case aP => exact rfl); (case aB => exact (hh HB)); (case aF => exact (fun _ _ => trivial)); (case aO => exact (rk HO_5)); (case aS => exact (below_size (hh HB))); (case aL => have := LMc11.1; omega); intro v307 w13 ho hb hg hat; rw [<- Ny306.1] at ho; have HO308 := aM (ho); replace HB := aM (hb); clear HO_5; clear ho hb hg hat; have p309 : 0 <= (x7_1 : Int) := dt; have q309 : x7_1 < (l0.length : Int) := dt; obtain ⟨ad309, e309, hx309_0⟩ := Kd.at_string HR0.1 x7_1 p309 q309; obtain rfl : ad305 = ad309 := (by injection e309); replace hx309_0 := hx HB hx309_0; replace p309 := eq_true p309; replace q309 := eq_true q309) | ((with_reducible refine gate_builtin (b := .append) (xs := #[.tmp 34, .tmp 39]) rfl ?_); at_builtin; refine R_append Kd.string (w0 := w) w.heap.size rfl (.tmp 34) (.tmp 39) 25 9 (.string ⟨#[]⟩) 16 rfl Try.underlying25 info9 rfl (by decide) (by omega) v307 y306 (rdOf ByteArray.empty l0 x7_1) [.string (rdOf ByteArray.empty l0 x7_1)] (fun _ => True) (fun _ => False) rfl rfl ?aP (fun _ hk => hk.elim) ?aF ?aO ?aB ?aS ?aL ?_; (case aP => exact rfl); (case aB => exact (hh HB)); (case aF => exact (fun _ _ => trivial)); (case aO => exact (rk HO308)); (case aS => exact (below_size (hh HB))); (case aL => have := LMc12.1; omega); intro v311 w14 ho hb hg hat; rw [<- Ny310.1] at ho; have HO312 := aM (ho); replace HB := aM (hb); clear HO308; clear ho hb hg hat))
     go_roundg kj3
     case measure => have := HK1.1; have := HJ3.1; omega
     case rel => exact ⟨(y310), (true), (wrap64 (x7_1 + 1)), rr, rr, H', ⟨by have := HK1.1; have := HJ3.1; omega⟩, ⟨rk HO312⟩, ⟨hh HB⟩⟩
mutual
noncomputable def r_Imports.l0 : Nat -> List (S42) -> ByteArray -> List ByteArray -> Int -> Option (List ByteArray)
 | 0, _, _, _, _ => none
 | k + 1, x0, x1, x5, x6 => if x6 < (x0.length : Int) then (r_Imports.l1 k x0 x1 x5 x6 0) else (some x5)
noncomputable def r_Imports.l1 : Nat -> List (S42) -> ByteArray -> List ByteArray -> Int -> Int -> Option (List ByteArray)
 | 0, _, _, _, _, _ => none
 | k + 1, x0, x1, x5, x6, x7 => if 0 <= x6 then (if x6 < (x0.length : Int) then (if x7 < (((rd_T42 x0 x6).f3).length : Int) then (if ((rd_T42 x0 x6).f0).toList = x1.toList then (if 0 <= x7 then ((r_Insert.f k x5 ((rd_T66 ((rd_T42 x0 x6).f3) x7).f0)).bind fun t325 => (r_Imports.l1 k x0 x1 t325 x6 (wrap64 (x7 + 1)))) else (none)) else (r_Imports.l0 k x0 x1 x5 (wrap64 (x6 + 1)))) else (r_Imports.l0 k x0 x1 x5 (wrap64 (x6 + 1)))) else (none)) else (none)
end
noncomputable def r_Imports.f (k : Nat) (l0 : List (S42)) (a1 : ByteArray) : Option (List ByteArray) := r_Imports.l0 k l0 a1 ([] : List ByteArray) 0
theorem r_Imports.calls (k : Nat) (A0 : Option Addr) (c0 : Nat) (l0 : List (S42)) (a1 : ByteArray) (r : List ByteArray) (w : World) (hr0 : Kd.C k42 w A0 l0.length l0) (hc0 : l0.length <= c0) (h : r_Imports.f k l0 a1 = some r) :
 Calls Try.prog 22 #[.slice A0 l0.length c0, .string a1] w fun e w' => ∃ v0_ : Value, e = .returned (v0_) /\ Kd.R Kd.string 9 w' w.heap.size (fun _ => True) v0_ r /\ Below w.heap.size w w' := by
 have HR0 := aM hr0
 have HC0 := aM hc0
 clear hr0 hc0
 have HB := aM (Below.refl w.heap.size w)
 have H : (r_Imports.l0 k l0 a1 ([] : List ByteArray) 0) = some r := h
 clear h
 have H' := aM H
 clear H
 go_enter Try.func22, Try.ntmps22
 go_wp2
 go_loopg [5, 6] k (fun kq v5 v6 w' => ∃ (x5_1 : List ByteArray) (x6_1 : Int), v6 = .int .i64 x6_1 /\ Az (r_Imports.l0 kq l0 a1 x5_1 x6_1 = some r) /\ Az (kq <= k) /\ Az (Kd.R Kd.string 9 w' w.heap.size (fun _ => True) v5 x5_1) /\ Az (Below w.heap.size w w'))
 case atStart => exact ⟨(([] : List ByteArray)), (0), rr, H', ⟨Nat.le_refl _⟩, ⟨by first | exact R_nil _ _ _ _ _ | exact N_nil _ _ _ _ _ | exact V_nil _ _ _ _ _ | exact Q_nil _ _ _ _ _ | exact S_nil _ _ _ _ _⟩, ⟨hh HB⟩⟩
 case round =>
  clear H'
  obtain ⟨x5_1, x6_1, rfl, HA, HK1, HO_5, HB⟩ := hrel
  cases gk with
  | zero => exact absurd HA.1 (by simp [r_Imports.l0])
  | succ k1 =>
   have H := HA.1
   clear HA
   simp only [r_Imports.l0] at H
   by_cases c3 : x6_1 < (l0.length : Int)
   rotate_left
   · rw [if_neg c3] at H
     have c3b0 : decide (x6_1 < (l0.length : Int)) = false := decide_eq_false c3
     clear c3
     obtain rfl := Option.some.inj H
     go_wp2
     go_ret
     exact ⟨_, by first | rfl | (simp [errW_none, errW_some] <;> rfl) | (simp [*, errW_none, errW_some] <;> rfl), rk HO_5, hh HB⟩
   rw [if_pos c3] at H
   have c3b0 : decide (x6_1 < (l0.length : Int)) = true := decide_eq_true c3
   clear c3
   have H' := aM H
   clear H
   go_wp2
   go_loopg [5, 7] k1 (fun kq v5 v7 w' => ∃ (x5_2 : List ByteArray) (x7_2 : Int), v7 = .int .i64 x7_2 /\ Az (r_Imports.l1 kq l0 a1 x5_2 x6_1 x7_2 = some r) /\ Az (kq <= k1) /\ Az (Kd.R Kd.string 9 w' w.heap.size (fun _ => True) v5 x5_2) /\ Az (Below w.heap.size w w'))
   case atStart => exact ⟨(x5_1), (0), rr, H', ⟨Nat.le_refl _⟩, ⟨rk HO_5⟩, ⟨hh HB⟩⟩
   case round =>
    clear H'
    clear c3b0
    obtain ⟨x5_2, x7_2, rfl, HA, HK2, HO_5, HB⟩ := hrel
    cases gk with
    | zero => exact absurd HA.1 (by simp [r_Imports.l1])
    | succ k2 =>
     have H := HA.1
     clear HA
     simp only [r_Imports.l1] at H
     by_cases c4 : 0 <= x6_1
     rotate_left
     · rw [if_neg c4] at H
       exact absurd H (by simp)
     rw [if_pos c4] at H
     have c4b0 : decide (0 <= x6_1) = true := decide_eq_true c4
     clear c4
     by_cases c5 : x6_1 < (l0.length : Int)
     rotate_left
     · rw [if_neg c5] at H
       exact absurd H (by simp)
     rw [if_pos c5] at H
     have c5b0 : decide (x6_1 < (l0.length : Int)) = true := decide_eq_true c5
     clear c5
     by_cases c6 : x7_2 < (((rd_T42 l0 x6_1).f3).length : Int)
     rotate_left
     · rw [if_neg c6] at H
       have c6b0 : decide (x7_2 < (((rd_T42 l0 x6_1).f3).length : Int)) = false := decide_eq_false c6
       clear c6
       have H' := aM H
       clear H
       have p321 : 0 <= (x6_1 : Int) := dt
       have q321 : x6_1 < (l0.length : Int) := dt
       obtain ⟨ad321, A321_2, c321_2, A321_3, c321_3, e321, hx321_0, hx321_1, hx321_2, hx321_3, hx321_4, hl321_2, hi321_2, hl321_3, hi321_3⟩ := at_T42 HR0.1 x6_1 p321 q321
       cases e321
       replace hx321_0 := hx HB hx321_0
       replace hx321_1 := hx HB hx321_1
       have hw_ea321_2 := aM hx321_2; replace hx321_2 := hx HB hx321_2
       have hw_ea321_3 := aM hx321_3; replace hx321_3 := hx HB hx321_3
       replace hx321_4 := hx HB hx321_4
       have HR321_2 := aM hi321_2
       have HC321_2 := aM hl321_2
       clear hi321_2 hl321_2
       have HR321_3 := aM hi321_3
       have HC321_3 := aM hl321_3
       clear hi321_3 hl321_3
       replace p321 := eq_true p321
       replace q321 := eq_true q321
       go_wp2
       go_roundg k2
       case measure => have := HK1.1; have := HK2.1; omega
       case rel => exact ⟨(x5_2), (wrap64 (x6_1 + 1)), rr, H', ⟨by have := HK1.1; have := HK2.1; omega⟩, ⟨rk HO_5⟩, ⟨hh HB⟩⟩
     rw [if_pos c6] at H
     have c6b0 : decide (x7_2 < (((rd_T42 l0 x6_1).f3).length : Int)) = true := decide_eq_true c6
     clear c6
     by_cases c7 : ((rd_T42 l0 x6_1).f0).toList = a1.toList
     rotate_left
     · rw [if_neg c7] at H
       have c7b0 : (((rd_T42 l0 x6_1).f0).toList == a1.toList) = false := beq_eq_false_iff_ne.mpr c7
       have c7b1 : (((rd_T42 l0 x6_1).f0).toList != a1.toList) = true := bne_iff_ne.mpr c7
       have H' := aM H
       clear H
       have p321 : 0 <= (x6_1 : Int) := dt
       have q321 : x6_1 < (l0.length : Int) := dt
       obtain ⟨ad321, A321_2, c321_2, A321_3, c321_3, e321, hx321_0, hx321_1, hx321_2, hx321_3, hx321_4, hl321_2, hi321_2, hl321_3, hi321_3⟩ := at_T42 HR0.1 x6_1 p321 q321
       cases e321
       replace hx321_0 := hx HB hx321_0
       replace hx321_1 := hx HB hx321_1
       have hw_ea321_2 := aM hx321_2; replace hx321_2 := hx HB hx321_2
       have hw_ea321_3 := aM hx321_3; replace hx321_3 := hx HB hx321_3
       replace hx321_4 := hx HB hx321_4
       have HR321_2 := aM hi321_2
       have HC321_2 := aM hl321_2
       clear hi321_2 hl321_2
       have HR321_3 := aM hi321_3
       have HC321_3 := aM hl321_3
       clear hi321_3 hl321_3
       replace p321 := eq_true p321
       replace q321 := eq_true q321
       have p322 : 0 <= (x6_1 : Int) := dt
       have q322 : x6_1 < (l0.length : Int) := dt
       obtain ⟨ad322, A322_2, c322_2, A322_3, c322_3, e322, hx322_0, hx322_1, hx322_2, hx322_3, hx322_4, hl322_2, hi322_2, hl322_3, hi322_3⟩ := at_T42 HR0.1 x6_1 p322 q322
       obtain rfl : ad321 = ad322 := (by injection e322)
       replace hx322_0 := hx HB hx322_0
       replace hx322_1 := hx HB hx322_1
       have hw_ea322_2 := aM hx322_2; replace hx322_2 := hx HB hx322_2
       have hw_ea322_3 := aM hx322_3; replace hx322_3 := hx HB hx322_3
       replace hx322_4 := hx HB hx322_4
       have HR322_2 := aM hi322_2
       have HC322_2 := aM hl322_2
       clear hi322_2 hl322_2
       have HR322_3 := aM hi322_3
       have HC322_3 := aM hl322_3
       clear hi322_3 hl322_3
       replace p322 := eq_true p322
       replace q322 := eq_true q322
       have ea_ := Option.some.inj (by first | exact hx321_2.symm.trans hx322_2 | exact hw_ea321_2.1.symm.trans hw_ea322_2.1)
       injection ea_ with ea_ en_ ec_
       subst ea_
       subst ec_
       clear en_
       have ea_ := Option.some.inj (by first | exact hx321_3.symm.trans hx322_3 | exact hw_ea321_3.1.symm.trans hw_ea322_3.1)
       injection ea_ with ea_ en_ ec_
       subst ea_
       subst ec_
       clear en_
       go_wp2
       go_roundg k2
       case measure => have := HK1.1; have := HK2.1; omega
       case rel => exact ⟨(x5_2), (wrap64 (x6_1 + 1)), rr, H', ⟨by have := HK1.1; have := HK2.1; omega⟩, ⟨rk HO_5⟩, ⟨hh HB⟩⟩
     rw [if_pos c7] at H
     have c7b0 : (((rd_T42 l0 x6_1).f0).toList == a1.toList) = true := beq_iff_eq.mpr c7
     have c7b1 : (((rd_T42 l0 x6_1).f0).toList != a1.toList) = false := bne_eq_false_iff_eq.mpr c7
     clear c7
     by_cases c8 : 0 <= x7_2
     rotate_left
     · rw [if_neg c8] at H
       exact absurd H (by simp)
     rw [if_pos c8] at H
     have c8b0 : decide (0 <= x7_2) = true := decide_eq_true c8
     clear c8
     replace H := Option.bind_eq_some_iff.mp H
     obtain ⟨t325, A90, H⟩ := H
     try dsimp only at H
     have A9 := aM A90
     clear A90
     have H' := aM H
     clear H
     have p321 : 0 <= (x6_1 : Int) := dt
     have q321 : x6_1 < (l0.length : Int) := dt
     obtain ⟨ad321, A321_2, c321_2, A321_3, c321_3, e321, hx321_0, hx321_1, hx321_2, hx321_3, hx321_4, hl321_2, hi321_2, hl321_3, hi321_3⟩ := at_T42 HR0.1 x6_1 p321 q321
     cases e321
     replace hx321_0 := hx HB hx321_0
     replace hx321_1 := hx HB hx321_1
     have hw_ea321_2 := aM hx321_2; replace hx321_2 := hx HB hx321_2
     have hw_ea321_3 := aM hx321_3; replace hx321_3 := hx HB hx321_3
     replace hx321_4 := hx HB hx321_4
     have HR321_2 := aM hi321_2
     have HC321_2 := aM hl321_2
     clear hi321_2 hl321_2
     have HR321_3 := aM hi321_3
     have HC321_3 := aM hl321_3
     clear hi321_3 hl321_3
     replace p321 := eq_true p321
     replace q321 := eq_true q321
     have p322 : 0 <= (x6_1 : Int) := dt
     have q322 : x6_1 < (l0.length : Int) := dt
     obtain ⟨ad322, A322_2, c322_2, A322_3, c322_3, e322, hx322_0, hx322_1, hx322_2, hx322_3, hx322_4, hl322_2, hi322_2, hl322_3, hi322_3⟩ := at_T42 HR0.1 x6_1 p322 q322
     obtain rfl : ad321 = ad322 := (by injection e322)
     replace hx322_0 := hx HB hx322_0
     replace hx322_1 := hx HB hx322_1
     have hw_ea322_2 := aM hx322_2; replace hx322_2 := hx HB hx322_2
     have hw_ea322_3 := aM hx322_3; replace hx322_3 := hx HB hx322_3
     replace hx322_4 := hx HB hx322_4
     have HR322_2 := aM hi322_2
     have HC322_2 := aM hl322_2
     clear hi322_2 hl322_2
     have HR322_3 := aM hi322_3
     have HC322_3 := aM hl322_3
     clear hi322_3 hl322_3
     replace p322 := eq_true p322
     replace q322 := eq_true q322
     have ea_ := Option.some.inj (by first | exact hx321_2.symm.trans hx322_2 | exact hw_ea321_2.1.symm.trans hw_ea322_2.1)
     injection ea_ with ea_ en_ ec_
     subst ea_
     subst ec_
     clear en_
     have ea_ := Option.some.inj (by first | exact hx321_3.symm.trans hx322_3 | exact hw_ea321_3.1.symm.trans hw_ea322_3.1)
     injection ea_ with ea_ en_ ec_
     subst ea_
     subst ec_
     clear en_
     have p323 : 0 <= (x6_1 : Int) := dt
     have q323 : x6_1 < (l0.length : Int) := dt
     obtain ⟨ad323, A323_2, c323_2, A323_3, c323_3, e323, hx323_0, hx323_1, hx323_2, hx323_3, hx323_4, hl323_2, hi323_2, hl323_3, hi323_3⟩ := at_T42 HR0.1 x6_1 p323 q323
     obtain rfl : ad321 = ad323 := (by injection e323)
     replace hx323_0 := hx HB hx323_0
     replace hx323_1 := hx HB hx323_1
     have hw_ea323_2 := aM hx323_2; replace hx323_2 := hx HB hx323_2
     have hw_ea323_3 := aM hx323_3; replace hx323_3 := hx HB hx323_3
     replace hx323_4 := hx HB hx323_4
     have HR323_2 := aM hi323_2
     have HC323_2 := aM hl323_2
     clear hi323_2 hl323_2
     have HR323_3 := aM hi323_3
     have HC323_3 := aM hl323_3
     clear hi323_3 hl323_3
     replace p323 := eq_true p323
     replace q323 := eq_true q323
     have ea_ := Option.some.inj (by first | exact hx321_2.symm.trans hx323_2 | exact hw_ea321_2.1.symm.trans hw_ea323_2.1)
     injection ea_ with ea_ en_ ec_
     subst ea_
     subst ec_
     clear en_
     have ea_ := Option.some.inj (by first | exact hx321_3.symm.trans hx323_3 | exact hw_ea321_3.1.symm.trans hw_ea323_3.1)
     injection ea_ with ea_ en_ ec_
     subst ea_
     subst ec_
     clear en_
     have p324 : 0 <= (x7_2 : Int) := dt
     have q324 : x7_2 < (((rd_T42 l0 x6_1).f3).length : Int) := dt
     obtain ⟨ad324, A324_5, c324_5, e324, hx324_0, hx324_1, hx324_2, hx324_3, hx324_4, hx324_5, hl324_5, hi324_5⟩ := at_T66 HR323_3.1 x7_2 p324 q324
     cases e324
     replace hx324_0 := hx HB hx324_0
     replace hx324_1 := hx HB hx324_1
     replace hx324_2 := hx HB hx324_2
     replace hx324_3 := hx HB hx324_3
     replace hx324_4 := hx HB hx324_4
     replace hx324_5 := hx HB hx324_5
     have HR324_5 := aM hi324_5
     have HC324_5 := aM hl324_5
     clear hi324_5 hl324_5
     replace p324 := eq_true p324
     replace q324 := eq_true q324
     obtain ⟨Ao10, co10, eo10⟩ := R_slice HO_5.1
     subst eo10
     go_wp2_with (first | ((with_reducible refine gate_callee (f := 38) rfl ?_); refine gL (some 43) rfl rfl Try.func38 (by kernel_rfl) rfl #[.slice Ao10 x5_2.length co10, .string ((rd_T66 ((rd_T42 l0 x6_1).f3) x7_2).f0)] rfl ?_; (with_reducible refine (r_Insert.calls k2 _ _ x5_2 ((rd_T66 ((rd_T42 l0 x6_1).f3) x7_2).f0) t325 _ ?side1 ?side2 A9.1).mono ?_); (case side1 => exact cr HO_5); (case side2 => exact (R_reads' HO_5.1).2.1); rintro e w11 ⟨v326, rfl, ho0, hb⟩; refine ⟨_, rfl, ?_⟩; have HO327 := aM (R_lower (R_new' ho0 (R_lt (rk HO_5))) (below_size (hh HB))); replace HO_5 := aM (R_elder' (rk HO_5) (R_base ho0) hb); replace HB := bs HB hb; clear hb ho0))
     go_roundg k2
     case measure => have := HK1.1; have := HK2.1; omega
     case rel => exact ⟨(t325), (wrap64 (x7_2 + 1)), rr, H', ⟨by have := HK1.1; have := HK2.1; omega⟩, ⟨rz (R_mono HO327.1 (fun _ hk => trivial))⟩, ⟨hh HB⟩⟩
noncomputable def r_Names.l0 : Nat -> List (S42) -> List ByteArray -> Int -> Option (List ByteArray)
 | 0, _, _, _ => none
 | k + 1, x0, x3, x4 => if x4 < (x0.length : Int) then (if 0 <= x4 then ((r_Insert.f k x3 ((rd_T42 x0 x4).f0)).bind fun t329 => (r_Names.l0 k x0 t329 (wrap64 (x4 + 1)))) else (none)) else (some x3)
noncomputable def r_Names.f (k : Nat) (l0 : List (S42)) : Option (List ByteArray) := r_Names.l0 k l0 ([] : List ByteArray) 0
end Go.Proofs.Ytmadhaccjmakdaa.P
namespace Go.Proofs.Ytmadhaccjmakdaa
open Go.RowKit Go.Maps Go.Sort Go.Proofs.Yw.A Go.Proofs.Yw.B Go.Proofs.Yw.C
open P
namespace Mg
theorem asc_of {S ss : List (List UInt8)} (h : Elems S ss) (h1 : ss.Pairwise (fun a b => leB a b = true)) : asc S = ss := by
 rw [<- Elems.asc h]
 exact List.mergeSort_of_pairwise h1
theorem asc_self {S : List (List UInt8)} (hn : S.Nodup) (h1 : S.Pairwise (fun a b => leB a b = true)) : asc S = S :=
 asc_of ⟨hn, fun x => by simp⟩ h1
theorem asc_elems (S : List (List UInt8)) : Elems S (asc S) := by
 have h := dd_elems S
 have hp := List.mergeSort_perm (dd S) leB
 exact ⟨hp.symm.nodup h.nodup, fun x => (hp.mem_iff).trans (h.mem x)⟩
theorem mem_asc {S : List (List UInt8)} {x : List UInt8} : x ∈ asc S ↔ x ∈ S := by
 rw [(asc_elems S).mem x]; simp
theorem asc_pair (S : List (List UInt8)) : (asc S).Pairwise (fun a b => a <= b) := leB_pair (dd S)
theorem twice_of : ∀ (l : List S42) (seen : List (List UInt8)), (seen ++ l.map nm).Nodup -> twice l seen = none := by
 intro l
 induction l with
 | nil => intro _ _; rfl
 | cons m l ih =>
  intro seen h
  unfold twice
  have hm : ¬ seen.contains (nm m) = true := by
   intro hc
   have hc2 := List.contains_iff_mem.1 hc
   rw [List.nodup_append] at h
   exact h.2.2 _ hc2 _ (by simp) rfl
  rw [if_neg hm]
  exact ih _ (by simpa using h)
theorem missI_of (K : List (List UInt8)) : ∀ l : List S66, (∀ i ∈ l, im i ∈ K) -> missI K l = none := by
 intro l
 induction l with
 | nil => intro _; rfl
 | cons i l ih =>
  intro h
  unfold missI
  rw [if_pos (List.contains_iff_mem.2 (h i List.mem_cons_self))]
  exact ih (fun j hj => h j (List.mem_cons_of_mem _ hj))
theorem miss_of (K : List (List UInt8)) : ∀ l : List S42, (∀ m ∈ l, ∀ i ∈ m.f3, im i ∈ K) -> miss K l = none := by
 intro l
 induction l with
 | nil => intro _; rfl
 | cons m l ih =>
  intro h
  unfold miss
  rw [missI_of K m.f3 (h m List.mem_cons_self)]
  exact ih (fun j hj => h j (List.mem_cons_of_mem _ hj))
def key (m : S42) : List UInt8 × List (List UInt8) := (nm m, m.f3.map im)
theorem impsL_key (l : List S42) (n : List UInt8) : impsL l n = (((l.map key).find? (fun p => p.1 == n)).map (·.2)).getD [] := by
 unfold impsL
 induction l with
 | nil => rfl
 | cons m l ih =>
  by_cases hm : (nm m == n) = true
  · rw [List.map_cons, List.find?_cons_of_pos (by exact hm), List.find?_cons_of_pos (by exact hm)]
    rfl
  rw [List.map_cons, List.find?_cons_of_neg (by exact hm), List.find?_cons_of_neg (by exact hm)]
  exact ih
theorem nm_key (l : List S42) : l.map nm = (l.map key).map (·.1) := by rw [List.map_map]; rfl
theorem size_dat (x : ByteArray) : x.size = x.data.toList.length := by cases x; rfl
theorem okSizes_key {l : List S42} (h : ∀ p ∈ l.map key, p.1.length <= 1000 /\ p.2.length <= 100000 /\ ∀ x ∈ p.2, x.length <= 1000) : okSizes l := by
 intro m hm
 obtain ⟨h1, h2, h3⟩ := h _ (List.mem_map.2 ⟨m, hm, rfl⟩)
 have h1' : m.f0.data.toList.length <= 1000 := h1
 have h2' : (m.f3.map im).length <= 100000 := h2
 rw [List.length_map] at h2'
 refine ⟨by rw [size_dat]; unfold maxLen; omega, h2', fun i hi => ?_⟩
 have h4 : i.f0.data.toList.length <= 1000 := h3 (im i) (List.mem_map.2 ⟨i, hi, rfl⟩)
 rw [size_dat]; unfold maxLen; omega
theorem made_good {l : List S42} (hl : ¬ (l.length : Int) > 32) (hs : okSizes l) (hn : (l.map nm).Nodup) (hi : ∀ m ∈ l, ∀ i ∈ m.f3, im i ∈ l.map nm) : m_made.f l = some (namesOf l, edgesOf l, 0, ⟨#[]⟩, 0, 0) := by
 unfold m_made.f
 rw [if_neg hl, if_pos hs, twice_of l [] (by simpa using hn)]
 simp only []
 rw [miss_of _ l hi]
def namesK (P : List (List UInt8 × List (List UInt8))) : List ByteArray := (asc (P.map (·.1))).map bz
def edgesK (P : List (List UInt8 × List (List UInt8))) : List (List Int) := (asc (P.map (·.1))).map (fun n => (asc (((P.find? (fun p => p.1 == n)).map (·.2)).getD [])).map (fun y => (rank (asc (P.map (·.1))) y : Int)))
theorem namesOf_key (l : List S42) : namesOf l = namesK (l.map key) := by unfold namesOf namesK; rw [nm_key]
theorem edgesOf_key (l : List S42) : edgesOf l = edgesK (l.map key) := by
 unfold edgesOf edgesK edgeOf
 rw [nm_key]
 simp only [impsL_key]
theorem made_key {l : List S42} (hl : (l.map key).length <= 32) (hs : ∀ p ∈ l.map key, p.1.length <= 1000 /\ p.2.length <= 100000 /\ ∀ x ∈ p.2, x.length <= 1000) (hn : ((l.map key).map (·.1)).Nodup) (hi : ∀ p ∈ l.map key, ∀ x ∈ p.2, x ∈ (l.map key).map (·.1)) :
 m_made.f l = some (namesK (l.map key), edgesK (l.map key), 0, ⟨#[]⟩, 0, 0) := by
 rw [<- namesOf_key, <- edgesOf_key]
 rw [List.length_map] at hl
 refine made_good (by omega) (okSizes_key hs) (by rw [nm_key]; exact hn) (fun m hm i hm2 => ?_)
 rw [nm_key]
 exact hi (key m) (List.mem_map.2 ⟨m, hm, rfl⟩) (im i) (List.mem_map.2 ⟨i, hm2, rfl⟩)
theorem made_abc {l : List S42} (h : l.map key = [([65], [[66]]), ([66], []), ([67], [])]) : m_made.f l = some ([bz [65], bz [66], bz [67]], [[1], [], []], 0, ⟨#[]⟩, 0, 0) := by
 have e := made_key (l := l) (by rw [h]; decide) (by rw [h]; decide) (by rw [h]; decide) (by rw [h]; decide)
 rw [e, h]
 have a1 : asc [[65], [66], [67]] = [[65], [66], [67]] := asc_self (by decide) (by decide)
 have a2 : asc [[66]] = [[66]] := asc_self (by decide) (by decide)
 have a3 : asc ([] : List (List UInt8)) = [] := asc_self (by decide) (by decide)
 unfold namesK edgesK
 simp only [List.map_cons, List.map_nil]
 rw [a1]
 simp [List.find?, a2, a3, rank]
 decide
theorem made_cyc {l : List S42} (h : l.map key = [([65], [[66]]), ([66], [[65], [67]]), ([67], [[66]])]) : m_made.f l = some ([bz [65], bz [66], bz [67]], [[1], [0, 2], [1]], 0, ⟨#[]⟩, 0, 0) := by
 have e := made_key (l := l) (by rw [h]; decide) (by rw [h]; decide) (by rw [h]; decide) (by rw [h]; decide)
 rw [e, h]
 have a1 : asc [[65], [66], [67]] = [[65], [66], [67]] := asc_self (by decide) (by decide)
 have a2 : asc [[66]] = [[66]] := asc_self (by decide) (by decide)
 have a3 : asc [[65], [67]] = [[65], [67]] := asc_self (by decide) (by decide)
 unfold namesK edgesK
 simp only [List.map_cons, List.map_nil]
 rw [a1]
 simp [List.find?, a2, a3, rank]
 decide
end Mg
end Go.Proofs.Ytmadhaccjmakdaa
namespace Go.Proofs.Ytmadhaccjmakdaa
open Go.RowKit Go.Proofs.Yw.A Go.Proofs.Yw.B Go.Proofs.Yw.C Go.Proofs.Ytmadhaccjmakdaa.P
namespace Lv
open Tj Rw Od
def lv1 : Nat -> Int -> List Int -> Int -> List Int -> Option (List Int)
 | 0, _, _, _, _ => none
 | k + 1, v, l, i, lv =>
  if i < l.length then
   if 0 <= rd l i /\ rd l i < lv.length then lv1 k v l (i + 1) (lv.set v.toNat (max (rd lv v) (wrap64 (rd lv (rd l i) + 1)))) else none
  else some lv
def lv0 : Nat -> List (List Int) -> List (List Int) -> Int -> List Int -> Int -> Option (Option (List Int × Int))
 | 0, _, _, _, _, _ => none
 | k + 1, es, comps, i, lv, top =>
  if i < comps.length then
   if 0 < (row comps i).length /\ 0 <= rd (row comps i) 0 /\ rd (row comps i) 0 < es.length then
    if 1 < (row comps i).length \/ (row es (rd (row comps i) 0)).contains (rd (row comps i) 0) = true then some none
    else (lv1 k (rd (row comps i) 0) (row es (rd (row comps i) 0)) 0 lv).bind fun lv2 => lv0 k es comps (i + 1) lv2 (max top (rd lv2 (rd (row comps i) 0)))
   else none
  else some (some (lv, top))
def lv3 : Nat -> List Int -> Int -> List (List Int) -> Option (List (List Int))
 | 0, _, _, _ => none
 | k + 1, lv, i, out =>
  if i < lv.length then
   if 0 <= rd lv i /\ rd lv i < out.length /\ (row out (rd lv i)).length < 17592186044415 then lv3 k lv (i + 1) (app out (rd lv i) i) else none
  else some out
noncomputable def levelsF (k : Nat) (es : List (List Int)) : Option (List (List Int) × Int) :=
 (g_valid.f k es).bind fun b =>
  if b = true then
   (g_ordered.f es).bind fun comps =>
    if es.length < 17592186044416 then
     (lv0 k es comps 0 (List.replicate es.length 0) (-1)).bind fun o =>
      match o with
      | none => some ([], 18)
      | some (lv, top) => if 0 <= wrap64 (top + 1) /\ wrap64 (top + 1) < 5864062014805 then (lv3 k lv 0 (List.replicate (wrap64 (top + 1)).toNat [])).map fun out => (out, 0) else none
    else none
  else some ([], 1)
end Lv
end Go.Proofs.Ytmadhaccjmakdaa
namespace Go.Proofs.Ytmadhaccjmakdaa.P
open Go.RowKit Go.Proofs.Yw.A Go.Proofs.Yw.A.Kd Go.Proofs.Yw.B Go.Proofs.Yw.C
attribute [local go_sem] str_gtr str_leq str_geq max2_int min2_int max_two min_two max_three min_three max_four min_four
noncomputable def slices_Index_int_int.l0 : Nat -> List Int -> Int -> Int -> Int -> Option (Int)
 | 0, _, _, _, _ => none
 | k + 1, x0, x1, x7, x8 => if x8 < x7 then (if 0 <= x8 then (if x8 < (x0.length : Int) then (if x1 = (rd x0 x8) then (some x8) else (slices_Index_int_int.l0 k x0 x1 x7 (wrap64 (x8 + 1)))) else (none)) else (none)) else (some (-1))
noncomputable def slices_Index_int_int.f (k : Nat) (l0 : List Int) (a1 : Int) : Option (Int) := slices_Index_int_int.l0 k l0 a1 (l0.length : Int) 0
theorem slices_Index_int_int.calls (k : Nat) (A0 : Option Addr) (c0 : Nat) (l0 : List Int) (a1 : Int) (r : Int) (w : World) (hr0 : Kd.C (Kd.int .i64) w A0 l0.length l0) (hc0 : l0.length <= c0) (h : slices_Index_int_int.f k l0 a1 = some r) :
 Calls Try.prog 55 #[.slice A0 l0.length c0, .int .i64 a1] w fun e w' => e = .returned (.int .i64 r) /\ Drawn0 w w' := by
 have HR0 := aM hr0
 have HC0 := aM hc0
 clear hr0 hc0
 have H : (slices_Index_int_int.l0 k l0 a1 (l0.length : Int) 0) = some r := h
 clear h
 have H' := aM H
 clear H
 go_enter Try.func55, Try.ntmps55
 go_wp2
 go_loopg [8] k (fun kq v8 w' => ∃ (x8_1 : Int), v8 = .int .i64 x8_1 /\ Az (slices_Index_int_int.l0 kq l0 a1 (l0.length : Int) x8_1 = some r) /\ Az (kq <= k) /\ Drawn0 w w')
 case atStart => exact ⟨(0), rr, H', ⟨Nat.le_refl _⟩, by repeat (first | exact Drawn0.refl _ | apply Drawn0.step)⟩
 case round =>
  clear H'
  obtain ⟨x8_1, rfl, HA, HK1, ⟨m1, rfl⟩⟩ := hrel
  cases gk with
  | zero => exact absurd HA.1 (by simp [slices_Index_int_int.l0])
  | succ k1 =>
   have H := HA.1
   clear HA
   simp only [slices_Index_int_int.l0] at H
   by_cases c3 : x8_1 < (l0.length : Int)
   rotate_left
   · rw [if_neg c3] at H
     have c3b0 : decide (x8_1 < (l0.length : Int)) = false := decide_eq_false c3
     clear c3
     obtain rfl := Option.some.inj H
     go_wp2
     go_ret
     exact ⟨by first | rfl | (simp; done) | (simp [*]; done), by repeat (first | exact Drawn0.refl _ | apply Drawn0.step)⟩
   rw [if_pos c3] at H
   have c3b0 : decide (x8_1 < (l0.length : Int)) = true := decide_eq_true c3
   clear c3
   by_cases c4 : 0 <= x8_1
   rotate_left
   · rw [if_neg c4] at H
     exact absurd H (by simp)
   rw [if_pos c4] at H
   have c4b0 : decide (0 <= x8_1) = true := decide_eq_true c4
   clear c4
   by_cases c5 : x8_1 < (l0.length : Int)
   rotate_left
   · rw [if_neg c5] at H
     exact absurd H (by simp)
   rw [if_pos c5] at H
   have c5b0 : decide (x8_1 < (l0.length : Int)) = true := decide_eq_true c5
   clear c5
   by_cases c6 : a1 = (rd l0 x8_1)
   · rw [if_pos c6] at H
     have c6b0 : (a1 == (rd l0 x8_1)) = true := beq_iff_eq.mpr c6
     have c6b1 : (a1 != (rd l0 x8_1)) = false := bne_eq_false_iff_eq.mpr c6
     clear c6
     obtain rfl := Option.some.inj H
     have p200 : 0 <= (x8_1 : Int) := dt
     have q200 : x8_1 < (l0.length : Int) := dt
     obtain ⟨ad200, e200, hx200_0⟩ := Kd.at_int HR0.1 x8_1 p200 q200
     cases e200
     replace p200 := eq_true p200
     replace q200 := eq_true q200
     go_wp2
     go_ret
     exact ⟨by first | rfl | (simp; done) | (simp [*]; done), by repeat (first | exact Drawn0.refl _ | apply Drawn0.step)⟩
   rw [if_neg c6] at H
   have c6b0 : (a1 == (rd l0 x8_1)) = false := beq_eq_false_iff_ne.mpr c6
   have c6b1 : (a1 != (rd l0 x8_1)) = true := bne_iff_ne.mpr c6
   have H' := aM H
   clear H
   have p200 : 0 <= (x8_1 : Int) := dt
   have q200 : x8_1 < (l0.length : Int) := dt
   obtain ⟨ad200, e200, hx200_0⟩ := Kd.at_int HR0.1 x8_1 p200 q200
   cases e200
   replace p200 := eq_true p200
   replace q200 := eq_true q200
   go_wp2
   go_roundg k1
   case measure => have := HK1.1; omega
   case rel => exact ⟨(wrap64 (x8_1 + 1)), rr, H', ⟨by have := HK1.1; omega⟩, by repeat (first | exact Drawn0.refl _ | apply Drawn0.step)⟩
noncomputable def slices_Contains_int_int.f (k : Nat) (l0 : List Int) (a1 : Int) : Option (Bool) := (slices_Index_int_int.f k l0 a1).bind fun t201 => (some (decide (t201 >= 0)))
theorem slices_Contains_int_int.calls (k : Nat) (A0 : Option Addr) (c0 : Nat) (l0 : List Int) (a1 : Int) (r : Bool) (w : World) (hr0 : Kd.C (Kd.int .i64) w A0 l0.length l0) (hc0 : l0.length <= c0) (h : slices_Contains_int_int.f k l0 a1 = some r) :
 Calls Try.prog 41 #[.slice A0 l0.length c0, .int .i64 a1] w fun e w' => e = .returned (.bool r) /\ Drawn0 w w' := by
 have HR0 := aM hr0
 have HC0 := aM hc0
 clear hr0 hc0
 have H : ((slices_Index_int_int.f k l0 a1).bind fun t201 => (some (decide (t201 >= 0)))) = some r := h
 clear h
 replace H := Option.bind_eq_some_iff.mp H
 obtain ⟨t201, A30, H⟩ := H
 try dsimp only at H
 have A3 := aM A30
 clear A30
 obtain rfl := Option.some.inj H
 go_enter Try.func41, Try.ntmps41
 go_wp2_with (first | ((with_reducible refine gate_callee (f := 55) rfl ?_); refine gL (some 7) rfl rfl Try.func55 (by kernel_rfl) rfl #[.slice A0 l0.length c0, .int .i64 a1] rfl ?_; (with_reducible refine (slices_Index_int_int.calls k _ _ l0 a1 t201 _ ?side1 ?side2 A3.1).mono ?_); (case side1 => exact ck HR0); (case side2 => exact HC0.1); rintro e w' ⟨rfl, ⟨nd, rfl⟩⟩; refine ⟨_, rfl, ?_⟩))
 go_ret
 exact ⟨by first | rfl | (simp; done) | (simp [*]; done), by repeat (first | exact Drawn0.refl _ | apply Drawn0.step)⟩
end Go.Proofs.Ytmadhaccjmakdaa.P
namespace Go.Proofs.Ytmadhaccjmakdaa
open Go.RowKit Go.Proofs.Yw.A Go.Proofs.Yw.B Go.Proofs.Yw.C Go.Proofs.Ytmadhaccjmakdaa.P
namespace Lv
open Tj Rw Od
theorem wrap_small (x : Int) (h0 : -9223372036854775808 <= x) (h1 : x < 9223372036854775808) : wrap64 x = x := by
 unfold wrap64
 omega
theorem index_run (l : List Int) (a : Int) (hl : l.length <= 9223372036854775807) : ∀ (m : Nat) (i : Nat), i + m = l.length -> (l.take i).contains a = false -> ∃ r : Int, slices_Index_int_int.l0 (m + 1) l a l.length i = some r /\ (decide (r >= 0)) = l.contains a := by
 intro m
 induction m with
 | zero =>
  intro i hi hc
  have : i = l.length := by omega
  subst this
  rw [List.take_length] at hc
  refine ⟨-1, ?_, by rw [hc]; decide⟩
  unfold slices_Index_int_int.l0
  rw [if_neg (by omega)]
 | succ m ih =>
  intro i hi hc
  unfold slices_Index_int_int.l0
  rw [if_pos (by omega), if_pos (by omega), if_pos (by omega)]
  have hil : i < l.length := by omega
  have hrd : rd l (i : Int) = l[i] := by
   show l.getD (i : Int).toNat 0 = l[i]
   rw [Int.toNat_natCast, List.getD_eq_getElem?_getD, List.getElem?_eq_getElem hil]
   rfl
  rw [hrd]
  by_cases he : a = l[i]
  · rw [if_pos he]
    refine ⟨i, rfl, ?_⟩
    have h1 : l.contains a = true := by
     rw [List.contains_iff_mem, he]
     exact List.getElem_mem hil
    rw [h1]
    exact decide_eq_true (by omega)
  rw [if_neg he]
  have hw : wrap64 ((i : Int) + 1) = ((i + 1 : Nat) : Int) := by
   rw [wrap_small _ (by omega) (by omega)]
   omega
  rw [hw]
  refine ih (i + 1) (by omega) ?_
  rw [List.take_succ_eq_append_getElem hil, List.contains_append, hc]
  simp [he]
theorem contains_run (l : List Int) (a : Int) (hl : l.length <= 9223372036854775807) : slices_Contains_int_int.f (l.length + 1) l a = some (l.contains a) := by
 obtain ⟨r, h1, h2⟩ := index_run l a hl l.length 0 (by omega) rfl
 unfold slices_Contains_int_int.f slices_Index_int_int.f
 rw [show ((0 : Int)) = ((0 : Nat) : Int) from rfl, h1]
 show some (decide (r >= 0)) = _
 rw [h2]
theorem levels_calls (k : Nat) (A : Option Addr) (c : Nat) (es : List (List Int)) (r1 : List (List Int)) (r2 : Int) (w : World) (hr : Kd.C KS w A es.length es) (hc : es.length <= c) (h : levelsF k es = some (r1, r2)) :
 Calls Try.prog 30 #[.agg #[.slice A es.length c]] w fun e w' => ∃ v, e = .returned (.tuple #[v, .int .i64 r2]) /\ Kd.S KS 55 w' w.heap.size (fun _ => True) v r1 /\ Below w.heap.size w w' := by
 have hu24 := Try.underlying49
 unfold levelsF at h
 obtain ⟨b, hb, h⟩ := Option.bind_eq_some_iff.1 h
 have HR := Az.mk hr
 have HC := Az.mk hc
 clear hr hc
 cases b with
 | false =>
  have HVA := Az.mk hb
  rw [if_neg (by decide)] at h
  obtain ⟨rfl, rfl⟩ := Prod.mk.inj (Option.some.inj h)
  clear hb h
  go_enter Try.func30, Try.ntmps30
  go_wp2_with (first | ((with_reducible refine gate_dst (N := 1) rfl ?_); refine box_event ?hg (N := 1) ?hd (cs := #[.slice A es.length c]) (t := 49) ?hr ?_; (case hd => rfl); (case hg => rfl); (case hr => first | (go_simp; done) | (go_simp; rfl)); intro gb hg w5 hbox hb; have B5 := Az.mk (below_step (Below.refl w.heap.size w) hb); have K5 := Az.mk hbox; have GE : Az (w.heap.size <= gb) := Az.mk (by rw [hg]; exact Nat.le_refl _); have hcz : w5.cell? ⟨gb, 0, none⟩ = some (.slice A es.length c) := (blk_cell K5.1 0).trans rfl; clear hb hbox hg) | (go_at_call 39; refine (g_valid.calls k A c es false _ (Kd.C_below HR.1 B5.1) HC.1 HVA.1).mono ?_; rintro e w7 ⟨rfl, hb7⟩; have B7 := Az.mk (below_step B5.1 hb7); have K7 := Az.mk (blk_below K5.1 hb7); clear hb7 hcz B5 K5; have hcz : w7.cell? ⟨gb, 0, none⟩ = some (.slice A es.length c) := (blk_cell K7.1 0).trans rfl) | fail)
  go_ret2
  exact ⟨_, rfl, Kd.S_nil _ _ _ _ _, B7.1⟩
 | true =>
  have HVA := Az.mk hb
  rw [if_pos rfl] at h
  obtain ⟨comps, ho, h⟩ := Option.bind_eq_some_iff.1 h
  have HO := Az.mk ho
  by_cases hL : es.length < 17592186044416
  case neg => rw [if_neg hL] at h; cases h
  rw [if_pos hL] at h
  obtain ⟨o, hlv, h⟩ := Option.bind_eq_some_iff.1 h
  have HLV := Az.mk hlv
  have HH := Az.mk h
  have HLL := Az.mk hL
  clear hb ho h hlv hL
  go_enter Try.func30, Try.ntmps30
  go_upto_region 4 with (first | ((with_reducible refine gate_dst (N := 1) rfl ?_); refine box_event ?hg (N := 1) ?hd (cs := #[.slice A es.length c]) (t := 49) ?hr ?_; (case hd => rfl); (case hg => rfl); (case hr => first | (go_simp; done) | (go_simp; rfl)); intro gb hg w5 hbox hb; have B5 := Az.mk (below_step (Below.refl w.heap.size w) hb); have K5 := Az.mk hbox; have GE : Az (w.heap.size <= gb) := Az.mk (by rw [hg]; exact Nat.le_refl _); have hcz : w5.cell? ⟨gb, 0, none⟩ = some (.slice A es.length c) := (blk_cell K5.1 0).trans rfl; clear hb hbox hg) | (go_at_call 39; refine (g_valid.calls k A c es true _ (Kd.C_below HR.1 B5.1) HC.1 HVA.1).mono ?_; rintro e w7 ⟨rfl, hb7⟩; have B7 := Az.mk (below_step B5.1 hb7); have K7 := Az.mk (blk_below K5.1 hb7); clear hb7 hcz B5 K5; have hcz : w7.cell? ⟨gb, 0, none⟩ = some (.slice A es.length c) := (blk_cell K7.1 0).trans rfl) | (go_at_call 40; refine (g_ordered.calls A c es comps _ (Kd.C_below HR.1 B7.1) HC.1 HO.1).mono ?_; rintro e w9 ⟨vc, rfl, hV, hb9⟩; obtain ⟨Ac, cc, rfl, hlc, hF⟩ := hV; have V9 := Az.mk (Kd.F_bound hF); have B9 := Az.mk (below_step B7.1 hb9); have K9 := Az.mk (blk_below K7.1 hb9); have S7 := Az.mk (B7.1.size); have LC := Az.mk (Kd.F_max hF); clear hF hb9 hcz B7 K7 hlc; have hcz : w9.cell? ⟨gb, 0, none⟩ = some (.slice A es.length c) := (blk_cell K9.1 0).trans rfl) | fail)
  obtain ⟨i0, e0, e1, e2, e3⟩ := info_parts info3
  have hll := HLL.1
  have hmk := run_make w9 55 3 i0 _ Try.underlying55 e0 e1 .i64 .i64 es.length es.length (by omega) (by omega) (by rw [e3]; omega) (by omega)
  rw [Int.toNat_natCast, e2, Nat.mul_one] at hmk
  have hz0 : (Value.int .i64 0).cells = #[.int .i64 0] := rfl
  rw [hz0] at hmk
  clear e0 e1 e2 e3 hz0
  go_upto_region 6 with fail
  have hb0 := B9.1.size
  have O3 := Az.mk (arr_made (blk_new w9 (.cells (madeCells #[.int .i64 0] es.length) 3)))
  have B3 := Az.mk (below_alloc B9.1 (.cells (madeCells #[.int .i64 0] es.length) 3))
  have K3 := Az.mk (blk_alloc K9.1 (.cells (madeCells #[.int .i64 0] es.length) 3))
  have F3 := Az.mk (Kd.F_alloc V9.1 (.cells (madeCells #[.int .i64 0] es.length) 3))
  have HGA : Az (w.heap.size <= w9.heap.size /\ gb < w9.heap.size) := ⟨hb0, blk_lt K9.1⟩
  clear hmk B9 K9 V9 hb0 hcz
  generalize w9.alloc (.cells (madeCells #[.int .i64 0] es.length) 3) = w10 at O3 B3 K3 F3 ⊢
  generalize w9.heap.size = ga at O3 B3 K3 F3 HGA ⊢
  have hlc := LC.1
  have hll2 : Az ((List.replicate es.length (0 : Int)).length = es.length) := ⟨by simp⟩
  go_wp2_with fail
  go_loopg [6, 27] k (fun kq v6 v27 w' => ∃ (i top : Int) (lv : List Int), v27 = .int .i64 i /\ v6 = .int .i64 top /\ Az (0 <= i) /\ Az (lv.length = es.length) /\ Az (lv0 kq es comps i lv top = some o) /\ Az (kq <= k) /\ Az (Below w.heap.size w w') /\ Az (w'.heap[gb]? = some (.cells #[.slice A es.length c] 49 (0, 0))) /\ Az (w'.heap[ga]? = some (arr lv)) /\ Az (Kd.F KS w' (fun k => w7.heap.size <= k /\ k < ga) Ac comps.length comps))
  case atStart => exact ⟨0, -1, _, rfl, rfl, ⟨by omega⟩, hll2, HLV, ⟨Nat.le_refl _⟩, B3, K3, O3, F3⟩
  case round => as_aux_lemma =>
   clear HLV B3 K3 O3 F3 hll2
   obtain ⟨i, top, lv, rfl, rfl, HI, HLEN, HA, HK1, B3, K3, O3, F3⟩ := hrel
   cases gk with
   | zero => exact absurd HA.1 (by simp [lv0])
   | succ k1 =>
    have H := HA.1
    clear HA
    rw [lv0] at H
    by_cases ci : i < comps.length
    rotate_left
    · as_aux_lemma =>
      rw [if_neg ci] at H
      obtain rfl := Option.some.inj H
      have cb : decide (i < (comps.length : Int)) = false := decide_eq_false ci
      clear H
      by_cases ct : 0 <= wrap64 (top + 1) /\ wrap64 (top + 1) < 5864062014805
      case neg => have := HH.1; simp only at this; rw [if_neg ct] at this; cases this
      have HH1 := HH.1
      simp only at HH1
      rw [if_pos ct] at HH1
      obtain ⟨out0, h3, h4⟩ := Option.map_eq_some_iff.1 HH1
      obtain ⟨rfl, rfl⟩ := Prod.mk.inj h4
      have H3 := Az.mk h3
      obtain ⟨ct0, ct1⟩ := ct
      obtain ⟨n, hn⟩ := Int.eq_ofNat_of_zero_le ct0
      rw [hn] at ct1
      rw [hn, Int.toNat_natCast] at H3
      have HN := Az.mk hn
      clear HH HH1 h3 h4 ct0 hn
      go_upto_region 19 with fail
      have hn := HN.1
      obtain ⟨i0, e0, e1, e2, e3⟩ := info_parts info55
      have hmk := run_make wr 47 55 i0 _ Try.underlying47 e0 e1 .i64 .i64 n n (by omega) (by omega) (by rw [e3]; omega) (by omega)
      rw [Int.toNat_natCast, e2, Nat.mul_one] at hmk
      have hz0 : (Value.slice none 0 0).cells = #[.slice none 0 0] := rfl
      rw [hz0] at hmk
      clear e0 e1 e2 e3 hz0
      go_upto_region 20 with fail
      obtain ⟨W3, rfl⟩ : ∃ W3 : World, W3 = wr := ⟨_, rfl⟩
      have O6 := Az.mk (show (W3.alloc (.cells (madeCells #[.slice none 0 0] n) 55)).heap[ga]? = some (arr lv) from blk_alloc O3.1 (.cells (madeCells #[.slice none 0 0] n) 55))
      have B6 := Az.mk (below_alloc B3.1 (.cells (madeCells #[.slice none 0 0] n) 55))
      have hbs := B3.1.size
      have S6 := Az.mk (S_made (base := w.heap.size) (ok := fun k => W3.heap.size <= k) (blk_new W3 (.cells (madeCells #[.slice none 0 0] n) 55)) hbs (by unfold maxLen; omega) (Nat.le_refl _))
      have HGO : Az (w.heap.size <= W3.heap.size /\ ga < W3.heap.size) := ⟨hbs, blk_lt O3.1⟩
      have hll2 : Az ((List.replicate n ([] : List Int)).length = n) := ⟨by simp⟩
      have HLE : Az (lv.length <= 9223372036854775807) := ⟨by have := HLL.1; rw [HLEN.1]; omega⟩
      clear hmk hn hbs K3 O3 B3 F3
      generalize W3.alloc (.cells (madeCells #[.slice none 0 0] n) 55) = W4 at O6 B6 S6 ⊢
      generalize W3.heap.size = go at S6 HGO ⊢
      have hle := HLE.1
      have hel := HLEN.1
      go_wp2_with fail
      go_loopg [82] k (fun kq v82 w' => ∃ (j : Int) (out : List (List Int)), v82 = .int .i64 j /\ Az (0 <= j) /\ Az (out.length = n) /\ Az (lv3 kq lv j out = some out0) /\ Az (kq <= k) /\ Az (Below w.heap.size w w') /\ Az (w'.heap[ga]? = some (arr lv)) /\ Az (Kd.S KS 55 w' w.heap.size (fun k => go <= k) (.slice (some ⟨go, 0, none⟩) n n) out))
      case atStart => exact ⟨0, _, rfl, ⟨by omega⟩, hll2, H3, ⟨Nat.le_refl _⟩, B6, O6, S6⟩
      case round => as_aux_lemma =>
       clear H3 B6 O6 S6 hll2
       obtain ⟨j, out, rfl, HJ, HLO, HA, HK2, B6, O6, S6⟩ := hrel
       obtain ⟨W5, rfl⟩ : ∃ W5 : World, W5 = wr := ⟨_, rfl⟩
       cases gk with
       | zero => exact absurd HA.1 (by simp [lv3])
       | succ k2 =>
        have H := HA.1
        clear HA
        rw [lv3] at H
        by_cases cj : j < lv.length
        rotate_left
        · as_aux_lemma =>
          rw [if_neg cj] at H
          obtain rfl := Option.some.inj H
          have cbj : decide (j < (es.length : Int)) = false := decide_eq_false (by rw [<- hel]; exact cj)
          clear H
          go_wp2_with fail
          go_ret2
          exact ⟨_, rfl, Kd.S_mono S6.1 (fun _ _ => trivial), B6.1⟩
        as_aux_lemma =>
        rw [if_pos cj] at H
        by_cases cd : 0 <= rd lv j /\ rd lv j < out.length /\ (row out (rd lv j)).length < 17592186044415
        case neg => rw [if_neg cd] at H; cases H
        rw [if_pos cd] at H
        have hj0 := HJ.1
        have cx := arr_cell O6.1 j hj0 cj
        have cj2 : j < (es.length : Int) := by rw [<- hel]; exact cj
        have cbj : decide (j < (es.length : Int)) = true := decide_eq_true cj2
        have qj := eq_true hj0
        generalize rd lv j = d at H cd cx
        obtain ⟨cd0, cd1, cd2⟩ := cd
        rw [HLO.1] at cd1
        have H' := Az.mk H
        clear H
        have q9 := eq_true cd0
        have q10 := eq_true cd1
        go_upto_region 23 with fail
        have hgo := Kd.S_lt S6.1 go (by simp [Value.ownBlock])
        have hgs := B6.1.size
        obtain ⟨v0, oki, x1, x2, x3, x4, x5⟩ := S_upd S6.1 (fun k hk => by omega) d cd0 cd1
        have X3 := Az.mk (Kd.R_mono (ok' := fun k => oki k \/ W5.heap.size <= k) x3 (fun k hk => .inl hk))
        have X4 := Az.mk x4
        have X5 := Az.mk (@x5)
        have X6 := Az.mk x3
        clear x3 x4 x5 cx
        go_wp2_with ((with_reducible refine gate_builtin (b := .append) (xs := #[.tmp 92, .tmp 94]) rfl ?_); at_builtin; refine Kd.R_append (Kd.int .i64) (w0 := W5) w.heap.size rfl (.tmp 92) (.tmp 94) 55 3 (.int .i64 0) 8 rfl Try.underlying55 info3 rfl (by decide) (by omega) v0 (row out d) j [.int .i64 j] (fun k => oki k \/ W5.heap.size <= k) (fun _ => False) rfl rfl rfl (fun _ hk => hk.elim) (fun k hk => .inr hk) X3.1 (Below.refl _ _) ?hs ?hl ?_)
        (case hs => omega)
        (case hl => omega)
        intro v1 w9 ho hb hg hat
        obtain ⟨A9, q9c, rfl⟩ := Kd.R_slice ho
        have hown : ∀ k, v0.ownBlock = some k -> go <= k /\ k ≠ go := fun k hk => X4.1 k (X6.1.1 k hk)
        have hga := HGO.1.2
        have hgw := HGO.1.1
        have O9 := Az.mk (blk_grown O6.1 hg (fun e => by have := (hown ga e.symm).1; omega))
        have B9 := Az.mk (B6.1.grown hg (by omega) (fun k hk => by have := (hown k hk).1; omega))
        have hne9 : some go ≠ v0.ownBlock := fun e => (hown _ e.symm).2 rfl
        have k2 : w9.cell? ⟨go, d.toNat, none⟩ = some v0 := (World.cell?_of_block (hg.block go hgo hne9)).trans x1
        have k3 : w9.frozen? ⟨go, d.toNat, none⟩ = false := (World.frozen?_of_block (hg.block go hgo hne9)).trans x2
        have G9 := Az.mk hg
        have R9 := Az.mk ho
        clear hg ho hb hat hown x1 x2 hne9 B6 O6 S6 X3 X4 X6 hga hgw
        go_upto_region 24 with fail
        obtain ⟨S10, g10⟩ := X5.1 w9 _ _ G9.1 R9.1
        have S11 := Az.mk S10
        have O11 := Az.mk (blk_grown O9.1 g10 (by have := HGO.1.2; intro e; injection e with e; omega))
        have B11 := Az.mk (B9.1.grown g10 (by have := G9.1.size; omega) (fun k hk => by cases hk; exact HGO.1.1))
        have HL11 : Az ((app out d j).length = n) := ⟨by unfold app; simp only [List.length_set]; exact HLO.1⟩
        clear S10 g10 k2 k3 G9 R9 X5 O9 B9 hgs hgo
        have e9 : (row out d ++ [j]).length = (row out d).length + 1 := by simp
        rw [e9] at S11 O11 B11
        clear e9
        generalize w9.setCell ⟨go, d.toNat, none⟩ (.slice A9 ((row out d).length + 1) q9c) = w11 at S11 O11 B11 ⊢
        go_wp2_with fail
        go_roundg k2
        case measure => omega
        case rel => exact ⟨j + 1, _, rfl, ⟨by omega⟩, HL11, H', ⟨by have := HK2.1; omega⟩, B11, O11, S11⟩
    as_aux_lemma =>
    rw [if_pos ci] at H
    by_cases cx : 0 < (row comps i).length /\ 0 <= rd (row comps i) 0 /\ rd (row comps i) 0 < es.length
    case neg => rw [if_neg cx] at H; cases H
    rw [if_pos cx] at H
    obtain ⟨cx0, cx1, cx2⟩ := cx
    have hi0 := HI.1
    obtain ⟨adc, Ar, cr, er, hx, hxl, hxi⟩ := at_L11 (Kd.F_now F3.1) i hi0 ci
    subst er
    have el : rd_L11 comps i = row comps i := rfl
    rw [el] at hx hxl hxi
    have HXI := Az.mk hxi
    have HXL := Az.mk hxl
    obtain ⟨ad0, e0, hy⟩ := Kd.at_int hxi 0 (by omega) (by omega)
    subst e0
    rw [show ((0 : Int)).toNat = 0 from rfl, Addr.add_zero'] at hy
    clear hxi hxl el
    have cb : decide (i < (comps.length : Int)) = true := decide_eq_true ci
    have q0 := eq_true hi0
    have cz : (0 < (row comps i).length) = True := eq_true cx0
    have H' := Az.mk H
    clear H
    go_upto_region 10 with fail
    clear hy hx cz cb q0
    generalize rd (row comps i) 0 = v at H' cx1 cx2 ⊢
    have hcz := (blk_cell K3.1 0)
    have hcy : wr.cell? ⟨gb, 0, none⟩ = some (.slice A es.length c) := hcz.trans rfl
    clear hcz
    by_cases c1 : 1 < (row comps i).length
    · as_aux_lemma =>
      have H := H'.1
      clear H'
      rw [if_pos (Or.inl c1)] at H
      obtain rfl := Option.some.inj H
      obtain ⟨rfl, rfl⟩ := Prod.mk.inj (Option.some.inj HH.1)
      have cb1 : decide ((1 : Int) < ((row comps i).length : Int)) = true := decide_eq_true (by omega)
      clear H HH
      go_wp2_with fail
      go_ret2
      exact ⟨_, rfl, Kd.S_nil _ _ _ _ _, B3.1⟩
    as_aux_lemma =>
    have cb1 : decide ((1 : Int) < ((row comps i).length : Int)) = false := decide_eq_false (by omega)
    obtain ⟨adE, Ae, ce, er, hx, hxl, hxi⟩ := at_L11 HR.1 v cx1 cx2
    subst er
    have el : rd_L11 es v = row es v := rfl
    rw [el] at hx hxl hxi
    have hx1 := (B3.1.cell (World.block_lt_of_cell? _ _ hx)).trans hx
    have HXE := Az.mk hx
    have EXI := Az.mk hxi
    have EXL := Az.mk hxl
    clear hx hxi hxl el
    have q1 := eq_true cx1
    have q2 := eq_true cx2
    have CON := Az.mk (fun (wq : World) (hq : Below w.heap.size w wq) => slices_Contains_int_int.calls ((row es v).length + 1) Ae ce (row es v) v _ wq (Kd.C_below EXI.1 hq) EXL.1 (contains_run _ _ (EXI.1.2.1)))
    by_cases cc1 : (row es v).contains v = true
    · as_aux_lemma =>
      have H := H'.1
      clear H'
      rw [if_pos (Or.inr cc1)] at H
      obtain rfl := Option.some.inj H
      obtain ⟨rfl, rfl⟩ := Prod.mk.inj (Option.some.inj HH.1)
      clear H HH
      rw [cc1] at CON
      go_wp2_with (go_at_call 41; refine (CON.1 wr B3.1).mono ?_; rintro e w11 ⟨rfl, hd11⟩; obtain ⟨⟨nq, rfl⟩⟩ := hd11)
      go_ret2
      exact ⟨_, rfl, Kd.S_nil _ _ _ _ _, pw_below_drewN B3.1 nq⟩
    as_aux_lemma =>
    have cc2 : (row es v).contains v = false := by simpa using cc1
    rw [cc2] at CON
    have H := H'.1
    clear H'
    rw [if_neg (by rintro (h | h); exact c1 h; exact cc1 h)] at H
    obtain ⟨lv2, hl2, H⟩ := Option.bind_eq_some_iff.1 H
    have HL2 := Az.mk hl2
    have H' := Az.mk H
    clear H hl2
    go_upto_region 12 with (go_at_call 41; refine (CON.1 wr B3.1).mono ?_; rintro e w11 ⟨rfl, hd11⟩; obtain ⟨⟨nq, rfl⟩⟩ := hd11)
    have B4 := Az.mk (pw_below_drewN B3.1 nq)
    have K4 := Az.mk (blk_drewN K3.1 nq)
    have O4 := Az.mk (show (wr.drewN nq).heap[ga]? = some (arr lv) from blk_drewN O3.1 nq)
    have F4 := Az.mk (Kd.F_drewN F3.1 nq)
    clear B3 K3 O3 F3 CON hcy hx1
    generalize wr.drewN nq = w12 at B4 K4 O4 F4 ⊢
    have hcy : w12.cell? ⟨gb, 0, none⟩ = some (.slice (some adE) es.length c) := (blk_cell K4.1 0).trans rfl
    have hx1 := (B4.1.cell (World.block_lt_of_cell? _ _ HXE.1)).trans HXE.1
    have hel := EXI.1.2.1
    go_wp2_with fail
    clear hx1 hcy q1 q2
    go_loopg [52] k1 (fun kq v52 w' => ∃ (j : Int) (lv3 : List Int), v52 = .int .i64 j /\ Az (0 <= j) /\ Az (lv3.length = es.length) /\ Az (lv1 kq v (row es v) j lv3 = some lv2) /\ Az (kq <= k1) /\ Az (Below w.heap.size w w') /\ Az (w'.heap[gb]? = some (.cells #[.slice (some adE) es.length c] 49 (0, 0))) /\ Az (w'.heap[ga]? = some (arr lv3)) /\ Az (Kd.F KS w' (fun k => w7.heap.size <= k /\ k < ga) (some adc) comps.length comps))
    case atStart => exact ⟨0, _, rfl, ⟨by omega⟩, HLEN, HL2, ⟨Nat.le_refl _⟩, B4, K4, O4, F4⟩
    case round => as_aux_lemma =>
     clear HL2 B4 K4 O4 F4
     obtain ⟨j, lv3, rfl, HJ, HLEN3, HA, HK2, B4, K4, O4, F4⟩ := hrel
     obtain ⟨W2, rfl⟩ : ∃ W2 : World, W2 = wr := ⟨_, rfl⟩
     cases gk with
     | zero => exact absurd HA.1 (by simp [lv1])
     | succ k2 =>
      have H := HA.1
      clear HA
      rw [lv1] at H
      by_cases cj : j < (row es v).length
      rotate_left
      · as_aux_lemma =>
        rw [if_neg cj] at H
        obtain rfl := Option.some.inj H
        have cbj : decide (j < ((row es v).length : Int)) = false := decide_eq_false cj
        clear H
        have q1 := eq_true cx1
        have q2 := eq_true cx2
        have cv := arr_cell O4.1 v cx1 (by rw [HLEN3.1]; exact cx2)
        go_wp2_with fail
        go_roundg k1
        case measure => omega
        case rel => exact ⟨i + 1, _, _, rfl, rfl, ⟨by have := HI.1; omega⟩, HLEN3, H', ⟨by have := HK1.1; omega⟩, B4, K4, O4, F4⟩
      as_aux_lemma =>
      rw [if_pos cj] at H
      by_cases cd : 0 <= rd (row es v) j /\ rd (row es v) j < lv3.length
      case neg => rw [if_neg cd] at H; cases H
      rw [if_pos cd] at H
      have hj0 := HJ.1
      obtain ⟨adj, ej, hx⟩ := Kd.at_int EXI.1 j hj0 cj
      subst ej
      have hxj := (B4.1.cell (World.block_lt_of_cell? _ _ hx)).trans hx
      clear hx
      generalize rd (row es v) j = d at H cd hxj
      obtain ⟨cd0, cd1⟩ := cd
      have H' := Az.mk H
      clear H
      have cbj : decide (j < ((row es v).length : Int)) = true := decide_eq_true cj
      have qj := eq_true hj0
      have q1 := eq_true cx1
      have q2 := eq_true cx2
      have q3 := eq_true cd0
      have q4 : (d < (es.length : Int)) = True := eq_true (by rw [<- HLEN3.1]; exact cd1)
      have cv := arr_cell O4.1 v cx1 (by rw [HLEN3.1]; exact cx2)
      have cdd := arr_cell O4.1 d cd0 cd1
      have fv := arr_free O4.1 v.toNat
      go_upto_region 15 with fail
      go_region
      have B5 := Az.mk (below_drew (B4.1.setCell (show w.heap.size <= (⟨ga, v.toNat, none⟩ : Addr).block from HGA.1.1) (.int .i64 (max (rd lv3 v) (wrap64 (rd lv3 d + 1))))))
      have K5 := Az.mk (blk_drew (blk_far K4.1 (p := ⟨ga, v.toNat, none⟩) (show gb ≠ ga from Nat.ne_of_lt HGA.1.2) (.int .i64 (max (rd lv3 v) (wrap64 (rd lv3 d + 1))))))
      have O5 := Az.mk (show (W2.setCell ⟨ga, v.toNat, none⟩ (.int .i64 (max (rd lv3 v) (wrap64 (rd lv3 d + 1))))).drew.heap[ga]? = some (arr (lv3.set v.toNat (max (rd lv3 v) (wrap64 (rd lv3 d + 1))))) from by unfold arr; rw [<- nums_set]; exact blk_drew (blk_set O4.1 v.toNat _))
      have F5 := Az.mk (Kd.F_drew (Kd.F_far (p := ⟨ga, v.toNat, none⟩) F4.1 (fun k hk => show k ≠ ga from Nat.ne_of_lt hk.2) (.int .i64 (max (rd lv3 v) (wrap64 (rd lv3 d + 1))))))
      have L5 : Az ((lv3.set v.toNat (max (rd lv3 v) (wrap64 (rd lv3 d + 1)))).length = es.length) := ⟨by rw [List.length_set]; exact HLEN3.1⟩
      clear B4 K4 O4 F4 cv cdd fv hxj HLEN3
      generalize (W2.setCell ⟨ga, v.toNat, none⟩ (.int .i64 (max (rd lv3 v) (wrap64 (rd lv3 d + 1))))).drew = w13 at B5 K5 O5 F5 ⊢
      go_wp2_with fail
      go_roundg k2
      case measure => omega
      case rel => exact ⟨j + 1, _, rfl, ⟨by omega⟩, L5, H', ⟨by have := HK2.1; omega⟩, B5, K5, O5, F5⟩
end Lv
end Go.Proofs.Ytmadhaccjmakdaa
namespace Go.Proofs.Ytmadhaccjmakdaa
open Go.RowKit Go.Proofs.Yw.A Go.Proofs.Yw.B Go.Proofs.Yw.C Go.Proofs.Ytmadhaccjmakdaa.P
namespace P
noncomputable def g_Levels.f (l : List (List Int)) : Option (List (List Int) × Int) := Od.lim fun k => Lv.levelsF k l
theorem g_Levels.calls (A0_0 : Option Addr) (c0_0 : Nat) (l0_0 : List (List Int)) (r1 : List (List Int)) (r2 : Int) (w : World) (hr0_0 : Kd.C (Kd.slice 3 (Kd.int .i64)) w A0_0 l0_0.length l0_0) (hc0_0 : l0_0.length <= c0_0) (h : g_Levels.f l0_0 = some (r1, r2)) :
    Calls Try.prog 30 #[.agg #[.slice A0_0 l0_0.length c0_0]] w fun e w' => ∃ v0_ : Value, e = .returned (.tuple #[v0_, .int .i64 r2]) /\ Kd.S (Kd.slice 3 (Kd.int .i64)) 55 w' w.heap.size (fun _ => True) v0_ r1 /\ Below w.heap.size w w' := by
  obtain ⟨k0, h0⟩ := Od.lim_some h
  exact Lv.levels_calls k0 A0_0 c0_0 l0_0 r1 r2 w hr0_0 hc0_0 (h0 k0 (Nat.le_refl _))
end P
end Go.Proofs.Ytmadhaccjmakdaa
