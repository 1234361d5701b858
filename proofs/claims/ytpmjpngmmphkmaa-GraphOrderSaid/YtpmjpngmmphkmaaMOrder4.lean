/- Part 4 of 4 of one proof: The law GraphOrder of the graph chapter holds: for every input it returns true, and the input reads as it did -/
import Derived.Below
import Derived.ChangeOld
import Derived.OpenShut
import Derived.ProofKit
import Derived.ShutString
import Derived.SizedLaws
import Derived.Test.YtpmjpngmmphkmaaRows
import Derived.WalkKit
import Derived.Test.YtpmjpngmmphkmaaMOrder1
import Derived.Test.YtpmjpngmmphkmaaMOrder2
import Derived.Test.YtpmjpngmmphkmaaMOrder3
set_option linter.unusedVariables false
set_option linter.unusedSimpArgs false
/- GraphOrder as printed answers true for every graph whose rows have a bounded length. -/
namespace Go.Proofs.Ytpmjpngmmphkmaa
open Go.RowKit Go.Proofs.YtpmjpngmmphkmaaW.PrintWords Go.Proofs.YtpmjpngmmphkmaaW.PrintLast Go.Proofs.YtpmjpngmmphkmaaW.PrintMore Go.Proofs.Ytpmjpngmmphkmaa.P
namespace Tp
open Tj Rw Od
open Classical
set_option linter.unusedVariables false
section
variable {l o : List (List Int)}

theorem one_place (P : Parts l o) {a b : Nat} {c d : List Int} {v : Int} (ha : o[a]? = some c) (hb : o[b]? = some d) (hc : v ∈ c) (hd : v ∈ d) : a = b := by
  have h := (List.pairwise_flatten.1 P.one).2
  obtain ⟨a1, rfl⟩ := List.getElem?_eq_some_iff.1 ha
  obtain ⟨b1, rfl⟩ := List.getElem?_eq_some_iff.1 hb
  rcases Nat.lt_trichotomy a b with e | e | e
  · exact absurd rfl (List.pairwise_iff_getElem.1 h a b a1 b1 e v hc v hd)
  · exact e
  · exact absurd rfl (List.pairwise_iff_getElem.1 h b a b1 a1 e v hd v hc)

/-- Which nodes have their component's number. -/
def Put (o : List (List Int)) (I q : Nat) (ats : List Int) : Prop := ∀ (a : Nat) (c : List Int) (v : Int), o[a]? = some c → v ∈ c → rd ats v = if a < I ∨ (a = I ∧ v ∈ c.take q) then (a : Int) + 1 else 0

theorem put_next {I q : Nat} {ats : List Int} (h : Put o I q ats) {c : List Int} (hc : o[I]? = some c) (hq : c.length ≤ q) : Put o (I + 1) 0 ats := by
  intro a d v ha hv
  rw [h a d v ha hv]
  by_cases e : a < I
  · rw [if_pos (.inl e), if_pos (.inl (by omega))]
  · by_cases e2 : a = I
    · subst e2
      rw [hc] at ha
      obtain rfl := Option.some.inj ha
      rw [if_pos (.inr ⟨rfl, by rw [List.take_of_length_le hq]; exact hv⟩), if_pos (.inl (by omega))]
    · rw [if_neg (fun h => h.elim e (fun h => e2 h.1)), if_neg (fun h => h.elim (fun h => by omega) (fun h => by have := h.2; simp at this))]

theorem put_step (hv : Vld l) (P : Parts l o) {I q : Nat} {ats c : List Int} (h : Put o I q ats) (hlen : ats.length = l.length) (hc : o[I]? = some c) (hq : q < c.length) :
    rd ats (rd c q) = 0 ∧ nd l (rd c q) ∧ Put o I (q + 1) (ats.set (rd c q).toNat ((I : Int) + 1)) := by
  have hx : rd c q ∈ c := by rw [rd_at _ q hq]; exact List.getElem_mem _
  have hcm := List.mem_of_getElem? hc
  have hn : ∀ (a : Nat) (d : List Int) (v : Int), o[a]? = some d → v ∈ d → nd l v := by
    intro a d v ha hvd
    obtain ⟨m, _, rfl⟩ := P.scc d (List.mem_of_getElem? ha)
    exact (mem_scc.1 hvd).1
  have hxn := hn I c _ hc hx
  have htake : c.take (q + 1) = c.take q ++ [rd c q] := by rw [rd_at c q hq]; exact List.take_succ_eq_append_getElem hq
  have hnt : rd c q ∉ c.take q := by
    intro hm
    have h2 : (c.take (q + 1)).Nodup := ((P.asc c hcm).imp (fun h e => by subst e; omega) : c.Nodup).sublist (List.take_sublist _ _)
    rw [htake, List.nodup_append] at h2
    exact h2.2.2 _ hm _ (by simp) rfl
  refine ⟨?_, hxn, ?_⟩
  · rw [h I c _ hc hx, if_neg]
    rintro (e | e)
    · omega
    · exact hnt e.2
  · intro a d v ha hvd
    rw [rd_set _ _ _ _ hxn.1 (by rw [hlen]; exact hxn.2) (hn a d v ha hvd).1]
    by_cases e : v = rd c q
    · rw [if_pos e]
      subst e
      have := one_place P ha hc hvd hx
      subst this
      rw [hc] at ha
      obtain rfl := Option.some.inj ha
      rw [if_pos (.inr ⟨rfl, by rw [htake]; simp⟩)]
    · rw [if_neg e, h a d v ha hvd]
      by_cases e2 : a = I
      · subst e2
        rw [hc] at ha
        obtain rfl := Option.some.inj ha
        have : v ∈ c.take (q + 1) ↔ v ∈ c.take q := by rw [htake]; simp [e]
        simp only [this]
      · have hc2 : (a < I ∨ a = I ∧ v ∈ d.take (q + 1)) ↔ (a < I ∨ a = I ∧ v ∈ d.take q) := by simp [e2]
        simp only [hc2]

theorem ord_l2 (hs : Sm l) (hv : Vld l) (ho : Full l o) {ats : List Int} (hlen : ats.length = l.length) (h : Put o o.length 0 ats) : ∀ (m i : Nat), i + m = l.length → Ev (fun k => lazyclaw09_GraphOrder.l2 k ats (l.length : Int) i l) true := by
  have P := kahn_parts hv ho.1
  have h60 := hs.1
  intro m
  induction m with
  | zero =>
    intro i hi
    refine Ev.step (fun k => ?_) (Ev.now true)
    simp only [lazyclaw09_GraphOrder.l2]
    rw [if_neg (show ¬ (i : Int) < (l.length : Int) by omega), if_pos trivial]
    rfl
  | succ m ih =>
    intro i hi
    have hin : nd l (i : Int) := ⟨by omega, by omega⟩
    have hr := hs.row (i : Int)
    have inner : ∀ (m2 q : Nat), q + m2 = (row l (i : Int)).length → Ev (fun k => lazyclaw09_GraphOrder.l3 k ats (l.length : Int) i q l) true := by
      intro m2
      induction m2 with
      | zero =>
        intro q hq
        refine Ev.step (fun k => ?_) (ih (i + 1) (by omega))
        simp only [lazyclaw09_GraphOrder.l3]
        rw [L1_row, if_pos hin.1, if_pos (show (i : Int) < (l.length : Int) from hin.2), if_neg (show ¬ (q : Int) < ((row l (i : Int)).length : Int) by omega), succ_cast i (by omega)]
      | succ m2 ih2 =>
        intro q hq
        have hql : q < (row l (i : Int)).length := by omega
        have hw : rd (row l (i : Int)) q ∈ row l (i : Int) := by rw [rd_at _ q hql]; exact List.getElem_mem _
        have hwn := hv _ hin _ hw
        obtain ⟨c, hc, hic⟩ := List.mem_flatten.1 (ho.2 _ hin)
        obtain ⟨a, ha, hac⟩ := List.mem_iff_getElem.1 hc
        have ha2 : o[a]? = some c := by rw [List.getElem?_eq_getElem ha, hac]
        obtain ⟨b, d, b1, b2, b3⟩ := P.back a c ha2 _ hic _ hw
        have e1 := h a c _ ha2 hic
        have e2 := h b d _ b2 b3
        rw [if_pos (.inl ha)] at e1
        rw [if_pos (.inl (by omega))] at e2
        refine Ev.step (fun k => ?_) (ih2 (q + 1) (by omega))
        simp only [lazyclaw09_GraphOrder.l3]
        rw [L1_row, if_pos hin.1, if_pos (show (i : Int) < (l.length : Int) from hin.2), if_pos (show (q : Int) < ((row l (i : Int)).length : Int) by omega), if_pos (show (0 : Int) ≤ q by omega), if_pos hwn.1,
          if_pos (show rd (row l (i : Int)) q < (ats.length : Int) by rw [hlen]; exact hwn.2), if_pos (show (i : Int) < (ats.length : Int) by rw [hlen]; exact hin.2), if_neg (show ¬ rd ats (rd (row l (i : Int)) q) > rd ats (i : Int) by omega), succ_cast q (by omega)]
    refine Ev.step (fun k => ?_) (inner (row l (i : Int)).length 0 (by omega))
    simp only [lazyclaw09_GraphOrder.l2]
    rw [if_pos (show (i : Int) < (l.length : Int) by omega)]
    rfl

theorem ord_l0 (hs : Sm l) (hv : Vld l) (ho : Full l o) : ∀ (m I : Nat) (ats : List Int), I + m = o.length → ats.length = l.length → Put o I 0 ats → Ev (fun k => lazyclaw09_GraphOrder.l0 k ats (((o.take I).flatten.length : Nat) : Int) o I l) true := by
  have P := kahn_parts hv ho.1
  have h60 := hs.1
  obtain ⟨f1, f2, f3⟩ := full_len hv ho
  intro m
  induction m with
  | zero =>
    intro I ats hI hlen h
    obtain rfl : I = o.length := by omega
    rw [List.take_length, f1]
    refine Ev.step (fun k => ?_) (ord_l2 hs hv ho hlen h l.length 0 (by omega))
    simp only [lazyclaw09_GraphOrder.l0]
    rw [if_neg (by omega)]
    rfl
  | succ m ih =>
    intro I ats hI hlen h
    have hIl : I < o.length := by omega
    have hc : o[I]? = some (row o (I : Int)) := by rw [List.getElem?_eq_getElem hIl, row_mem o I hIl]
    have hcm := List.mem_of_getElem? hc
    have hcl := f3 _ hcm
    have hasc := P.asc _ hcm
    have hfl : (o.take (I + 1)).flatten.length = (o.take I).flatten.length + (row o (I : Int)).length := by
      rw [List.take_succ_eq_append_getElem hIl, List.flatten_append, List.length_append, row_mem o I hIl]
      simp
    have hfb : (o.take (I + 1)).flatten.length ≤ l.length := by
      rw [← f1, ← List.take_append_drop (I + 1) o, List.flatten_append, List.length_append, List.take_append_drop]
      omega
    generalize (o.take I).flatten.length = F at *
    have inner : ∀ (m2 q : Nat) (ats : List Int), q + m2 = (row o (I : Int)).length → ats.length = l.length → Put o I q ats → Ev (fun k => lazyclaw09_GraphOrder.l1 k ats ((F + q : Nat) : Int) o I q l) true := by
      intro m2
      induction m2 with
      | zero =>
        intro q ats hq hlen h
        have h2 := ih (I + 1) ats (by omega) hlen (put_next h hc (by omega))
        rw [hfl, show (row o (I : Int)).length = q by omega] at h2
        refine Ev.step (fun k => ?_) h2
        simp only [lazyclaw09_GraphOrder.l1]
        rw [L1_row, if_pos (show (0 : Int) ≤ I by omega), if_pos (show (I : Int) < (o.length : Int) by omega), if_neg (show ¬ (q : Int) < ((row o (I : Int)).length : Int) by omega), succ_cast I (by omega)]
      | succ m2 ih2 =>
        intro q ats hq hlen h
        have hql : q < (row o (I : Int)).length := by omega
        obtain ⟨z1, z2, z3⟩ := put_step hv P h hlen hc hql
        have h2 := ih2 (q + 1) _ (by omega) (by rw [List.length_set]; exact hlen) z3
        have p1 : (0 : Int) ≤ I := by omega
        have p2 : (I : Int) < (o.length : Int) := by omega
        have p3 : (q : Int) < ((row o (I : Int)).length : Int) := by omega
        have p4 : (0 : Int) ≤ q := by omega
        have p5 : ¬ rd (row o (I : Int)) q < 0 := by have := z2.1; omega
        have p6 : ¬ rd (row o (I : Int)) q ≥ (ats.length : Int) := by have := z2.2; omega
        have p7 : rd (row o (I : Int)) q < (ats.length : Int) := by have := z2.2; omega
        have p8 : ((F + q : Nat) : Int) + 1 = ((F + (q + 1) : Nat) : Int) := by omega
        have p9 : F + q < 1000000000 := Nat.lt_of_le_of_lt (show F + q ≤ 60 by omega) (by decide)
        have p10 := succ_cast q (by omega)
        have p11 : q - 1 < (row o (I : Int)).length := Nat.lt_of_le_of_lt (Nat.sub_le q 1) hql
        have hwI : wrap64 ((I : Int) + 1) = (I : Int) + 1 := by rw [succ_cast I (by omega)]; omega
        have hwn : wrap64 (((F + q : Nat) : Int) + 1) = ((F + (q + 1) : Nat) : Int) := by rw [succ_cast _ p9]; rfl
        refine Ev.step (fun k => ?_) h2
        simp only [lazyclaw09_GraphOrder.l1]
        rw [L1_row, if_pos p1, if_pos p2, if_pos p3, if_pos p4, if_neg p5, if_neg p6, if_pos z2.1, if_pos p7, if_pos z1, hwI, hwn, p10]
        clear hwI hwn p10 h2
        by_cases hq0 : (q : Int) > 0
        · have hwq : wrap64 ((q : Int) - 1) = ((q - 1 : Nat) : Int) := by rw [w64 _ (by omega) (by omega)]; omega
          have hlt : rd (row o (I : Int)) ((q - 1 : Nat) : Int) < rd (row o (I : Int)) q := by
            rw [rd_at _ (q - 1) (by omega), rd_at _ q hql]
            exact List.pairwise_iff_getElem.1 hasc (q - 1) q (by omega) hql (by omega)
          rw [if_pos hq0, hwq, if_pos (show (0 : Int) ≤ ((q - 1 : Nat) : Int) by omega), if_pos (show ((q - 1 : Nat) : Int) < ((row o (I : Int)).length : Int) from Int.ofNat_lt.2 p11), if_neg (Int.not_le.2 hlt)]
        · rw [if_neg hq0]
    refine Ev.step (fun k => ?_) (inner (row o (I : Int)).length 0 ats (by omega) hlen h)
    simp only [lazyclaw09_GraphOrder.l0]
    rw [if_pos (show (I : Int) < (o.length : Int) by omega)]
    rfl
end

theorem GraphOrder (l : List (List Int)) (h : ∀ r ∈ l, r.length * 8 ≤ 140737488351232) : ∃ k, lazyclaw09_GraphOrder.f k l = some true := by
  refine Ev.rounds (g := fun k => lazyclaw09_GraphOrder.f k l) ?_
  have hj0 : Ev (fun k => lazyclaw09_GraphOrder.j0 k true l) true := Ev.step (fun k => by simp only [lazyclaw09_GraphOrder.j0]; rw [if_pos trivial]; rfl) (Ev.now true)
  obtain ⟨b, b1, b2⟩ := small_ev l h
  refine Ev.bind b1 (f := fun k t => if t = true then _ else _) ?_
  cases b with
  | false => exact hj0
  | true =>
    have hs := b2 rfl
    have h60 := hs.1
    have hb := rv_ev l hs
    refine Ev.bind hb (f := fun k t => lazyclaw09_GraphOrder.j0 k (!t) l) ?_
    by_cases hv : Vld l
    · rw [(vldB_iff l).2 hv]
      obtain ⟨o, o1, o2⟩ := comps_ev hs hv
      have h0 := ord_l0 hs hv o1 o.length 0 (List.replicate l.length 0) (by omega) (by simp) (by
        intro a c v ha hvc
        rw [rd_rep0, if_neg (by simp)])
      refine Ev.step (fun k => ?_) (Ev.bind o2 (f := fun k t => lazyclaw09_GraphOrder.l0 k (List.replicate l.length 0) 0 t 0 l) h0)
      simp only [lazyclaw09_GraphOrder.j0]
      rw [if_neg (by simp), if_pos (by omega), if_pos (by omega), Int.toNat_natCast]
    · have hf : vldB l = false := Bool.eq_false_iff.2 fun e => hv ((vldB_iff l).1 e)
      rw [hf]
      exact hj0
end Tp
end Go.Proofs.Ytpmjpngmmphkmaa
/- The law GraphOrder of the graph chapter holds: for every input it returns true, and the input reads as it did. -/
namespace Go.Proofs.Ytpmjpngmmphkmaa.graphOrder
open Go.ChangeShapes Go.WideShapes Go.ChangeAt Go.RowKit
set_option linter.unusedVariables false
theorem own : ownKnob Try.prog.godebug = none := by kernel_rfl
theorem laidOut : laidOutB Try.prog = true := by kernel_rfl
set_option maxRecDepth 100000 in
theorem lifted (os : Os) (started : os.Started) (H : Type) (enc : TypeId × Value → H) :
    ReturnsInHanded {} Try.checked os 5 .any (Rows.graphOrderSpec.pre6 enc Try.prog Try.f5 Rows.graphOrderRow.domain false) (Rows.graphOrderSpec.post enc Try.prog Try.f5 false true false false) := by
  refine returnsInHanded_of_change_sized (C := Try.checked) own started (by kernel_rfl) Try.func5
    (ChangeSpec.witness6 (enc := enc) (C := Try.checked) false ⟨#[], #[.agg #[.slice none 0 0]], []⟩ 8 (by kernel_rfl) (by kernel_rfl) (by kernel_rfl) (by kernel_rfl)) ?_
  intro W base args ds gs before hval0 hW hcnd hsz0 _
  have hsz : (DataW.weightsEach Try.prog (Try.f5.params.toList ++ Rows.graphOrderSpec.plain.varTypes Try.prog) (ds ++ gs)).all (· ≤ reachBytes) = true := hsz0
  have hval : ∀ (j : Nat) t v, Try.f5.params[j]? = some t → args[j]? = some v → Value.okWide Try.prog W .any base t v := hval0
  have hW' := hW
  obtain ⟨p, q, hA0, hV, rfl, hfz, hnd⟩ := hW
  have hA : DataW.TrodAll enc Try.prog W 0 (fun _ => true) true Try.f5.params.toList args.toList ds p := hA0
  rw [Try.params5] at hA hval hsz
  obtain ⟨v0, vs0, d0, ds0, p0, q0, hargs, rfl, rfl, h0, r0⟩ := trodAll_cons hA
  obtain ⟨rfl, rfl, rfl⟩ := trodAll_nil r0
  obtain rfl : args = #[v0] := by cases args; simp_all
  obtain ⟨rfl, rfl⟩ := trodVars_none hV
  have k0 := h0
  have lt0 : ∀ x ∈ p0, x.block < W.heap.size := by obtain ⟨m, hm⟩ := k0; exact DataW.trod_lt m _ _ _ hm
  obtain ⟨A0, c0, l0, rfl, hc0, hr0, y0⟩ := Gr.open_graph (hval 0 24 v0 rfl rfl) hsz (j := 0) rfl rfl h0
  clear hA0 hval0 hsz0 hsz
  obtain ⟨kr, hkr⟩ := Tp.GraphOrder l0 y0
  refine (P.lazyclaw09_GraphOrder.calls kr A0 c0 l0 true W hr0 hc0 hkr).mono fun e W' ⟨he, bel⟩ => ?_
  subst he
  exact ⟨_, rfl, _, _, _, [], _, [], hW', trodAll_mk1 (shut_bool Try.underlying4 _), (trodAll_cons_mk (Below.trod laidOut (by kernel_rfl) (of_decide_eq_true (by kernel_rfl)) k0 bel lt0) trodAll_mk0), rfl, bel.frame _, fun h => by cases h⟩
theorem over : Rows.graphOrderRow.holds Try.pinned (OpenSpec.ofChange Rows.graphOrderSpec) :=
  OpenClaim.holds_of_wide 5 Try.f5 rfl rfl rfl rfl rfl rfl rfl ⟨rfl, rfl, rfl, rfl, rfl⟩ rfl rfl rfl rfl rfl (by kernel_rfl) Try.func5 (by kernel_rfl)
    (of_decide_eq_true (by kernel_rfl)) (by unfold Func.isWrapper; first | (rw [if_pos (by decide +kernel)]; kernel_rfl) | (rw [if_neg (by decide +kernel)]; exact ⟨rfl, rfl⟩))
    (fun os started H enc _ => lifted os started H enc)
theorem proved : Rows.GraphOrderSaid := over
#print axioms proved
end Go.Proofs.Ytpmjpngmmphkmaa.graphOrder
namespace Go.Proofs.Ytpmjpngmmphkmaa
/-- The row, under a short name, for the claim. -/
theorem graphOrder_holds : Rows.GraphOrderSaid := graphOrder.proved
end Go.Proofs.Ytpmjpngmmphkmaa
