/- The master: Hear. WRITTEN BY wip/gen_y16.py. -/
import Derived.Test.YtbnhhlahbhjogaaY13
import Derived.Test.YtbnhhlahbhjogaaY14
set_option linter.unusedVariables false
set_option linter.unusedSimpArgs false
set_option maxRecDepth 100000
namespace Go.Proofs.Ytbnhhlahbhjogaa.K
open Go.RowKit Go.Proofs.YtbnhhlahbhjogaaW.PrintWords Go.Proofs.YtbnhhlahbhjogaaW.PrintLast Go.Proofs.YtbnhhlahbhjogaaW.PrintMore Go.Proofs.Ytbnhhlahbhjogaa.U Go.Proofs.Ytbnhhlahbhjogaa.T

/-- What is heard of a master at work. -/
def hearK (c : CfgD) (m : MaS) (frm : Int) (x : MsgD) : MaS × List FLet × List RecD :=
  if x.k = 4 then (match doneK c m x with | none => (m, [], []) | some k => (winK m k x.a x.set, [], [⟨1, 0, x.s, x.a, 0, x.set, []⟩]))
  else if x.k = 5 then (if (openN m x.s).isSome = true ∧ 1 ≤ x.r ∧ x.r ≤ 6 then (endS m 2 x.r, [], [⟨3, 0, x.s, 0, x.r, [], []⟩]) else (m, [], []))
  else if x.k = 6 then (if 0 ≤ x.p ∧ x.p < c.job.parts then ((helloF c m frm x).1, (helloF c m frm x).2, []) else (m, [], []))
  else if x.k = 8 then (if 0 ≤ x.p ∧ x.p < c.job.parts then ((wholeF c m x).1, [], (wholeF c m x).2) else (m, [], []))
  else (m, [], [])
def hearF (c : CfgD) (m : MaS) (frm : Int) (x : MsgD) : MaS × List FLet × List RecD :=
  if frm < 1 ∨ c.workers < frm then (m, [], []) else if m.st ≠ 0 then (m, [⟨frm, 9, 0, 0, 0, 0, m.why⟩], []) else hearK c m frm x
theorem hearF_ok (c : CfgD) (m : MaS) (frm : Int) (x : MsgD) (h0 : 1 ≤ frm) (h1 : frm ≤ c.workers) (hs : m.st = 0) : hearF c m frm x = hearK c m frm x := by
  unfold hearF
  rw [if_neg (by omega), if_neg (fun h => h hs)]
theorem hearK_other (c : CfgD) (m : MaS) (frm : Int) (x : MsgD) (h4 : ¬ x.k = 4) (h5 : ¬ x.k = 5) (h6 : ¬ x.k = 6) (h8 : ¬ x.k = 8) : hearK c m frm x = (m, [], []) := by
  unfold hearK
  rw [if_neg h4, if_neg h5, if_neg h6, if_neg h8]
/-- A master's answer of both. -/
def MaPostH (w : World) (gM : Nat) (F : Nat → Prop) (c : CfgD) (m' : MaS) (v1 : Value) (ls : List FLet) (v2 : Value) (rs : List RecD) (w' : World) : Prop := ∃ F' B, MaR w' gM F' c m' ∧ (∀ i, F' i → F i ∨ w.heap.size ≤ i) ∧ (∀ i, F' i → i < B) ∧ w.heap.size ≤ B ∧ LetsP w' B v1 ls ∧ RecsP w' B v2 rs ∧ Ch w w' F
theorem MaPost.reads {w w' : World} {gM : Nat} {F : Nat → Prop} {c : CfgD} {m' : MaS} {v : Value} {rs : List RecD} (h : MaPost w gM F c m' v rs w') : ∃ A n, v = .slice A rs.length n ∧ Kd.C kRec w' A rs.length rs := by
  obtain ⟨F', B, h1, h2, h3, h4, h5, h6⟩ := h
  exact h5.reads
theorem MaPost.toH {w wq w' : World} {gM : Nat} {F : Nat → Prop} {c : CfgD} {m' : MaS} {v : Value} {rs : List RecD} (h : MaPost wq gM F c m' v rs w') (hc : Ch w wq F) : MaPostH w gM F c m' (.slice none 0 0) [] v rs w' := by
  obtain ⟨F', B, h1, h2, h3, h4, h5, h6⟩ := h
  exact ⟨F', B, h1, fun i hi => (h2 i hi).imp id (fun h => Nat.le_trans hc.size h), h3, Nat.le_trans hc.size h4, LetsP.nil _ _, h5, hc.trans h6 (fun _ _ h => h)⟩
theorem MaPostL.toH {w wq w' : World} {gM : Nat} {F : Nat → Prop} {c : CfgD} {m' : MaS} {v : Value} {ls : List FLet} (hc : Ch w wq F) (hf : ∀ i, F i → i < wq.heap.size) (h : MaPostL wq gM F c m' v ls w') : MaPostH w gM F c m' v ls (.slice none 0 0) [] w' :=
  ⟨F, wq.heap.size, h.1, fun _ hi => .inl hi, hf, hc.size, h.2.1, RecsP.nil _ _, hc.trans h.2.2 (fun _ _ h => h)⟩
section
variable {w w' : World} {gM gS gT : Nat} {F S : Nat → Prop} {c : CfgD} {h : CfH} {zs : List SpV} {C : List Int} {ok : Nat → Prop} {m : MaS}
theorem MaP.putT (p : MaP w gM gS gT F c h zs C ok m) {C' : List Int} (hc : Ch w w' (fun i => i = gT)) (ht : TallyR 129 w' 0 gT C') : MaP w' gM gS gT F c h zs C' ok m where
  blk := hc.blk p.blk p.neT
  row := hc.blk p.row p.neU
  tal := ht
  sp := p.sp
  cfg := p.cfg.step (fun i hi hlt => hc.block i hlt (p.okF i hi).2.2.2)
  cnt z hz hw := ⟨Kd.R_step (p.cnt z hz hw).1 (fun i hi hlt => hc.block i hlt (p.okF i hi).2.2.2), (p.cnt z hz hw).2⟩
  okF := p.okF
  fM := p.fM
  fS := p.fS
  fT := p.fT
  neS := p.neS
  neT := p.neT
  neU := p.neU
  flt i hi := Nat.lt_of_lt_of_le (p.flt i hi) hc.size
  len := p.len
  rd := p.rd
  may := p.may
set_option maxHeartbeats 12800000 in
theorem mHear (p : MaP w gM gS gT F c h zs C ok m) (frm : Int) (x : MsgD) (A1 A2 : Option Addr) (c1 c2 : Nat) (hx : ∀ w', Ch w w' F → MsgC w' x A1 A2 c1 c2) (hr0 : 0 ≤ m.round) (hr1 : m.round ≤ 1000000) :
    Calls Try.prog 14 #[.pointer (some ⟨gM, 0, none⟩), .int .i64 frm, msgV x (.slice A1 x.set.length c1) (.slice A2 x.prs.length c2)] w fun e w' => ∃ v1 v2, e = .returned (.tuple #[v1, v2]) ∧ MaPostH w gM F c (hearF c m frm x).1 v1 (hearF c m frm x).2.1 v2 (hearF c m frm x).2.2 w' := by
  obtain ⟨ls, hls⟩ : ∃ ls, ls = x.set.length := ⟨_, rfl⟩
  obtain ⟨lp, hlp⟩ : ∃ lp, lp = x.prs.length := ⟨_, rfl⟩
  obtain ⟨g, hg⟩ : ∃ g, g = w.heap.size := ⟨_, rfl⟩
  obtain ⟨wA, hwA⟩ : ∃ wA, wA = w.alloc (.cells #[.int .i64 x.k, .int .i64 x.s, .int .i64 x.a, .int .i64 x.p, .int .i64 x.q, .int .i64 x.n, .int .i64 x.e, .int .i64 x.r, .slice A1 ls c1, .slice A2 lp c2] 45) := ⟨_, rfl⟩
  have hbA : Below w.heap.size w wA := by rw [hwA]; exact (Below.refl _ _).alloc (Nat.le_refl _) _
  have hgA : wA.heap[g]? = some (.cells ([.int .i64 x.k, .int .i64 x.s, .int .i64 x.a, .int .i64 x.p, .int .i64 x.q, .int .i64 x.n, .int .i64 x.e, .int .i64 x.r, .slice A1 ls c1, .slice A2 lp c2] : List Value).toArray 45 (0, 0)) := by rw [hwA, hg]; exact alloc_at w _
  have q := p.below hbA
  have hcw := q.c_wk
  have hct := q.c_tal
  obtain ⟨m7, hm7⟩ : ∃ m7, m7 = min (rd C 7 + addN 1) 1099511627776 := ⟨_, rfl⟩
  have HAD := Aside0.mk (tAdd 0 gT 7 (by omega) C 1 m7 wA q.tal hm7)
  have hmx : x.set.length ≤ 9223372036854775807 := Kd.C_max (hx wA (Ch.of_below hbA F)).s
  have hmy : x.prs.length ≤ 9223372036854775807 := Kd.C_max (hx wA (Ch.of_below hbA F)).p
  rw [← hls] at hmx
  rw [← hlp] at hmy
  have HQA := Aside0.mk q
  have HFL := Aside0.mk p.flt
  have HX := Aside0.mk hx
  have HLS := Aside0.mk hls
  have HLP := Aside0.mk hlp
  have HBA := Aside0.mk hbA
  have HWA := Aside0.mk hwA
  have HG := Aside0.mk hg
  have HGA := Aside0.mk hgA
  have HR0 := Aside0.mk hr0
  have HR1 := Aside0.mk hr1
  obtain ⟨R, hR⟩ : ∃ R, R = hearF c m frm x := ⟨_, rfl⟩
  rw [← hR]
  have HR := Aside0.mk hR
  rw [← hls, ← hlp]
  unfold msgV
  have hum := Try.underlying45
  clear p q hx hwA hg hbA hgA hls hlp hr0 hr1 hR hm7
  go_enter Try.func14, Try.ntmps14
  go_upto_region 1 with (fail)
  rw [show w.alloc (.cells #[.int .i64 x.k, .int .i64 x.s, .int .i64 x.a, .int .i64 x.p, .int .i64 x.q, .int .i64 x.n, .int .i64 x.e, .int .i64 x.r, .slice A1 ls c1, .slice A2 lp c2] 45) = wA from HWA.out.symm, ← HG.out]
  by_cases h1 : frm < 1
  · have HE : Aside0 (hearF c m frm x = (m, [], [])) := ⟨by unfold hearF; rw [if_pos (.inl h1)]⟩
    have h1' := decide_eq_true h1
    go_wp2_with fail
    go_ret2
    exact ⟨_, _, rfl, by rw [HR.out, HE.out]; exact ⟨F, w.heap.size, ⟨_, _, _, _, _, _, HQA.out⟩, fun _ hi => .inl hi, HFL.out, Nat.le_refl _, LetsP.nil _ _, RecsP.nil _ _, Ch.of_below HBA.out F⟩⟩
  · have h1' := decide_eq_false h1
    have HF0 : Aside0 (1 ≤ frm) := ⟨by omega⟩
    by_cases h2 : c.workers < frm
    · have HE : Aside0 (hearF c m frm x = (m, [], [])) := ⟨by unfold hearF; rw [if_pos (.inr h2)]⟩
      have h2' := decide_eq_true h2
      go_wp2_with fail
      go_ret2
      exact ⟨_, _, rfl, by rw [HR.out, HE.out]; exact ⟨F, w.heap.size, ⟨_, _, _, _, _, _, HQA.out⟩, fun _ hi => .inl hi, HFL.out, Nat.le_refl _, LetsP.nil _ _, RecsP.nil _ _, Ch.of_below HBA.out F⟩⟩
    · have h2' := decide_eq_false h2
      have HF1 : Aside0 (frm ≤ c.workers) := ⟨by omega⟩
      go_wp2_with fail
      refine HAD.out.mono ?_
      rintro e w3 ⟨rfl, hT3, hC3⟩
      have q3 := HQA.out.putT hC3 hT3
      have HG3 : Aside0 (w3.heap[g]? = some (.cells ([.int .i64 x.k, .int .i64 x.s, .int .i64 x.a, .int .i64 x.p, .int .i64 x.q, .int .i64 x.n, .int .i64 x.e, .int .i64 x.r, .slice A1 ls c1, .slice A2 lp c2] : List Value).toArray 45 (0, 0))) := ⟨hC3.blk HGA.out (fun e => by have := HFL.out gT HQA.out.fT; have := HG.out; omega)⟩
      have HC3 : Aside0 (Ch w w3 F) := ⟨(Ch.of_below HBA.out F).trans hC3 (fun i _ e => by rw [e]; exact HQA.out.fT)⟩
      have HQ3 := Aside0.mk q3
      have hst := q3.c_st
      have hwy := q3.c_why
      have k3 : w3.cell? ⟨g, 3, none⟩ = some (.int .i64 x.p) := cell_of_blk HG3.out
      have kp : w3.cell? ⟨gM, 1, none⟩ = some (.int .i64 c.job.parts) := q3.c_parts
      have d3 : w3.drew.cell? ⟨g, 3, none⟩ = some (.int .i64 x.p) := (Ch.of_below (below_drew w3) (fun _ => False)).cell (cell_of_blk HG3.out) (fun h => h)
      have dp : w3.drew.cell? ⟨gM, 1, none⟩ = some (.int .i64 c.job.parts) := (Ch.of_below (below_drew w3) (fun _ => False)).cell q3.c_parts (fun h => h)
      clear q3 hT3 hC3 hcw hct h1 h2
      by_cases hs : m.st = 0
      · have HST := Aside0.mk hs
        rw [hs] at hst
        clear hs hwy
        by_cases hp0 : x.p < 0
        · have hp0' : decide (0 ≤ x.p) = false := decide_eq_false (by omega)
          have HPN : Aside0 (0 ≤ x.p → c.job.parts ≤ x.p) := ⟨fun h => by omega⟩
          go_upto_region 6 with (fail)
          go_quiet (fail)
          obtain ⟨wq, hwq⟩ : ∃ wq, wq = w3.drewN nq := ⟨_, rfl⟩
          have hbq : HeldN w3 wq := by rw [hwq]; exact pw_below_drewN (Below.refl w3.heap.size w3) _
          rw [← hwq]
          have hqq := HQ3.out.below hbq
          have HBQ := Aside0.mk ((hbq.block g (blk_lt' HG3.out)).trans HG3.out)
          have hcq : Ch w wq F := HC3.out.trans (Ch.of_below hbq F) (fun _ _ h => h)
          have HQ := Aside0.mk hqq
          have HCQ := Aside0.mk hcq
          have HXQ : Aside0 (∀ w', Ch wq w' F → MsgC w' x A1 A2 c1 c2) := ⟨fun w' hc => HX.out w' (HCQ.out.trans hc (fun _ _ h => h))⟩
          have HNON : Aside0 (∀ w', Below wq.heap.size wq w' → MaPostH w gM F c m (.slice none 0 0) [] (.slice none 0 0) [] w') := ⟨fun w' hb => ⟨F, w.heap.size, ⟨_, _, _, _, _, _, HQ.out.below hb⟩, fun _ hi => .inl hi, HFL.out, Nat.le_refl _, LetsP.nil _ _, RecsP.nil _ _, HCQ.out.trans (Ch.of_below hb F) (fun _ _ h => h)⟩⟩
          have y0 : wq.cell? ⟨g, 0, none⟩ = some (.int .i64 x.k) := cell_of_blk HBQ.out
          have y1 : wq.cell? ⟨g, 1, none⟩ = some (.int .i64 x.s) := cell_of_blk HBQ.out
          have y2 : wq.cell? ⟨g, 2, none⟩ = some (.int .i64 x.a) := cell_of_blk HBQ.out
          have y3 : wq.cell? ⟨g, 3, none⟩ = some (.int .i64 x.p) := cell_of_blk HBQ.out
          have y4 : wq.cell? ⟨g, 4, none⟩ = some (.int .i64 x.q) := cell_of_blk HBQ.out
          have y5 : wq.cell? ⟨g, 5, none⟩ = some (.int .i64 x.n) := cell_of_blk HBQ.out
          have y6 : wq.cell? ⟨g, 6, none⟩ = some (.int .i64 x.e) := cell_of_blk HBQ.out
          have y7 : wq.cell? ⟨g, 7, none⟩ = some (.int .i64 x.r) := cell_of_blk HBQ.out
          have y8 : wq.cell? ⟨g, 8, none⟩ = some (.slice A1 ls c1) := cell_of_blk HBQ.out
          have y9 : wq.cell? ⟨g, 9, none⟩ = some (.slice A2 lp c2) := cell_of_blk HBQ.out
          clear hwq hbq hqq hcq d3 dp k3 kp
          clear hp0 hp0'
          by_cases hk4 : x.k = 4
          · have hk := hk4
            have HK := Aside0.mk hk
            clear hk4
            rw [hk] at y0
            have HDN := Aside0.mk (mDone HQ.out x A1 A2 c1 c2 HXQ.out)
            rw [← HLS.out, ← HLP.out] at HDN
            unfold msgV at HDN
            rw [hk] at HDN
            clear hk
            go_wp2_with fail
            refine HDN.out.mono ?_
            rintro e w5 ⟨v, rfl, h1, h2⟩
            cases hd : doneK c m x with
            | none =>
              obtain ⟨rfl, hb5⟩ := h1 hd
              have HB5 := Aside0.mk hb5
              have HE : Aside0 (hearF c m frm x = (m, [], [])) := ⟨by rw [hearF_ok c m frm x HF0.out HF1.out HST.out]; simp only [hearK, HK.out]; rw [hd]; rfl⟩
              clear h1 h2 hd hb5
              go_wp2_with fail
              go_ret2
              exact ⟨_, _, rfl, by rw [HR.out, HE.out]; exact HNON.out _ HB5.out⟩
            | some k =>
              have HM := Aside0.mk (h2 k hd)
              have HE : Aside0 (hearF c m frm x = (winK m k x.a x.set, [], [⟨1, 0, x.s, x.a, 0, x.set, []⟩])) := ⟨by rw [hearF_ok c m frm x HF0.out HF1.out HST.out]; simp only [hearK, HK.out]; rw [hd]; rfl⟩
              obtain ⟨Av, nv, rfl, _⟩ := HM.out.reads
              clear h1 h2 hd
              go_wp2_with fail
              go_ret2
              exact ⟨_, _, rfl, by rw [HR.out, HE.out]; exact HM.out.toH HCQ.out⟩
          · have HK4 := Aside0.mk hk4
            have hkb4 : (x.k == 4) = false := by simpa using hk4
            clear hk4
            by_cases hk5 : x.k = 5
            · have hk := hk5
              have HK := Aside0.mk hk
              clear hk5
              rw [hk] at y0
              clear hk
              have HOP := Aside0.mk (mOpen HQ.out x.s)
              cases ho : openN m x.s with
              | none =>
                have HE : Aside0 (hearF c m frm x = (m, [], [])) := ⟨by rw [hearF_ok c m frm x HF0.out HF1.out HST.out]; simp only [hearK, HK.out]; rw [ho]; rfl⟩
                rw [ho] at HOP
                clear ho
                go_wp2_with fail
                refine HOP.out.mono ?_
                rintro e wq ⟨rfl, rfl⟩
                go_wp2_with fail
                go_ret2
                exact ⟨_, _, rfl, by rw [HR.out, HE.out]; exact HNON.out _ (Below.refl _ _)⟩
              | some k =>
                rw [ho] at HOP
                by_cases hr : 1 ≤ x.r ∧ x.r ≤ 6
                · have HE : Aside0 (hearF c m frm x = (endS m 2 x.r, [], [⟨3, 0, x.s, 0, x.r, [], []⟩])) := ⟨by rw [hearF_ok c m frm x HF0.out HF1.out HST.out]; simp only [hearK, HK.out]; rw [ho]; show (if (true : Bool) = true ∧ 1 ≤ x.r ∧ x.r ≤ 6 then _ else _) = _; rw [if_pos ⟨rfl, hr⟩]⟩
                  have HRE := Aside0.mk (reason_ x.r wq)
                  rw [decide_eq_true hr] at HRE
                  have HEN := Aside0.mk (mEnds HQ.out 2 x.r 3 0 x.s 0 x.r)
                  unfold recV at HEN
                  clear ho hr
                  go_wp2_with fail
                  refine HOP.out.mono ?_
                  rintro e wq ⟨rfl, rfl⟩
                  go_wp2_with fail
                  refine HRE.out.mono ?_
                  rintro e wq ⟨rfl, rfl⟩
                  go_wp2_with fail
                  refine HEN.out.mono ?_
                  rintro e w5 ⟨v, rfl, h1, h2, h3⟩
                  have HM : Aside0 (MaPost wq gM F c (endS m 2 x.r) v [⟨3, 0, x.s, 0, x.r, [], []⟩] w5) := ⟨⟨F, wq.heap.size, ⟨_, _, _, _, _, _, h2⟩, fun _ hi => .inl hi, HQ.out.flt, Nat.le_refl _, h1, h3⟩⟩
                  obtain ⟨Av, nv, rfl, _⟩ := HM.out.reads
                  clear h1 h2 h3
                  go_wp2_with fail
                  go_ret2
                  exact ⟨_, _, rfl, by rw [HR.out, HE.out]; exact HM.out.toH HCQ.out⟩
                · have HE : Aside0 (hearF c m frm x = (m, [], [])) := ⟨by rw [hearF_ok c m frm x HF0.out HF1.out HST.out]; simp only [hearK, HK.out]; rw [ho]; show (if (true : Bool) = true ∧ 1 ≤ x.r ∧ x.r ≤ 6 then _ else _) = _; rw [if_neg (fun h => hr h.2)]⟩
                  have HRE := Aside0.mk (reason_ x.r wq)
                  rw [decide_eq_false hr] at HRE
                  clear ho hr
                  go_wp2_with fail
                  refine HOP.out.mono ?_
                  rintro e wq ⟨rfl, rfl⟩
                  go_wp2_with fail
                  refine HRE.out.mono ?_
                  rintro e wq ⟨rfl, rfl⟩
                  go_wp2_with fail
                  go_ret2
                  exact ⟨_, _, rfl, by rw [HR.out, HE.out]; exact HNON.out _ (Below.refl _ _)⟩
            · have HK5 := Aside0.mk hk5
              have hkb5 : (x.k == 5) = false := by simpa using hk5
              clear hk5
              by_cases hk6 : x.k = 6
              · have hk := hk6
                have HK := Aside0.mk hk
                clear hk6
                rw [hk] at y0
                clear hk
                have HE : Aside0 (hearF c m frm x = (m, [], [])) := ⟨by rw [hearF_ok c m frm x HF0.out HF1.out HST.out]; simp only [hearK, HK.out]; show (if 0 ≤ x.p ∧ x.p < c.job.parts then _ else _) = _; rw [if_neg (fun hh => by have := HPN.out hh.1; omega)]⟩
                go_wp2_with fail
                go_ret2
                exact ⟨_, _, rfl, by rw [HR.out, HE.out]; exact HNON.out _ (Below.refl _ _)⟩
              · have HK6 := Aside0.mk hk6
                have hkb6 : (x.k == 6) = false := by simpa using hk6
                clear hk6
                by_cases hk8 : x.k = 8
                · have hk := hk8
                  have HK := Aside0.mk hk
                  clear hk8
                  rw [hk] at y0
                  clear hk
                  have HE : Aside0 (hearF c m frm x = (m, [], [])) := ⟨by rw [hearF_ok c m frm x HF0.out HF1.out HST.out]; simp only [hearK, HK.out]; show (if 0 ≤ x.p ∧ x.p < c.job.parts then _ else _) = _; rw [if_neg (fun hh => by have := HPN.out hh.1; omega)]⟩
                  go_wp2_with fail
                  go_ret2
                  exact ⟨_, _, rfl, by rw [HR.out, HE.out]; exact HNON.out _ (Below.refl _ _)⟩
                · have HK8 := Aside0.mk hk8
                  have hkb8 : (x.k == 8) = false := by simpa using hk8
                  clear hk8
                  have HE : Aside0 (hearF c m frm x = (m, [], [])) := ⟨by rw [hearF_ok c m frm x HF0.out HF1.out HST.out, hearK_other c m frm x HK4.out HK5.out HK6.out HK8.out]⟩
                  go_wp2_with fail
                  go_ret2
                  exact ⟨_, _, rfl, by rw [HR.out, HE.out]; exact HNON.out _ (Below.refl _ _)⟩
        · have hp0' : decide (0 ≤ x.p) = true := decide_eq_true (by omega)
          have HP0 : Aside0 (0 ≤ x.p) := ⟨by omega⟩
          by_cases hp1 : x.p < c.job.parts
          · have hp1' := decide_eq_true hp1
            have HP1 := Aside0.mk hp1
            go_upto_region 6 with (fail)
            go_quiet (fail)
            obtain ⟨wq, hwq⟩ : ∃ wq, wq = w3.drewN nq := ⟨_, rfl⟩
            have hbq : HeldN w3 wq := by rw [hwq]; exact pw_below_drewN (Below.refl w3.heap.size w3) _
            rw [← hwq]
            have hqq := HQ3.out.below hbq
            have HBQ := Aside0.mk ((hbq.block g (blk_lt' HG3.out)).trans HG3.out)
            have hcq : Ch w wq F := HC3.out.trans (Ch.of_below hbq F) (fun _ _ h => h)
            have HQ := Aside0.mk hqq
            have HCQ := Aside0.mk hcq
            have HXQ : Aside0 (∀ w', Ch wq w' F → MsgC w' x A1 A2 c1 c2) := ⟨fun w' hc => HX.out w' (HCQ.out.trans hc (fun _ _ h => h))⟩
            have HNON : Aside0 (∀ w', Below wq.heap.size wq w' → MaPostH w gM F c m (.slice none 0 0) [] (.slice none 0 0) [] w') := ⟨fun w' hb => ⟨F, w.heap.size, ⟨_, _, _, _, _, _, HQ.out.below hb⟩, fun _ hi => .inl hi, HFL.out, Nat.le_refl _, LetsP.nil _ _, RecsP.nil _ _, HCQ.out.trans (Ch.of_below hb F) (fun _ _ h => h)⟩⟩
            have y0 : wq.cell? ⟨g, 0, none⟩ = some (.int .i64 x.k) := cell_of_blk HBQ.out
            have y1 : wq.cell? ⟨g, 1, none⟩ = some (.int .i64 x.s) := cell_of_blk HBQ.out
            have y2 : wq.cell? ⟨g, 2, none⟩ = some (.int .i64 x.a) := cell_of_blk HBQ.out
            have y3 : wq.cell? ⟨g, 3, none⟩ = some (.int .i64 x.p) := cell_of_blk HBQ.out
            have y4 : wq.cell? ⟨g, 4, none⟩ = some (.int .i64 x.q) := cell_of_blk HBQ.out
            have y5 : wq.cell? ⟨g, 5, none⟩ = some (.int .i64 x.n) := cell_of_blk HBQ.out
            have y6 : wq.cell? ⟨g, 6, none⟩ = some (.int .i64 x.e) := cell_of_blk HBQ.out
            have y7 : wq.cell? ⟨g, 7, none⟩ = some (.int .i64 x.r) := cell_of_blk HBQ.out
            have y8 : wq.cell? ⟨g, 8, none⟩ = some (.slice A1 ls c1) := cell_of_blk HBQ.out
            have y9 : wq.cell? ⟨g, 9, none⟩ = some (.slice A2 lp c2) := cell_of_blk HBQ.out
            clear hwq hbq hqq hcq d3 dp k3 kp
            clear hp0 hp0' hp1 hp1'
            by_cases hk4 : x.k = 4
            · have hk := hk4
              have HK := Aside0.mk hk
              clear hk4
              rw [hk] at y0
              have HDN := Aside0.mk (mDone HQ.out x A1 A2 c1 c2 HXQ.out)
              rw [← HLS.out, ← HLP.out] at HDN
              unfold msgV at HDN
              rw [hk] at HDN
              clear hk
              go_wp2_with fail
              refine HDN.out.mono ?_
              rintro e w5 ⟨v, rfl, h1, h2⟩
              cases hd : doneK c m x with
              | none =>
                obtain ⟨rfl, hb5⟩ := h1 hd
                have HB5 := Aside0.mk hb5
                have HE : Aside0 (hearF c m frm x = (m, [], [])) := ⟨by rw [hearF_ok c m frm x HF0.out HF1.out HST.out]; simp only [hearK, HK.out]; rw [hd]; rfl⟩
                clear h1 h2 hd hb5
                go_wp2_with fail
                go_ret2
                exact ⟨_, _, rfl, by rw [HR.out, HE.out]; exact HNON.out _ HB5.out⟩
              | some k =>
                have HM := Aside0.mk (h2 k hd)
                have HE : Aside0 (hearF c m frm x = (winK m k x.a x.set, [], [⟨1, 0, x.s, x.a, 0, x.set, []⟩])) := ⟨by rw [hearF_ok c m frm x HF0.out HF1.out HST.out]; simp only [hearK, HK.out]; rw [hd]; rfl⟩
                obtain ⟨Av, nv, rfl, _⟩ := HM.out.reads
                clear h1 h2 hd
                go_wp2_with fail
                go_ret2
                exact ⟨_, _, rfl, by rw [HR.out, HE.out]; exact HM.out.toH HCQ.out⟩
            · have HK4 := Aside0.mk hk4
              have hkb4 : (x.k == 4) = false := by simpa using hk4
              clear hk4
              by_cases hk5 : x.k = 5
              · have hk := hk5
                have HK := Aside0.mk hk
                clear hk5
                rw [hk] at y0
                clear hk
                have HOP := Aside0.mk (mOpen HQ.out x.s)
                cases ho : openN m x.s with
                | none =>
                  have HE : Aside0 (hearF c m frm x = (m, [], [])) := ⟨by rw [hearF_ok c m frm x HF0.out HF1.out HST.out]; simp only [hearK, HK.out]; rw [ho]; rfl⟩
                  rw [ho] at HOP
                  clear ho
                  go_wp2_with fail
                  refine HOP.out.mono ?_
                  rintro e wq ⟨rfl, rfl⟩
                  go_wp2_with fail
                  go_ret2
                  exact ⟨_, _, rfl, by rw [HR.out, HE.out]; exact HNON.out _ (Below.refl _ _)⟩
                | some k =>
                  rw [ho] at HOP
                  by_cases hr : 1 ≤ x.r ∧ x.r ≤ 6
                  · have HE : Aside0 (hearF c m frm x = (endS m 2 x.r, [], [⟨3, 0, x.s, 0, x.r, [], []⟩])) := ⟨by rw [hearF_ok c m frm x HF0.out HF1.out HST.out]; simp only [hearK, HK.out]; rw [ho]; show (if (true : Bool) = true ∧ 1 ≤ x.r ∧ x.r ≤ 6 then _ else _) = _; rw [if_pos ⟨rfl, hr⟩]⟩
                    have HRE := Aside0.mk (reason_ x.r wq)
                    rw [decide_eq_true hr] at HRE
                    have HEN := Aside0.mk (mEnds HQ.out 2 x.r 3 0 x.s 0 x.r)
                    unfold recV at HEN
                    clear ho hr
                    go_wp2_with fail
                    refine HOP.out.mono ?_
                    rintro e wq ⟨rfl, rfl⟩
                    go_wp2_with fail
                    refine HRE.out.mono ?_
                    rintro e wq ⟨rfl, rfl⟩
                    go_wp2_with fail
                    refine HEN.out.mono ?_
                    rintro e w5 ⟨v, rfl, h1, h2, h3⟩
                    have HM : Aside0 (MaPost wq gM F c (endS m 2 x.r) v [⟨3, 0, x.s, 0, x.r, [], []⟩] w5) := ⟨⟨F, wq.heap.size, ⟨_, _, _, _, _, _, h2⟩, fun _ hi => .inl hi, HQ.out.flt, Nat.le_refl _, h1, h3⟩⟩
                    obtain ⟨Av, nv, rfl, _⟩ := HM.out.reads
                    clear h1 h2 h3
                    go_wp2_with fail
                    go_ret2
                    exact ⟨_, _, rfl, by rw [HR.out, HE.out]; exact HM.out.toH HCQ.out⟩
                  · have HE : Aside0 (hearF c m frm x = (m, [], [])) := ⟨by rw [hearF_ok c m frm x HF0.out HF1.out HST.out]; simp only [hearK, HK.out]; rw [ho]; show (if (true : Bool) = true ∧ 1 ≤ x.r ∧ x.r ≤ 6 then _ else _) = _; rw [if_neg (fun h => hr h.2)]⟩
                    have HRE := Aside0.mk (reason_ x.r wq)
                    rw [decide_eq_false hr] at HRE
                    clear ho hr
                    go_wp2_with fail
                    refine HOP.out.mono ?_
                    rintro e wq ⟨rfl, rfl⟩
                    go_wp2_with fail
                    refine HRE.out.mono ?_
                    rintro e wq ⟨rfl, rfl⟩
                    go_wp2_with fail
                    go_ret2
                    exact ⟨_, _, rfl, by rw [HR.out, HE.out]; exact HNON.out _ (Below.refl _ _)⟩
              · have HK5 := Aside0.mk hk5
                have hkb5 : (x.k == 5) = false := by simpa using hk5
                clear hk5
                by_cases hk6 : x.k = 6
                · have hk := hk6
                  have HK := Aside0.mk hk
                  clear hk6
                  rw [hk] at y0
                  have HHL := Aside0.mk (mHello HQ.out frm x A1 A2 c1 c2 lp (HXQ.out wq (Ch.refl _ _)).s HP0.out HP1.out HR0.out HR1.out)
                  rw [← HLS.out] at HHL
                  unfold msgV at HHL
                  rw [hk] at HHL
                  have HE : Aside0 (hearF c m frm x = ((helloF c m frm x).1, (helloF c m frm x).2, [])) := ⟨by rw [hearF_ok c m frm x HF0.out HF1.out HST.out]; simp only [hearK, HK.out]; show (if 0 ≤ x.p ∧ x.p < c.job.parts then _ else _) = _; rw [if_pos ⟨HP0.out, HP1.out⟩]⟩
                  clear hk
                  go_wp2_with fail
                  refine HHL.out.mono ?_
                  rintro e w5 ⟨v, rfl, h1⟩
                  have HM := Aside0.mk h1
                  obtain ⟨Av, nv, rfl, _⟩ := HM.out.2.1.reads
                  clear h1
                  go_wp2_with fail
                  go_ret2
                  exact ⟨_, _, rfl, by rw [HR.out, HE.out]; exact MaPostL.toH HCQ.out HQ.out.flt HM.out⟩
                · have HK6 := Aside0.mk hk6
                  have hkb6 : (x.k == 6) = false := by simpa using hk6
                  clear hk6
                  by_cases hk8 : x.k = 8
                  · have hk := hk8
                    have HK := Aside0.mk hk
                    clear hk8
                    rw [hk] at y0
                    have HWH := Aside0.mk (mWhole HQ.out x A1 A2 c1 c2 ls lp HP0.out HP1.out)
                    unfold msgV at HWH
                    rw [hk] at HWH
                    have HE : Aside0 (hearF c m frm x = ((wholeF c m x).1, [], (wholeF c m x).2)) := ⟨by rw [hearF_ok c m frm x HF0.out HF1.out HST.out]; simp only [hearK, HK.out]; show (if 0 ≤ x.p ∧ x.p < c.job.parts then _ else _) = _; rw [if_pos ⟨HP0.out, HP1.out⟩]⟩
                    clear hk
                    go_wp2_with fail
                    refine HWH.out.mono ?_
                    rintro e w5 ⟨v, rfl, h1⟩
                    have HM := Aside0.mk h1
                    obtain ⟨Av, nv, rfl, _⟩ := HM.out.reads
                    clear h1
                    go_wp2_with fail
                    go_ret2
                    exact ⟨_, _, rfl, by rw [HR.out, HE.out]; exact HM.out.toH HCQ.out⟩
                  · have HK8 := Aside0.mk hk8
                    have hkb8 : (x.k == 8) = false := by simpa using hk8
                    clear hk8
                    have HE : Aside0 (hearF c m frm x = (m, [], [])) := ⟨by rw [hearF_ok c m frm x HF0.out HF1.out HST.out, hearK_other c m frm x HK4.out HK5.out HK6.out HK8.out]⟩
                    go_wp2_with fail
                    go_ret2
                    exact ⟨_, _, rfl, by rw [HR.out, HE.out]; exact HNON.out _ (Below.refl _ _)⟩
          · have hp1' := decide_eq_false hp1
            have HPN : Aside0 (0 ≤ x.p → c.job.parts ≤ x.p) := ⟨fun h => by omega⟩
            go_upto_region 6 with (fail)
            go_quiet (fail)
            obtain ⟨wq, hwq⟩ : ∃ wq, wq = w3.drewN nq := ⟨_, rfl⟩
            have hbq : HeldN w3 wq := by rw [hwq]; exact pw_below_drewN (Below.refl w3.heap.size w3) _
            rw [← hwq]
            have hqq := HQ3.out.below hbq
            have HBQ := Aside0.mk ((hbq.block g (blk_lt' HG3.out)).trans HG3.out)
            have hcq : Ch w wq F := HC3.out.trans (Ch.of_below hbq F) (fun _ _ h => h)
            have HQ := Aside0.mk hqq
            have HCQ := Aside0.mk hcq
            have HXQ : Aside0 (∀ w', Ch wq w' F → MsgC w' x A1 A2 c1 c2) := ⟨fun w' hc => HX.out w' (HCQ.out.trans hc (fun _ _ h => h))⟩
            have HNON : Aside0 (∀ w', Below wq.heap.size wq w' → MaPostH w gM F c m (.slice none 0 0) [] (.slice none 0 0) [] w') := ⟨fun w' hb => ⟨F, w.heap.size, ⟨_, _, _, _, _, _, HQ.out.below hb⟩, fun _ hi => .inl hi, HFL.out, Nat.le_refl _, LetsP.nil _ _, RecsP.nil _ _, HCQ.out.trans (Ch.of_below hb F) (fun _ _ h => h)⟩⟩
            have y0 : wq.cell? ⟨g, 0, none⟩ = some (.int .i64 x.k) := cell_of_blk HBQ.out
            have y1 : wq.cell? ⟨g, 1, none⟩ = some (.int .i64 x.s) := cell_of_blk HBQ.out
            have y2 : wq.cell? ⟨g, 2, none⟩ = some (.int .i64 x.a) := cell_of_blk HBQ.out
            have y3 : wq.cell? ⟨g, 3, none⟩ = some (.int .i64 x.p) := cell_of_blk HBQ.out
            have y4 : wq.cell? ⟨g, 4, none⟩ = some (.int .i64 x.q) := cell_of_blk HBQ.out
            have y5 : wq.cell? ⟨g, 5, none⟩ = some (.int .i64 x.n) := cell_of_blk HBQ.out
            have y6 : wq.cell? ⟨g, 6, none⟩ = some (.int .i64 x.e) := cell_of_blk HBQ.out
            have y7 : wq.cell? ⟨g, 7, none⟩ = some (.int .i64 x.r) := cell_of_blk HBQ.out
            have y8 : wq.cell? ⟨g, 8, none⟩ = some (.slice A1 ls c1) := cell_of_blk HBQ.out
            have y9 : wq.cell? ⟨g, 9, none⟩ = some (.slice A2 lp c2) := cell_of_blk HBQ.out
            clear hwq hbq hqq hcq d3 dp k3 kp
            clear hp0 hp0' hp1 hp1'
            by_cases hk4 : x.k = 4
            · have hk := hk4
              have HK := Aside0.mk hk
              clear hk4
              rw [hk] at y0
              have HDN := Aside0.mk (mDone HQ.out x A1 A2 c1 c2 HXQ.out)
              rw [← HLS.out, ← HLP.out] at HDN
              unfold msgV at HDN
              rw [hk] at HDN
              clear hk
              go_wp2_with fail
              refine HDN.out.mono ?_
              rintro e w5 ⟨v, rfl, h1, h2⟩
              cases hd : doneK c m x with
              | none =>
                obtain ⟨rfl, hb5⟩ := h1 hd
                have HB5 := Aside0.mk hb5
                have HE : Aside0 (hearF c m frm x = (m, [], [])) := ⟨by rw [hearF_ok c m frm x HF0.out HF1.out HST.out]; simp only [hearK, HK.out]; rw [hd]; rfl⟩
                clear h1 h2 hd hb5
                go_wp2_with fail
                go_ret2
                exact ⟨_, _, rfl, by rw [HR.out, HE.out]; exact HNON.out _ HB5.out⟩
              | some k =>
                have HM := Aside0.mk (h2 k hd)
                have HE : Aside0 (hearF c m frm x = (winK m k x.a x.set, [], [⟨1, 0, x.s, x.a, 0, x.set, []⟩])) := ⟨by rw [hearF_ok c m frm x HF0.out HF1.out HST.out]; simp only [hearK, HK.out]; rw [hd]; rfl⟩
                obtain ⟨Av, nv, rfl, _⟩ := HM.out.reads
                clear h1 h2 hd
                go_wp2_with fail
                go_ret2
                exact ⟨_, _, rfl, by rw [HR.out, HE.out]; exact HM.out.toH HCQ.out⟩
            · have HK4 := Aside0.mk hk4
              have hkb4 : (x.k == 4) = false := by simpa using hk4
              clear hk4
              by_cases hk5 : x.k = 5
              · have hk := hk5
                have HK := Aside0.mk hk
                clear hk5
                rw [hk] at y0
                clear hk
                have HOP := Aside0.mk (mOpen HQ.out x.s)
                cases ho : openN m x.s with
                | none =>
                  have HE : Aside0 (hearF c m frm x = (m, [], [])) := ⟨by rw [hearF_ok c m frm x HF0.out HF1.out HST.out]; simp only [hearK, HK.out]; rw [ho]; rfl⟩
                  rw [ho] at HOP
                  clear ho
                  go_wp2_with fail
                  refine HOP.out.mono ?_
                  rintro e wq ⟨rfl, rfl⟩
                  go_wp2_with fail
                  go_ret2
                  exact ⟨_, _, rfl, by rw [HR.out, HE.out]; exact HNON.out _ (Below.refl _ _)⟩
                | some k =>
                  rw [ho] at HOP
                  by_cases hr : 1 ≤ x.r ∧ x.r ≤ 6
                  · have HE : Aside0 (hearF c m frm x = (endS m 2 x.r, [], [⟨3, 0, x.s, 0, x.r, [], []⟩])) := ⟨by rw [hearF_ok c m frm x HF0.out HF1.out HST.out]; simp only [hearK, HK.out]; rw [ho]; show (if (true : Bool) = true ∧ 1 ≤ x.r ∧ x.r ≤ 6 then _ else _) = _; rw [if_pos ⟨rfl, hr⟩]⟩
                    have HRE := Aside0.mk (reason_ x.r wq)
                    rw [decide_eq_true hr] at HRE
                    have HEN := Aside0.mk (mEnds HQ.out 2 x.r 3 0 x.s 0 x.r)
                    unfold recV at HEN
                    clear ho hr
                    go_wp2_with fail
                    refine HOP.out.mono ?_
                    rintro e wq ⟨rfl, rfl⟩
                    go_wp2_with fail
                    refine HRE.out.mono ?_
                    rintro e wq ⟨rfl, rfl⟩
                    go_wp2_with fail
                    refine HEN.out.mono ?_
                    rintro e w5 ⟨v, rfl, h1, h2, h3⟩
                    have HM : Aside0 (MaPost wq gM F c (endS m 2 x.r) v [⟨3, 0, x.s, 0, x.r, [], []⟩] w5) := ⟨⟨F, wq.heap.size, ⟨_, _, _, _, _, _, h2⟩, fun _ hi => .inl hi, HQ.out.flt, Nat.le_refl _, h1, h3⟩⟩
                    obtain ⟨Av, nv, rfl, _⟩ := HM.out.reads
                    clear h1 h2 h3
                    go_wp2_with fail
                    go_ret2
                    exact ⟨_, _, rfl, by rw [HR.out, HE.out]; exact HM.out.toH HCQ.out⟩
                  · have HE : Aside0 (hearF c m frm x = (m, [], [])) := ⟨by rw [hearF_ok c m frm x HF0.out HF1.out HST.out]; simp only [hearK, HK.out]; rw [ho]; show (if (true : Bool) = true ∧ 1 ≤ x.r ∧ x.r ≤ 6 then _ else _) = _; rw [if_neg (fun h => hr h.2)]⟩
                    have HRE := Aside0.mk (reason_ x.r wq)
                    rw [decide_eq_false hr] at HRE
                    clear ho hr
                    go_wp2_with fail
                    refine HOP.out.mono ?_
                    rintro e wq ⟨rfl, rfl⟩
                    go_wp2_with fail
                    refine HRE.out.mono ?_
                    rintro e wq ⟨rfl, rfl⟩
                    go_wp2_with fail
                    go_ret2
                    exact ⟨_, _, rfl, by rw [HR.out, HE.out]; exact HNON.out _ (Below.refl _ _)⟩
              · have HK5 := Aside0.mk hk5
                have hkb5 : (x.k == 5) = false := by simpa using hk5
                clear hk5
                by_cases hk6 : x.k = 6
                · have hk := hk6
                  have HK := Aside0.mk hk
                  clear hk6
                  rw [hk] at y0
                  clear hk
                  have HE : Aside0 (hearF c m frm x = (m, [], [])) := ⟨by rw [hearF_ok c m frm x HF0.out HF1.out HST.out]; simp only [hearK, HK.out]; show (if 0 ≤ x.p ∧ x.p < c.job.parts then _ else _) = _; rw [if_neg (fun hh => by have := HPN.out hh.1; omega)]⟩
                  go_wp2_with fail
                  go_ret2
                  exact ⟨_, _, rfl, by rw [HR.out, HE.out]; exact HNON.out _ (Below.refl _ _)⟩
                · have HK6 := Aside0.mk hk6
                  have hkb6 : (x.k == 6) = false := by simpa using hk6
                  clear hk6
                  by_cases hk8 : x.k = 8
                  · have hk := hk8
                    have HK := Aside0.mk hk
                    clear hk8
                    rw [hk] at y0
                    clear hk
                    have HE : Aside0 (hearF c m frm x = (m, [], [])) := ⟨by rw [hearF_ok c m frm x HF0.out HF1.out HST.out]; simp only [hearK, HK.out]; show (if 0 ≤ x.p ∧ x.p < c.job.parts then _ else _) = _; rw [if_neg (fun hh => by have := HPN.out hh.1; omega)]⟩
                    go_wp2_with fail
                    go_ret2
                    exact ⟨_, _, rfl, by rw [HR.out, HE.out]; exact HNON.out _ (Below.refl _ _)⟩
                  · have HK8 := Aside0.mk hk8
                    have hkb8 : (x.k == 8) = false := by simpa using hk8
                    clear hk8
                    have HE : Aside0 (hearF c m frm x = (m, [], [])) := ⟨by rw [hearF_ok c m frm x HF0.out HF1.out HST.out, hearK_other c m frm x HK4.out HK5.out HK6.out HK8.out]⟩
                    go_wp2_with fail
                    go_ret2
                    exact ⟨_, _, rfl, by rw [HR.out, HE.out]; exact HNON.out _ (Below.refl _ _)⟩
      · have HE : Aside0 (hearF c m frm x = (m, [⟨frm, 9, 0, 0, 0, 0, m.why⟩], [])) := ⟨by unfold hearF; rw [if_neg (by have := HF0.out; have := HF1.out; omega), if_pos hs]⟩
        have hs' : (m.st != 0) = true := by simpa using hs
        have HLT : Aside0 (LetsP (w3.alloc (.cells #[.int .i64 0, .int .i64 frm, .int .i64 9, .int .i64 0, .int .i64 0, .int .i64 0, .int .i64 0, .int .i64 0, .int .i64 0, .int .i64 m.why, .slice none 0 0, .slice none 0 0] 51)) w3.heap.size (.slice (some ⟨w3.heap.size, 0, none⟩) 1 1) [⟨frm, 9, 0, 0, 0, 0, m.why⟩]) := ⟨own_lit kLR flat_LR 51 _ w3.heap.size (fz ⟨frm, 9, 0, 0, 0, 0, m.why⟩) (rawZ (fz ⟨frm, 9, 0, 0, 0, 0, m.why⟩)) ⟨rfl, rfl, rfl⟩ w3.heap.size (Nat.le_refl _) (alloc_at w3 _)⟩
        have HBL : Aside0 (Below w3.heap.size w3 (w3.alloc (.cells #[.int .i64 0, .int .i64 frm, .int .i64 9, .int .i64 0, .int .i64 0, .int .i64 0, .int .i64 0, .int .i64 0, .int .i64 0, .int .i64 m.why, .slice none 0 0, .slice none 0 0] 51))) := ⟨(Below.refl _ _).alloc (Nat.le_refl _) _⟩
        clear hs d3 dp k3 kp
        go_wp2_with fail
        go_ret2
        exact ⟨_, _, rfl, by rw [HR.out, HE.out]; exact ⟨F, w3.heap.size, ⟨_, _, _, _, _, _, HQ3.out.below HBL.out⟩, fun _ hi => .inl hi, HQ3.out.flt, HC3.out.size, HLT.out, RecsP.nil _ _, HC3.out.trans (Ch.of_below HBL.out F) (fun _ _ h => h)⟩⟩
end
end Go.Proofs.Ytbnhhlahbhjogaa.K
