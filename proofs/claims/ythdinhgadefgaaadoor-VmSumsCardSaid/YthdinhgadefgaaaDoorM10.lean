/- The machine: a program is run to its end. -/
import Derived.Test.YthdinhgadefgaaaDoorM8a
import Derived.Test.YthdinhgadefgaaaDoorM8b
import Derived.Test.YthdinhgadefgaaaDoorM8c
import Derived.Test.YthdinhgadefgaaaDoorM8d
import Derived.Test.YthdinhgadefgaaaDoorM8e
import Derived.Test.YthdinhgadefgaaaDoorM8f
import Derived.Test.YthdinhgadefgaaaDoorM9
set_option linter.unusedVariables false
set_option linter.unusedSimpArgs false
set_option maxRecDepth 100000
namespace Go.Proofs.YthdinhgadefgaaaDoor.K
open Go.RowKit Go.Proofs.YthdinhgadefgaaaDoorW.PrintWords Go.Proofs.YthdinhgadefgaaaDoorW.PrintLast Go.Proofs.YthdinhgadefgaaaDoorW.PrintMore Go.Proofs.YthdinhgadefgaaaDoor.U Go.Proofs.YthdinhgadefgaaaDoor.T Go.Proofs.YthdinhgadefgaaaDoor.V
attribute [local go_sem] max2_int min2_int

theorem mayI_op {x : InsD} {n : Int} (h : MayI x n) : 0 ≤ x.op ∧ x.op ≤ 23 := by
  unfold MayI at h
  split at h
  · omega
  · omega
theorem mayI_reg {x : InsD} {n : Int} (h : MayI x n) (hx : x.op = 21 ∨ x.op = 22) : 0 ≤ x.a ∧ x.a < 8 := by
  unfold MayI mostI at h
  rw [if_neg (by omega), if_neg (by omega), if_pos hx] at h
  omega
theorem mayI_jump {x : InsD} {n : Int} (h : MayI x n) (hx : x.op = 19 ∨ x.op = 20) : 0 ≤ x.a ∧ x.a ≤ n := by
  unfold MayI mostI at h
  rw [if_neg (by omega), if_pos hx] at h
  omega
theorem doesAny (W0 : World) (hE : Env W0) (R : Nat) (pV : Value) (key : ByteArray) (fuel : Int) (s : St) (w : World) (h : VmR W0 R pV key fuel s w) (hs : SOk s) (op a : Int) (sb : ByteArray) (n : Int) (hm : MayI ⟨op, a, sb⟩ n) :
    Calls Tryd.prog 47 #[.pointer (some ⟨R, 0, none⟩), .agg #[.int .i64 op, .int .i64 a, .string sb]] w fun e w' => e = .returned (.int .i64 (doesF key s op a sb).1) ∧ VmR W0 R pV key fuel (doesF key s op a sb).2 w' := by
  have h01 := mayI_op hm
  have hr := mayI_reg hm
  simp only at h01 hr
  have hor : op = 0 ∨ op = 1 ∨ op = 2 ∨ op = 3 ∨ op = 4 ∨ op = 5 ∨ op = 6 ∨ op = 7 ∨ op = 8 ∨ op = 9 ∨ op = 10 ∨ op = 11 ∨ op = 12 ∨ op = 13 ∨ op = 14 ∨ op = 15 ∨ op = 16 ∨ op = 17 ∨ op = 18 ∨ op = 19 ∨ op = 20 ∨ op = 21 ∨ op = 22 ∨ op = 23 := by omega
  clear h01 hm
  rcases hor with rfl | rfl | rfl | rfl | rfl | rfl | rfl | rfl | rfl | rfl | rfl | rfl | rfl | rfl | rfl | rfl | rfl | rfl | rfl | rfl | rfl | rfl | rfl | rfl
  · exact does_0 W0 hE R pV key fuel s w h hs a sb
  · exact does_1 W0 hE R pV key fuel s w h hs a sb
  · exact does_2 W0 hE R pV key fuel s w h hs a sb
  · exact does_3 W0 hE R pV key fuel s w h hs a sb
  · exact does_4 W0 hE R pV key fuel s w h hs a sb
  · exact does_5 W0 hE R pV key fuel s w h hs a sb
  · exact does_6 W0 hE R pV key fuel s w h hs a sb
  · exact does_7 W0 hE R pV key fuel s w h hs a sb
  · exact does_8 W0 hE R pV key fuel s w h hs a sb
  · exact does_9 W0 hE R pV key fuel s w h hs a sb
  · exact does_10 W0 hE R pV key fuel s w h hs a sb
  · exact does_11 W0 hE R pV key fuel s w h hs a sb
  · exact does_12 W0 hE R pV key fuel s w h hs a sb
  · exact does_13 W0 hE R pV key fuel s w h hs a sb
  · exact does_14 W0 hE R pV key fuel s w h hs a sb
  · exact does_15 W0 hE R pV key fuel s w h hs a sb
  · exact does_16 W0 hE R pV key fuel s w h hs a sb
  · exact does_17 W0 hE R pV key fuel s w h hs a sb
  · exact does_18 W0 hE R pV key fuel s w h hs a sb
  · exact does_19 W0 hE R pV key fuel s w h hs a sb
  · exact does_20 W0 hE R pV key fuel s w h hs a sb
  · obtain ⟨j, rfl⟩ : ∃ j : Nat, a = j := ⟨a.toNat, by have := hr (by decide); omega⟩
    exact does_21 W0 hE R pV key fuel s w h hs j (by have := hr (by decide); omega) sb
  · obtain ⟨j, rfl⟩ : ∃ j : Nat, a = j := ⟨a.toNat, by have := hr (by decide); omega⟩
    exact does_22 W0 hE R pV key fuel s w h hs j (by have := hr (by decide); omega) sb
  · exact does_23 W0 hE R pV key fuel s w h hs a sb
theorem VmW.setSteps {W0 w : World} {R : Nat} {pV : Value} {key : ByteArray} {fuel : Int} {s : St} {sV tV vV : Value} {m : Nat} (h : VmW W0 R pV key fuel s sV tV vV m w) (n : Int) : VmW W0 R pV key fuel { s with steps := n } sV tV vV m (w.setCell ⟨R, 5, none⟩ (.int .i64 n)) :=
  h.upd ((Ch.refl _ _).setCell ⟨R, 5, none⟩ _ rfl) (setCell_blk h.blk _) h.vals h.regs h.stk h.tld
theorem VmW.setAt {W0 w : World} {R : Nat} {pV : Value} {key : ByteArray} {fuel : Int} {s : St} {sV tV vV : Value} {m : Nat} (h : VmW W0 R pV key fuel s sV tV vV m w) (n : Int) : VmW W0 R pV key fuel { s with at_ := n } sV tV vV m (w.setCell ⟨R, 4, none⟩ (.int .i64 n)) :=
  h.upd ((Ch.refl _ _).setCell ⟨R, 4, none⟩ _ rfl) (setCell_blk h.blk _) h.vals h.regs h.stk h.tld
/-- A run from a state on, with so many steps left. -/
def playN (key : ByteArray) (p : List InsD) : Nat → St → Int × St
  | 0, s => if s.at_ < p.length ∧ s.halted = false then (3, s) else (0, s)
  | k + 1, s =>
    if s.at_ < p.length ∧ s.halted = false then
      if (doesF key { s with steps := s.steps + 1, at_ := s.at_ + 1 } (p.getD s.at_.toNat ⟨0, 0, ⟨#[]⟩⟩).op (p.getD s.at_.toNat ⟨0, 0, ⟨#[]⟩⟩).a (p.getD s.at_.toNat ⟨0, 0, ⟨#[]⟩⟩).s).1 = 0
      then playN key p k (doesF key { s with steps := s.steps + 1, at_ := s.at_ + 1 } (p.getD s.at_.toNat ⟨0, 0, ⟨#[]⟩⟩).op (p.getD s.at_.toNat ⟨0, 0, ⟨#[]⟩⟩).a (p.getD s.at_.toNat ⟨0, 0, ⟨#[]⟩⟩).s).2
      else doesF key { s with steps := s.steps + 1, at_ := s.at_ + 1 } (p.getD s.at_.toNat ⟨0, 0, ⟨#[]⟩⟩).op (p.getD s.at_.toNat ⟨0, 0, ⟨#[]⟩⟩).a (p.getD s.at_.toNat ⟨0, 0, ⟨#[]⟩⟩).s
    else (0, s)
def runs0 (vals : List ByteArray) : St := ⟨vals, 0, 0, false, [], List.replicate 8 (intV 0), []⟩
theorem runs0_ok (vals : List ByteArray) (hl : vals.length ≤ 1000) (hv : ∀ x ∈ vals, x.size ≤ 1000000) : SOk (runs0 vals) :=
  ⟨by show 0 ≤ 16; omega, by simp [runs0], rfl, fun v hv => by obtain ⟨_, rfl⟩ := List.mem_replicate.1 hv; exact vok_zero, by show 0 ≤ 40; omega, by simp [runs0], hl, hv⟩
set_option maxHeartbeats 3200000 in
theorem play (pA : Option Addr) (pc : Nat) (p : List InsD) (key : ByteArray) (vA : Option Addr) (vc : Nat) (vals : List ByteArray) (fuel : Int) (w : World) (hE : Env w) (hp : Kd.C kIns w pA p.length p) (hpc : p.length ≤ pc) (hm : CodeMay p) (hpa : ∀ x ∈ p, In64 x.a)
    (hv : Kd.C Kd.string w vA vals.length vals) (hvc : vals.length ≤ vc) (hvl : vals.length ≤ 1000) (hvv : ∀ x ∈ vals, x.size ≤ 1000000) (hf : 0 ≤ fuel) (hf2 : In64 fuel) :
    Calls Tryd.prog 42 #[.slice pA p.length pc, .string key, .slice vA vals.length vc, .int .i64 fuel] w fun e w' => ∃ R, e = .returned (.tuple #[.pointer (some ⟨R, 0, none⟩), .int .i64 (playN key p (min fuel 2000).toNat (runs0 vals)).1]) ∧ VmR w R (.slice pA p.length pc) key (min fuel 2000) (playN key p (min fuel 2000).toNat (runs0 vals)).2 w' ∧ SOk (playN key p (min fuel 2000).toNat (runs0 vals)).2 := by
  have HPM := Aside0.mk (progMay pA pc p w hp hpc true (decide_eq_true hm).symm)
  have HP := Aside0.mk hp
  have HM := Aside0.mk (And.intro hm hpa)
  have HE := Aside0.mk hE
  have HSO := Aside0.mk (runs0_ok vals hvl hvv)
  have HV := Aside0.mk (And.intro hv hvc)
  have hfn : ¬ fuel < 0 := by omega
  have hmk : ∀ w, (Instr.makeMap 74 none).run Tryd.prog w = .ok (.map (some w.heap.size)) (w.alloc (.map #[] 0)) := fun w => by rfl
  clear hp hm hpa hE hv hvc hvl hvv
  go_enter Tryd.func42, Tryd.ntmps42
  go_wp2_with fail
  refine HPM.out.mono ?_
  rintro e w1 ⟨rfl, hb1⟩
  have HB1 := Aside0.mk hb1
  clear hb1
  go_wp2_with fail
  have hini : VmW w (w1.heap.size + 1) (.slice pA p.length pc) key (min fuel 2000) (runs0 vals) (.slice none 0 0) (.slice none 0 0) (.slice vA vals.length vc) w1.heap.size ((w1.alloc (.map #[] 0)).alloc (.cells (runL (.slice pA p.length pc) key (.slice vA vals.length vc) (min fuel 2000) 0 0 false (.slice none 0 0) (regL (List.replicate 8 (intV 0))) (.slice none 0 0) w1.heap.size).toArray 76)) := by
    have hbm : Below w1.heap.size w1 (w1.alloc (.map #[] 0)) := (Below.refl _ _).alloc (Nat.le_refl _) _
    have hsz : (w1.alloc (.map #[] 0)).heap.size = w1.heap.size + 1 := World.size_alloc _ _
    have hb2 := (Below.refl (w1.alloc (.map #[] 0)).heap.size (w1.alloc (.map #[] 0))).alloc (Nat.le_refl _) (.cells (runL (.slice pA p.length pc) key (.slice vA vals.length vc) (min fuel 2000) 0 0 false (.slice none 0 0) (regL (List.replicate 8 (intV 0))) (.slice none 0 0) w1.heap.size).toArray 76)
    have hbb := two_belowM HB1.out (two_belowM hbm hb2)
    exact { blk := by rw [← hsz]; exact alloc_at _ _, low := by have := HB1.out.size; omega, bel := hbb, vals := ⟨vA, vc, rfl, HV.out.2, HV.out.1⟩, regs := rfl
            stk := Own.nil _ _ _ _, tld := Own.nil _ _ _ _
            dig := ⟨[], 0, (hb2.block w1.heap.size (by omega)).trans (alloc_at w1 _), HB1.out.size, fun e he => by cases he⟩ }
  obtain ⟨R, hR⟩ : ∃ R, R = w1.heap.size + 1 := ⟨_, rfl⟩
  rw [← hR] at hini ⊢
  have HINI := Aside0.mk hini
  clear hini hR
  go_loopg [] (min fuel 2000).toNat (fun kq w' => ∃ s : St, Aside0 (VmR w R (.slice pA p.length pc) key (min fuel 2000) s w' ∧ SOk s ∧ playN key p kq s = playN key p (min fuel 2000).toNat (runs0 vals)) ∧ 0 ≤ s.at_ ∧ s.at_ ≤ p.length ∧ 0 ≤ s.steps ∧ s.steps + kq = min fuel 2000)
  case atStart => exact ⟨runs0 vals, ⟨⟨_, _, _, _, HINI.out⟩, HSO.out, rfl⟩, by show (0 : Int) ≤ 0; omega, by show (0 : Int) ≤ _; omega, by show (0 : Int) ≤ 0; omega, by show (0 : Int) + _ = _; omega⟩
  case round =>
    obtain ⟨s, HST, ha0, ha1, hs0, hsum⟩ := hrel
    obtain ⟨⟨sV, tV, vV, m, hW⟩, hok, heq⟩ := HST.out
    have c3 : wr.cell? ⟨R, 3, none⟩ = some (.int .i64 (min fuel 2000)) := hW.cell 3
    have c4 : wr.cell? ⟨R, 4, none⟩ = some (.int .i64 s.at_) := hW.cell 4
    have c5 : wr.cell? ⟨R, 5, none⟩ = some (.int .i64 s.steps) := hW.cell 5
    have c6 : wr.cell? ⟨R, 6, none⟩ = some (.bool s.halted) := hW.cell 6
    have z5 : wr.frozen? ⟨R, 5, none⟩ = false := hW.frozen 5
    have HW := Aside0.mk hW
    have HEQ := Aside0.mk heq
    have HOK := Aside0.mk hok
    clear hW hok heq HINI HSO HV
    by_cases hgo : s.at_ < p.length ∧ s.halted = false
    · obtain ⟨hg1, hg2⟩ := hgo
      rw [hg2] at c6
      cases gk with
      | zero =>
        have hfu : min fuel 2000 ≤ s.steps := by omega
        have HRES : Aside0 (playN key p (min fuel 2000).toNat (runs0 vals) = (3, s)) := ⟨by rw [← HEQ.out]; show (if _ then _ else _) = _; rw [if_pos ⟨hg1, hg2⟩]⟩
        go_wp2_with fail
        go_region_held3 (fun w' => w'.cell? ⟨R, 3, none⟩ = some (.int .i64 (min fuel 2000)) ∧ w'.cell? ⟨R, 5, none⟩ = some (.int .i64 s.steps)) (first | assumption | exact ⟨by assumption, by assumption⟩) (fail)
        go_wp2_with fail
        go_ret2
        exact ⟨R, by rw [HRES.out]; rfl, by rw [HRES.out]; exact ⟨_, _, _, _, HW.out.below (HeldM.drew _)⟩, by rw [HRES.out]; exact HOK.out⟩
      | succ k =>
        have hfu : ¬ min fuel 2000 ≤ s.steps := by omega
        go_wp2_with fail
        go_region_held3 (fun w' => w'.cell? ⟨R, 3, none⟩ = some (.int .i64 (min fuel 2000)) ∧ w'.cell? ⟨R, 5, none⟩ = some (.int .i64 s.steps)) (first | assumption | exact ⟨by assumption, by assumption⟩) (fail)
        go_upto_region 8 with (fail)
        obtain ⟨w5, hw5⟩ : ∃ w5, w5 = (wr.setCell ⟨R, 5, none⟩ (.int .i64 (s.steps + 1))).drew := ⟨_, rfl⟩
        have h5 := (HW.out.setSteps (s.steps + 1)).below (HeldM.drew _)
        rw [← hw5] at h5 ⊢
        have H5 := Aside0.mk h5
        obtain ⟨q, hq⟩ : ∃ q : Nat, s.at_ = q := ⟨s.at_.toNat, by omega⟩
        have hql : q < p.length := by omega
        obtain ⟨ad, rfl, hx0, hx1, hx2⟩ := at_ins (Kd.C_below HP.out h5.bel) q hql
        have d4 : w5.cell? ⟨R, 4, none⟩ = some (.int .i64 s.at_) := h5.cell 4
        obtain ⟨x, hx⟩ : ∃ x, x = p[q]'hql := ⟨_, rfl⟩
        rw [← hx] at hx0 hx1 hx2
        have hxm : MayI x p.length := by rw [hx]; exact HM.out.1.2 _ (List.getElem_mem _)
        have hxa : In64 x.a := by rw [hx]; exact HM.out.2 _ (List.getElem_mem _)
        have hxd : x = p.getD s.at_.toNat ⟨0, 0, ⟨#[]⟩⟩ := by rw [hq, Int.toNat_natCast, hx]; simp [List.getD_eq_getElem?_getD, hql]
        have HX := Aside0.mk (And.intro hxm (And.intro hxa hxd))
        clear hx hxm hxa hxd h5 hw5 c3 c4 c5 c6 z5
        obtain ⟨op, a, sb⟩ := x
        simp only at hx0 hx1 hx2
        have hu := Tryd.underlying51
        have hq0 : (0 : Int) ≤ (q : Int) := by omega
        have hqI : (q : Int) < p.length := by omega
        go_upto_region 9 with (fail)
        obtain ⟨w6, hw6⟩ : ∃ w6, w6 = w5.alloc (.cells #[.int .i64 op, .int .i64 a, .string sb] 51) := ⟨_, rfl⟩
        obtain ⟨gi, hgi⟩ : ∃ gi, gi = w5.heap.size := ⟨_, rfl⟩
        have hb6 := (Below.refl w5.heap.size w5).alloc (Nat.le_refl _) (.cells #[.int .i64 op, .int .i64 a, .string sb] 51)
        have hi6 : w6.heap[gi]? = some (.cells ([.int .i64 op, .int .i64 a, .string sb] : List Value).toArray 51 (0, 0)) := by rw [hw6, hgi]; exact alloc_at w5 _
        have hgR : gi ≠ R := by have := blk_lt' H5.out.blk; omega
        rw [← hw6] at hb6 ⊢
        rw [← hgi]
        have H6 := Aside0.mk (H5.out.below hb6)
        have e4 : w6.cell? ⟨R, 4, none⟩ = some (.int .i64 s.at_) := H6.out.cell 4
        have z4 : w6.frozen? ⟨R, 4, none⟩ = false := H6.out.frozen 4
        have HI6 := Aside0.mk hi6
        have HGR := Aside0.mk hgR
        clear hw6 hgi hb6 hi6 hgR d4 hx0 hx1 hx2
        have hwq : wrap64 ((q : Int) + 1) = s.at_ + 1 := by have := HM.out.1.1; unfold wrap64; omega
        have HWQ := Aside0.mk hwq
        clear hwq
        go_upto_region 10 with (fail)
        rw [HWQ.out]
        obtain ⟨w7, hw7⟩ : ∃ w7, w7 = w6.setCell ⟨R, 4, none⟩ (.int .i64 (s.at_ + 1)) := ⟨_, rfl⟩
        have h7 := H6.out.setAt (s.at_ + 1)
        have hi7 : w7.heap[gi]? = some (.cells ([.int .i64 op, .int .i64 a, .string sb] : List Value).toArray 51 (0, 0)) := by
          rw [hw7]; exact (setCell_other (g := gi) (k := gi) ⟨R, 4, none⟩ _ HGR.out).trans HI6.out
        rw [← hw7] at h7 ⊢
        have H7 := Aside0.mk h7
        have f0 : w7.cell? ⟨gi, 0, none⟩ = some (.int .i64 op) := cell_of_blk hi7
        have f1 : w7.cell? ⟨gi, 1, none⟩ = some (.int .i64 a) := cell_of_blk hi7
        have f2 : w7.cell? ⟨gi, 2, none⟩ = some (.string sb) := cell_of_blk hi7
        clear hw7 hi7 h7 e4 z4
        go_wp2_with fail
        refine (doesAny w HE.out R _ key (min fuel 2000) _ w7 ⟨_, _, _, _, H7.out⟩ ⟨HOK.out.sl, HOK.out.sv, HOK.out.rl, HOK.out.rv, HOK.out.tl, HOK.out.tv, HOK.out.vl, HOK.out.vv⟩ op a sb p.length HX.out.1).mono ?_
        rintro e w8 ⟨rfl, hV8⟩
        have hok8 : SOk (doesF key { s with steps := s.steps + 1, at_ := s.at_ + 1 } op a sb).2 := SOk.does (s := { s with steps := s.steps + 1, at_ := s.at_ + 1 }) ⟨HOK.out.sl, HOK.out.sv, HOK.out.rl, HOK.out.rv, HOK.out.tl, HOK.out.tv, HOK.out.vl, HOK.out.vv⟩ key op a HX.out.2.1 sb
        have hrest := doesF_rest key { s with steps := s.steps + 1, at_ := s.at_ + 1 } op a sb
        have hstep : playN key p (k + 1) s = if (doesF key { s with steps := s.steps + 1, at_ := s.at_ + 1 } op a sb).1 = 0 then playN key p k (doesF key { s with steps := s.steps + 1, at_ := s.at_ + 1 } op a sb).2 else doesF key { s with steps := s.steps + 1, at_ := s.at_ + 1 } op a sb := by
          rw [playN, if_pos ⟨hg1, hg2⟩, ← HX.out.2.2]
        obtain ⟨rr, hrr⟩ : ∃ rr, rr = doesF key { s with steps := s.steps + 1, at_ := s.at_ + 1 } op a sb := ⟨_, rfl⟩
        have hjmp : (op = 19 ∨ op = 20) → 0 ≤ a ∧ a ≤ p.length := fun h => mayI_jump HX.out.1 h
        rw [← hrr] at hV8 hok8 hrest hstep ⊢
        rw [hstep] at HEQ
        have HV8 := Aside0.mk hV8
        have HOK8 := Aside0.mk hok8
        have HREST := Aside0.mk (And.intro hrest hjmp)
        clear hV8 hok8 hrest hstep hrr hjmp f0 f1 f2
        obtain ⟨why, s8⟩ := rr
        simp only at HV8 HOK8 HREST HEQ ⊢
        by_cases hw : why = 0
        · subst hw
          rw [if_pos rfl] at HEQ
          go_wp2_with fail
          go_roundg k
          case measure => omega
          case rel =>
            obtain ⟨⟨r1, r2⟩, r3⟩ := HREST.out
            refine ⟨s8, ⟨HV8.out, HOK8.out, HEQ.out⟩, ?_, ?_, by omega, by omega⟩
            · rcases r2 with r2 | ⟨r2, r4⟩
              · omega
              · have := r3 r2; omega
            · rcases r2 with r2 | ⟨r2, r4⟩
              · omega
              · have := r3 r2; omega
        · rw [if_neg hw] at HEQ
          have hwb : (why == 0) = false := by simpa using hw
          have hwb2 : (why != 0) = true := by simpa using hw
          clear hw
          go_wp2_with fail
          go_ret2
          exact ⟨R, by rw [← HEQ.out]; rfl, by rw [← HEQ.out]; exact HV8.out, by rw [← HEQ.out]; exact HOK8.out⟩
    · have HRES : Aside0 (playN key p (min fuel 2000).toNat (runs0 vals) = (0, s)) := ⟨by
        rw [← HEQ.out]
        cases gk with
        | zero => show (if _ then _ else _) = _; rw [if_neg hgo]
        | succ k => rw [playN, if_neg hgo]⟩
      have hor : ¬ s.at_ < (p.length : Int) ∨ (s.at_ < (p.length : Int) ∧ s.halted = true) := by
        by_cases h1 : s.at_ < (p.length : Int)
        · refine .inr ⟨h1, ?_⟩
          cases h2 : s.halted with
          | true => rfl
          | false => exact absurd ⟨h1, h2⟩ hgo
        · exact .inl h1
      clear hgo
      rcases hor with h1 | ⟨h1, h2⟩
      · go_wp2_with fail
        go_ret2
        exact ⟨R, by rw [HRES.out]; rfl, by rw [HRES.out]; exact ⟨_, _, _, _, HW.out⟩, by rw [HRES.out]; exact HOK.out⟩
      · rw [h2] at c6
        go_wp2_with fail
        go_ret2
        exact ⟨R, by rw [HRES.out]; rfl, by rw [HRES.out]; exact ⟨_, _, _, _, HW.out⟩, by rw [HRES.out]; exact HOK.out⟩
end Go.Proofs.YthdinhgadefgaaaDoor.K
