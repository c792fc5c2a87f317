/- The master: hello. WRITTEN BY wip/gen_y14.py. -/
import Derived.Test.YtbnhhlahbhjogaaY12
set_option linter.unusedVariables false
set_option linter.unusedSimpArgs false
set_option maxRecDepth 100000
namespace Go.Proofs.Ytbnhhlahbhjogaa.K
open Go.RowKit Go.Proofs.YtbnhhlahbhjogaaW.PrintWords Go.Proofs.YtbnhhlahbhjogaaW.PrintLast Go.Proofs.YtbnhhlahbhjogaaW.PrintMore Go.Proofs.Ytbnhhlahbhjogaa.U Go.Proofs.Ytbnhhlahbhjogaa.T

theorem step_app_eq {P : Program} {ops : Array Oper} {o : Oper} {a : Act} {W : World} {Kc : Act → World → Prop} {Q : Exit → Act → World → Prop} (hw : Region.wanted o (yielded ops a.tmps) = true) (s x : Operand) (t : TypeId)
    (ho : o.op = .call { callee := .builtin .append, args := #[s, x], argTypes := #[t, t] }) (vs vx v : Value) (w1 : World) (hs : a.eval s = vs) (hx : a.eval x = vx) (hr : (Builtin.append_ #[t, t] o.type #[vs, vx]).run P W = .ok v w1) (h : Kc (a.put o.dst v) w1) :
    if Region.wanted o (yielded ops a.tmps) = true then Oper.wp P o a W Kc Q else Kc (a.put o.dst undef) W := by
  rw [if_pos hw]
  unfold Oper.wp execOp
  simp only [ho, resolve, invoke, builtin, Sem.run_bind, Sem.run_pure, Result.andThen_ok, List.map_toArray, List.map_cons, List.map_nil, hs, hx, hr]
  exact h
theorem step_app_run {P : Program} {ops : Array Oper} {o : Oper} {a : Act} {W : World} {Kc : Act → World → Prop} {Q : Exit → Act → World → Prop} (hw : Region.wanted o (yielded ops a.tmps) = true) (s x : Operand) (t : TypeId)
    (ho : o.op = .call { callee := .builtin .append, args := #[s, x], argTypes := #[t, t] }) (vs vx : Value) (hs : a.eval s = vs) (hx : a.eval x = vx) {R : Value → World → Prop} (hr : ∀ ty, Runs P (Builtin.append_ #[t, t] ty #[vs, vx]) W R) (h : ∀ v w1, R v w1 → Kc (a.put o.dst v) w1) :
    if Region.wanted o (yielded ops a.tmps) = true then Oper.wp P o a W Kc Q else Kc (a.put o.dst undef) W := by
  obtain ⟨v, w1, hrun, hR⟩ := hr o.type
  exact step_app_eq hw s x t ho vs vx v w1 hs hx hrun (h v w1 hR)

theorem addBlk (a : Addr) (n : Nat) : (a.add n).block = a.block := by unfold Addr.add; split <;> rfl
/-- A letter is put behind the others. -/
theorem lets_app (w : World) (base : Nat) (v : Value) (ls : List FLet) (x : FLet) (h : LetsP w base v ls) (hb : base ≤ w.heap.size) (hl : ls.length ≤ 100000) (arr : Array Value) (ha : arr = (rawZ (fz x)).toArray) (ty : TypeId) :
    Runs Try.prog (Builtin.append_ #[39, 39] ty #[v, .slice (some ⟨w.heap.size, 0, none⟩) 1 1]) (w.alloc (.cells arr 51)) fun v' w' => LetsP w' base v' (ls ++ [x]) ∧ Ch w w' (fun i => v.ownBlock = some i) := by
  refine (append_one_runs Try.prog flat_LR 39 ty _ 128 Try.underlying39 info_let rfl (by decide) (x := fz x) (cs := rawZ (fz x)) h ⟨rfl, rfl, rfl⟩ hb (by rw [List.length_map]; show (ls.length + 1) * 128 ≤ 140737488355328; omega) (by rw [List.length_map]; omega) 51 _ rfl _ ha).mono ?_
  rintro v' w' ⟨hO, hg⟩
  refine ⟨?_, ((Ch.of_below ((Below.refl w.heap.size w).alloc (Nat.le_refl _) _) _).trans (Ch.of_grown (S := fun i => v.ownBlock = some i) hg (fun i hi => hi)) (fun _ _ h => h))⟩
  unfold LetsP
  rw [List.map_append]
  exact hO
/-- What is told of a split that was won. -/
def tellL (m : MaS) (frm part : Int) (n : Int) : FLet := ⟨frm, 7, n, (m.sp.getD n.toNat zeroS).att, part, (m.sp.getD n.toNat zeroS).counts.getD part.toNat 0, 0⟩
def firstI : List Int → Int
  | [] => -1
  | n :: _ => n
theorem firstI_snoc (ns : List Int) (n : Int) : firstI (ns ++ [n]) = if ns = [] then n else firstI ns := by
  cases ns <;> rfl
def lackF (m : MaS) (set : List Int) (k : Nat) : List Int := ((winners m).take k).filter (fun n => decide (n ∉ set))
theorem lackF_in (m : MaS) (set : List Int) (k : Nat) (hk : k < (winners m).length) (h : (winners m)[k] ∈ set) : lackF m set (k + 1) = lackF m set k := by
  unfold lackF
  rw [List.take_succ_eq_append_getElem hk, List.filter_append]
  simp [h]
theorem lackF_out (m : MaS) (set : List Int) (k : Nat) (hk : k < (winners m).length) (h : (winners m)[k] ∉ set) : lackF m set (k + 1) = lackF m set k ++ [(winners m)[k]] := by
  unfold lackF
  rw [List.take_succ_eq_append_getElem hk, List.filter_append]
  simp [h]
theorem winUp_mem (m : MaS) (k : Nat) (n : Int) (h : n ∈ winUp m k) : ∃ j : Nat, n = j ∧ j < k ∧ (m.sp.getD j zeroS).won = true := by
  induction k with
  | zero => simp [winUp] at h
  | succ k ih =>
    unfold winUp at h
    split at h
    · rename_i hw
      rcases List.mem_append.1 h with h | h
      · obtain ⟨j, h1, h2, h3⟩ := ih h
        exact ⟨j, h1, by omega, h3⟩
      · exact ⟨k, List.mem_singleton.1 h, by omega, hw⟩
    · obtain ⟨j, h1, h2, h3⟩ := ih h
      exact ⟨j, h1, by omega, h3⟩
theorem lackF_mem (m : MaS) (set : List Int) (k : Nat) (n : Int) (h : n ∈ lackF m set k) : ∃ j : Nat, n = j ∧ j < m.sp.length ∧ (m.sp.getD j zeroS).won = true := by
  unfold lackF at h
  exact winUp_mem m _ n (List.mem_of_mem_take (List.mem_filter.1 h).1)
theorem firstI_neg (m : MaS) (set : List Int) (k : Nat) : firstI (lackF m set k) < 0 ↔ lackF m set k = [] := by
  cases h : lackF m set k with
  | nil => simp [firstI]
  | cons a l =>
    obtain ⟨j, hj, _⟩ := lackF_mem m set k a (by rw [h]; exact List.mem_cons_self ..)
    show a < 0 ↔ _
    constructor
    · intro ha; omega
    · intro ha; cases ha
def nextRound (m : MaS) : MaS := { m with round := m.round + 1 }
def helloF (c : CfgD) (m : MaS) (frm : Int) (x : MsgD) : MaS × List FLet :=
  if lackF m x.set (winners m).length = [] then (m, []) else (nextRound m, (lackF m x.set (winners m).length).map (tellL m frm x.p) ++ [runL c m.round (firstI (lackF m x.set (winners m).length)) (m.sp.getD (firstI (lackF m x.set (winners m).length)).toNat zeroS).att])
/-- A master's answer of letters. -/
def MaPostL (w : World) (gM : Nat) (F : Nat → Prop) (c : CfgD) (m' : MaS) (v : Value) (ls : List FLet) (w' : World) : Prop := MaR w' gM F c m' ∧ LetsP w' w.heap.size v ls ∧ Ch w w' F
section
variable {w w' : World} {gM gS gT : Nat} {F S : Nat → Prop} {c : CfgD} {h : CfH} {zs : List SpV} {C : List Int} {ok : Nat → Prop} {m : MaS}
theorem getD_at (l : List Int) (k : Nat) (h : k < l.length) : l.getD k 0 = l[k] := by simp [List.getD_eq_getElem?_getD, h]
theorem MaP.count (p : MaP w gM gS gT F c h zs C ok m) (j k : Nat) (hj : j < c.job.splits.length) (hw : (m.sp.getD j zeroS).won = true) (hk : (k : Int) < c.job.parts) :
    ∃ ad n, (zs[j]'(by rw [p.zlen]; exact hj)).cv = .slice (some ad) (m.sp.getD j zeroS).counts.length n ∧ k < (m.sp.getD j zeroS).counts.length ∧ (m.sp.getD j zeroS).counts.length ≤ 4 ∧ ad.block < w.heap.size ∧ w.cell? (ad.add k) = some (.int .i64 ((m.sp.getD j zeroS).counts.getD k 0)) ∧ F ad.block := by
  obtain ⟨hz, e⟩ := p.zget j hj
  obtain ⟨h1, h2⟩ := p.cnt _ (List.getElem_mem hz) (by rw [e]; exact hw)
  rw [e] at h1 h2
  have hk2 : k < (m.sp.getD j zeroS).counts.length := by omega
  obtain ⟨g, cap, hcv, _, hlt, _⟩ := Kd.R_form h1 (by omega)
  have h1' := h1
  rw [hcv] at h1'
  obtain ⟨_, _, hC⟩ := Kd.R_reads' h1'
  obtain ⟨ad, ea, hc⟩ := at_intz hC k hk2
  injection ea with ea
  subst ea
  refine ⟨_, cap, hcv, hk2, by have := p.may.job.parts.2; omega, hlt, ?_, (p.okF g (h1.1 g (by rw [hcv]; rfl))).1⟩
  rw [getD_at _ k hk2]
  exact hc
set_option maxHeartbeats 12800000 in
theorem mHello (p : MaP w gM gS gT F c h zs C ok m) (frm : Int) (x : MsgD) (A1 A2 : Option Addr) (c1 c2 lp : Nat) (hx : Kd.C kI w A1 x.set.length x.set) (hp0 : 0 ≤ x.p) (hp1 : x.p < c.job.parts) (hr0 : 0 ≤ m.round) (hr1 : m.round ≤ 1000000) :
    Calls Try.prog 49 #[.pointer (some ⟨gM, 0, none⟩), .int .i64 frm, msgV x (.slice A1 x.set.length c1) (.slice A2 lp c2)] w fun e w' => ∃ v, e = .returned v ∧ MaPostL w gM F c (helloF c m frm x).1 v (helloF c m frm x).2 w' := by
  obtain ⟨ls, hls⟩ : ∃ ls, ls = x.set.length := ⟨_, rfl⟩
  obtain ⟨g, hg⟩ : ∃ g, g = w.heap.size := ⟨_, rfl⟩
  obtain ⟨wA, hwA⟩ : ∃ wA, wA = w.alloc (.cells #[.int .i64 x.k, .int .i64 x.s, .int .i64 x.a, .int .i64 x.p, .int .i64 x.q, .int .i64 x.n, .int .i64 x.e, .int .i64 x.r, .slice A1 ls c1, .slice A2 lp c2] 45) := ⟨_, rfl⟩
  have hbA : Below w.heap.size w wA := by rw [hwA]; exact (Below.refl _ _).alloc (Nat.le_refl _) _
  have hgA : wA.heap[g]? = some (.cells ([.int .i64 x.k, .int .i64 x.s, .int .i64 x.a, .int .i64 x.p, .int .i64 x.q, .int .i64 x.n, .int .i64 x.e, .int .i64 x.r, .slice A1 ls c1, .slice A2 lp c2] : List Value).toArray 45 (0, 0)) := by rw [hwA, hg]; exact alloc_at w _
  have q := p.below hbA
  obtain ⟨N, hN⟩ : ∃ N, N = c.job.splits.length := ⟨_, rfl⟩
  have hNs : m.sp.length = N := by rw [hN]; exact p.len
  obtain ⟨ws, hws⟩ : ∃ ws, ws = winners m := ⟨_, rfl⟩
  obtain ⟨nw, hnw⟩ : ∃ nw, nw = ws.length := ⟨_, rfl⟩
  have hnw6 : nw ≤ 6 := by
    have := winUp_len m m.sp.length
    have h2 := p.may.job.splits.2
    rw [hnw, hws]
    unfold winners
    omega
  obtain ⟨kp, hkp⟩ : ∃ kp : Nat, x.p = kp := ⟨x.p.toNat, by omega⟩
  have hkp4 : (kp : Int) < c.job.parts := by omega
  have HWN := Aside0.mk (mWinners q)
  have HQ := Aside0.mk q
  have HX := Aside0.mk (Kd.C_below hx hbA)
  have HLS := Aside0.mk hls
  have HBA := Aside0.mk hbA
  have HWA := Aside0.mk hwA
  have HG := Aside0.mk hg
  have HGA := Aside0.mk hgA
  have HN := Aside0.mk hN
  have HNS := Aside0.mk hNs
  have HWS := Aside0.mk hws
  have HNW := Aside0.mk hnw
  have HKP := Aside0.mk hkp
  have HKP4 := Aside0.mk hkp4
  have HP := Aside0.mk p
  have hmx := Kd.C_max hx
  rw [← hls] at hmx
  obtain ⟨R, hR⟩ : ∃ R, R = helloF c m frm x := ⟨_, rfl⟩
  rw [← hR]
  have HRR := Aside0.mk hR
  rw [← hls]
  unfold msgV
  clear p q hx hwA hg hbA hgA hls hN hNs hws hnw hkp hkp4 hp0 hp1 hR
  go_enter Try.func49, Try.ntmps49
  go_upto_region 3 with (fail)
  rw [show w.alloc (.cells #[.int .i64 x.k, .int .i64 x.s, .int .i64 x.a, .int .i64 x.p, .int .i64 x.q, .int .i64 x.n, .int .i64 x.e, .int .i64 x.r, .slice A1 ls c1, .slice A2 lp c2] 45) = wA from HWA.out.symm, ← HG.out]
  go_wp2_with fail
  refine HWN.out.mono ?_
  rintro e w3 ⟨v3, rfl, hO3, hb3⟩
  obtain ⟨A3, cp3, rfl, hle3, hC3⟩ := hO3.reads
  rw [← HWS.out, ← HNW.out] at hle3 hC3 ⊢
  have HW3 : Aside0 (∀ w', HeldN w3 w' → Kd.C kI w' A3 ws.length ws) := ⟨fun w' hw => by rw [← HNW.out]; exact Kd.C_below hC3 hw⟩
  have HQ3 := Aside0.mk (HQ.out.below hb3)
  have HB3 := Aside0.mk (below_then HBA.out HBA.out.size hb3)
  have HG3 := Aside0.mk ((hb3.block g (blk_lt' HGA.out)).trans HGA.out)
  have HX3 := Aside0.mk (Kd.C_below HX.out hb3)
  clear hO3 hb3 hC3 hle3 HWN
  go_wp2_with fail
  go_loopg [7, 8, 10, 11, 15] nw (fun kq v7 v8 v10 v11 v15 w' => ∃ (k : Nat) (A7 : Option Addr) (n7 l7 : Nat), k + kq = nw ∧ v15 = .int .i64 k ∧ v8 = .int .i64 (firstI (lackF m x.set k)) ∧ v7 = .slice A7 l7 n7 ∧ Aside0 (l7 = (lackF m x.set k).length ∧ l7 ≤ k) ∧ Aside0 (LetsP w' w3.heap.size (.slice A7 l7 n7) ((lackF m x.set k).map (tellL m frm x.p))) ∧ Aside0 (HeldN w3 w'))
  case atStart => exact ⟨0, none, 0, 0, by omega, rfl, rfl, rfl, ⟨rfl, by omega⟩, ⟨LetsP.nil _ _⟩, ⟨Below.refl _ _⟩⟩
  case round =>
    obtain ⟨k, A7, n7, l7, hk, rfl, rfl, rfl, HL7, HLE, HB⟩ := hrel
    by_cases hlt : k < nw
    · have hltI : (k : Int) < nw := by omega
      have hk0 : (0 : Int) ≤ (k : Int) := by omega
      have hkw : k < ws.length := by rw [← HNW.out]; exact hlt
      obtain ⟨ad3, rfl, hx3⟩ := at_intz (HW3.out _ HB.out) k hkw
      obtain ⟨n, hn⟩ : ∃ n, n = ws[k] := ⟨_, rfl⟩
      have hnm : n = (winners m)[k]'(by rw [← HWS.out]; exact hkw) := by rw [hn]; congr 1; exact HWS.out
      obtain ⟨j, rfl, hjN, hjw⟩ := winUp_mem m m.sp.length n (by rw [hnm]; exact List.getElem_mem _)
      rw [← hn] at hx3
      have hq3 := (Below.block HB.out g (blk_lt' HG3.out)).trans HG3.out
      have f8 : wr.cell? ⟨g, 8, none⟩ = some (.slice A1 ls c1) := cell_of_blk hq3
      obtain ⟨rc, hrc⟩ := bool_of ((j : Int) ∈ x.set)
      have HCN := Aside0.mk (containsI A1 c1 x.set (j : Int) wr (Kd.C_below HX3.out HB.out) rc hrc)
      rw [← HLS.out] at HCN
      have HKW : Aside0 (k < (winners m).length) := ⟨by rw [← HWS.out]; exact hkw⟩
      have HNM : Aside0 ((j : Int) = (winners m)[k]'HKW.out) := ⟨hnm⟩
      have HRC := Aside0.mk hrc
      have HQR := Aside0.mk (HQ3.out.below HB.out)
      have HGR := Aside0.mk hq3
      have hjN' : j < N := by rw [← HNS.out]; exact hjN
      have HJN := Aside0.mk hjN'
      have HJW := Aside0.mk hjw
      clear hn hnm hjN hjN' hjw hq3 hrc hkw
      go_wp2_with fail
      refine HCN.out.mono ?_
      rintro e wr ⟨rfl, rfl⟩
      cases rc with
      | true =>
        have HUP : Aside0 (lackF m x.set (k + 1) = lackF m x.set k) := ⟨lackF_in m x.set k HKW.out (by rw [← HNM.out]; exact HRC.out.1 rfl)⟩
        go_wp2_with fail
        go_roundg (nw - (k + 1))
        case measure => omega
        case rel => exact ⟨k + 1, A7, n7, l7, by omega, by go_num, by rw [HUP.out], rfl, ⟨by rw [HUP.out]; exact HL7.out.1, by have := HL7.out.2; omega⟩, ⟨by rw [HUP.out]; exact HLE.out⟩, HB⟩
      | false =>
        have HUP : Aside0 (lackF m x.set (k + 1) = lackF m x.set k ++ [(j : Int)]) := ⟨by rw [lackF_out m x.set k HKW.out (by rw [← HNM.out]; exact fun h => absurd (HRC.out.2 h) (by decide)), ← HNM.out]⟩
        have q := HQR.out
        have hc13 := q.c_sp
        obtain ⟨cv, hz, f0, f1, f2, f3, f4, f5⟩ := q.split j (by rw [← HN.out]; exact HJN.out)
        obtain ⟨ad, nc, hcv, hkl, hcl4, hadw, hcnt, hadF⟩ := q.count j kp (by rw [← HN.out]; exact HJN.out) HJW.out HKP4.out
        rw [hz] at hcv
        dsimp only at hcv
        subst hcv
        have ha := add6 gS j
        rw [← HN.out] at hc13
        have hjNI : (j : Int) < N := by have := HJN.out; omega
        have hj0 : (0 : Int) ≤ (j : Int) := by omega
        obtain ⟨lc, hlc⟩ : ∃ lc, lc = (m.sp.getD j zeroS).counts.length := ⟨_, rfl⟩
        obtain ⟨vc, hvc⟩ : ∃ vc, vc = (m.sp.getD j zeroS).counts.getD kp 0 := ⟨_, rfl⟩
        obtain ⟨va, hva⟩ : ∃ va, va = (m.sp.getD j zeroS).att := ⟨_, rfl⟩
        rw [← hlc] at f5 hkl hcl4
        rw [← hvc] at hcnt
        rw [← hva] at f4
        obtain ⟨v0, hv0⟩ : ∃ v0, v0 = (m.sp.getD j zeroS).asked := ⟨_, rfl⟩
        obtain ⟨v1, hv1⟩ : ∃ v1, v1 = (m.sp.getD j zeroS).tr := ⟨_, rfl⟩
        obtain ⟨v2, hv2⟩ : ∃ v2, v2 = (m.sp.getD j zeroS).at_ := ⟨_, rfl⟩
        rw [← hv0] at f0
        rw [← hv1] at f1
        rw [← hv2] at f2
        rw [HJW.out] at f3
        clear hv0 hv1 hv2
        have HFZ : Aside0 (fz (tellL m frm x.p j) = fz ⟨frm, 7, j, va, kp, vc, 0⟩) := ⟨by unfold tellL; rw [hva, hvc, HKP.out]; rfl⟩
        have hkI : (kp : Int) < lc := by omega
        have hkp0 : (0 : Int) ≤ (kp : Int) := by omega
        have hus := Try.underlying106
        obtain ⟨gs, hgs⟩ : ∃ gs, gs = wr.heap.size := ⟨_, rfl⟩
        obtain ⟨w6, hw6⟩ : ∃ w6, w6 = wr.alloc (.cells #[.int .i64 v0, .int .i64 v1, .int .i64 v2, .bool true, .int .i64 va, .slice (some ad) lc nc] 106) := ⟨_, rfl⟩
        have hb6 : HeldN wr w6 := by rw [hw6]; exact (Below.refl _ _).alloc (Nat.le_refl _) _
        have hg6 : w6.heap[gs]? = some (.cells #[.int .i64 v0, .int .i64 v1, .int .i64 v2, .bool true, .int .i64 va, .slice (some ad) lc nc] 106 (0, 0)) := by rw [hw6, hgs]; exact alloc_at wr _
        have HK0 : Aside0 (∀ w', HeldN w6 w' → w'.cell? ⟨gs, 4, none⟩ = some (.int .i64 va) ∧ w'.cell? ⟨gs, 5, none⟩ = some (.slice (some ad) lc nc) ∧ w'.cell? ⟨g, 3, none⟩ = some (.int .i64 (kp : Int)) ∧ w'.cell? (ad.add kp) = some (.int .i64 vc)) := ⟨fun w' hw => by
          have h1 := (hw.block gs (blk_lt' hg6)).trans hg6
          have h2 : w'.heap[g]? = _ := (Below.block (HeldN.then_ hb6 hw) g (blk_lt' HGR.out)).trans HGR.out
          have h3 := hcnt
          refine ⟨cell_of_blk h1, cell_of_blk h1, ?_, ?_⟩
          · rw [← HKP.out]; exact cell_of_blk h2
          · exact (Ch.of_below (HeldN.then_ hb6 hw) (fun _ => False)).cell hcnt (fun h => h)⟩
        have HW6 := Aside0.mk hw6
        have HGS := Aside0.mk hgs
        have HB6 := Aside0.mk hb6
        have HG6 := Aside0.mk hg6
        have hh0 : HeldN w6 w6 := Below.refl _ _
        have hhd : ∀ w', HeldN w6 w' → HeldN w6 w'.drew := fun w' h => h.then_ (below_drew w')
        have HADF := Aside0.mk hadF
        have HADW := Aside0.mk hadw
        have HAPP : Aside0 (∀ w', HeldN w6 w' → ∀ ty, Runs Try.prog (Builtin.append_ #[39, 39] ty #[.slice A7 l7 n7, .slice (some ⟨w'.heap.size, 0, none⟩) 1 1]) (w'.alloc (.cells #[.int .i64 0, .int .i64 frm, .int .i64 7, .int .i64 j, .int .i64 va, .int .i64 kp, .int .i64 0, .int .i64 vc, .int .i64 0, .int .i64 0, .slice none 0 0, .slice none 0 0] 51)) fun v w9 => ∃ A8 n8, v = .slice A8 (l7 + 1) n8 ∧ (w9.cell? ⟨gs, 4, none⟩ = some (.int .i64 va) ∧ w9.cell? ⟨gs, 5, none⟩ = some (.slice (some ad) lc nc) ∧ w9.cell? ⟨g, 3, none⟩ = some (.int .i64 (kp : Int)) ∧ w9.cell? (ad.add kp) = some (.int .i64 vc)) ∧ Aside0 (LetsP w9 w3.heap.size (.slice A8 (l7 + 1) n8) ((lackF m x.set (k + 1)).map (tellL m frm x.p)) ∧ HeldN w3 w9)) := ⟨fun w' hw ty => by
          have hbR : HeldN wr w' := HeldN.then_ HB6.out hw
          have hlt : ((lackF m x.set k).map (tellL m frm x.p)).length = l7 := by rw [List.length_map]; exact HL7.out.1.symm
          refine (lets_app w' w3.heap.size (.slice A7 l7 n7) _ (tellL m frm x.p j) (HLE.out.below hbR) (Nat.le_trans HB.out.size hbR.size) (by rw [hlt]; have := HL7.out.2; omega) _ (by rw [HFZ.out]; rfl) ty).mono ?_
          rintro v w9 ⟨hO9, hc9⟩
          obtain ⟨A8, n8, rfl, _⟩ := hO9.reads
          rw [List.length_append, hlt, List.length_singleton] at hO9 ⊢
          have hown : ∀ i, (Value.slice A7 l7 n7).ownBlock = some i → w3.heap.size ≤ i ∧ i < wr.heap.size := fun i hi => ⟨Own.base_ HLE.out i hi, Own.lt HLE.out i hi⟩
          have hS := HK0.out w' hw
          have hg3 : g < w3.heap.size := blk_lt' HG3.out
          refine ⟨A8, n8, rfl, ⟨hc9.cell hS.1 (fun e => ?_), hc9.cell hS.2.1 (fun e => ?_), hc9.cell hS.2.2.1 (fun e => ?_), hc9.cell hS.2.2.2 (fun e => ?_)⟩, ⟨?_, ?_⟩⟩
          · have := hown gs e; have := HGS.out; omega
          · have := hown gs e; have := HGS.out; omega
          · have := hown g e; omega
          · have h1 := hown ad.block (by rw [← addBlk ad kp]; exact e); have := HP.out.flt _ HADF.out; have := HB3.out.size; have := HB.out.size; omega
          · rw [HUP.out, List.map_append]; exact hO9
          · exact Below.ch (HB.out.then_ hbR) hc9 (Nat.le_trans HB.out.size hbR.size) (fun i hi => (hown i hi).1)⟩
        clear q hz hlc hvc hva hcnt hadF hadw hcl4 hgs hw6 hb6 hg6 f8
        go_upto_region 8 with (fail)
        rw [show wr.alloc (.cells #[.int .i64 v0, .int .i64 v1, .int .i64 v2, .bool true, .int .i64 va, .slice (some ad) lc nc] 106) = w6 from HW6.out.symm, ← HGS.out]
        go_region_held_law (fun w' => w'.cell? ⟨gs, 4, none⟩ = some (.int .i64 va) ∧ w'.cell? ⟨gs, 5, none⟩ = some (.slice (some ad) lc nc) ∧ w'.cell? ⟨g, 3, none⟩ = some (.int .i64 (kp : Int)) ∧ w'.cell? (ad.add kp) = some (.int .i64 vc)) (first | assumption | exact HK0.out _ (by first | assumption | exact hhd _ hh0 | exact hhd _ (by assumption) | exact HeldN.then_ (hhd _ hh0) ((Below.refl _ _).alloc (Nat.le_refl _) _) | exact HeldN.then_ (by assumption) ((Below.refl _ _).alloc (Nat.le_refl _) _)))
          (first | (refine step_app_run rfl (.tmp 30) (.tmp 45) 39 rfl (.slice A7 l7 n7) (.slice (some ⟨w6.drew.heap.size, 0, none⟩) 1 1) (by simp [Act.eval, Act.put]) (by simp [Act.eval, Act.put]) (HAPP.out w6.drew (hhd _ hh0)) ?_; rintro _ w9 ⟨A8, n8, rfl, hS9, hALL⟩))
        all_goals
          have hLE9 := hALL.out.1
          have hHE9 := hALL.out.2
          have HLE9 := Aside0.mk hLE9
          have HHE9 := Aside0.mk hHE9
          have HSN : Aside0 (firstI (lackF m x.set (k + 1)) = if lackF m x.set k = [] then (j : Int) else firstI (lackF m x.set k)) := ⟨by rw [HUP.out, firstI_snoc]⟩
          have HL9 : Aside0 (l7 + 1 = (lackF m x.set (k + 1)).length ∧ l7 + 1 ≤ k + 1) := ⟨by rw [HUP.out, List.length_append, ← HL7.out.1]; rfl, by have := HL7.out.2; omega⟩
          clear hALL hLE9 hHE9 hS9 HAPP HK0 hh0 hhd hkI hkp0 hus hc13 f0 f1 f2 f3 f4 f5 ha hjNI
          cases hL : lackF m x.set k with
          | nil =>
            have HFK : Aside0 (firstI (lackF m x.set (k + 1)) = j) := ⟨by rw [HSN.out, if_pos hL]⟩
            rw [show firstI [] = -1 from rfl]
            clear hL
            go_wp2_with fail
            go_roundg (nw - (k + 1))
            case measure => omega
            case rel => exact ⟨k + 1, A8, n8, l7 + 1, by omega, by go_num, by rw [HFK.out], rfl, HL9, HLE9, HHE9⟩
          | cons a0 l0 =>
            obtain ⟨j0, rfl, _, _⟩ := lackF_mem m x.set k a0 (by rw [hL]; exact List.mem_cons_self ..)
            have HFK : Aside0 (firstI (lackF m x.set (k + 1)) = (j0 : Int)) := ⟨by rw [HSN.out, if_neg (by rw [hL]; simp), hL]; rfl⟩
            rw [show firstI ((j0 : Int) :: l0) = (j0 : Int) from rfl]
            have hj00 : ¬ ((j0 : Int) < 0) := by omega
            clear hL
            go_wp2_with fail
            go_roundg (nw - (k + 1))
            case measure => omega
            case rel => exact ⟨k + 1, A8, n8, l7 + 1, by omega, by go_num, by rw [HFK.out], rfl, HL9, HLE9, HHE9⟩
    · obtain rfl : k = nw := by omega
      have hkw : (winners m).length = k := by rw [← HWS.out]; exact HNW.out.symm
      have q := HQ3.out.below HB.out
      cases hL : lackF m x.set k with
      | nil =>
        have HRN : Aside0 (R = (m, [])) := ⟨by rw [HRR.out]; unfold helloF; rw [if_pos (by rw [hkw]; exact hL)]⟩
        have HF : Aside0 (MaPostL w gM F c R.1 (.slice A7 l7 n7) R.2 wr) := ⟨by
          rw [HRN.out]
          have h9 := HLE.out
          rw [hL] at h9
          exact ⟨⟨gS, gT, h, zs, C, ok, q⟩, Own.lower h9 HB3.out.size, (Ch.of_below HB3.out F).trans (Ch.of_below (HB.out) F) (fun _ _ h => h)⟩⟩
        rw [show firstI [] = -1 from rfl]
        clear hL q hkw
        go_wp2_with fail
        go_ret
        exact ⟨_, rfl, HF.out⟩
      | cons a0 l0 =>
        obtain ⟨j, rfl, hjN, hjw⟩ := lackF_mem m x.set k a0 (by rw [hL]; exact List.mem_cons_self ..)
        have hfi : firstI (lackF m x.set k) = (j : Int) := by rw [hL]; rfl
        have hne : ¬ lackF m x.set k = [] := by rw [hL]; simp
        rw [show firstI ((j : Int) :: l0) = (j : Int) from rfl]
        have hj0 : (0 : Int) ≤ (j : Int) := by omega
        obtain ⟨va, hva⟩ : ∃ va, va = (m.sp.getD j zeroS).att := ⟨_, rfl⟩
        have HRN : Aside0 (R = (nextRound m, (lackF m x.set k).map (tellL m frm x.p) ++ [runL c m.round j va])) := ⟨by rw [HRR.out]; unfold helloF; rw [hkw, if_neg hne, hfi, Int.toNat_natCast, hva]⟩
        have hjN' : j < N := by rw [← HNS.out]; exact hjN
        have hjNI : (j : Int) < N := by omega
        have hc13 := q.c_sp
        have hc20 := q.c_round
        obtain ⟨cv, hz, f0, f1, f2, f3, f4, f5⟩ := q.split j (by rw [← HN.out]; exact hjN')
        have ha := add6 gS j
        rw [← HN.out] at hc13
        rw [← hva] at f4
        have hh0 : HeldN wr wr := Below.refl _ _
        have hhd : ∀ w', HeldN wr w' → HeldN wr w'.drew := fun w' h => h.then_ (below_drew w')
        have HK0 : Aside0 (∀ w', HeldN wr w' → w'.cell? ⟨gM, 20, none⟩ = some (.int .i64 m.round) ∧ w'.cell? ⟨gM, 13, none⟩ = some (.slice (some ⟨gS, 0, none⟩) N N) ∧ w'.cell? ⟨gS, j * 6 + 4, none⟩ = some (.int .i64 va)) := ⟨fun w' hw => ⟨(Ch.of_below hw (fun _ => False)).cell hc20 (fun h => h), (Ch.of_below hw (fun _ => False)).cell hc13 (fun h => h), (Ch.of_below hw (fun _ => False)).cell f4 (fun h => h)⟩⟩
        have HQR := Aside0.mk q
        have HRUN : Aside0 (∀ w', HeldN wr w' → Calls Try.prog 51 #[.pointer (some ⟨gM, 0, none⟩), .int .i64 m.round, .int .i64 j, .int .i64 va] w' fun e w'' => e = .returned (.agg #[.int .i64 0, .int .i64 (turnN true c.workers m.round), .int .i64 1, .int .i64 j, .int .i64 va, .int .i64 0, .int .i64 0, .int .i64 0, .int .i64 0, .int .i64 0, .slice none 0 0, .slice none 0 0]) ∧ HeldN wr w'') := ⟨fun w' hw => (mRun (HQR.out.below hw) m.round j va).mono (fun e w'' hh => ⟨hh.1, hw.then_ hh.2⟩)⟩
        have HAPP : Aside0 (∀ w', HeldN wr w' → ∀ ty, Runs Try.prog (Builtin.append_ #[39, 39] ty #[.slice A7 l7 n7, .slice (some ⟨w'.heap.size, 0, none⟩) 1 1]) (w'.alloc (.cells #[.int .i64 0, .int .i64 (turnN true c.workers m.round), .int .i64 1, .int .i64 j, .int .i64 va, .int .i64 0, .int .i64 0, .int .i64 0, .int .i64 0, .int .i64 0, .slice none 0 0, .slice none 0 0] 51)) fun v w9 => ∃ A8 n8, v = .slice A8 (l7 + 1) n8 ∧ (w9.cell? ⟨gM, 20, none⟩ = some (.int .i64 m.round) ∧ w9.cell? ⟨gM, 13, none⟩ = some (.slice (some ⟨gS, 0, none⟩) N N) ∧ w9.cell? ⟨gS, j * 6 + 4, none⟩ = some (.int .i64 va)) ∧ Aside0 (LetsP w9 w3.heap.size (.slice A8 (l7 + 1) n8) R.2 ∧ HeldN w3 w9)) := ⟨fun w' hw ty => by
          have hlt : ((lackF m x.set k).map (tellL m frm x.p)).length = l7 := by rw [List.length_map]; exact HL7.out.1.symm
          refine (lets_app w' w3.heap.size (.slice A7 l7 n7) _ (runL c m.round j va) (HLE.out.below hw) (Nat.le_trans HB.out.size hw.size) (by rw [hlt]; have := HL7.out.2; omega) _ (by rfl) ty).mono ?_
          rintro v w9 ⟨hO9, hc9⟩
          obtain ⟨A8, n8, rfl, _⟩ := hO9.reads
          rw [List.length_append, hlt, List.length_singleton] at hO9 ⊢
          have hown : ∀ i, (Value.slice A7 l7 n7).ownBlock = some i → w3.heap.size ≤ i := fun i hi => Own.base_ HLE.out i hi
          have hS := HK0.out w' hw
          have hM := HP.out.flt _ HP.out.fM
          have hS' := HP.out.flt _ HP.out.fS
          have h3 := HB3.out.size
          refine ⟨A8, n8, rfl, ⟨hc9.cell hS.1 (fun e => ?_), hc9.cell hS.2.1 (fun e => ?_), hc9.cell hS.2.2 (fun e => ?_)⟩, ⟨?_, ?_⟩⟩
          · have := hown gM e; omega
          · have := hown gM e; omega
          · have := hown gS e; omega
          · rw [HRN.out]; exact hO9
          · exact Below.ch (HB.out.then_ hw) hc9 (Nat.le_trans HB.out.size hw.size) hown⟩
        clear q hz hL hkw hfi hne hva hjN hjN' f0 f1 f2 f3 f5 HQR
        go_upto_region 13 with (fail)
        go_region_held_law (fun w' => w'.cell? ⟨gM, 20, none⟩ = some (.int .i64 m.round) ∧ w'.cell? ⟨gM, 13, none⟩ = some (.slice (some ⟨gS, 0, none⟩) N N) ∧ w'.cell? ⟨gS, j * 6 + 4, none⟩ = some (.int .i64 va)) (first | assumption | exact HK0.out _ (by first | assumption | exact hhd _ hh0 | exact hhd _ (by assumption) | exact HeldN.then_ (hhd _ hh0) ((Below.refl _ _).alloc (Nat.le_refl _) _) | exact HeldN.then_ (by assumption) ((Below.refl _ _).alloc (Nat.le_refl _) _)))
          (first
            | (go_at_call 51; ((with_reducible refine (HRUN.out _ (by first | assumption | exact hhd _ hh0)).mono ?_); rintro e w5 ⟨rfl, hH5⟩))
            | (refine step_app_run rfl (.tmp 53) (.tmp 69) 39 rfl (.slice A7 l7 n7) (.slice (some ⟨w5.heap.size, 0, none⟩) 1 1) (by simp [Act.eval, Act.put]) (by simp [Act.eval, Act.put]) (HAPP.out w5 hH5) ?_; rintro _ w9 ⟨A8, n8, rfl, hS9, hALL⟩))
        all_goals
          have hHE9 := hALL.out.2
          have q := HQ3.out.below hHE9
          have d20 := hS9.1
          have z20 := q.frM 20
          have HFIN : Aside0 (MaPostL w gM F c R.1 (.slice A8 (l7 + 1) n8) R.2 (w9.setCell ⟨gM, 20, none⟩ (.int .i64 (m.round + 1)))) := ⟨by
            have q9 := q.putM 20 (.int .i64 (m.round + 1)) (nextRound m) rfl rfl q.rd
            have hc9 : Ch w9 (w9.setCell ⟨gM, 20, none⟩ (.int .i64 (m.round + 1))) F := q.chM 20 _
            have hL9 := hALL.out.1
            have hw3 : Below w.heap.size w w3 := HB3.out
            have hF : ∀ i, F i → i < w3.heap.size := fun i hi => Nat.lt_of_lt_of_le (HP.out.flt i hi) hw3.size
            have e1 : R.1 = nextRound m := by rw [HRN.out]
            rw [e1]
            refine ⟨⟨gS, gT, h, zs, C, ok, q9⟩, Own.lower (Own.ch flat_LR hL9 hc9 (fun i hi hFi => by have := Own.base_ hL9 i hi; have := hF i hFi; omega)) hw3.size, ?_⟩
            exact ((Ch.of_below hw3 F).trans (Ch.of_below (S := F) hHE9) (fun _ _ h => h)).trans hc9 (fun _ _ h => h)⟩
          clear hALL hHE9 q hS9 HAPP HK0 HRUN hh0 hhd hc13 hc20 f4
          go_wp2_with fail
          go_ret
          exact ⟨_, rfl, HFIN.out⟩
end
end Go.Proofs.Ytbnhhlahbhjogaa.K
