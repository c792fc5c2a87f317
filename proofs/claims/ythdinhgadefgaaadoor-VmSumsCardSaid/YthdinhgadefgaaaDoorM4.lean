/- The machine: what an operation needs is taken. -/
import Derived.Test.YthdinhgadefgaaaDoorM3
set_option linter.unusedVariables false
set_option linter.unusedSimpArgs false
set_option maxRecDepth 100000
namespace Go.Proofs.YthdinhgadefgaaaDoor.K
open Go.RowKit Go.Proofs.YthdinhgadefgaaaDoorW.PrintWords Go.Proofs.YthdinhgadefgaaaDoorW.PrintLast Go.Proofs.YthdinhgadefgaaaDoorW.PrintMore Go.Proofs.YthdinhgadefgaaaDoor.U Go.Proofs.YthdinhgadefgaaaDoor.T Go.Proofs.YthdinhgadefgaaaDoor.V

/-- A value that is not what is asked. -/
def badK (c : UInt8) (v : ValD) : Bool := (c == 110 && v.text) || (c == 98 && !v.text)
def fitsK : List UInt8 → List ValD → Bool
  | c :: cs, v :: vs => !badK c v && fitsK cs vs
  | _, _ => true
theorem fitsK_iff (cs : List UInt8) (vs : List ValD) (h : cs.length = vs.length) : fitsK cs vs = true ↔ ∀ i (h1 : i < cs.length) (h2 : i < vs.length), badK cs[i] vs[i] = false := by
  induction cs generalizing vs with
  | nil => simp [fitsK]
  | cons c cs ih =>
    cases vs with
    | nil => cases h
    | cons v vs =>
      rw [fitsK, Bool.and_eq_true, Bool.not_eq_true', ih vs (by simpa using h)]
      constructor
      · rintro ⟨h1, h2⟩ i hi1 hi2
        cases i with
        | zero => exact h1
        | succ i => exact h2 i (by simpa using hi1) (by simpa using hi2)
      · intro h
        exact ⟨h 0 (by simp) (by simp), fun i h1 h2 => h (i + 1) (by simpa using h1) (by simpa using h2)⟩
def kindL (op : Int) : List UInt8 := (kindB op).data.toList
def topV (st : List ValD) (op : Int) : List ValD := st.drop (st.length - (kindL op).length)
theorem kindL_len (op : Int) : (kindL op).length = (kindB op).size := by simp [kindL]
theorem kind_small (op : Int) : (kindB op).size ≤ 3 := by
  unfold kindB
  repeat' split
  all_goals decide
/-- The stack's own place is written. -/
theorem VmW.setStack {W0 w : World} {R : Nat} {pV : Value} {key : ByteArray} {fuel : Int} {s : St} {sV tV vV v1 : Value} {m : Nat} {st : List ValD} (h : VmW W0 R pV key fuel s sV tV vV m w) (hv : Own kValM 23 w W0.heap.size v1 st) : VmW W0 R pV key fuel { s with stack := st } v1 tV vV m (w.setCell ⟨R, 7, none⟩ v1) :=
  h.upd ((Ch.refl _ _).setCell ⟨R, 7, none⟩ _ rfl) (setCell_blk h.blk v1) h.vals h.regs hv h.tld
set_option maxHeartbeats 1600000 in
theorem needs_short (W0 : World) (R : Nat) (pV : Value) (key : ByteArray) (fuel : Int) (s : St) (w : World) (h : VmR W0 R pV key fuel s w) (op : Int) (h0 : 0 ≤ op) (h1 : op ≤ 23) (hn : s.stack.length < (kindL op).length) :
    Calls Tryd.prog 57 #[.pointer (some ⟨R, 0, none⟩), .int .i64 op] w fun e w' => e = .returned (.tuple #[.slice none 0 0, .int .i64 1]) ∧ w' = w := by
  obtain ⟨sV, tV, vV, m, h⟩ := h
  obtain ⟨sA, sc, rfl, _, _⟩ := h.stk.reads
  have hc7 : w.cell? ⟨R, 7, none⟩ = some (.slice sA s.stack.length sc) := h.cell 7
  rw [kindL_len] at hn
  have hlt : (s.stack.length : Int) < (kindB op).size := by omega
  have HK := Aside0.mk (kinds op h0 h1 w)
  obtain ⟨kb, hkb⟩ : ∃ kb, kb = kindB op := ⟨_, rfl⟩
  rw [← hkb] at HK hlt
  clear h0 h1 hn hkb h
  go_enter Tryd.func57, Tryd.ntmps57
  go_wp2_with fail
  refine HK.out.mono ?_
  rintro e w1 ⟨rfl, rfl⟩
  go_wp2_with fail
  go_ret2
  exact ⟨rfl, rfl⟩
theorem sliceB_run (P : Program) (w : World) (n y : Nat) (h : n ≤ y) (code : BoundsCode) : (Instr.sliceBound (.int .i64 (n : Int)) y code).run P w = .ok n w := by
  unfold Instr.sliceBound
  have e : (asIntOf (.int .i64 (n : Int))).run P w = .ok (.i64, (n : Int)) w := rfl
  simp only [Sem.run_bind, e, Result.andThen_ok]
  rw [if_pos ⟨by omega, by omega⟩, Int.toNat_natCast]
  rfl
theorem sz_val (w : World) : (sizeOf 23).run Tryd.prog w = .ok 3 w := by rfl
theorem map_add0 (A : Option Addr) : A.map (fun x => x.add (0 * 3)) = A := by
  cases A with
  | none => rfl
  | some a => cases a; rfl
theorem slice_front (w : World) (A : Option Addr) (n c d : Nat) (h1 : d ≤ n) (h2 : n ≤ c) : (Instr.slice 72 (.slice A n c) none (some (.int .i64 (d : Int))) none).run Tryd.prog w = .ok (.slice A d c) w := by
  unfold Instr.slice Instr.sliceBounds
  simp only [Sem.run_bind, run_underlying Tryd.underlying72, Result.andThen_ok, Sem.run_pure, if_true, sliceB_run Tryd.prog w d c (by omega), sz_val, Nat.sub_zero]
  rw [map_add0]
  split <;> rfl
theorem slice_back (w : World) (A : Option Addr) (n c d : Nat) (h1 : d ≤ n) (h2 : n ≤ c) : (Instr.slice 72 (.slice A n c) (some (.int .i64 (d : Int))) none none).run Tryd.prog w = .ok (.slice (if c = d then A else A.map (fun x => x.add (d * 3))) (n - d) (c - d)) w := by
  unfold Instr.slice Instr.sliceBounds
  simp only [Sem.run_bind, run_underlying Tryd.underlying72, Result.andThen_ok, Sem.run_pure, Option.isSome_none, Bool.false_eq_true, if_false, sliceB_run Tryd.prog w d n (by omega), sz_val]
set_option maxHeartbeats 3200000 in
theorem needs (W0 : World) (R : Nat) (pV : Value) (key : ByteArray) (fuel : Int) (s : St) (w : World) (h : VmR W0 R pV key fuel s w) (op : Int) (h0 : 0 ≤ op) (h1 : op ≤ 23) (hn : (kindL op).length ≤ s.stack.length) (hl : s.stack.length ≤ 1000) :
    Calls Tryd.prog 57 #[.pointer (some ⟨R, 0, none⟩), .int .i64 op] w fun e w' =>
      (fitsK (kindL op) (topV s.stack op) = false ∧ e = .returned (.tuple #[.slice none 0 0, .int .i64 2]) ∧ VmR W0 R pV key fuel s w') ∨
      (fitsK (kindL op) (topV s.stack op) = true ∧ ∃ A c, e = .returned (.tuple #[.slice A (kindL op).length c, .int .i64 0]) ∧ Kd.C kValM w' A (kindL op).length (topV s.stack op) ∧ VmR W0 R pV key fuel { s with stack := s.stack.take (s.stack.length - (kindL op).length) } w' ∧ Ch w w' (fun k => k = R) ∧ (0 < (kindL op).length → ∃ g arr, A = some ⟨g, 0, none⟩ ∧ w'.heap[g]? = some (.cells arr 23 (0, 0)) ∧ Free w' R g)) := by
  obtain ⟨sV, tV, vV, m, h⟩ := h
  obtain ⟨sA, sc, rfl, hsc, hCs⟩ := h.stk.reads
  have hc7 : w.cell? ⟨R, 7, none⟩ = some (.slice sA s.stack.length sc) := h.cell 7
  have hks := kind_small op
  rw [← kindL_len] at hks
  have HK := Aside0.mk (kinds op h0 h1 w)
  have hkl := kindL_len op
  have hkg : ∀ i (h2 : i < (kindB op).size), (kindL op)[i]? = some ((kindB op)[i]'h2) := fun i h2 => by
    unfold kindL
    rw [Array.getElem?_toList]
    exact Array.getElem?_eq_getElem h2
  obtain ⟨kb, hkb⟩ : ∃ kb, kb = kindB op := ⟨_, rfl⟩
  obtain ⟨tp, htp⟩ : ∃ tp, tp = topV s.stack op := ⟨_, rfl⟩
  obtain ⟨kl, hkl2⟩ : ∃ kl, kl = kindL op := ⟨_, rfl⟩
  obtain ⟨d, hd⟩ : ∃ d, d = s.stack.length - (kindL op).length := ⟨_, rfl⟩
  have htpl : tp.length = kl.length := by rw [htp, hkl2]; unfold topV; rw [List.length_drop]; omega
  have htd : tp = s.stack.drop d := by rw [htp, hd]; rfl
  rw [← hkl2] at hd hn hks hkl hkg
  rw [← hkb] at HK hkl hkg
  rw [← htp, ← hkl2, ← hd]
  have hdk : d + kb.size = s.stack.length := by omega
  obtain ⟨T, hT⟩ : ∃ T, T = (if sc = d then sA else sA.map (fun x => x.add (d * 3))) := ⟨_, rfl⟩
  have hCT : Kd.C kValM w T kb.size tp := by
    by_cases hk0 : kb.size = 0
    · have ht0 : tp = [] := List.eq_nil_of_length_eq_zero (by omega)
      subst ht0
      exact ⟨by rw [hk0]; rfl, by omega, fun h => by omega⟩
    · rw [hT, if_neg (by omega)]
      obtain ⟨ad, rfl⟩ : ∃ ad, sA = some ad := by
        obtain ⟨ad, e, _⟩ := hCs.2.2 (by omega)
        exact ⟨ad, e⟩
      have := C_cut hCs d kb.size (by omega)
      rw [htd]
      rw [List.take_of_length_le (by rw [List.length_drop]; omega)] at this
      exact this
  have H := Aside0.mk h
  have HOD := Aside0.mk (own_take h.stk d (by omega))
  have HCT := Aside0.mk hCT
  have HKL := Aside0.mk (And.intro hkl.symm (And.intro htpl hkg))
  have hwd : IntKind.i64.wrap ((s.stack.length : Int) - (kb.size : Int)) = (d : Int) := by rw [show (s.stack.length : Int) - (kb.size : Int) = d from by omega]; exact IntWalk.i64_in _ (by omega)
  have hs1 : ∀ w, (Instr.slice 72 (.slice sA s.stack.length sc) none (some (.int .i64 (d : Int))) none).run Tryd.prog w = .ok (.slice sA d sc) w := fun w => slice_front w sA s.stack.length sc d (by omega) hsc
  have hs2 : ∀ w, (Instr.slice 72 (.slice sA s.stack.length sc) (some (.int .i64 (d : Int))) none none).run Tryd.prog w = .ok (.slice T kb.size (sc - d)) w := fun w => by
    rw [slice_back w sA s.stack.length sc d (by omega) hsc, hT, show s.stack.length - d = kb.size from by omega]
  have hlt : ¬ (s.stack.length : Int) < kb.size := by omega
  have hltN : ¬ s.stack.length < kb.size := by omega
  have HSC := Aside0.mk hsc
  have HS3 := Aside0.mk hks
  have HDK := Aside0.mk hdk
  clear hCT hT htd htp hkb hkl2 hkl hkg htpl hd hn hks h0 h1 h hsc hCs hdk
  go_enter Tryd.func57, Tryd.ntmps57
  go_wp2_with fail
  refine HK.out.mono ?_
  rintro e w1 ⟨rfl, rfl⟩
  go_upto_region 4 with (fail)
  go_region_held3 (fun w' => w'.cell? ⟨R, 7, none⟩ = some (.slice sA s.stack.length sc)) (assumption) (fail)
  go_wp2_with fail
  go_loopg [50] kb.size (fun kq v50 w' => ∃ k : Nat, k + kq = kb.size ∧ v50 = .int .i64 k ∧ Aside0 (∀ j (h1 : j < kl.length) (h2 : j < tp.length), j < k → badK kl[j] tp[j] = false) ∧ Aside0 (HeldM w1 w'))
  case atStart => exact ⟨0, by omega, rfl, ⟨fun j _ hj h => by omega⟩, ⟨HeldM.drew _⟩⟩
  case round =>
    obtain ⟨k, hk, rfl, HA, HB⟩ := hrel
    by_cases hlt : k < kb.size
    · have hkt : k < tp.length := by have := HKL.out; omega
      have hkk : k < kl.length := by have := HKL.out; omega
      obtain ⟨ad, rfl, hx0, hx1, hx2⟩ := at_val (Kd.C_below HCT.out HB.out) k hkt
      obtain ⟨x, hx⟩ : ∃ x, x = tp[k] := ⟨_, rfl⟩
      rw [← hx] at hx0 hx1 hx2
      have HX := Aside0.mk hx
      obtain ⟨t, i, b⟩ := x
      have hkl : (k : Int) < kb.size := by omega
      have hkc : kl[k] = kb[k]'hlt := by
        have := HKL.out.2.2 k hlt
        rw [List.getElem?_eq_getElem hkk] at this
        injection this
      have HKC := Aside0.mk hkc
      have HBA := Aside0.mk (HB.out.below ((Below.refl wr.heap.size wr).alloc (Nat.le_refl _) (.cells #[.bool t, .int .i64 i, .string b] 23)))
      have hcu : ((kb[k]'hlt) = 110 ↔ ((kb[k]'hlt).toNat : Int) = 110) ∧ ((kb[k]'hlt) = 98 ↔ ((kb[k]'hlt).toNat : Int) = 98) := by
        constructor
        · constructor
          · intro h; rw [h]; rfl
          · intro h; exact UInt8.toNat_inj.1 (by show _ = 110; omega)
        · constructor
          · intro h; rw [h]; rfl
          · intro h; exact UInt8.toNat_inj.1 (by show _ = 98; omega)
      have HCU := Aside0.mk hcu
      clear hx hkc hcu
      have hbd : badK (kb[k]'hlt) ⟨t, i, b⟩ = ((((kb[k]'hlt).toNat : Int) == 110 && t) || (((kb[k]'hlt).toNat : Int) == 98 && !t)) := by
        unfold badK
        have e1 : ((kb[k]'hlt) == 110) = (((kb[k]'hlt).toNat : Int) == 110) := by rw [Bool.eq_iff_iff, beq_iff_eq, beq_iff_eq]; exact HCU.out.1
        have e2 : ((kb[k]'hlt) == 98) = (((kb[k]'hlt).toNat : Int) == 98) := by rw [Bool.eq_iff_iff, beq_iff_eq, beq_iff_eq]; exact HCU.out.2
        rw [e1, e2]
      have HBD := Aside0.mk hbd
      clear hbd
      have hor : (((kb[k]'hlt).toNat : Int) = 110 ∧ t = true ∧ badK (kb[k]'hlt) ⟨t, i, b⟩ = true) ∨ (((kb[k]'hlt).toNat : Int) = 98 ∧ t = false ∧ badK (kb[k]'hlt) ⟨t, i, b⟩ = true)
          ∨ (((kb[k]'hlt).toNat : Int) = 110 ∧ t = false ∧ badK (kb[k]'hlt) ⟨t, i, b⟩ = false) ∨ (((kb[k]'hlt).toNat : Int) = 98 ∧ t = true ∧ badK (kb[k]'hlt) ⟨t, i, b⟩ = false)
          ∨ (((((kb[k]'hlt).toNat : Int) == 110) = false ∧ (((kb[k]'hlt).toNat : Int) == 98) = false) ∧ badK (kb[k]'hlt) ⟨t, i, b⟩ = false) := by
        rw [HBD.out]
        by_cases e1 : ((kb[k]'hlt).toNat : Int) = 110
        · rw [e1]; cases t <;> simp
        · by_cases e2 : ((kb[k]'hlt).toNat : Int) = 98
          · rw [e2]; cases t <;> simp
          · right; right; right; right
            have e3 : (((kb[k]'hlt).toNat : Int) == 110) = false := by simpa using e1
            have e4 : (((kb[k]'hlt).toNat : Int) == 98) = false := by simpa using e2
            exact ⟨⟨e3, e4⟩, by rw [e3, e4]; simp⟩
      clear HBD HCU
      have HFT : Aside0 (badK (kb[k]'hlt) ⟨t, i, b⟩ = true → fitsK kl tp = false) := ⟨fun hb => by
        cases hf : fitsK kl tp with
        | false => rfl
        | true =>
          have := (fitsK_iff kl tp HKL.out.2.1.symm).1 hf k (by have := HKL.out; omega) (by have := HKL.out; omega)
          rw [HKC.out, ← HX.out, hb] at this
          cases this⟩
      rcases hor with ⟨e1, rfl, e2⟩ | ⟨e1, rfl, e2⟩ | ⟨e1, rfl, e2⟩ | ⟨e1, rfl, e2⟩ | ⟨⟨e1, e1'⟩, e2⟩
      · have HF := Aside0.mk (HFT.out e2)
        clear e2 HFT
        go_wp2_with fail
        go_ret2
        exact .inl ⟨HF.out, rfl, _, _, _, _, H.out.below HBA.out⟩
      · have HF := Aside0.mk (HFT.out e2)
        clear e2 HFT
        go_wp2_with fail
        go_ret2
        exact .inl ⟨HF.out, rfl, _, _, _, _, H.out.below HBA.out⟩
      · have HF := Aside0.mk e2
        clear e2 HFT
        go_wp2_with fail
        go_roundg (kb.size - (k + 1))
        case measure => omega
        case rel => exact ⟨k + 1, by omega, by go_num, ⟨fun j h1 h2 h => by
            rcases Nat.lt_or_ge j k with h3 | h3
            · exact HA.out j h1 h2 h3
            · obtain rfl : j = k := by omega
              rw [HKC.out, ← HX.out]
              exact HF.out⟩, HBA⟩
      · have HF := Aside0.mk e2
        clear e2 HFT
        go_wp2_with fail
        go_roundg (kb.size - (k + 1))
        case measure => omega
        case rel => exact ⟨k + 1, by omega, by go_num, ⟨fun j h1 h2 h => by
            rcases Nat.lt_or_ge j k with h3 | h3
            · exact HA.out j h1 h2 h3
            · obtain rfl : j = k := by omega
              rw [HKC.out, ← HX.out]
              exact HF.out⟩, HBA⟩
      · have HF := Aside0.mk e2
        clear e2 HFT
        go_wp2_with fail
        go_roundg (kb.size - (k + 1))
        case measure => omega
        case rel => exact ⟨k + 1, by omega, by go_num, ⟨fun j h1 h2 h => by
            rcases Nat.lt_or_ge j k with h3 | h3
            · exact HA.out j h1 h2 h3
            · obtain rfl : j = k := by omega
              rw [HKC.out, ← HX.out]
              exact HF.out⟩, HBA⟩
    · obtain rfl : k = kb.size := by omega
      have HF : Aside0 (fitsK kl tp = true) := ⟨(fitsK_iff kl tp HKL.out.2.1.symm).2 (fun i h1 h2 => HA.out i h1 h2 (by have := HKL.out.1; omega))⟩
      have H2 := Aside0.mk (H.out.below HB.out)
      have HOD2 := Aside0.mk (HOD.out.below HB.out)
      have HCT2 := Aside0.mk (Kd.C_below HCT.out HB.out)
      have HEL : Aside0 (kb.size = tp.length) := ⟨by have := HKL.out; omega⟩
      clear HA
      go_wp2_with (at_builtin; refine wpList_app_own flat_valM wr.heap.size rfl _ _ 72 23 _ 32 rfl Tryd.underlying72 info_val rfl (by decide) (by decide) (.slice none 0 0) [] tp T _ _ rfl rfl (Own.nil _ _ _ _) HEL.out (by rw [← HEL.out]; exact HCT2.out) (Nat.le_refl _) (by have := HKL.out; have := HS3.out; simp; omega) ?_; intro v4 w4 hv4 hg4 hat4; rw [List.nil_append] at hv4; obtain ⟨A4, c4, rfl, _, hC4⟩ := hv4.reads; have HV4 := Aside0.mk hv4; have HB4 := Aside0.mk (show Below wr.heap.size wr w4 from (Ch.of_grown (S := fun _ => False) hg4 (fun k hk => by cases hk)).below (Nat.le_refl _) (fun _ h => h.elim)); have HC4 := Aside0.mk hC4; have H4 := Aside0.mk (H2.out.below HB4.out); have hc4 : w4.cell? ⟨R, 7, none⟩ = some (.slice sA s.stack.length sc) := H4.out.cell 7; have hz4 : w4.frozen? ⟨R, 7, none⟩ = false := H4.out.frozen 7; clear hv4 hg4 hat4 hC4)
      go_ret2
      have hc7R : Ch w4 (w4.setCell ⟨R, 7, none⟩ (.slice sA d sc)) (fun k => k = R) := (Ch.refl _ _).setCell ⟨R, 7, none⟩ _ rfl
      have hV5 := HV4.out.ch flat_valM hc7R (fun k hk e => by
        obtain ⟨cs, h2⟩ := own_blkM HV4.out hk
        exact blk_neM h2 H4.out.blk (by decide) e)
      exact .inr ⟨HF.out, A4, c4, by rw [← HKL.out.2.1]; rfl, by rw [← HKL.out.2.1]; exact hV5.is.2.2, ⟨_, _, _, _, H4.out.setStack (HOD2.out.below HB4.out)⟩, ((Ch.of_below (two_belowM HB.out HB4.out) _).trans hc7R (fun _ _ h => h)), fun hk0 => by
        obtain ⟨g, e1, e2, arr, e3⟩ := own_addr hV5 (by rw [HKL.out.2.1]; exact hk0)
        refine ⟨g, arr, e1, e3, fun e => ?_, fun v hv e => ?_⟩
        · have := H2.out.blk
          have := blk_lt' this
          omega
        · rw [World.cell?_setCell_same _ _ _ hc4] at hv
          injection hv with hv
          subst hv
          have := HOD2.out.lt g e
          omega⟩
end Go.Proofs.YthdinhgadefgaaaDoor.K
