/- The statement LazyLate. -/
import Derived.Test.YtckjgfbfjjiikaaL3
set_option linter.unusedVariables false
set_option linter.unusedSimpArgs false
namespace Go.Proofs.Ytckjgfbfjjiikaa.K
open Go.RowKit Go.Proofs.YtckjgfbfjjiikaaW.PrintWords Go.Proofs.YtckjgfbfjjiikaaW.PrintLast Go.Proofs.YtckjgfbfjjiikaaW.PrintMore Go.Proofs.Ytckjgfbfjjiikaa.U Go.Proofs.Ytckjgfbfjjiikaa.T

theorem ent_of {f : FuncId} {fn : Func} {c : Code} (hf : Try.prog.funcs[f]? = some fn) (hname : (fn.name == "runtime.NumGoroutine") = false) (hb : fn.body = some c) (args : Array Value) (w : World) : (callFunc f args).run Try.prog w = .ok (.enter f args) w := by
  have h1 : fn.name ≠ "runtime.NumGoroutine" := by simpa using hname
  simp [callFunc, hf, h1, hb, mark]
theorem two_andl (w w1 w2 : World) (h : Below w.heap.size w w1) (k : Below w1.heap.size w1 w2) : Below w.heap.size w w2 := below_then h h.size k
theorem clo61 (w : World) : Calls Try.prog 61 #[] w fun e w' => e = .returned (.string ⟨#[97]⟩) ∧ w' = w := by
  go_enter Try.func61, Try.ntmps61
  go_wp2_with fail
  go_ret
  exact ⟨rfl, rfl⟩
set_option maxRecDepth 100000 in
set_option maxHeartbeats 1600000 in
theorem awake3 (w : World) : Calls Try.prog 42 #[] w fun e w' => e = .returned (.bool true) ∧ Below w.heap.size w w' := by
  go_enter Try.func42, Try.ntmps42
  go_wp2_with fail
  refine (lzNew (.func 61) #[] #[] w).mono ?_
  rintro e w1 ⟨rfl, h1, hb1⟩
  obtain ⟨g, hg⟩ : ∃ g, g = w.heap.size := ⟨_, rfl⟩
  rw [← hg] at h1
  rw [← hg]
  have HG : Aside0 (w.heap.size ≤ g) := ⟨by omega⟩
  have H1 := Aside0.mk h1
  have HB1 := Aside0.mk hb1
  clear hg h1 hb1
  go_wp2_with fail
  refine (lzMade g 0 0 0 _ _ w1 H1.out (.inl rfl)).mono ?_
  rintro e w1 ⟨rfl, rfl⟩
  go_wp2_with fail
  refine (lzGet_first g 0 61 #[] (fun w => ent_of Try.func61 (by kernel_rfl) rfl _ w) ⟨#[]⟩ ⟨#[97]⟩ w1 H1.out (fun _ => True) (fun _ => True) (fun _ => False) trivial (fun _ _ _ _ => trivial) (fun _ _ _ _ => trivial) id (fun _ h => h.elim) (fun w' _ => (clo61 w').mono (fun e w'' hh => ⟨hh.1, trivial, by rw [hh.2]; exact Ch.refl _ _⟩))).mono ?_
  rintro e w2 ⟨rfl, h2, _, hc2⟩
  have H2 := Aside0.mk h2
  have HB2 := Aside0.mk (Below.ch HB1.out hc2 HB1.out.size (fun k hk => by rcases hk with rfl | hk; exact HG.out; exact hk.elim))
  clear h2 hc2
  go_wp2_with fail
  refine (lzMade g 1 0 1 _ _ w2 H2.out (.inr rfl)).mono ?_
  rintro e w2 ⟨rfl, rfl⟩
  go_wp2_with fail
  go_ret
  exact ⟨rfl, HB2.out⟩
theorem clo48 (ps : Addr) (s : ByteArray) (w : World) (hc : w.cell? ps = some (.string s)) : Calls Try.prog 48 #[.pointer (some ps)] w fun e w' => e = .returned (.string s) ∧ w' = w := by
  go_enter Try.func48, Try.ntmps48
  go_wp2_with fail
  go_ret
  exact ⟨rfl, rfl⟩
set_option maxRecDepth 100000 in
set_option maxHeartbeats 3200000 in
theorem lazyLate_walk (W : World) (a : ByteArray) (wa : a.size ≤ 140737488351232) (b : ByteArray) (wb : b.size ≤ 140737488351232) (c : ByteArray) (wc : c.size ≤ 140737488351232) :
    Calls Try.prog 13 #[.string a, .string b, .string c] W fun e w' => e = .returned (.bool true) ∧ Below W.heap.size W w' := by
  have hmf : ∀ (fn : Fn) (first cap : Array Value) (w : World), (Instr.makeFunc fn first cap).run Try.prog w = .ok (.func fn first cap) w := fun _ _ _ _ => rfl
  by_cases h : (100 : Int) < a.size ∨ (100 : Int) < b.size ∨ (100 : Int) < c.size
  · have hgo : ∀ (e : Ending) (w' : World), (e = .returned (.bool true) ∧ Below W.heap.size W w') → (e = .returned (.bool true) ∧ Below W.heap.size W w') := fun _ _ h => h
    by_cases h1 : (100 : Int) < a.size
    · clear h
      go_enter Try.func13, Try.ntmps13
      go_wp2_with fail
      refine (awake3 _).mono ?_
      rintro e w6 ⟨rfl, hb6⟩
      go_wp2_with fail
      go_ret
      exact ⟨rfl, hb6⟩
    · by_cases h2 : (100 : Int) < b.size
      · clear h
        go_enter Try.func13, Try.ntmps13
        go_wp2_with fail
        refine (awake3 _).mono ?_
        rintro e w6 ⟨rfl, hb6⟩
        go_wp2_with fail
        go_ret
        exact ⟨rfl, hb6⟩
      · have h3 : (100 : Int) < c.size := by omega
        clear h
        go_enter Try.func13, Try.ntmps13
        go_wp2_with fail
        refine (awake3 _).mono ?_
        rintro e w6 ⟨rfl, hb6⟩
        go_wp2_with fail
        go_ret
        exact ⟨rfl, hb6⟩
  · have h1 : ¬ (100 : Int) < a.size := by omega
    have h2 : ¬ (100 : Int) < b.size := by omega
    have h3 : ¬ (100 : Int) < c.size := by omega
    clear h
    obtain ⟨ps, hps⟩ : ∃ ps, ps = W.heap.size := ⟨_, rfl⟩
    obtain ⟨w1, hw1⟩ : ∃ w1, w1 = W.alloc (.cells #[.string a] 9) := ⟨_, rfl⟩
    have hb1 := (Below.refl W.heap.size W).alloc (Nat.le_refl _) (.cells #[.string a] 9)
    rw [← hw1] at hb1
    have hs1 : w1.heap[ps]? = some (.cells ([.string a] : List Value).toArray 9 (0, 0)) := by rw [hw1, hps]; exact alloc_at W _
    have HP : Aside0 (W.heap.size ≤ ps) := ⟨by omega⟩
    have HB1 := Aside0.mk hb1
    have HS1 := Aside0.mk hs1
    have HPS := Aside0.mk hps
    have HW1 := Aside0.mk hw1
    clear hb1 hs1 hps hw1
    go_enter Try.func13, Try.ntmps13
    go_upto_region 4 with (fail)
    rw [← HPS.out, ← HW1.out]
    go_wp2_with fail
    refine (lzNew (.func 48) #[] #[.pointer (some ⟨ps, 0, none⟩)] w1).mono ?_
    rintro e w2 ⟨rfl, h2, hb2⟩
    obtain ⟨g, hg⟩ : ∃ g, g = w1.heap.size := ⟨_, rfl⟩
    rw [← hg] at h2
    rw [← hg]
    have HGP : Aside0 (ps < g) := ⟨by rw [hg]; exact blk_lt' HS1.out⟩
    have hs2 : w2.heap[ps]? = some (.cells ([.string a] : List Value).toArray 9 (0, 0)) := (hb2.block ps (blk_lt' HS1.out)).trans HS1.out
    have hcs : w2.cell? ⟨ps, 0, none⟩ = some (.string a) := cell_of_blk hs2
    have hfs : w2.frozen? ⟨ps, 0, none⟩ = false := frozen_of_blk hs2
    obtain ⟨w3, hw3⟩ : ∃ w3, w3 = w2.setCell ⟨ps, 0, none⟩ (.string b) := ⟨_, rfl⟩
    have hs3 : w3.heap[ps]? = some (.cells ([.string b] : List Value).toArray 9 (0, 0)) := by rw [hw3]; exact setCell_blk hs2 _
    have hc3 : Ch w2 w3 (fun k => k = ps) := by rw [hw3]; exact (Ch.refl _ _).setCell ⟨ps, 0, none⟩ _ rfl
    have HB3 := Aside0.mk (Below.ch (two_andl _ _ _ HB1.out hb2) hc3 (two_andl _ _ _ HB1.out hb2).size (fun k hk => by rw [hk]; exact HP.out))
    have H3 := Aside0.mk (CellR.ch h2 hc3 (by have := HGP.out; omega))
    have HS3 := Aside0.mk hs3
    have HW3 := Aside0.mk hw3
    clear h2 hb2 hg hs2 hw3 hs3 hc3
    go_upto_region 8 with (fail)
    rw [← HW3.out]
    clear hcs hfs
    go_wp2_with fail
    refine (lzGet_first g 0 48 #[.pointer (some ⟨ps, 0, none⟩)] (fun w => ent_of Try.func48 (by kernel_rfl) rfl _ w) ⟨#[]⟩ b w3 H3.out (fun w => w.heap[ps]? = some (.cells ([.string b] : List Value).toArray 9 (0, 0))) (fun w => w.heap[ps]? = some (.cells ([.string b] : List Value).toArray 9 (0, 0))) (fun _ => False) HS3.out
      (fun _ _ h hc => hc.blk h (by have := HGP.out; omega)) (fun _ _ h hc => hc.blk h (by have := HGP.out; omega)) id (fun _ h => h.elim) (fun w' hI => (clo48 ⟨ps, 0, none⟩ b w' (cell_of_blk hI)).mono (fun e w'' hh => ⟨hh.1, by rw [hh.2]; exact hI, by rw [hh.2]; exact Ch.refl _ _⟩))).mono ?_
    rintro e w4 ⟨rfl, h4, hs4, hc4⟩
    have hcs : w4.cell? ⟨ps, 0, none⟩ = some (.string b) := cell_of_blk hs4
    have hfs : w4.frozen? ⟨ps, 0, none⟩ = false := frozen_of_blk hs4
    have hB4 := Below.ch HB3.out hc4 HB3.out.size (fun k hk => by rcases hk with rfl | hk; (have := HP.out; have := HGP.out; omega); exact hk.elim)
    obtain ⟨w5, hw5⟩ : ∃ w5, w5 = w4.setCell ⟨ps, 0, none⟩ (.string c) := ⟨_, rfl⟩
    have hc5 : Ch w4 w5 (fun k => k = ps) := by rw [hw5]; exact (Ch.refl _ _).setCell ⟨ps, 0, none⟩ _ rfl
    have HB5 := Aside0.mk (Below.ch hB4 hc5 hB4.size (fun k hk => by rw [hk]; exact HP.out))
    have H5 := Aside0.mk (CellR.ch h4 hc5 (by have := HGP.out; omega))
    have HW5 := Aside0.mk hw5
    clear h4 hs4 hc4 hB4 hw5 hc5
    go_upto_region 10 with (fail)
    rw [← HW5.out]
    clear hcs hfs
    go_wp2_with fail
    refine (lzGet_again g 1 _ b w5 H5.out).mono ?_
    rintro e w6 ⟨rfl, h6, hc6⟩
    have HB6 := Aside0.mk (Below.ch HB5.out hc6 HB5.out.size (fun k hk => by have := HP.out; have := HGP.out; omega))
    clear h6 hc6
    go_wp2_with fail
    refine (awake3 _).mono ?_
    rintro e w7 ⟨rfl, hb7⟩
    have HB7 := Aside0.mk (two_andl _ _ _ HB6.out hb7)
    clear hb7
    go_wp2_with fail
    go_ret
    exact ⟨rfl, HB7.out⟩
end Go.Proofs.Ytckjgfbfjjiikaa.K
