/- Part 7 of the proof: Gu, Gv, Gw, Gx, Gz, Ja, Srt, Jb. -/
import Derived.Test.YtdecgkhdbfgldaaG6
import Derived.Laws.StructEq
import Derived.Shelf.SlSortCmp.NoneTotal
import Derived.Shelf.SlGeneric
import Derived.Ground.SlsfProg
import Derived.Test.YtdecgkhdbfgldaaProg
set_option linter.unusedVariables false
set_option linter.unusedSimpArgs false
set_option maxRecDepth 8000
namespace Go.Proofs.Ytdecgkhdbfgldaa
open Go
theorem atN_cases (f : Ft) : ∀ l : List Kp, atN f l = -1 ∨ ∃ (i : Nat) (x : Kp), atN f l = i ∧ l[i]? = some x ∧ cmpF x.f f = 0
  | [] => .inl rfl
  | k :: l => by
    rw [atN]
    split
    · rename_i h; exact .inr ⟨0, k, rfl, rfl, h⟩
    · rcases atN_cases f l with h | ⟨i, x, h1, h2, h3⟩
      · rw [h]; exact .inl rfl
      · rw [h1, if_neg (by omega)]
        exact .inr ⟨i + 1, x, by omega, by simpa using h2, h3⟩
theorem listB_may {l : List Kp} (h : listB l = true) : l.length ≤ 300 ∧ ∀ k ∈ l, factB k.f = true := by
  simp only [listB, Bool.and_eq_true, decide_eq_true_eq, List.all_eq_true, List.mem_range] at h
  refine ⟨h.1, fun k hk => ?_⟩
  obtain ⟨j, hj⟩ := List.getElem?_of_mem hk
  have := h.2 j (List.getElem?_eq_some_iff.1 hj).1
  rw [stepL_get hj] at this
  simp only [Bool.and_eq_true] at this
  exact this.1.1.1
def findE (l : List Kp) (f : Ft) : Int := if listB l = true ∧ factB f = true then (if atN f l < 0 then 3 else 0) else 1
def findN (l : List Kp) (f : Ft) : Int := if listB l = true ∧ factB f = true then (if atN f l < 0 then 0 else match l[(atN f l).toNat]? with | some x => x.seq | none => 0) else 0
theorem Find_ok (l : List Kp) (hw : ∀ k ∈ l, k.wf) (f : Ft) (hf : f.wf) : PF 43 [.dat false 7 (kpDs l), ftA f] (.tup [iv (findN l f), iv (findE l f)]) := by
  refine AC_intro Try.func43 rfl Try.ntmps43 (Nat.le_of_ble_eq_true rfl) fun c hL hQ hDD => ?_; refine awp_seq ?_; refine awp_region ?_; refine awps_stp1 rfl rfl (by decide) (stp_box 3 rfl rfl rfl) rfl ?_; refine awps_stp0 rfl rfl (by decide) (stp_move (.inr rfl) rfl) ?_; refine awps_stp0 rfl rfl (by decide) (stp_move (.inr rfl) rfl) ?_; refine awps_nil ?_; refine thenQ_nil ?_; refine awp_seq ?_
  refine awp_seq ?_; refine awp_region ?_; refine awps_stp0 rfl rfl (by decide) (stp_move (.inl rfl) rfl) ?_; refine awps_call (avs := [_]) true rfl rfl rfl (by decide) en_facts_List rfl rfl (List_ok l hw) rfl rfl ?_; refine awps_stp0 rfl rfl (by decide) (stp_not rfl rfl) ?_; refine awps_stp0 rfl rfl (by decide) (stp_move (.inl rfl) rfl) ?_; refine awps_split 10 rfl (fun g10 => ?_) (fun g10 => ?_)
  · try simp only [↓cqA, cqB] at g10
    refine awps_gs rfl rfl rfl rfl (by decide) rfl (by decide) ?_; refine awps_gs rfl rfl rfl rfl (by decide) rfl (by decide) ?_; refine awps_gs rfl rfl rfl rfl (by decide) rfl (by decide) ?_; refine awps_stp0 rfl rfl (by decide) (stp_pick rfl rfl rfl) ?_; refine awps_nil ?_; refine thenQ_nil ?_; refine awp_condT rfl ?_; refine awp_seq ?_; refine awp_region ?_; refine awps_stp0 rfl rfl (by decide) (stp_move (.inr rfl) rfl) ?_; refine awps_stp0 rfl rfl (by decide) (stp_move (.inr rfl) rfl) ?_; refine awps_nil ?_; refine thenQ_nil ?_; refine awp_ret ?_; refine thenQ_ret (?_)
    -- leaf g10T
    refine ret0 (noL hL) (.inl rfl) (resAs_tmp rfl (resAs_tmp rfl (resAs_nil))) ?_ ?_
    · rfl
    refine ⟨?_, rfl⟩
    rw [findN, findE, if_neg (by simp_all), if_neg (by simp_all)]; rfl
  try simp only [↓cqA, cqB] at g10
  refine awps_g0 rfl rfl rfl (by decide) rfl (by decide) (stp_load_all rfl tf_api_Fact rfl rfl rfl rfl) ?_; refine awps_g0 rfl rfl rfl (by decide) rfl (by decide) (stp_call (avs := [_]) true rfl en_facts_Is rfl rfl (factsIs_ok f hf) (fun _ => rfl) rfl) ?_; refine awps_g0 rfl rfl rfl (by decide) rfl (by decide) (stp_not rfl rfl) ?_; refine awps_stp0 rfl rfl (by decide) (stp_pick rfl rfl rfl) ?_; refine awps_nil ?_; refine thenQ_nil ?_; refine awp_cond rfl (fun c0 => ?_) (fun c0 => ?_)
  · try simp only [↓cqA, cqB] at c0
    refine awp_seq ?_; refine awp_region ?_; refine awps_stp0 rfl rfl (by decide) (stp_move (.inr rfl) rfl) ?_; refine awps_stp0 rfl rfl (by decide) (stp_move (.inr rfl) rfl) ?_; refine awps_nil ?_; refine thenQ_nil ?_; refine awp_ret ?_; refine thenQ_ret (?_)
    -- leaf g10F0T
    refine ret0 (noL hL) (.inl rfl) (resAs_tmp rfl (resAs_tmp rfl (resAs_nil))) ?_ ?_
    · rfl
    refine ⟨?_, rfl⟩
    rw [findN, findE, if_neg (by simp_all), if_neg (by simp_all)]; rfl
  try simp only [↓cqA, cqB] at c0
  have hlb : listB l = true := by simp_all
  have hfb : factB f = true := by simp_all
  have hcc : listB l = true ∧ factB f = true := ⟨hlb, hfb⟩
  obtain ⟨hl3, hlm⟩ := listB_may hlb
  refine awp_skip ?_; refine thenQ_nil ?_; refine awp_seq ?_; refine awp_region ?_; refine awps_stp0 rfl rfl (by decide) (stp_move (.inl rfl) rfl) ?_; refine awps_stp0 rfl rfl (by decide) (stp_load_all rfl tf_api_Fact rfl rfl rfl rfl) ?_
  refine awps_call (avs := [_, _]) true rfl rfl rfl (by decide) en_facts_At rfl rfl (At_ok l f hl3 hw (fun k hk => factB_may (hlm k hk)) hf) rfl rfl ?_; refine awps_stp0 rfl rfl (by decide) (stp_move (.inr rfl) rfl) ?_; refine awps_nil ?_; refine thenQ_nil ?_; refine awp_seq ?_; refine awp_seq ?_; refine awp_region ?_; refine awps_stp0 rfl rfl (by decide) (stp_move (.inl rfl) rfl) ?_; refine awps_stp0 rfl rfl (by decide) (stp_binI rfl rfl rfl rfl) ?_; refine awps_nil ?_; refine thenQ_nil ?_; refine awp_cond rfl (fun c1 => ?_) (fun c1 => ?_)
  · try simp only [↓cqA, cqB] at c1
    refine awp_seq ?_; refine awp_region ?_; refine awps_stp0 rfl rfl (by decide) (stp_move (.inr rfl) rfl) ?_; refine awps_stp0 rfl rfl (by decide) (stp_move (.inr rfl) rfl) ?_; refine awps_nil ?_; refine thenQ_nil ?_; refine awp_ret ?_; refine thenQ_ret (?_)
    -- leaf g10F0F1T
    refine ret0 (noL hL) (.inl rfl) (resAs_tmp rfl (resAs_tmp rfl (resAs_nil))) ?_ ?_
    · rfl
    refine ⟨?_, rfl⟩
    rw [findN, findE, if_pos hcc, if_pos hcc, if_pos c1, if_pos c1]; rfl
  try simp only [↓cqA, cqB] at c1
  obtain ⟨i, x, ha, hx, _⟩ : ∃ (i : Nat) (x : Kp), atN f l = i ∧ l[i]? = some x ∧ cmpF x.f f = 0 := by
    rcases atN_cases f l with h | h
    · omega
    · exact h
  have hx2 : l[(atN f l).toNat]? = some x := by rw [ha]; exact hx
  refine awp_skip ?_; refine thenQ_nil ?_; refine awp_seq ?_; refine awp_region ?_; refine awps_stp0 rfl rfl (by decide) (stp_move (.inl rfl) rfl) ?_; refine awps_stp0 rfl rfl (by decide) (stp_move (.inl rfl) rfl) ?_; refine awps_stp0 rfl rfl (by decide) (stp_indexAddr rfl sl_S_api_Kept rfl rfl (by omega) (kpDs_get hx2)) ?_; refine awps_stp0 rfl rfl (by decide) (stp_fieldAddr_elp rfl fo_api_Kept_0 rfl) ?_; refine awps_stp0 rfl rfl (by decide) (stp_load_elp1 rfl tf_int rfl) ?_
  refine awps_stp0 rfl rfl (by decide) (stp_move (.inr rfl) rfl) ?_; refine awps_stp0 rfl rfl (by decide) (stp_move (.inr rfl) rfl) ?_; refine awps_nil ?_; refine thenQ_nil ?_; refine awp_ret ?_
  -- leaf g10F0F1F
  refine ret0 (noL hL) (.inl rfl) (resAs_tmp rfl (resAs_tmp rfl (resAs_nil))) ?_ ?_
  · rfl
  refine ⟨?_, rfl⟩
  rw [findN, findE, if_pos hcc, if_pos hcc, if_neg (show ¬ atN f l < 0 by omega), if_neg (show ¬ atN f l < 0 by omega), hx2]; rfl
def lastS (l : List Kp) : Int := match l[l.length - 1]? with | some x => x.seq | none => -1
def addC (l : List Kp) (n : Int) (f : Ft) : Bool := listB l && factB f && decide (0 ≤ n) && decide (n ≤ 1073741824) && (decide (l.length = 0) || decide (lastS l < n))
def addE (l : List Kp) (n : Int) (f : Ft) : Int := if addC l n f = false then 1 else if 0 ≤ atN f l then 4 else if 300 ≤ l.length then 2 else 0
def addL (l : List Kp) (n : Int) (f : Ft) : List Kp := if addE l n f = 0 then l ++ [⟨n, f⟩] else []
theorem addC_of {l : List Kp} {n : Int} {f : Ft} (hl : listB l = true) (hf : factB f = true) (h0 : 0 ≤ n) (h1 : n ≤ 1073741824) : addC l n f = (decide (l.length = 0) || decide (lastS l < n)) := by
  rw [addC, hl, hf, decide_eq_true h0, decide_eq_true h1]; rfl
theorem Add_ok (l : List Kp) (hw : ∀ k ∈ l, k.wf) (n : Int) (hn : i64 n) (f : Ft) (hf : f.wf) : PF 42 [.dat false 7 (kpDs l), iv n, ftA f] (.tup [.dat true 7 (kpDs (addL l n f)), iv (addE l n f)]) := by
  have hlen := kpDs_length l
  refine AC_leP (Post := fun r O => ((addE l n f ≠ 0 ∧ r = .tup [.imm (.slice none 0 0), iv (addE l n f)]) ∨ r = .tup [.dat true 7 (kpDs (addL l n f)), iv (addE l n f)]) ∧ O = []) ?_ (fun r O' h => by
    obtain ⟨⟨h1, rfl⟩ | rfl, rfl⟩ := h
    · exact ⟨_, .tup (.cons (.nil (f := true) (k := 7)) (.cons .refl .nil)), by rw [addL, if_neg h1]; rfl, rfl⟩
    · exact ⟨_, .refl, rfl, rfl⟩)
  have hlast : 0 < l.length → ∃ x, l[((l.length : Int) - 1).toNat]? = some x ∧ lastS l = x.seq := fun h => by
    obtain ⟨x, hx⟩ := get_of_lt (l := l) (k := l.length - 1) (by omega)
    exact ⟨x, by rw [show ((l.length : Int) - 1).toNat = l.length - 1 by omega]; exact hx, by rw [lastS, hx]⟩
  refine AC_intro Try.func42 rfl Try.ntmps42 (Nat.le_of_ble_eq_true rfl) fun c hL hQ hDD => ?_; refine awp_seq ?_; refine awp_region ?_; refine awps_stp1 rfl rfl (by decide) (stp_box 5 rfl rfl rfl) rfl ?_; refine awps_stp0 rfl rfl (by decide) (stp_move (.inr rfl) rfl) ?_; refine awps_stp0 rfl rfl (by decide) (stp_move (.inr rfl) rfl) ?_; refine awps_nil ?_; refine thenQ_nil ?_; refine awp_seq ?_
  refine awp_block ?_; refine awp_seq ?_; refine awp_region ?_; refine awps_stp0 rfl rfl (by decide) (stp_move (.inl rfl) rfl) ?_; refine awps_call (avs := [_]) true rfl rfl rfl (by decide) en_facts_List rfl rfl (List_ok l hw) rfl rfl ?_; refine awps_stp0 rfl rfl (by decide) (stp_not rfl rfl) ?_; refine awps_stp0 rfl rfl (by decide) (stp_move (.inl rfl) rfl) ?_; refine awps_split 12 rfl (fun g12 => ?_) (fun g12 => ?_)
  · try simp only [↓cqA, cqB] at g12
    refine awps_gs rfl rfl rfl rfl (by decide) rfl (by decide) ?_; refine awps_gs rfl rfl rfl rfl (by decide) rfl (by decide) ?_; refine awps_gs rfl rfl rfl rfl (by decide) rfl (by decide) ?_; refine awps_stp0 rfl rfl (by decide) (stp_pick rfl rfl rfl) ?_; refine awps_stp0 rfl rfl (by decide) (stp_move (.inl rfl) rfl) ?_; refine awps_gs rfl rfl rfl rfl (by decide) rfl (by decide) ?_
    refine awps_gs rfl rfl rfl rfl (by decide) rfl (by decide) ?_; refine awps_stp0 rfl rfl (by decide) (stp_pick rfl rfl rfl) ?_; refine awps_stp0 rfl rfl (by decide) (stp_move (.inl rfl) rfl) ?_; refine awps_gs rfl rfl rfl rfl (by decide) rfl (by decide) ?_; refine awps_gs rfl rfl rfl rfl (by decide) rfl (by decide) ?_; refine awps_stp0 rfl rfl (by decide) (stp_pick rfl rfl rfl) ?_
    refine awps_stp0 rfl rfl (by decide) (stp_move (.inl rfl) rfl) ?_; refine awps_gs rfl rfl rfl rfl (by decide) rfl (by decide) ?_; refine awps_gs rfl rfl rfl rfl (by decide) rfl (by decide) ?_; refine awps_gs rfl rfl rfl rfl (by decide) rfl (by decide) ?_; refine awps_gs rfl rfl rfl rfl (by decide) rfl (by decide) ?_; refine awps_gu rfl rfl rfl (by decide) rfl (by decide) ?_
    refine awps_gu rfl rfl rfl (by decide) rfl (by decide) ?_; refine awps_gu rfl rfl rfl (by decide) rfl (by decide) ?_; refine awps_gu rfl rfl rfl (by decide) rfl (by decide) ?_; refine awps_gu rfl rfl rfl (by decide) rfl (by decide) ?_; refine awps_gu rfl rfl rfl (by decide) rfl (by decide) ?_; refine awps_gu rfl rfl rfl (by decide) rfl (by decide) ?_
    refine awps_gu rfl rfl rfl (by decide) rfl (by decide) ?_; refine awps_gu rfl rfl rfl (by decide) rfl (by decide) ?_; refine awps_gs rfl rfl rfl rfl (by decide) rfl (by decide) ?_; refine awps_stp0 rfl rfl (by decide) (stp_pick rfl rfl rfl) ?_; refine awps_stp0 rfl rfl (by decide) (stp_move (.inr rfl) rfl) ?_; refine awps_nil ?_; refine thenQ_nil ?_; refine awp_condT rfl ?_
    refine awp_seq ?_; refine awp_region ?_; refine awps_stp0 rfl rfl (by decide) (stp_move (.inr rfl) rfl) ?_; refine awps_stp0 rfl rfl (by decide) (stp_move (.inr rfl) rfl) ?_; refine awps_nil ?_; refine thenQ_nil ?_; refine awp_ret ?_; refine inQ_ret (thenQ_ret (?_))
    -- leaf g12T
    refine ret0 (noL hL) (.inl rfl) (resAs_tmp rfl (resAs_tmp rfl (resAs_nil))) ?_ ?_
    · rfl
    refine ⟨?_, rfl⟩
    first
      | (have h1 : addC l n f = false := by
           first
             | (rw [addC_of hlb hfb g21 g25, decide_eq_false (show ¬ l.length = 0 by omega), decide_eq_false (show ¬ lastS l < n by omega)]; rfl)
             | (rw [addC, g12]; rfl)
             | (rw [addC, g17]; simp; done)
             | (rw [addC, decide_eq_false (show ¬ 0 ≤ n by omega)]; simp; done)
             | (rw [addC, decide_eq_false (show ¬ n ≤ 1073741824 by omega)]; simp; done)
         have h2 : addE l n f = 1 := by rw [addE, if_pos h1]
         exact .inl ⟨by rw [h2]; decide, by rw [h2]; rfl⟩)
      | (have h1 : addC l n f = true := by
           rw [addC_of hlb hfb g21 g25]
           first
             | (rw [decide_eq_true (show l.length = 0 by omega)]; rfl)
             | (rw [decide_eq_true (show lastS l < n by omega)]; simp; done)
         have h0 : ¬ addC l n f = false := by rw [h1]; decide
         first
           | (have h2 : addE l n f = 4 := by rw [addE, if_neg h0, if_pos (show 0 ≤ atN f l by omega)]
              exact .inl ⟨by rw [h2]; decide, by rw [h2]; rfl⟩)
           | (have h2 : addE l n f = 2 := by rw [addE, if_neg h0, if_neg (show ¬ 0 ≤ atN f l by omega), if_pos (show 300 ≤ l.length by omega)]
              exact .inl ⟨by rw [h2]; decide, by rw [h2]; rfl⟩)
           | (have h2 : addE l n f = 0 := by rw [addE, if_neg h0, if_neg (show ¬ 0 ≤ atN f l by omega), if_neg (show ¬ 300 ≤ l.length by omega)]
              refine .inr ?_
              have e : kpDs (addL l n f) = kpDs l ++ [kpD ⟨n, f⟩] := by rw [addL, if_pos h2, kpDs, List.map_append]; rfl
              rw [e, h2]; rfl))
  try simp only [↓cqA, cqB] at g12
  refine awps_g0 rfl rfl rfl (by decide) rfl (by decide) (stp_load_all rfl tf_api_Fact rfl rfl rfl rfl) ?_; refine awps_g0 rfl rfl rfl (by decide) rfl (by decide) (stp_call (avs := [_]) true rfl en_facts_Is rfl rfl (factsIs_ok f hf) (fun _ => rfl) rfl) ?_; refine awps_g0 rfl rfl rfl (by decide) rfl (by decide) (stp_not rfl rfl) ?_; refine awps_stp0 rfl rfl (by decide) (stp_pick rfl rfl rfl) ?_; refine awps_stp0 rfl rfl (by decide) (stp_move (.inl rfl) rfl) ?_; refine awps_split 17 rfl (fun g17 => ?_) (fun g17 => ?_)
  · try simp only [↓cqA, cqB] at g17
    refine awps_gs rfl rfl rfl rfl (by decide) rfl (by decide) ?_; refine awps_gs rfl rfl rfl rfl (by decide) rfl (by decide) ?_; refine awps_stp0 rfl rfl (by decide) (stp_pick rfl rfl rfl) ?_; refine awps_stp0 rfl rfl (by decide) (stp_move (.inl rfl) rfl) ?_; refine awps_gs rfl rfl rfl rfl (by decide) rfl (by decide) ?_; refine awps_gs rfl rfl rfl rfl (by decide) rfl (by decide) ?_
    refine awps_stp0 rfl rfl (by decide) (stp_pick rfl rfl rfl) ?_; refine awps_stp0 rfl rfl (by decide) (stp_move (.inl rfl) rfl) ?_; refine awps_gs rfl rfl rfl rfl (by decide) rfl (by decide) ?_; refine awps_gs rfl rfl rfl rfl (by decide) rfl (by decide) ?_; refine awps_gs rfl rfl rfl rfl (by decide) rfl (by decide) ?_; refine awps_gs rfl rfl rfl rfl (by decide) rfl (by decide) ?_
    refine awps_gu rfl rfl rfl (by decide) rfl (by decide) ?_; refine awps_gu rfl rfl rfl (by decide) rfl (by decide) ?_; refine awps_gu rfl rfl rfl (by decide) rfl (by decide) ?_; refine awps_gu rfl rfl rfl (by decide) rfl (by decide) ?_; refine awps_gu rfl rfl rfl (by decide) rfl (by decide) ?_; refine awps_gu rfl rfl rfl (by decide) rfl (by decide) ?_
    refine awps_gu rfl rfl rfl (by decide) rfl (by decide) ?_; refine awps_gu rfl rfl rfl (by decide) rfl (by decide) ?_; refine awps_gu rfl rfl rfl (by decide) rfl (by decide) ?_; refine awps_gs rfl rfl rfl rfl (by decide) rfl (by decide) ?_; refine awps_stp0 rfl rfl (by decide) (stp_pick rfl rfl rfl) ?_; refine awps_stp0 rfl rfl (by decide) (stp_move (.inr rfl) rfl) ?_; refine awps_nil ?_
    refine thenQ_nil ?_; refine awp_condT rfl ?_; refine awp_seq ?_; refine awp_region ?_; refine awps_stp0 rfl rfl (by decide) (stp_move (.inr rfl) rfl) ?_; refine awps_stp0 rfl rfl (by decide) (stp_move (.inr rfl) rfl) ?_; refine awps_nil ?_; refine thenQ_nil ?_; refine awp_ret ?_; refine inQ_ret (thenQ_ret (?_))
    -- leaf g12Fg17T
    refine ret0 (noL hL) (.inl rfl) (resAs_tmp rfl (resAs_tmp rfl (resAs_nil))) ?_ ?_
    · rfl
    refine ⟨?_, rfl⟩
    first
      | (have h1 : addC l n f = false := by
           first
             | (rw [addC_of hlb hfb g21 g25, decide_eq_false (show ¬ l.length = 0 by omega), decide_eq_false (show ¬ lastS l < n by omega)]; rfl)
             | (rw [addC, g12]; rfl)
             | (rw [addC, g17]; simp; done)
             | (rw [addC, decide_eq_false (show ¬ 0 ≤ n by omega)]; simp; done)
             | (rw [addC, decide_eq_false (show ¬ n ≤ 1073741824 by omega)]; simp; done)
         have h2 : addE l n f = 1 := by rw [addE, if_pos h1]
         exact .inl ⟨by rw [h2]; decide, by rw [h2]; rfl⟩)
      | (have h1 : addC l n f = true := by
           rw [addC_of hlb hfb g21 g25]
           first
             | (rw [decide_eq_true (show l.length = 0 by omega)]; rfl)
             | (rw [decide_eq_true (show lastS l < n by omega)]; simp; done)
         have h0 : ¬ addC l n f = false := by rw [h1]; decide
         first
           | (have h2 : addE l n f = 4 := by rw [addE, if_neg h0, if_pos (show 0 ≤ atN f l by omega)]
              exact .inl ⟨by rw [h2]; decide, by rw [h2]; rfl⟩)
           | (have h2 : addE l n f = 2 := by rw [addE, if_neg h0, if_neg (show ¬ 0 ≤ atN f l by omega), if_pos (show 300 ≤ l.length by omega)]
              exact .inl ⟨by rw [h2]; decide, by rw [h2]; rfl⟩)
           | (have h2 : addE l n f = 0 := by rw [addE, if_neg h0, if_neg (show ¬ 0 ≤ atN f l by omega), if_neg (show ¬ 300 ≤ l.length by omega)]
              refine .inr ?_
              have e : kpDs (addL l n f) = kpDs l ++ [kpD ⟨n, f⟩] := by rw [addL, if_pos h2, kpDs, List.map_append]; rfl
              rw [e, h2]; rfl))
  try simp only [↓cqA, cqB] at g17
  have hlb : listB l = true := by assumption
  have hfb : factB f = true := by assumption
  obtain ⟨hl3, hlm⟩ := listB_may hlb
  have hmay : ∀ k ∈ l, mayT k.f.t = true := fun k hk => factB_may (hlm k hk)
  refine awps_g0 rfl rfl rfl (by decide) rfl (by decide) (stp_move (.inl rfl) rfl) ?_; refine awps_g0 rfl rfl rfl (by decide) rfl (by decide) (stp_binI rfl rfl rfl rfl) ?_; refine awps_stp0 rfl rfl (by decide) (stp_pick rfl rfl rfl) ?_; refine awps_stp0 rfl rfl (by decide) (stp_move (.inl rfl) rfl) ?_; refine awps_split 21 rfl (fun g21 => ?_) (fun g21 => ?_)
  · try simp only [↓cqA, cqB] at g21
    refine awps_gs rfl rfl rfl rfl (by decide) rfl (by decide) ?_; refine awps_gs rfl rfl rfl rfl (by decide) rfl (by decide) ?_; refine awps_stp0 rfl rfl (by decide) (stp_pick rfl rfl rfl) ?_; refine awps_stp0 rfl rfl (by decide) (stp_move (.inl rfl) rfl) ?_; refine awps_gs rfl rfl rfl rfl (by decide) rfl (by decide) ?_; refine awps_gs rfl rfl rfl rfl (by decide) rfl (by decide) ?_
    refine awps_gs rfl rfl rfl rfl (by decide) rfl (by decide) ?_; refine awps_gs rfl rfl rfl rfl (by decide) rfl (by decide) ?_; refine awps_gu rfl rfl rfl (by decide) rfl (by decide) ?_; refine awps_gu rfl rfl rfl (by decide) rfl (by decide) ?_; refine awps_gu rfl rfl rfl (by decide) rfl (by decide) ?_; refine awps_gu rfl rfl rfl (by decide) rfl (by decide) ?_
    refine awps_gu rfl rfl rfl (by decide) rfl (by decide) ?_; refine awps_gu rfl rfl rfl (by decide) rfl (by decide) ?_; refine awps_gu rfl rfl rfl (by decide) rfl (by decide) ?_; refine awps_gu rfl rfl rfl (by decide) rfl (by decide) ?_; refine awps_gu rfl rfl rfl (by decide) rfl (by decide) ?_; refine awps_gs rfl rfl rfl rfl (by decide) rfl (by decide) ?_
    refine awps_stp0 rfl rfl (by decide) (stp_pick rfl rfl rfl) ?_; refine awps_stp0 rfl rfl (by decide) (stp_move (.inr rfl) rfl) ?_; refine awps_nil ?_; refine thenQ_nil ?_; refine awp_condT rfl ?_; refine awp_seq ?_; refine awp_region ?_; refine awps_stp0 rfl rfl (by decide) (stp_move (.inr rfl) rfl) ?_; refine awps_stp0 rfl rfl (by decide) (stp_move (.inr rfl) rfl) ?_; refine awps_nil ?_; refine thenQ_nil ?_; refine awp_ret ?_; refine inQ_ret (thenQ_ret (?_))
    -- leaf g12Fg17Fg21T
    refine ret0 (noL hL) (.inl rfl) (resAs_tmp rfl (resAs_tmp rfl (resAs_nil))) ?_ ?_
    · rfl
    refine ⟨?_, rfl⟩
    first
      | (have h1 : addC l n f = false := by
           first
             | (rw [addC_of hlb hfb g21 g25, decide_eq_false (show ¬ l.length = 0 by omega), decide_eq_false (show ¬ lastS l < n by omega)]; rfl)
             | (rw [addC, g12]; rfl)
             | (rw [addC, g17]; simp; done)
             | (rw [addC, decide_eq_false (show ¬ 0 ≤ n by omega)]; simp; done)
             | (rw [addC, decide_eq_false (show ¬ n ≤ 1073741824 by omega)]; simp; done)
         have h2 : addE l n f = 1 := by rw [addE, if_pos h1]
         exact .inl ⟨by rw [h2]; decide, by rw [h2]; rfl⟩)
      | (have h1 : addC l n f = true := by
           rw [addC_of hlb hfb g21 g25]
           first
             | (rw [decide_eq_true (show l.length = 0 by omega)]; rfl)
             | (rw [decide_eq_true (show lastS l < n by omega)]; simp; done)
         have h0 : ¬ addC l n f = false := by rw [h1]; decide
         first
           | (have h2 : addE l n f = 4 := by rw [addE, if_neg h0, if_pos (show 0 ≤ atN f l by omega)]
              exact .inl ⟨by rw [h2]; decide, by rw [h2]; rfl⟩)
           | (have h2 : addE l n f = 2 := by rw [addE, if_neg h0, if_neg (show ¬ 0 ≤ atN f l by omega), if_pos (show 300 ≤ l.length by omega)]
              exact .inl ⟨by rw [h2]; decide, by rw [h2]; rfl⟩)
           | (have h2 : addE l n f = 0 := by rw [addE, if_neg h0, if_neg (show ¬ 0 ≤ atN f l by omega), if_neg (show ¬ 300 ≤ l.length by omega)]
              refine .inr ?_
              have e : kpDs (addL l n f) = kpDs l ++ [kpD ⟨n, f⟩] := by rw [addL, if_pos h2, kpDs, List.map_append]; rfl
              rw [e, h2]; rfl))
  try simp only [↓cqA, cqB] at g21
  refine awps_g0 rfl rfl rfl (by decide) rfl (by decide) (stp_move (.inl rfl) rfl) ?_; refine awps_g0 rfl rfl rfl (by decide) rfl (by decide) (stp_binI rfl rfl rfl rfl) ?_; refine awps_stp0 rfl rfl (by decide) (stp_pick rfl rfl rfl) ?_; refine awps_stp0 rfl rfl (by decide) (stp_move (.inl rfl) rfl) ?_; refine awps_split 25 rfl (fun g25 => ?_) (fun g25 => ?_)
  · try simp only [↓cqA, cqB] at g25
    refine awps_gs rfl rfl rfl rfl (by decide) rfl (by decide) ?_; refine awps_gs rfl rfl rfl rfl (by decide) rfl (by decide) ?_; refine awps_gs rfl rfl rfl rfl (by decide) rfl (by decide) ?_; refine awps_gs rfl rfl rfl rfl (by decide) rfl (by decide) ?_; refine awps_gu rfl rfl rfl (by decide) rfl (by decide) ?_; refine awps_gu rfl rfl rfl (by decide) rfl (by decide) ?_
    refine awps_gu rfl rfl rfl (by decide) rfl (by decide) ?_; refine awps_gu rfl rfl rfl (by decide) rfl (by decide) ?_; refine awps_gu rfl rfl rfl (by decide) rfl (by decide) ?_; refine awps_gu rfl rfl rfl (by decide) rfl (by decide) ?_; refine awps_gu rfl rfl rfl (by decide) rfl (by decide) ?_; refine awps_gu rfl rfl rfl (by decide) rfl (by decide) ?_
    refine awps_gu rfl rfl rfl (by decide) rfl (by decide) ?_; refine awps_gs rfl rfl rfl rfl (by decide) rfl (by decide) ?_; refine awps_stp0 rfl rfl (by decide) (stp_pick rfl rfl rfl) ?_; refine awps_stp0 rfl rfl (by decide) (stp_move (.inr rfl) rfl) ?_; refine awps_nil ?_; refine thenQ_nil ?_; refine awp_condT rfl ?_; refine awp_seq ?_; refine awp_region ?_; refine awps_stp0 rfl rfl (by decide) (stp_move (.inr rfl) rfl) ?_; refine awps_stp0 rfl rfl (by decide) (stp_move (.inr rfl) rfl) ?_; refine awps_nil ?_; refine thenQ_nil ?_; refine awp_ret ?_; refine inQ_ret (thenQ_ret (?_))
    -- leaf g12Fg17Fg21Fg25T
    refine ret0 (noL hL) (.inl rfl) (resAs_tmp rfl (resAs_tmp rfl (resAs_nil))) ?_ ?_
    · rfl
    refine ⟨?_, rfl⟩
    first
      | (have h1 : addC l n f = false := by
           first
             | (rw [addC_of hlb hfb g21 g25, decide_eq_false (show ¬ l.length = 0 by omega), decide_eq_false (show ¬ lastS l < n by omega)]; rfl)
             | (rw [addC, g12]; rfl)
             | (rw [addC, g17]; simp; done)
             | (rw [addC, decide_eq_false (show ¬ 0 ≤ n by omega)]; simp; done)
             | (rw [addC, decide_eq_false (show ¬ n ≤ 1073741824 by omega)]; simp; done)
         have h2 : addE l n f = 1 := by rw [addE, if_pos h1]
         exact .inl ⟨by rw [h2]; decide, by rw [h2]; rfl⟩)
      | (have h1 : addC l n f = true := by
           rw [addC_of hlb hfb g21 g25]
           first
             | (rw [decide_eq_true (show l.length = 0 by omega)]; rfl)
             | (rw [decide_eq_true (show lastS l < n by omega)]; simp; done)
         have h0 : ¬ addC l n f = false := by rw [h1]; decide
         first
           | (have h2 : addE l n f = 4 := by rw [addE, if_neg h0, if_pos (show 0 ≤ atN f l by omega)]
              exact .inl ⟨by rw [h2]; decide, by rw [h2]; rfl⟩)
           | (have h2 : addE l n f = 2 := by rw [addE, if_neg h0, if_neg (show ¬ 0 ≤ atN f l by omega), if_pos (show 300 ≤ l.length by omega)]
              exact .inl ⟨by rw [h2]; decide, by rw [h2]; rfl⟩)
           | (have h2 : addE l n f = 0 := by rw [addE, if_neg h0, if_neg (show ¬ 0 ≤ atN f l by omega), if_neg (show ¬ 300 ≤ l.length by omega)]
              refine .inr ?_
              have e : kpDs (addL l n f) = kpDs l ++ [kpD ⟨n, f⟩] := by rw [addL, if_pos h2, kpDs, List.map_append]; rfl
              rw [e, h2]; rfl))
  try simp only [↓cqA, cqB] at g25
  refine awps_g0 rfl rfl rfl (by decide) rfl (by decide) (stp_move (.inl rfl) rfl) ?_; refine awps_g0 rfl rfl rfl (by decide) rfl (by decide) (stp_len_dat rfl sl_S_api_Kept rfl) ?_; refine awps_g0 rfl rfl rfl (by decide) rfl (by decide) (stp_binI rfl rfl rfl rfl) ?_; refine awps_g0 rfl rfl rfl (by decide) rfl (by decide) (stp_move (.inl rfl) rfl) ?_; refine awps_split 29 rfl (fun g29 => ?_) (fun g29 => ?_)
  · try simp only [↓cqA, cqB] at g29
    have hl30 := (listB_may (l := l) (by assumption)).1
    obtain ⟨x, hx, hxl⟩ := hlast (by omega)
    rw [← hlen] at hx
    refine awps_g0 rfl rfl rfl (by decide) rfl (by decide) (stp_move (.inl rfl) rfl) ?_; refine awps_g0 rfl rfl rfl (by decide) rfl (by decide) (stp_move (.inl rfl) rfl) ?_; refine awps_g0 rfl rfl rfl (by decide) rfl (by decide) (stp_move (.inl rfl) rfl) ?_; refine awps_g0 rfl rfl rfl (by decide) rfl (by decide) (stp_len_dat rfl sl_S_api_Kept rfl) ?_; refine awps_g0 rfl rfl rfl (by decide) rfl (by decide) (stp_sub rfl rfl rfl (by omega)) ?_; refine awps_g0 rfl rfl rfl (by decide) rfl (by decide) (stp_indexAddr rfl sl_S_api_Kept rfl rfl (by omega) (kpDs_get hx)) ?_
    refine awps_g0 rfl rfl rfl (by decide) rfl (by decide) (stp_fieldAddr_elp rfl fo_api_Kept_0 rfl) ?_; refine awps_g0 rfl rfl rfl (by decide) rfl (by decide) (stp_load_elp1 rfl tf_int rfl) ?_; refine awps_g0 rfl rfl rfl (by decide) rfl (by decide) (stp_binI rfl rfl rfl rfl) ?_; refine awps_g0 rfl rfl rfl (by decide) rfl (by decide) (stp_pick rfl rfl rfl) ?_; refine awps_stp0 rfl rfl (by decide) (stp_pick rfl rfl rfl) ?_; refine awps_stp0 rfl rfl (by decide) (stp_move (.inr rfl) rfl) ?_; refine awps_nil ?_; refine thenQ_nil ?_; refine awp_cond rfl (fun c0 => ?_) (fun c0 => ?_)
    · try simp only [↓cqA, cqB] at c0
      refine awp_seq ?_; refine awp_region ?_; refine awps_stp0 rfl rfl (by decide) (stp_move (.inr rfl) rfl) ?_; refine awps_stp0 rfl rfl (by decide) (stp_move (.inr rfl) rfl) ?_; refine awps_nil ?_; refine thenQ_nil ?_; refine awp_ret ?_; refine inQ_ret (thenQ_ret (?_))
      -- leaf g12Fg17Fg21Fg25Fg29T0T
      refine ret0 (noL hL) (.inl rfl) (resAs_tmp rfl (resAs_tmp rfl (resAs_nil))) ?_ ?_
      · rfl
      refine ⟨?_, rfl⟩
      first
        | (have h1 : addC l n f = false := by
             first
               | (rw [addC_of hlb hfb g21 g25, decide_eq_false (show ¬ l.length = 0 by omega), decide_eq_false (show ¬ lastS l < n by omega)]; rfl)
               | (rw [addC, g12]; rfl)
               | (rw [addC, g17]; simp; done)
               | (rw [addC, decide_eq_false (show ¬ 0 ≤ n by omega)]; simp; done)
               | (rw [addC, decide_eq_false (show ¬ n ≤ 1073741824 by omega)]; simp; done)
           have h2 : addE l n f = 1 := by rw [addE, if_pos h1]
           exact .inl ⟨by rw [h2]; decide, by rw [h2]; rfl⟩)
        | (have h1 : addC l n f = true := by
             rw [addC_of hlb hfb g21 g25]
             first
               | (rw [decide_eq_true (show l.length = 0 by omega)]; rfl)
               | (rw [decide_eq_true (show lastS l < n by omega)]; simp; done)
           have h0 : ¬ addC l n f = false := by rw [h1]; decide
           first
             | (have h2 : addE l n f = 4 := by rw [addE, if_neg h0, if_pos (show 0 ≤ atN f l by omega)]
                exact .inl ⟨by rw [h2]; decide, by rw [h2]; rfl⟩)
             | (have h2 : addE l n f = 2 := by rw [addE, if_neg h0, if_neg (show ¬ 0 ≤ atN f l by omega), if_pos (show 300 ≤ l.length by omega)]
                exact .inl ⟨by rw [h2]; decide, by rw [h2]; rfl⟩)
             | (have h2 : addE l n f = 0 := by rw [addE, if_neg h0, if_neg (show ¬ 0 ≤ atN f l by omega), if_neg (show ¬ 300 ≤ l.length by omega)]
                refine .inr ?_
                have e : kpDs (addL l n f) = kpDs l ++ [kpD ⟨n, f⟩] := by rw [addL, if_pos h2, kpDs, List.map_append]; rfl
                rw [e, h2]; rfl))
    try simp only [↓cqA, cqB] at c0
    refine awp_seq ?_; refine awp_region ?_; refine awps_stp0 rfl rfl (by decide) (stp_move (.inl rfl) rfl) ?_; refine awps_stp0 rfl rfl (by decide) (stp_load_all rfl tf_api_Fact rfl rfl rfl rfl) ?_; refine awps_call (avs := [_, _]) true rfl rfl rfl (by decide) en_facts_At rfl rfl (At_ok l f hl3 hw hmay hf) rfl rfl ?_; refine awps_stp0 rfl rfl (by decide) (stp_binI rfl rfl rfl rfl) ?_; refine awps_stp0 rfl rfl (by decide) (stp_move (.inr rfl) rfl) ?_; refine awps_nil ?_; refine thenQ_nil ?_; refine awp_cond rfl (fun c1 => ?_) (fun c1 => ?_)
    · try simp only [↓cqA, cqB] at c1
      refine awp_seq ?_; refine awp_region ?_; refine awps_stp0 rfl rfl (by decide) (stp_move (.inr rfl) rfl) ?_; refine awps_stp0 rfl rfl (by decide) (stp_move (.inr rfl) rfl) ?_; refine awps_nil ?_; refine thenQ_nil ?_; refine awp_ret ?_; refine inQ_ret (thenQ_ret (?_))
      -- leaf g12Fg17Fg21Fg25Fg29T0F1T
      refine ret0 (noL hL) (.inl rfl) (resAs_tmp rfl (resAs_tmp rfl (resAs_nil))) ?_ ?_
      · rfl
      refine ⟨?_, rfl⟩
      first
        | (have h1 : addC l n f = false := by
             first
               | (rw [addC_of hlb hfb g21 g25, decide_eq_false (show ¬ l.length = 0 by omega), decide_eq_false (show ¬ lastS l < n by omega)]; rfl)
               | (rw [addC, g12]; rfl)
               | (rw [addC, g17]; simp; done)
               | (rw [addC, decide_eq_false (show ¬ 0 ≤ n by omega)]; simp; done)
               | (rw [addC, decide_eq_false (show ¬ n ≤ 1073741824 by omega)]; simp; done)
           have h2 : addE l n f = 1 := by rw [addE, if_pos h1]
           exact .inl ⟨by rw [h2]; decide, by rw [h2]; rfl⟩)
        | (have h1 : addC l n f = true := by
             rw [addC_of hlb hfb g21 g25]
             first
               | (rw [decide_eq_true (show l.length = 0 by omega)]; rfl)
               | (rw [decide_eq_true (show lastS l < n by omega)]; simp; done)
           have h0 : ¬ addC l n f = false := by rw [h1]; decide
           first
             | (have h2 : addE l n f = 4 := by rw [addE, if_neg h0, if_pos (show 0 ≤ atN f l by omega)]
                exact .inl ⟨by rw [h2]; decide, by rw [h2]; rfl⟩)
             | (have h2 : addE l n f = 2 := by rw [addE, if_neg h0, if_neg (show ¬ 0 ≤ atN f l by omega), if_pos (show 300 ≤ l.length by omega)]
                exact .inl ⟨by rw [h2]; decide, by rw [h2]; rfl⟩)
             | (have h2 : addE l n f = 0 := by rw [addE, if_neg h0, if_neg (show ¬ 0 ≤ atN f l by omega), if_neg (show ¬ 300 ≤ l.length by omega)]
                refine .inr ?_
                have e : kpDs (addL l n f) = kpDs l ++ [kpD ⟨n, f⟩] := by rw [addL, if_pos h2, kpDs, List.map_append]; rfl
                rw [e, h2]; rfl))
    try simp only [↓cqA, cqB] at c1
    refine awp_seq ?_; refine awp_region ?_; refine awps_stp0 rfl rfl (by decide) (stp_move (.inl rfl) rfl) ?_; refine awps_stp0 rfl rfl (by decide) (stp_len_dat rfl sl_S_api_Kept rfl) ?_; refine awps_stp0 rfl rfl (by decide) (stp_binI rfl rfl rfl rfl) ?_; refine awps_stp0 rfl rfl (by decide) (stp_move (.inr rfl) rfl) ?_; refine awps_nil ?_; refine thenQ_nil ?_; refine awp_cond rfl (fun c2 => ?_) (fun c2 => ?_)
    · try simp only [↓cqA, cqB] at c2
      refine awp_seq ?_; refine awp_region ?_; refine awps_stp0 rfl rfl (by decide) (stp_move (.inr rfl) rfl) ?_; refine awps_stp0 rfl rfl (by decide) (stp_move (.inr rfl) rfl) ?_; refine awps_nil ?_; refine thenQ_nil ?_; refine awp_ret ?_; refine inQ_ret (thenQ_ret (?_))
      -- leaf g12Fg17Fg21Fg25Fg29T0F1F2T
      refine ret0 (noL hL) (.inl rfl) (resAs_tmp rfl (resAs_tmp rfl (resAs_nil))) ?_ ?_
      · rfl
      refine ⟨?_, rfl⟩
      first
        | (have h1 : addC l n f = false := by
             first
               | (rw [addC_of hlb hfb g21 g25, decide_eq_false (show ¬ l.length = 0 by omega), decide_eq_false (show ¬ lastS l < n by omega)]; rfl)
               | (rw [addC, g12]; rfl)
               | (rw [addC, g17]; simp; done)
               | (rw [addC, decide_eq_false (show ¬ 0 ≤ n by omega)]; simp; done)
               | (rw [addC, decide_eq_false (show ¬ n ≤ 1073741824 by omega)]; simp; done)
           have h2 : addE l n f = 1 := by rw [addE, if_pos h1]
           exact .inl ⟨by rw [h2]; decide, by rw [h2]; rfl⟩)
        | (have h1 : addC l n f = true := by
             rw [addC_of hlb hfb g21 g25]
             first
               | (rw [decide_eq_true (show l.length = 0 by omega)]; rfl)
               | (rw [decide_eq_true (show lastS l < n by omega)]; simp; done)
           have h0 : ¬ addC l n f = false := by rw [h1]; decide
           first
             | (have h2 : addE l n f = 4 := by rw [addE, if_neg h0, if_pos (show 0 ≤ atN f l by omega)]
                exact .inl ⟨by rw [h2]; decide, by rw [h2]; rfl⟩)
             | (have h2 : addE l n f = 2 := by rw [addE, if_neg h0, if_neg (show ¬ 0 ≤ atN f l by omega), if_pos (show 300 ≤ l.length by omega)]
                exact .inl ⟨by rw [h2]; decide, by rw [h2]; rfl⟩)
             | (have h2 : addE l n f = 0 := by rw [addE, if_neg h0, if_neg (show ¬ 0 ≤ atN f l by omega), if_neg (show ¬ 300 ≤ l.length by omega)]
                refine .inr ?_
                have e : kpDs (addL l n f) = kpDs l ++ [kpD ⟨n, f⟩] := by rw [addL, if_pos h2, kpDs, List.map_append]; rfl
                rw [e, h2]; rfl))
    try simp only [↓cqA, cqB] at c2
    refine awp_skip ?_; refine inQ_nil ?_; refine thenQ_nil ?_; refine awp_seq ?_; refine awp_drawG 5 mixed rfl rfl rfl rfl ?_; refine MGo_c0 rfl (by decide) (.run rfl (stp_move (.inl rfl) rfl)) ?_; refine MGo_u rfl rfl (by decide) (stpU_call (avs := [_]) true rfl en_facts_Owns rfl rfl (Owns_ok l hl3 hw hmay) (fun _ => rfl) rfl) ?_; refine MGo_c0 rfl (by decide) (.run rfl (stp_move (.inl rfl) rfl)) ?_; refine MGo_c0 rfl (by decide) (.run rfl (stp_load_all rfl tf_api_Fact rfl rfl rfl rfl)) ?_
    refine MGo_c0 rfl (by decide) (.run rfl (stp_call (avs := [_]) true rfl en_facts_Own rfl rfl (factsOwn_ok f hf (factB_may hfb)) (fun _ => rfl) rfl)) ?_; refine MGo_nil ⟨rfl, rfl, ?_⟩; refine awps_stp0 rfl rfl (by decide) (stp_build rfl zv_api_Kept rfl pl_api_Kept rfl rfl) ?_; refine awps_stp0 rfl rfl (by decide) (stp_buildSliceD true rfl sl_S_api_Kept zv_api_Kept rfl rfl (by decide) (by decide) (by decide) rfl rfl rfl rfl) ?_
    refine awps_u rfl rfl (by decide) (stpU_appendd 57 ta_S_api_Kept rfl rfl rfl rfl rfl (noL hL _) (fun d hd => by simp only [chunk, List.mem_cons, List.not_mem_nil, or_false] at hd; subst hd; rfl) (by simp [chunk]; omega) rfl) rfl ?_; refine awps_stp0 rfl rfl (by decide) (stp_move (.inr rfl) rfl) ?_; refine awps_stp0 rfl rfl (by decide) (stp_move (.inr rfl) rfl) ?_; refine awps_sub (sub_freeze (l := 57) rfl (by decide) (noL hL _) rfl rfl) ?_; refine awps_nil ?_; refine thenQ_nil ?_; refine awp_ret ?_
    -- leaf g12Fg17Fg21Fg25Fg29T0F1F2F
    refine ret0 (noL hL) (.inl rfl) (resAs_tmp rfl (resAs_tmp rfl (resAs_nil))) ?_ ?_
    · rfl
    refine ⟨?_, rfl⟩
    first
      | (have h1 : addC l n f = false := by
           first
             | (rw [addC_of hlb hfb g21 g25, decide_eq_false (show ¬ l.length = 0 by omega), decide_eq_false (show ¬ lastS l < n by omega)]; rfl)
             | (rw [addC, g12]; rfl)
             | (rw [addC, g17]; simp; done)
             | (rw [addC, decide_eq_false (show ¬ 0 ≤ n by omega)]; simp; done)
             | (rw [addC, decide_eq_false (show ¬ n ≤ 1073741824 by omega)]; simp; done)
         have h2 : addE l n f = 1 := by rw [addE, if_pos h1]
         exact .inl ⟨by rw [h2]; decide, by rw [h2]; rfl⟩)
      | (have h1 : addC l n f = true := by
           rw [addC_of hlb hfb g21 g25]
           first
             | (rw [decide_eq_true (show l.length = 0 by omega)]; rfl)
             | (rw [decide_eq_true (show lastS l < n by omega)]; simp; done)
         have h0 : ¬ addC l n f = false := by rw [h1]; decide
         first
           | (have h2 : addE l n f = 4 := by rw [addE, if_neg h0, if_pos (show 0 ≤ atN f l by omega)]
              exact .inl ⟨by rw [h2]; decide, by rw [h2]; rfl⟩)
           | (have h2 : addE l n f = 2 := by rw [addE, if_neg h0, if_neg (show ¬ 0 ≤ atN f l by omega), if_pos (show 300 ≤ l.length by omega)]
              exact .inl ⟨by rw [h2]; decide, by rw [h2]; rfl⟩)
           | (have h2 : addE l n f = 0 := by rw [addE, if_neg h0, if_neg (show ¬ 0 ≤ atN f l by omega), if_neg (show ¬ 300 ≤ l.length by omega)]
              refine .inr ?_
              have e : kpDs (addL l n f) = kpDs l ++ [kpD ⟨n, f⟩] := by rw [addL, if_pos h2, kpDs, List.map_append]; rfl
              rw [e, h2]; rfl))
  try simp only [↓cqA, cqB] at g29
  refine awps_gs rfl rfl rfl rfl (by decide) rfl (by decide) ?_; refine awps_gs rfl rfl rfl rfl (by decide) rfl (by decide) ?_; refine awps_gs rfl rfl rfl rfl (by decide) rfl (by decide) ?_; refine awps_gs rfl rfl rfl rfl (by decide) rfl (by decide) ?_; refine awps_gs rfl rfl rfl rfl (by decide) rfl (by decide) ?_; refine awps_gs rfl rfl rfl rfl (by decide) rfl (by decide) ?_
  refine awps_gs rfl rfl rfl rfl (by decide) rfl (by decide) ?_; refine awps_gs rfl rfl rfl rfl (by decide) rfl (by decide) ?_; refine awps_gs rfl rfl rfl rfl (by decide) rfl (by decide) ?_; refine awps_g0 rfl rfl rfl (by decide) rfl (by decide) (stp_pick rfl rfl rfl) ?_; refine awps_stp0 rfl rfl (by decide) (stp_pick rfl rfl rfl) ?_; refine awps_stp0 rfl rfl (by decide) (stp_move (.inr rfl) rfl) ?_; refine awps_nil ?_; refine thenQ_nil ?_; refine awp_condF rfl ?_; refine awp_seq ?_; refine awp_region ?_; refine awps_stp0 rfl rfl (by decide) (stp_move (.inl rfl) rfl) ?_
  refine awps_stp0 rfl rfl (by decide) (stp_load_all rfl tf_api_Fact rfl rfl rfl rfl) ?_; refine awps_call (avs := [_, _]) true rfl rfl rfl (by decide) en_facts_At rfl rfl (At_ok l f hl3 hw hmay hf) rfl rfl ?_; refine awps_stp0 rfl rfl (by decide) (stp_binI rfl rfl rfl rfl) ?_; refine awps_stp0 rfl rfl (by decide) (stp_move (.inr rfl) rfl) ?_; refine awps_nil ?_; refine thenQ_nil ?_; refine awp_cond rfl (fun c1 => ?_) (fun c1 => ?_)
  · try simp only [↓cqA, cqB] at c1
    refine awp_seq ?_; refine awp_region ?_; refine awps_stp0 rfl rfl (by decide) (stp_move (.inr rfl) rfl) ?_; refine awps_stp0 rfl rfl (by decide) (stp_move (.inr rfl) rfl) ?_; refine awps_nil ?_; refine thenQ_nil ?_; refine awp_ret ?_; refine inQ_ret (thenQ_ret (?_))
    -- leaf g12Fg17Fg21Fg25Fg29F1T
    refine ret0 (noL hL) (.inl rfl) (resAs_tmp rfl (resAs_tmp rfl (resAs_nil))) ?_ ?_
    · rfl
    refine ⟨?_, rfl⟩
    first
      | (have h1 : addC l n f = false := by
           first
             | (rw [addC_of hlb hfb g21 g25, decide_eq_false (show ¬ l.length = 0 by omega), decide_eq_false (show ¬ lastS l < n by omega)]; rfl)
             | (rw [addC, g12]; rfl)
             | (rw [addC, g17]; simp; done)
             | (rw [addC, decide_eq_false (show ¬ 0 ≤ n by omega)]; simp; done)
             | (rw [addC, decide_eq_false (show ¬ n ≤ 1073741824 by omega)]; simp; done)
         have h2 : addE l n f = 1 := by rw [addE, if_pos h1]
         exact .inl ⟨by rw [h2]; decide, by rw [h2]; rfl⟩)
      | (have h1 : addC l n f = true := by
           rw [addC_of hlb hfb g21 g25]
           first
             | (rw [decide_eq_true (show l.length = 0 by omega)]; rfl)
             | (rw [decide_eq_true (show lastS l < n by omega)]; simp; done)
         have h0 : ¬ addC l n f = false := by rw [h1]; decide
         first
           | (have h2 : addE l n f = 4 := by rw [addE, if_neg h0, if_pos (show 0 ≤ atN f l by omega)]
              exact .inl ⟨by rw [h2]; decide, by rw [h2]; rfl⟩)
           | (have h2 : addE l n f = 2 := by rw [addE, if_neg h0, if_neg (show ¬ 0 ≤ atN f l by omega), if_pos (show 300 ≤ l.length by omega)]
              exact .inl ⟨by rw [h2]; decide, by rw [h2]; rfl⟩)
           | (have h2 : addE l n f = 0 := by rw [addE, if_neg h0, if_neg (show ¬ 0 ≤ atN f l by omega), if_neg (show ¬ 300 ≤ l.length by omega)]
              refine .inr ?_
              have e : kpDs (addL l n f) = kpDs l ++ [kpD ⟨n, f⟩] := by rw [addL, if_pos h2, kpDs, List.map_append]; rfl
              rw [e, h2]; rfl))
  try simp only [↓cqA, cqB] at c1
  refine awp_seq ?_; refine awp_region ?_; refine awps_stp0 rfl rfl (by decide) (stp_move (.inl rfl) rfl) ?_; refine awps_stp0 rfl rfl (by decide) (stp_len_dat rfl sl_S_api_Kept rfl) ?_; refine awps_stp0 rfl rfl (by decide) (stp_binI rfl rfl rfl rfl) ?_; refine awps_stp0 rfl rfl (by decide) (stp_move (.inr rfl) rfl) ?_; refine awps_nil ?_; refine thenQ_nil ?_; refine awp_cond rfl (fun c2 => ?_) (fun c2 => ?_)
  · try simp only [↓cqA, cqB] at c2
    refine awp_seq ?_; refine awp_region ?_; refine awps_stp0 rfl rfl (by decide) (stp_move (.inr rfl) rfl) ?_; refine awps_stp0 rfl rfl (by decide) (stp_move (.inr rfl) rfl) ?_; refine awps_nil ?_; refine thenQ_nil ?_; refine awp_ret ?_; refine inQ_ret (thenQ_ret (?_))
    -- leaf g12Fg17Fg21Fg25Fg29F1F2T
    refine ret0 (noL hL) (.inl rfl) (resAs_tmp rfl (resAs_tmp rfl (resAs_nil))) ?_ ?_
    · rfl
    refine ⟨?_, rfl⟩
    first
      | (have h1 : addC l n f = false := by
           first
             | (rw [addC_of hlb hfb g21 g25, decide_eq_false (show ¬ l.length = 0 by omega), decide_eq_false (show ¬ lastS l < n by omega)]; rfl)
             | (rw [addC, g12]; rfl)
             | (rw [addC, g17]; simp; done)
             | (rw [addC, decide_eq_false (show ¬ 0 ≤ n by omega)]; simp; done)
             | (rw [addC, decide_eq_false (show ¬ n ≤ 1073741824 by omega)]; simp; done)
         have h2 : addE l n f = 1 := by rw [addE, if_pos h1]
         exact .inl ⟨by rw [h2]; decide, by rw [h2]; rfl⟩)
      | (have h1 : addC l n f = true := by
           rw [addC_of hlb hfb g21 g25]
           first
             | (rw [decide_eq_true (show l.length = 0 by omega)]; rfl)
             | (rw [decide_eq_true (show lastS l < n by omega)]; simp; done)
         have h0 : ¬ addC l n f = false := by rw [h1]; decide
         first
           | (have h2 : addE l n f = 4 := by rw [addE, if_neg h0, if_pos (show 0 ≤ atN f l by omega)]
              exact .inl ⟨by rw [h2]; decide, by rw [h2]; rfl⟩)
           | (have h2 : addE l n f = 2 := by rw [addE, if_neg h0, if_neg (show ¬ 0 ≤ atN f l by omega), if_pos (show 300 ≤ l.length by omega)]
              exact .inl ⟨by rw [h2]; decide, by rw [h2]; rfl⟩)
           | (have h2 : addE l n f = 0 := by rw [addE, if_neg h0, if_neg (show ¬ 0 ≤ atN f l by omega), if_neg (show ¬ 300 ≤ l.length by omega)]
              refine .inr ?_
              have e : kpDs (addL l n f) = kpDs l ++ [kpD ⟨n, f⟩] := by rw [addL, if_pos h2, kpDs, List.map_append]; rfl
              rw [e, h2]; rfl))
  try simp only [↓cqA, cqB] at c2
  refine awp_skip ?_; refine inQ_nil ?_; refine thenQ_nil ?_; refine awp_seq ?_; refine awp_drawG 5 mixed rfl rfl rfl rfl ?_; refine MGo_c0 rfl (by decide) (.run rfl (stp_move (.inl rfl) rfl)) ?_; refine MGo_u rfl rfl (by decide) (stpU_call (avs := [_]) true rfl en_facts_Owns rfl rfl (Owns_ok l hl3 hw hmay) (fun _ => rfl) rfl) ?_; refine MGo_c0 rfl (by decide) (.run rfl (stp_move (.inl rfl) rfl)) ?_; refine MGo_c0 rfl (by decide) (.run rfl (stp_load_all rfl tf_api_Fact rfl rfl rfl rfl)) ?_
  refine MGo_c0 rfl (by decide) (.run rfl (stp_call (avs := [_]) true rfl en_facts_Own rfl rfl (factsOwn_ok f hf (factB_may hfb)) (fun _ => rfl) rfl)) ?_; refine MGo_nil ⟨rfl, rfl, ?_⟩; refine awps_stp0 rfl rfl (by decide) (stp_build rfl zv_api_Kept rfl pl_api_Kept rfl rfl) ?_; refine awps_stp0 rfl rfl (by decide) (stp_buildSliceD true rfl sl_S_api_Kept zv_api_Kept rfl rfl (by decide) (by decide) (by decide) rfl rfl rfl rfl) ?_
  refine awps_u rfl rfl (by decide) (stpU_appendd 57 ta_S_api_Kept rfl rfl rfl rfl rfl (noL hL _) (fun d hd => by simp only [chunk, List.mem_cons, List.not_mem_nil, or_false] at hd; subst hd; rfl) (by simp [chunk]; omega) rfl) rfl ?_; refine awps_stp0 rfl rfl (by decide) (stp_move (.inr rfl) rfl) ?_; refine awps_stp0 rfl rfl (by decide) (stp_move (.inr rfl) rfl) ?_; refine awps_sub (sub_freeze (l := 57) rfl (by decide) (noL hL _) rfl rfl) ?_; refine awps_nil ?_; refine thenQ_nil ?_; refine awp_ret ?_
  -- leaf g12Fg17Fg21Fg25Fg29F1F2F
  refine ret0 (noL hL) (.inl rfl) (resAs_tmp rfl (resAs_tmp rfl (resAs_nil))) ?_ ?_
  · rfl
  refine ⟨?_, rfl⟩
  first
    | (have h1 : addC l n f = false := by
         first
           | (rw [addC_of hlb hfb g21 g25, decide_eq_false (show ¬ l.length = 0 by omega), decide_eq_false (show ¬ lastS l < n by omega)]; rfl)
           | (rw [addC, g12]; rfl)
           | (rw [addC, g17]; simp; done)
           | (rw [addC, decide_eq_false (show ¬ 0 ≤ n by omega)]; simp; done)
           | (rw [addC, decide_eq_false (show ¬ n ≤ 1073741824 by omega)]; simp; done)
       have h2 : addE l n f = 1 := by rw [addE, if_pos h1]
       exact .inl ⟨by rw [h2]; decide, by rw [h2]; rfl⟩)
    | (have h1 : addC l n f = true := by
         rw [addC_of hlb hfb g21 g25]
         first
           | (rw [decide_eq_true (show l.length = 0 by omega)]; rfl)
           | (rw [decide_eq_true (show lastS l < n by omega)]; simp; done)
       have h0 : ¬ addC l n f = false := by rw [h1]; decide
       first
         | (have h2 : addE l n f = 4 := by rw [addE, if_neg h0, if_pos (show 0 ≤ atN f l by omega)]
            exact .inl ⟨by rw [h2]; decide, by rw [h2]; rfl⟩)
         | (have h2 : addE l n f = 2 := by rw [addE, if_neg h0, if_neg (show ¬ 0 ≤ atN f l by omega), if_pos (show 300 ≤ l.length by omega)]
            exact .inl ⟨by rw [h2]; decide, by rw [h2]; rfl⟩)
         | (have h2 : addE l n f = 0 := by rw [addE, if_neg h0, if_neg (show ¬ 0 ≤ atN f l by omega), if_neg (show ¬ 300 ≤ l.length by omega)]
            refine .inr ?_
            have e : kpDs (addL l n f) = kpDs l ++ [kpD ⟨n, f⟩] := by rw [addL, if_pos h2, kpDs, List.map_append]; rfl
            rw [e, h2]; rfl))
end Go.Proofs.Ytdecgkhdbfgldaa

set_option linter.unusedVariables false
set_option linter.unusedSimpArgs false
set_option maxRecDepth 8000
namespace Go.Proofs.Ytdecgkhdbfgldaa
open Go
def wK (k : Kp) : Int := wT k.f.t
def wKs (l : List Kp) : Int := wgtL wK l.length l
theorem KeptsWeight_ok (l : List Kp) (hl : lenOk l) (hw : ∀ k ∈ l, k.wf) : PF 53 [.dat false 7 (kpDs l)] (iv (wKs l)) := by
  have hlen := kpDs_length l
  have hF : ∀ u, u ∈ l → 0 ≤ wK u ∧ wK u ≤ 4362862138900000 := fun u hu => wT_range u.f.t (hw u hu).2.1
  simp only [lenOk] at hl
  refine AC_intro Try.func53 rfl Try.ntmps53 (Nat.le_of_ble_eq_true rfl) fun c hL hQ hDD => ?_; refine awp_seq ?_; refine awp_region ?_; refine awps_stp0 rfl rfl (by decide) (stp_move (.inr rfl) rfl) ?_; refine awps_nil ?_; refine thenQ_nil ?_; refine awp_seq ?_; refine awp_region ?_; refine awps_stp0 rfl rfl (by decide) (stp_move (.inl rfl) rfl) ?_; refine awps_stp0 rfl rfl (by decide) (stp_len_dat rfl sl_S_api_Kept rfl) ?_
  refine awps_stp0 rfl rfl (by decide) (stp_move (.inr rfl) rfl) ?_; refine awps_nil ?_; refine thenQ_nil ?_; refine awp_seq ?_; refine awp_seq ?_; refine awp_region ?_; refine awps_stp0 rfl rfl (by decide) (stp_move (.inr rfl) rfl) ?_; refine awps_nil ?_; refine thenQ_nil ?_; refine awp_block ?_; refine awp_while (l.length) (fun k => k ≤ l.length ∧ ∀ j, j < k → wgtL wK l.length (l.take j) < 1048576) (fun k => ⟨[(0, .dat false 7 (kpDs l)), (3, iv (wgtL wK l.length (l.take k))), (4, iv (k : Int))], []⟩) (⟨by omega, fun j hj => absurd hj (by omega)⟩) ?_ (fun k hk hp => ?_)
  · exact sub_re (SubT.cons (lk_eq rfl (by first | rfl | simp)) (SubT.cons (lk_eq rfl (by exact int_imm (by simp only [List.take_zero, wgtL]; omega))) (SubT.cons (lk_eq rfl (by first | rfl | simp)) (SubT.nil)))) (SubO.nil) rfl rfl (noL' (noL hL) _)
  have hwk := wgtL_le wK 4362862138900000 (by omega) l.length (l.take k) (fun u hu => (hF u (List.mem_of_mem_take hu)).2) (by omega)
  have hw0 := wgtL_ge' wK l.length (l.take k) (fun u hu => (hF u (List.mem_of_mem_take hu)).1)
  refine awp_seq ?_; refine awp_seq ?_; refine awp_region ?_; refine awps_stp0 rfl rfl (by decide) (stp_move (.inl rfl) rfl) ?_; refine awps_stp0 rfl rfl (by decide) (stp_move (.inl rfl) rfl) ?_; refine awps_stp0 rfl rfl (by decide) (stp_len_dat rfl sl_S_api_Kept rfl) ?_; refine awps_stp0 rfl rfl (by decide) (stp_binI rfl rfl rfl rfl) ?_; refine awps_stp0 rfl rfl (by decide) (stp_move (.inl rfl) rfl) ?_; refine awps_split 11 rfl (fun g11 => ?_) (fun g11 => ?_)
  · try simp only [↓cqA, cqB] at g11
    obtain ⟨u, hu⟩ := get_of_lt (l := l) (k := k) (by omega)
    have hum := List.mem_of_getElem? hu
    have huw := hF u hum
    have hws : wK u = wT u.f.t := rfl
    have hut := (hw u hum).2.1
    refine awps_g0 rfl rfl rfl (by decide) rfl (by decide) (stp_move (.inl rfl) rfl) ?_; refine awps_g0 rfl rfl rfl (by decide) rfl (by decide) (stp_binI rfl rfl rfl rfl) ?_; refine awps_stp0 rfl rfl (by decide) (stp_pick rfl rfl rfl) ?_; refine awps_nil ?_; refine thenQ_nil ?_; refine awp_cond rfl (fun c0 => ?_) (fun c0 => ?_)
    · try simp only [↓cqA, cqB] at c0
      refine awp_skip ?_; refine thenQ_nil ?_; refine awp_seq ?_; refine awp_block ?_; refine awp_region ?_; refine awps_stp0 rfl rfl (by decide) (stp_move (.inl rfl) rfl) ?_; refine awps_stp0 rfl rfl (by decide) (stp_move (.inl rfl) rfl) ?_; refine awps_stp0 rfl rfl (by decide) (stp_move (.inl rfl) rfl) ?_; refine awps_stp0 rfl rfl (by decide) (stp_indexAddr rfl sl_S_api_Kept rfl rfl (by omega) (kpDs_get hu)) ?_; refine awps_stp0 rfl rfl (by decide) (stp_fieldAddr_elp rfl fo_api_Kept_1 rfl) ?_; refine awps_stp0 rfl rfl (by decide) (stp_fieldAddr_elp rfl fo_api_Fact_0 rfl) ?_
      refine awps_stp0 rfl rfl (by decide) (stp_load_elpn rfl tf_api_Term rfl rfl rfl) ?_; refine awps_call (avs := [_, _]) true rfl rfl rfl (by decide) en_almagestlaw0_TermWeight rfl rfl (TermWeight30_ok u.f.t hut) rfl rfl ?_; refine awps_stp0 rfl rfl (by decide) (stp_add rfl rfl rfl (by omega)) ?_; refine awps_stp0 rfl rfl (by decide) (stp_move (.inr rfl) rfl) ?_; refine awps_nil ?_; refine inQ_nil ?_; refine thenQ_nil ?_; refine awp_region ?_
      refine awps_stp0 rfl rfl (by decide) (stp_move (.inl rfl) rfl) ?_; refine awps_stp0 rfl rfl (by decide) (stp_add rfl rfl rfl (by omega)) ?_; refine awps_stp0 rfl rfl (by decide) (stp_move (.inr rfl) rfl) ?_; refine awps_nil ?_
      have hb := wgtL_snoc wK l.length (l.take k) u (fun j hj => by
        by_cases hjk : j < k
        · have := hp.2 j hjk; rwa [List.take_take, Nat.min_eq_left (by omega)]
        · rw [List.take_of_length_le (by simp; omega)]; omega)
      rw [← take_snoc hu] at hb
      refine thenQ_nil ?_; refine ⟨?_, ?_, ?_⟩
      · skip
        omega
      · skip
        refine ⟨by omega, fun j hj => ?_⟩
        by_cases hjk : j < k
        · exact hp.2 j hjk
        · rw [show j = k by omega]; omega
      exact sub_re (SubT.cons (lk_eq rfl (by first | rfl | simp)) (SubT.cons (lk_eq rfl (by exact int_imm (by rw [hb]; try omega))) (SubT.cons (lk_eq rfl (by first | rfl | simp)) (SubT.nil)))) (SubO.nil) rfl rfl (noL' (noL hL) _)
    try simp only [↓cqA, cqB] at c0
    have hfin : wgtL wK l.length (l.take k) = wgtL wK l.length l := ((wgtL_take wK _ _ k hp.1 hp.2).trans (wgtL_stop _ _ _ (by omega))).symm
    refine awp_exit ?_; refine thenQ_exit (thenQ_exit (inQ_hit ?_)); refine thenQ_nil ?_; refine awp_seq ?_; refine awp_region ?_; refine awps_stp0 rfl rfl (by decide) (stp_move (.inl rfl) rfl) ?_; refine awps_stp0 rfl rfl (by decide) (stp_move (.inr rfl) rfl) ?_; refine awps_nil ?_; refine thenQ_nil ?_; refine awp_ret ?_
    -- leaf g11T0F
    refine ret0 (noL hL) (.inl rfl) (resAs_tmp rfl (resAs_nil)) ?_ ?_
    · rfl
    exact ⟨int_w hfin, rfl⟩
  try simp only [↓cqA, cqB] at g11
  have hfin : wgtL wK l.length (l.take k) = wgtL wK l.length l := by rw [List.take_of_length_le (by omega)]
  refine awps_gs rfl rfl rfl rfl (by decide) rfl (by decide) ?_; refine awps_gs rfl rfl rfl rfl (by decide) rfl (by decide) ?_; refine awps_stp0 rfl rfl (by decide) (stp_pick rfl rfl rfl) ?_; refine awps_nil ?_; refine thenQ_nil ?_; refine awp_condF rfl ?_; refine awp_exit ?_; refine thenQ_exit (thenQ_exit (inQ_hit ?_)); refine thenQ_nil ?_; refine awp_seq ?_; refine awp_region ?_; refine awps_stp0 rfl rfl (by decide) (stp_move (.inl rfl) rfl) ?_; refine awps_stp0 rfl rfl (by decide) (stp_move (.inr rfl) rfl) ?_; refine awps_nil ?_; refine thenQ_nil ?_; refine awp_ret ?_
  -- leaf g11F
  refine ret0 (noL hL) (.inl rfl) (resAs_tmp rfl (resAs_nil)) ?_ ?_
  · rfl
  exact ⟨int_w hfin, rfl⟩
theorem wKs_range (l : List Kp) (hl : lenOk l) (hw : ∀ k ∈ l, k.wf) : 0 ≤ wKs l ∧ wKs l ≤ 4600000000000000 := by
  have hF : ∀ u, u ∈ l → 0 ≤ wK u ∧ wK u ≤ 4362862138900000 := fun u hu => wT_range u.f.t (hw u hu).2.1
  have h1 := wgtL_le wK 4362862138900000 (by omega) l.length l (fun u hu => (hF u hu).2) (by simp only [lenOk] at hl; omega)
  have h2 := wgtL_ge' wK l.length l (fun u hu => (hF u hu).1)
  simp only [wKs]; omega
def wF (f : Ft) : Int := wT f.t
def heavy9 (p : Ask9) : Bool := decide (2500 < wgtL wF (wKs p.L + p.F.length + p.N.length) p.F)
theorem Heavy9_ok (p : Ask9) (hp : p.wf) : PF 18 [.agg (lift false (a9D p))] (bv (heavy9 p)) := by
  obtain ⟨L, l, Z⟩ := p
  obtain ⟨⟨hlL, hwL⟩, ⟨hl, hwF⟩, hlZ, hwZ⟩ := hp
  have hlen := ftDs_length l
  have hlen2 : (ftDs (Ask9.mk L l Z).F).length = l.length := hlen
  have hlenZ := inDs_length Z
  have hlenZ2 : (inDs (Ask9.mk L l Z).N).length = Z.length := hlenZ
  have hrL := wKs_range L hlL hwL
  have hF : ∀ u, u ∈ l → 0 ≤ wF u ∧ wF u ≤ 5000000000000000 := fun u hu => by
    have := wT_range u.t (hwF u hu).1; simp only [wF]; omega
  simp only [lenOk] at hl hlZ
  refine AC_intro Try.func18 rfl Try.ntmps18 (Nat.le_of_ble_eq_true rfl) fun c hL hQ hDD => ?_; refine awp_seq ?_; refine awp_region ?_; refine awps_stp1 rfl rfl (by decide) (stp_box 1 rfl rfl rfl) rfl ?_; refine awps_stp0 rfl rfl (by decide) (stp_move (.inr rfl) rfl) ?_; refine awps_nil ?_; refine thenQ_nil ?_; refine awp_seq ?_; refine awp_drawG 10 mixed rfl rfl rfl rfl ?_; refine MGo_c0 rfl (by decide) (.run rfl (stp_fieldAddr rfl fo_almagestlaw9_Ask_0 rfl)) ?_; refine MGo_c0 rfl (by decide) (.run rfl (stp_load rfl tf_S_api_Kept rfl rfl rfl rfl rfl)) ?_
  refine MGo_c0 rfl (by decide) (.run rfl (stp_call (avs := [_]) true rfl en_almagestlaw0_KeptsWeight rfl rfl (KeptsWeight_ok L hlL hwL) (fun _ => rfl) rfl)) ?_; refine MGo_c0 rfl (by decide) (.run rfl (stp_fieldAddr rfl fo_almagestlaw9_Ask_1 rfl)) ?_; refine MGo_c0 rfl (by decide) (.run rfl (stp_load rfl tf_S_api_Fact rfl rfl rfl rfl rfl)) ?_; refine MGo_c0 rfl (by decide) (.run rfl (stp_len_dat rfl sl_S_api_Fact rfl)) ?_; refine MGo_c0 rfl (by decide) (.run rfl (stp_add rfl rfl rfl (by omega))) ?_; refine MGo_c0 rfl (by decide) (.run rfl (stp_fieldAddr rfl fo_almagestlaw9_Ask_2 rfl)) ?_
  refine MGo_c0 rfl (by decide) (.run rfl (stp_load rfl tf_S_int rfl rfl rfl rfl rfl)) ?_; refine MGo_c0 rfl (by decide) (.run rfl (stp_len_dat rfl sl_S_int rfl)) ?_; refine MGo_nil ⟨rfl, rfl, ?_⟩; refine awps_stp0 rfl rfl (by decide) (stp_add rfl rfl rfl (by omega)) ?_; refine awps_stp0 rfl rfl (by decide) (stp_move (.inr rfl) rfl) ?_; refine awps_nil ?_; refine thenQ_nil ?_; refine awp_seq ?_; refine awp_seq ?_; refine awp_region ?_; refine awps_stp0 rfl rfl (by decide) (stp_move (.inr rfl) rfl) ?_; refine awps_nil ?_; refine thenQ_nil ?_
  refine awp_block ?_; refine awp_while (l.length) (fun k => k ≤ l.length ∧ ∀ j, j < k → wgtL wF (wKs L + l.length + Z.length) (l.take j) < 1048576) (fun k => ⟨[(1, .ptr 1 0), (3, iv (wgtL wF (wKs L + l.length + Z.length) (l.take k))), (4, iv (k : Int))], [(1, .box (lift false (a9D ⟨L, l, Z⟩)))]⟩) (⟨by omega, fun j hj => absurd hj (by omega)⟩) ?_ (fun k hk hp => ?_)
  · exact sub_re (SubT.cons (lk_eq rfl (by first | rfl | simp)) (SubT.cons (lk_eq rfl (by exact int_imm (by simp only [List.take_zero, wgtL]; omega))) (SubT.cons (lk_eq rfl (by first | rfl | simp)) (SubT.nil)))) (SubO.cons (ok_eq rfl (by rfl)) (SubO.nil)) rfl rfl (noL' (noL hL) _)
  have hwk := wgtL_le wF 5000000000000000 (by omega) (wKs L + l.length + Z.length) (l.take k) (fun u hu => (hF u (List.mem_of_mem_take hu)).2) (by omega)
  have hw0 := wgtL_ge' wF (wKs L + l.length + Z.length) (l.take k) (fun u hu => (hF u (List.mem_of_mem_take hu)).1)
  refine awp_seq ?_; refine awp_seq ?_; refine awp_region ?_; refine awps_stp0 rfl rfl (by decide) (stp_move (.inl rfl) rfl) ?_; refine awps_stp0 rfl rfl (by decide) (stp_fieldAddr rfl fo_almagestlaw9_Ask_1 rfl) ?_; refine awps_stp0 rfl rfl (by decide) (stp_load rfl tf_S_api_Fact rfl rfl rfl rfl rfl) ?_; refine awps_stp0 rfl rfl (by decide) (stp_len_dat rfl sl_S_api_Fact rfl) ?_; refine awps_stp0 rfl rfl (by decide) (stp_binI rfl rfl rfl rfl) ?_; refine awps_stp0 rfl rfl (by decide) (stp_move (.inl rfl) rfl) ?_; refine awps_split 21 rfl (fun g21 => ?_) (fun g21 => ?_)
  · try simp only [↓cqA, cqB] at g21
    obtain ⟨u, hu⟩ := get_of_lt (l := l) (k := k) (by omega)
    have hum := List.mem_of_getElem? hu
    have huw := hF u hum
    have hul := (hwF u hum).1
    have hws : wF u = wT u.t := rfl
    refine awps_g0 rfl rfl rfl (by decide) rfl (by decide) (stp_move (.inl rfl) rfl) ?_; refine awps_g0 rfl rfl rfl (by decide) rfl (by decide) (stp_binI rfl rfl rfl rfl) ?_; refine awps_stp0 rfl rfl (by decide) (stp_pick rfl rfl rfl) ?_; refine awps_nil ?_; refine thenQ_nil ?_; refine awp_cond rfl (fun c0 => ?_) (fun c0 => ?_)
    · try simp only [↓cqA, cqB] at c0
      refine awp_skip ?_; refine thenQ_nil ?_; refine awp_seq ?_; refine awp_block ?_; refine awp_region ?_; refine awps_stp0 rfl rfl (by decide) (stp_move (.inl rfl) rfl) ?_; refine awps_stp0 rfl rfl (by decide) (stp_fieldAddr rfl fo_almagestlaw9_Ask_1 rfl) ?_; refine awps_stp0 rfl rfl (by decide) (stp_load rfl tf_S_api_Fact rfl rfl rfl rfl rfl) ?_; refine awps_stp0 rfl rfl (by decide) (stp_move (.inl rfl) rfl) ?_; refine awps_stp0 rfl rfl (by decide) (stp_indexAddr rfl sl_S_api_Fact rfl rfl (by omega) (ftDs_get hu)) ?_
      refine awps_stp0 rfl rfl (by decide) (stp_fieldAddr_elp rfl fo_api_Fact_0 rfl) ?_; refine awps_stp0 rfl rfl (by decide) (stp_load_elpn rfl tf_api_Term rfl rfl rfl) ?_; refine awps_call (avs := [_, _]) true rfl rfl rfl (by decide) en_almagestlaw0_TermWeight rfl rfl (TermWeight30_ok u.t hul) rfl rfl ?_; refine awps_stp0 rfl rfl (by decide) (stp_add rfl rfl rfl (by omega)) ?_; refine awps_stp0 rfl rfl (by decide) (stp_move (.inr rfl) rfl) ?_; refine awps_nil ?_; refine inQ_nil ?_; refine thenQ_nil ?_; refine awp_region ?_
      refine awps_stp0 rfl rfl (by decide) (stp_move (.inl rfl) rfl) ?_; refine awps_stp0 rfl rfl (by decide) (stp_add rfl rfl rfl (by omega)) ?_; refine awps_stp0 rfl rfl (by decide) (stp_move (.inr rfl) rfl) ?_; refine awps_nil ?_
      have hb := wgtL_snoc wF (wKs L + l.length + Z.length) (l.take k) u (fun j hj => by
        by_cases hjk : j < k
        · have := hp.2 j hjk; rwa [List.take_take, Nat.min_eq_left (by omega)]
        · rw [List.take_of_length_le (by simp; omega)]; omega)
      rw [← take_snoc hu] at hb
      refine thenQ_nil ?_; refine ⟨?_, ?_, ?_⟩
      · skip
        omega
      · skip
        refine ⟨by omega, fun j hj => ?_⟩
        by_cases hjk : j < k
        · exact hp.2 j hjk
        · rw [show j = k by omega]; omega
      exact sub_re (SubT.cons (lk_eq rfl (by first | rfl | simp)) (SubT.cons (lk_eq rfl (by exact int_imm (by rw [hb]; try omega))) (SubT.cons (lk_eq rfl (by first | rfl | simp)) (SubT.nil)))) (SubO.cons (ok_eq rfl (by rfl)) (SubO.nil)) rfl rfl (noL' (noL hL) _)
    try simp only [↓cqA, cqB] at c0
    have hfin : wgtL wF (wKs L + l.length + Z.length) (l.take k) = wgtL wF (wKs L + l.length + Z.length) l := ((wgtL_take wF _ _ k hp.1 hp.2).trans (wgtL_stop _ _ _ (by omega))).symm
    refine awp_exit ?_; refine thenQ_exit (thenQ_exit (inQ_hit ?_)); refine thenQ_nil ?_; refine awp_seq ?_; refine awp_region ?_; refine awps_stp0 rfl rfl (by decide) (stp_move (.inl rfl) rfl) ?_; refine awps_stp0 rfl rfl (by decide) (stp_binI rfl rfl rfl rfl) ?_; refine awps_stp0 rfl rfl (by decide) (stp_move (.inr rfl) rfl) ?_; refine awps_nil ?_; refine thenQ_nil ?_; refine awp_ret ?_
    -- leaf g21T0F
    refine ret0 (noL hL) (.inl rfl) (resAs_tmp rfl (resAs_nil)) ?_ ?_
    · rfl
    refine ⟨bool_w ?_, rfl⟩
    rw [hfin]
    simp only [heavy9]
    try rfl
  try simp only [↓cqA, cqB] at g21
  have hfin : wgtL wF (wKs L + l.length + Z.length) (l.take k) = wgtL wF (wKs L + l.length + Z.length) l := by rw [List.take_of_length_le (by omega)]
  refine awps_gs rfl rfl rfl rfl (by decide) rfl (by decide) ?_; refine awps_gs rfl rfl rfl rfl (by decide) rfl (by decide) ?_; refine awps_stp0 rfl rfl (by decide) (stp_pick rfl rfl rfl) ?_; refine awps_nil ?_; refine thenQ_nil ?_; refine awp_condF rfl ?_; refine awp_exit ?_; refine thenQ_exit (thenQ_exit (inQ_hit ?_)); refine thenQ_nil ?_; refine awp_seq ?_; refine awp_region ?_
  refine awps_stp0 rfl rfl (by decide) (stp_move (.inl rfl) rfl) ?_; refine awps_stp0 rfl rfl (by decide) (stp_binI rfl rfl rfl rfl) ?_; refine awps_stp0 rfl rfl (by decide) (stp_move (.inr rfl) rfl) ?_; refine awps_nil ?_; refine thenQ_nil ?_; refine awp_ret ?_
  -- leaf g21F
  refine ret0 (noL hL) (.inl rfl) (resAs_tmp rfl (resAs_nil)) ?_ ?_
  · rfl
  refine ⟨bool_w ?_, rfl⟩
  rw [hfin]
  simp only [heavy9]
  try rfl
end Go.Proofs.Ytdecgkhdbfgldaa

set_option linter.unusedVariables false
set_option linter.unusedSimpArgs false
set_option maxRecDepth 8000
namespace Go.Proofs.Ytdecgkhdbfgldaa
open Go
abbrev sa : ByteArray := ⟨#[97]⟩
def f0 : Ft := ⟨nmT sa [], 1, 2⟩
theorem f0_wf : f0.wf := ⟨nmT_w _ _ (by decide) (by decide) (fun t ht => by cases ht), by simp [i64, f0], by simp [i64, f0]⟩
def l0 : List Kp := [⟨7, f0⟩]
theorem l0_wf : ∀ k ∈ l0, k.wf := fun k hk => by
  simp only [l0, List.mem_cons, List.not_mem_nil, or_false] at hk
  subst hk; exact ⟨by simp [i64], f0_wf⟩
theorem wakes9_ok : PF 25 [] (bv true) := by
  have k1 : PF 42 [.imm (.slice none 0 0), iv 7, ftA f0] (.tup [.dat true 7 (kpDs l0), iv 0]) := by
    have h := AC_le (.cons .nil (.cons .refl (.cons .refl .nil))) (Add_ok [] (fun k hk => by cases hk) 7 (by simp [i64]) f0 f0_wf)
    rw [show addL [] 7 f0 = l0 by kernel_rfl, show addE [] 7 f0 = 0 by kernel_rfl] at h
    exact h
  have k2 := Find_ok l0 l0_wf f0 f0_wf
  rw [show findN l0 f0 = 7 by kernel_rfl, show findE l0 f0 = 0 by kernel_rfl] at k2
  refine AC_intro Try.func25 rfl Try.ntmps25 (Nat.le_of_ble_eq_true rfl) fun c hL hQ hDD => ?_; refine awp_seq ?_; refine awp_region ?_; refine awps_stp0 rfl rfl (by decide) (stp_move (.inr rfl) rfl) ?_; refine awps_nil ?_; refine thenQ_nil ?_; refine awp_seq ?_; refine awp_region ?_; refine awps_stp0 rfl rfl (by decide) (stp_build rfl zv_api_Term rfl pl_api_Term rfl rfl) ?_
  refine awps_stp0 rfl rfl (by decide) (stp_build rfl zv_api_Span rfl pl_api_Span rfl rfl) ?_; refine awps_sub (sub_le 6 rfl (.agg (ds := lift false (tmD (nmT sa []))) (.cons .refl (.cons .refl (.cons .refl (.cons .nil .nil)))))) ?_; refine awps_stp0 rfl rfl (by decide) (stp_build rfl zv_api_Fact rfl pl_api_Fact rfl rfl) ?_; refine awps_stp1 rfl rfl (by decide) (stp_alloc 1 rfl zv_api_Fact rfl) rfl ?_; refine awps_store rfl rfl rfl tf_api_Fact rfl rfl rfl rfl rfl rfl rfl rfl rfl ?_; refine awps_nil ?_; refine thenQ_nil ?_; refine awp_seq ?_; refine awp_region ?_
  refine awps_stp0 rfl rfl (by decide) (stp_load_all rfl tf_api_Fact rfl rfl rfl rfl) ?_; refine awps_call (avs := [_, _, _]) true rfl rfl rfl (by decide) en_facts_Add rfl rfl (k1) rfl rfl ?_; refine awps_stp0 rfl rfl (by decide) (stp_move (.inl rfl) rfl) ?_; refine awps_stp0 rfl rfl (by decide) (stp_extract rfl rfl rfl) ?_; refine awps_stp0 rfl rfl (by decide) (stp_extract rfl rfl rfl) ?_; refine awps_stp0 rfl rfl (by decide) (stp_move (.inr rfl) rfl) ?_
  refine awps_stp0 rfl rfl (by decide) (stp_move (.inr rfl) rfl) ?_; refine awps_nil ?_; refine thenQ_nil ?_; refine awp_seq ?_; refine awp_sub (sub_untag hQ) ?_; refine awp_region ?_; refine awps_stp0 rfl rfl (by decide) (stp_move (.inl rfl) rfl) ?_; refine awps_stp0 rfl rfl (by decide) (stp_load_all rfl tf_api_Fact rfl rfl rfl rfl) ?_
  refine awps_call (avs := [_, _]) true rfl rfl rfl (by decide) en_facts_Find rfl rfl (k2) rfl rfl ?_; refine awps_stp0 rfl rfl (by decide) (stp_move (.inl rfl) rfl) ?_; refine awps_stp0 rfl rfl (by decide) (stp_extract rfl rfl rfl) ?_; refine awps_stp0 rfl rfl (by decide) (stp_extract rfl rfl rfl) ?_; refine awps_stp0 rfl rfl (by decide) (stp_move (.inr rfl) rfl) ?_
  refine awps_stp0 rfl rfl (by decide) (stp_move (.inr rfl) rfl) ?_; refine awps_nil ?_; refine thenQ_nil ?_; refine awp_seq ?_; refine awp_region ?_; refine awps_stp0 rfl rfl (by decide) (stp_move (.inl rfl) rfl) ?_; refine awps_call (avs := [_]) true rfl rfl rfl (by decide) en_almagestlaw9_num rfl rfl (num9_ok _) rfl rfl ?_; refine awps_stp0 rfl rfl (by decide) (stp_binI rfl rfl rfl rfl) ?_; refine awps_stp0 rfl rfl (by decide) (stp_move (.inl rfl) rfl) ?_; refine awps_split 23 rfl (fun g23 => ?_) (fun g23 => ?_)
  · try simp only [↓cqA, cqB] at g23
    refine awps_g0 rfl rfl rfl (by decide) rfl (by decide) (stp_move (.inl rfl) rfl) ?_; refine awps_g0 rfl rfl rfl (by decide) rfl (by decide) (stp_call (avs := [_]) true rfl en_almagestlaw9_num rfl rfl (num9_ok _) (fun _ => rfl) rfl) ?_; refine awps_g0 rfl rfl rfl (by decide) rfl (by decide) (stp_binI rfl rfl rfl rfl) ?_; refine awps_stp0 rfl rfl (by decide) (stp_pick rfl rfl rfl) ?_; refine awps_stp0 rfl rfl (by decide) (stp_move (.inl rfl) rfl) ?_; refine awps_split 28 rfl (fun g28 => ?_) (fun g28 => ?_)
    · try simp only [↓cqA, cqB] at g28
      refine awps_g0 rfl rfl rfl (by decide) rfl (by decide) (stp_move (.inl rfl) rfl) ?_; refine awps_g0 rfl rfl rfl (by decide) rfl (by decide) (stp_binI rfl rfl rfl rfl) ?_; refine awps_stp0 rfl rfl (by decide) (stp_pick rfl rfl rfl) ?_; refine awps_stp0 rfl rfl (by decide) (stp_move (.inr rfl) rfl) ?_; refine awps_nil ?_; refine thenQ_nil ?_; refine awp_ret ?_
      -- leaf g23Tg28T
      refine ret0 (noL hL) (.inl rfl) (resAs_tmp rfl (resAs_nil)) ?_ ?_
      · rfl
      first
      | exact ⟨rfl, rfl⟩
      | exact absurd trivial (by assumption)
    try simp only [↓cqA, cqB] at g28
    refine awps_gs rfl rfl rfl rfl (by decide) rfl (by decide) ?_; refine awps_gs rfl rfl rfl rfl (by decide) rfl (by decide) ?_; refine awps_stp0 rfl rfl (by decide) (stp_pick rfl rfl rfl) ?_; refine awps_stp0 rfl rfl (by decide) (stp_move (.inr rfl) rfl) ?_; refine awps_nil ?_; refine thenQ_nil ?_; refine awp_ret ?_
    -- leaf g23Tg28F
    refine ret0 (noL hL) (.inl rfl) (resAs_tmp rfl (resAs_nil)) ?_ ?_
    · rfl
    first
    | exact ⟨rfl, rfl⟩
    | exact absurd trivial (by assumption)
  try simp only [↓cqA, cqB] at g23
  refine awps_gs rfl rfl rfl rfl (by decide) rfl (by decide) ?_; refine awps_gs rfl rfl rfl rfl (by decide) rfl (by decide) ?_; refine awps_gs rfl rfl rfl rfl (by decide) rfl (by decide) ?_; refine awps_stp0 rfl rfl (by decide) (stp_pick rfl rfl rfl) ?_; refine awps_stp0 rfl rfl (by decide) (stp_move (.inl rfl) rfl) ?_; refine awps_gs rfl rfl rfl rfl (by decide) rfl (by decide) ?_
  refine awps_gs rfl rfl rfl rfl (by decide) rfl (by decide) ?_; refine awps_stp0 rfl rfl (by decide) (stp_pick rfl rfl rfl) ?_; refine awps_stp0 rfl rfl (by decide) (stp_move (.inr rfl) rfl) ?_; refine awps_nil ?_; refine thenQ_nil ?_; refine awp_ret ?_
  -- leaf g23F
  refine ret0 (noL hL) (.inl rfl) (resAs_tmp rfl (resAs_nil)) ?_ ?_
  · rfl
  first
  | exact ⟨rfl, rfl⟩
  | exact absurd trivial (by assumption)
end Go.Proofs.Ytdecgkhdbfgldaa

set_option linter.unusedVariables false
set_option linter.unusedSimpArgs false
set_option maxRecDepth 8000
namespace Go.Proofs.Ytdecgkhdbfgldaa
open Go
def eqF (a b : Ft) : Bool := eqT 5 a.t b.t && (a.fr == b.fr && a.to == b.to)
end Go.Proofs.Ytdecgkhdbfgldaa

set_option linter.unusedVariables false
set_option linter.unusedSimpArgs false
set_option maxRecDepth 8000
namespace Go.Proofs.Ytdecgkhdbfgldaa
open Go
theorem fact_parts {f : Ft} (h : factB f = true) : mayT f.t = true ∧ f.t.shp ∧ dle 5 f.t := ⟨factB_may h, may_shp (factB_may h), may_dle (factB_may h)⟩
theorem cmpF_zero {a b : Ft} (hd : dle 5 a.t) : cmpF a b = 0 ↔ eqF a b = true := by
  have h1 := cmpT_zero 5 a.t b.t hd
  have h2 := cmpI_zero a.fr b.fr
  have h3 := cmpI_zero a.to b.to
  simp only [cmpF, orL, eqF, Bool.and_eq_true, beq_iff_eq, ← h1, ← h2, ← h3]
  split
  · rename_i e1
    split
    · rename_i e2
      split
      · rename_i e3; simp [e1, e2, e3]
      · rename_i e3; simp [e1, e2, e3]
    · rename_i e2; simp [e1, e2]
  · rename_i e1; simp [e1]
end Go.Proofs.Ytdecgkhdbfgldaa

set_option linter.unusedVariables false
set_option linter.unusedSimpArgs false
namespace Go.Proofs.Ytdecgkhdbfgldaa
open Go
structure TP {α : Type} (f : α → α → Int) : Prop where
  anti : ∀ a b, f b a = - f a b
  tr : ∀ a b c, f a b ≤ 0 → f b c ≤ 0 → f a c ≤ 0
section
variable {α : Type} {f g : α → α → Int}
theorem TP.self (h : TP f) (a : α) : f a a = 0 := by have := h.anti a a; omega
theorem TP.lt1 (h : TP f) {a b c : α} (h1 : f a b < 0) (h2 : f b c ≤ 0) : f a c < 0 := by
  have h3 := h.tr a b c (by omega) h2
  by_cases e : f a c = 0
  · have h4 : f c a ≤ 0 := by rw [h.anti a c]; omega
    have h5 := h.tr b c a h2 h4
    have := h.anti a b; omega
  · omega
theorem TP.lt2 (h : TP f) {a b c : α} (h1 : f a b ≤ 0) (h2 : f b c < 0) : f a c < 0 := by
  have h3 := h.tr a b c h1 (by omega)
  by_cases e : f a c = 0
  · have h4 : f c a ≤ 0 := by rw [h.anti a c]; omega
    have h5 := h.tr c a b h4 h1
    have := h.anti b c; omega
  · omega
theorem TP.eq (h : TP f) {a b c : α} (h1 : f a b = 0) (h2 : f b c = 0) : f a c = 0 := by
  have h3 := h.tr a b c (by omega) (by omega)
  have h4 := h.tr c b a (by rw [h.anti b c]; omega) (by rw [h.anti a b]; omega)
  have := h.anti a c; omega
theorem TP.lex (hf : TP f) (hg : TP g) : TP (fun a b => if f a b = 0 then g a b else f a b) := by
  refine ⟨fun a b => ?_, fun a b c h1 h2 => ?_⟩
  · have ha := hf.anti a b
    show (if f b a = 0 then g b a else f b a) = - (if f a b = 0 then g a b else f a b)
    by_cases e : f a b = 0
    · rw [if_pos e, if_pos (by omega)]; exact hg.anti a b
    · rw [if_neg e, if_neg (by omega)]; exact ha
  · replace h1 : (if f a b = 0 then g a b else f a b) ≤ 0 := h1
    replace h2 : (if f b c = 0 then g b c else f b c) ≤ 0 := h2
    show (if f a c = 0 then g a c else f a c) ≤ 0
    by_cases e1 : f a b = 0
    · rw [if_pos e1] at h1
      by_cases e2 : f b c = 0
      · rw [if_pos e2] at h2
        rw [if_pos (hf.eq e1 e2)]
        exact hg.tr a b c h1 h2
      · rw [if_neg e2] at h2
        have := hf.lt2 (a := a) (b := b) (c := c) (by omega) (by omega)
        rw [if_neg (by omega)]; omega
    · rw [if_neg e1] at h1
      have h2' : f b c ≤ 0 := by
        by_cases e2 : f b c = 0
        · omega
        · rw [if_neg e2] at h2; exact h2
      have := hf.lt1 (a := a) (b := b) (c := c) (by omega) h2'
      rw [if_neg (by omega)]; omega
theorem TP.zero : TP (fun _ _ : α => 0) := ⟨fun _ _ => rfl, fun _ _ _ _ _ => Int.le_refl _⟩
theorem TP.map {β : Type} (h : TP f) (m : β → α) : TP (fun a b => f (m a) (m b)) := ⟨fun _ _ => h.anti _ _, fun _ _ _ h1 h2 => h.tr _ _ _ h1 h2⟩
end
theorem TP.int : TP cmpI := by
  refine ⟨fun a b => ?_, fun a b c h1 h2 => ?_⟩
  · simp only [cmpI]; split <;> (try split) <;> (try split) <;> omega
  · simp only [cmpI] at h1 h2 ⊢
    split at h1 <;> split at h2 <;> (try split at h1) <;> (try split at h2) <;> (try split) <;> (try split) <;> omega
theorem cb_anti : ∀ a b : List UInt8, Lib.compareBytes b a = - Lib.compareBytes a b
  | [], [] => rfl
  | [], _ :: _ => rfl
  | _ :: _, [] => rfl
  | x :: a, y :: b => by
    have ih := cb_anti a b
    simp only [Lib.compareBytes, UInt8.lt_iff_toNat_lt]
    by_cases h1 : x.toNat < y.toNat
    · rw [if_neg (show ¬ y.toNat < x.toNat by omega), if_pos h1, if_pos h1]; rfl
    · by_cases h2 : y.toNat < x.toNat
      · rw [if_pos h2, if_neg h1, if_pos h2]
      · rw [if_neg h2, if_neg h1, if_neg h1, if_neg h2]; exact ih
theorem cb_tr : ∀ a b c : List UInt8, Lib.compareBytes a b ≤ 0 → Lib.compareBytes b c ≤ 0 → Lib.compareBytes a c ≤ 0
  | [], [], [], _, _ => by simp [Lib.compareBytes]
  | [], _, _ :: _, _, _ => by simp [Lib.compareBytes]
  | [], _ :: _, [], _, h => by simp [Lib.compareBytes]
  | _ :: _, [], _, h, _ => by simp [Lib.compareBytes] at h
  | _ :: _, _ :: _, [], _, h => by simp [Lib.compareBytes] at h
  | x :: a, y :: b, z :: c, h1, h2 => by
    have ih := cb_tr a b c
    simp only [Lib.compareBytes, UInt8.lt_iff_toNat_lt] at h1 h2 ⊢
    by_cases h3 : x.toNat < z.toNat
    · rw [if_pos h3]; decide
    · rw [if_neg h3]
      have e1 : ¬ y.toNat < x.toNat := fun h => by
        rw [if_neg (by omega), if_pos h] at h1; exact absurd h1 (by decide)
      have e2 : ¬ z.toNat < y.toNat := fun h => by
        rw [if_neg (by omega), if_pos h] at h2; exact absurd h2 (by decide)
      rw [if_neg (by omega)]
      rw [if_neg (by omega), if_neg e1] at h1
      rw [if_neg (by omega), if_neg e2] at h2
      exact ih h1 h2
theorem TP.str : TP cmpS := ⟨fun a b => cb_anti _ _, fun a b c h1 h2 => cb_tr _ _ _ h1 h2⟩
theorem cmpL_anti {f : Tm → Tm → Int} (h : TP f) : ∀ l m : List Tm, cmpL f m l = - cmpL f l m
  | [], [] => rfl
  | [], _ :: _ => rfl
  | _ :: _, [] => rfl
  | a :: l, b :: m => by
    have ih := cmpL_anti h l m
    have := h.anti a b
    simp only [cmpL]
    by_cases e : f a b = 0
    · rw [if_pos e, if_pos (by omega)]; exact ih
    · rw [if_neg e, if_neg (by omega)]; exact this
theorem cmpL_tr {f : Tm → Tm → Int} (h : TP f) : ∀ l m n : List Tm, cmpL f l m ≤ 0 → cmpL f m n ≤ 0 → cmpL f l n ≤ 0
  | [], [], [], _, _ => by simp [cmpL]
  | [], _, _ :: _, _, _ => by simp [cmpL]
  | [], _ :: _, [], _, h => by simp [cmpL]
  | _ :: _, [], _, h, _ => by simp [cmpL] at h
  | _ :: _, _ :: _, [], _, h => by simp [cmpL] at h
  | a :: l, b :: m, c :: n, h1, h2 => by
    have ih := cmpL_tr h l m n
    simp only [cmpL] at h1 h2 ⊢
    by_cases e1 : f a b = 0
    · rw [if_pos e1] at h1
      by_cases e2 : f b c = 0
      · rw [if_pos e2] at h2
        rw [if_pos (h.eq e1 e2)]
        exact ih h1 h2
      · rw [if_neg e2] at h2
        have := h.lt2 (a := a) (b := b) (c := c) (by omega) (by omega)
        rw [if_neg (by omega)]; omega
    · rw [if_neg e1] at h1
      have h2' : f b c ≤ 0 := by
        by_cases e2 : f b c = 0
        · omega
        · rw [if_neg e2] at h2; exact h2
      have := h.lt1 (a := a) (b := b) (c := c) (by omega) h2'
      rw [if_neg (by omega)]; omega
theorem TP.list {f : Tm → Tm → Int} (h : TP f) : TP (cmpL f) := ⟨cmpL_anti h, cmpL_tr h⟩
theorem TP.tm : ∀ d : Nat, TP (cmpT d)
  | 0 => by
    have : cmpT 0 = fun _ _ => 0 := by funext a b; rfl
    rw [this]; exact TP.zero
  | d + 1 => by
    have h1 : TP (fun a b : Tm => orL [cmpI a.kind b.kind, cmpI a.n b.n, cmpI a.args.length b.args.length, cmpS a.name b.name]) :=
      (TP.int.map Tm.kind).lex ((TP.int.map Tm.n).lex ((TP.int.map (fun a : Tm => (a.args.length : Int))).lex ((TP.str.map Tm.name).lex TP.zero)))
    have h2 : TP (fun a b : Tm => cmpL (cmpT d) a.args b.args) := (TP.list (TP.tm d)).map Tm.args
    exact h1.lex h2
theorem TP.ft : TP cmpF := ((TP.tm 5).map Ft.t).lex ((TP.int.map Ft.fr).lex ((TP.int.map Ft.to).lex TP.zero))
theorem cmpF_eq {a b : Ft} (hd : dle 5 a.t) : cmpF a b = 0 ↔ a = b := by
  rw [cmpF_zero hd, eqF]
  simp only [Bool.and_eq_true, beq_iff_eq, eqT_iff 5 a.t b.t hd]
  cases a; cases b; simp
def srtF (l : List Ft) : List Ft := l.mergeSort fun a b => decide (cmpF a b ≤ 0)
theorem srtF_perm (l : List Ft) : (srtF l).Perm l := List.mergeSort_perm _ _
theorem srtF_sorted (l : List Ft) : (srtF l).Pairwise fun a b => cmpF a b ≤ 0 := by
  have := List.pairwise_mergeSort (le := fun a b => decide (cmpF a b ≤ 0)) (fun a b c h1 h2 => by
    simp only [decide_eq_true_eq] at h1 h2 ⊢; exact TP.ft.tr a b c h1 h2) (fun a b => by
    have := TP.ft.anti a b
    by_cases h : cmpF a b ≤ 0
    · simp [h]
    · simp only [Bool.or_eq_true, decide_eq_true_eq]; right; omega) l
  exact this.imp (by simp)
theorem srtF_uniq {l m : List Ft} (hd : ∀ a ∈ l, dle 5 a.t) (hp : m.Perm l) (hs : m.Pairwise fun x y => ¬ cmpF y x < 0) : m = srtF l := by
  refine List.Perm.eq_of_pairwise (le := fun a b => cmpF a b ≤ 0) (fun a b ha hb h1 h2 => ?_) (hs.imp fun {x y} h => ?_) (srtF_sorted l) (hp.trans (srtF_perm l).symm)
  · have := TP.ft.anti a b
    exact (cmpF_eq (hd a (hp.mem_iff.1 ha))).1 (by omega)
  · have := TP.ft.anti x y; omega
theorem sameId_eq {a b : Ft} (ha : factB a = true) (hb : factB b = true) (h : sameId a b = true) : a = b := by
  simp only [sameId, Bool.and_eq_true, decide_eq_true_eq] at h
  obtain ⟨⟨h1, h2⟩, h3⟩ := h
  have h4 : keyL 5 a.t ++ [] = keyL 5 b.t ++ [] := by
    simp only [List.append_nil]
    have := congrArg (fun s : ByteArray => s.data.toList) h1
    simpa [keyS] using this
  have h5 := (keyL_inj 5 a.t b.t (fact_parts ha).2.2 (fact_parts hb).2.2 (fact_parts ha).2.1 (fact_parts hb).2.1 [] [] h4).1
  cases a; cases b; simp only at h5 h2 h3; subst h5 h2 h3; rfl
theorem sameId_self (a : Ft) : sameId a a = true := by simp [sameId]
theorem listB_nd {l : List Kp} (h : listB l = true) : (l.map Kp.f).Nodup := by
  obtain ⟨_, hm⟩ := listB_may h
  simp only [listB, Bool.and_eq_true, decide_eq_true_eq, List.all_eq_true, List.mem_range] at h
  rw [List.Nodup, List.pairwise_iff_getElem]
  intro i j hi hj hij
  simp only [List.length_map] at hi hj
  have hx : l[j]? = some l[j] := List.getElem?_eq_getElem hj
  have h1 := h.2 j hj
  rw [stepL_get hx] at h1
  simp only [Bool.and_eq_true, Bool.not_eq_true', List.any_eq_false] at h1
  have h2 := h1.2 l[i] (List.mem_of_getElem? (i := i) (by rw [List.getElem?_take, if_pos hij]; exact List.getElem?_eq_getElem hi))
  intro e
  simp only [List.getElem_map] at e
  rw [e, sameId_self] at h2
  exact h2 rfl
theorem addE_zero {l : List Kp} {n : Int} {f : Ft} (h : addE l n f = 0) : listB l = true ∧ factB f = true ∧ 0 ≤ n ∧ n ≤ 1073741824 ∧ (l.length = 0 ∨ lastS l < n) ∧ atN f l < 0 ∧ l.length < 300 := by
  rw [addE] at h
  split at h
  · cases h
  · rename_i h1
    split at h
    · cases h
    · rename_i h2
      split at h
      · cases h
      · rename_i h3
        have h1 : addC l n f = true := by simpa using h1
        simp only [addC, Bool.and_eq_true, Bool.or_eq_true, decide_eq_true_eq] at h1
        exact ⟨h1.1.1.1.1, h1.1.1.1.2, h1.1.1.2, h1.1.2, h1.2, by omega, by omega⟩
theorem atN_lt {f : Ft} : ∀ {l : List Kp}, atN f l < 0 → ∀ x ∈ l, cmpF x.f f ≠ 0
  | [], _, x, hx => by cases hx
  | k :: l, h, x, hx => by
    rw [atN] at h
    split at h
    · omega
    · rename_i h1
      rcases List.mem_cons.1 hx with rfl | hx
      · exact h1
      · exact atN_lt (l := l) (by split at h <;> omega) x hx
theorem atN_new {f : Ft} {k : Kp} (hk : cmpF k.f f = 0) : ∀ {l : List Kp}, atN f l < 0 → atN f (l ++ [k]) = l.length
  | [], _ => by simp [atN, hk]
  | x :: l, h => by
    have h1 := atN_lt h x (by simp)
    rw [atN, if_neg h1] at h
    have ih := atN_new hk (l := l) (by split at h <;> omega)
    rw [List.cons_append, atN, if_neg h1, ih, if_neg (by omega)]
    simp
theorem add_list {l : List Kp} {n : Int} {f : Ft} (h : addE l n f = 0) : addL l n f = l ++ [⟨n, f⟩] ∧ listB (l ++ [⟨n, f⟩]) = true ∧ findE (l ++ [⟨n, f⟩]) f = 0 ∧ findN (l ++ [⟨n, f⟩]) f = n := by
  obtain ⟨hl, hf, h0, h1, h2, h3, h4⟩ := addE_zero h
  obtain ⟨_, hm⟩ := listB_may hl
  have hst := hl
  simp only [listB, Bool.and_eq_true, decide_eq_true_eq, List.all_eq_true, List.mem_range] at hst
  have hno : (l.any fun y => sameId y.f f) = false := by
    rw [List.any_eq_false]
    intro y hy hs
    have e := sameId_eq (hm y hy) hf hs
    exact atN_lt h3 y hy ((cmpF_eq (fact_parts (hm y hy)).2.2).2 e)
  have hnew : listB (l ++ [⟨n, f⟩]) = true := by
    simp only [listB, Bool.and_eq_true, decide_eq_true_eq, List.all_eq_true, List.mem_range, List.length_append, List.length_singleton]
    refine ⟨by omega, fun i hi => ?_⟩
    by_cases hil : i < l.length
    · have hx : l[i]? = some l[i] := List.getElem?_eq_getElem hil
      have hs := hst.2 i hil
      rw [stepL_get hx] at hs
      have hx2 : (l ++ [(⟨n, f⟩ : Kp)])[i]? = some l[i] := by rw [List.getElem?_append_left hil]; exact hx
      rw [stepL_get hx2, List.getElem?_append_left (show i - 1 < l.length by omega), List.take_append_of_le_length (by omega)]
      exact hs
    · have e : i = l.length := by omega
      have hx2 : (l ++ [(⟨n, f⟩ : Kp)])[i]? = some ⟨n, f⟩ := by rw [e]; simp
      rw [stepL_get hx2, e, List.take_left, hno, hf, decide_eq_true h0]
      by_cases hz : l.length = 0
      · simp [hz]
      · have h5 : lastS l < n := by omega
        rw [List.getElem?_append_left (show l.length - 1 < l.length by omega)]
        simp only [lastS] at h5
        have hx3 : l[l.length - 1]? = some l[l.length - 1] := List.getElem?_eq_getElem (by omega)
        rw [hx3] at h5 ⊢
        simp [h5]
  have hat : atN f (l ++ [⟨n, f⟩]) = l.length := atN_new (TP.ft.self f) h3
  refine ⟨by rw [addL, if_pos h], hnew, ?_, ?_⟩
  · rw [findE, if_pos ⟨hnew, hf⟩, hat, if_neg (by omega)]
  · rw [findN, if_pos ⟨hnew, hf⟩, hat, if_neg (by omega)]
    simp
theorem srtF_rise {l : List Kp} (h : listB l = true) {i : Nat} {a b : Ft} (ha : (srtF (l.map Kp.f))[i]? = some a) (hb : (srtF (l.map Kp.f))[i + 1]? = some b) : ordE a b = 0 ∧ ordN a b < 0 := by
  obtain ⟨_, hm⟩ := listB_may h
  have hmem : ∀ x ∈ srtF (l.map Kp.f), factB x = true := fun x hx => by
    obtain ⟨k, hk, rfl⟩ := List.mem_map.1 ((srtF_perm _).mem_iff.1 hx)
    exact hm k hk
  have hfa := hmem a (List.mem_of_getElem? ha)
  have hfb := hmem b (List.mem_of_getElem? hb)
  have hnd : (srtF (l.map Kp.f)).Nodup := (srtF_perm _).nodup_iff.2 (listB_nd h)
  obtain ⟨hi, ea⟩ := List.getElem?_eq_some_iff.1 ha
  obtain ⟨hj, eb⟩ := List.getElem?_eq_some_iff.1 hb
  have h1 := List.pairwise_iff_getElem.1 (srtF_sorted (l.map Kp.f)) i (i + 1) hi hj (by omega)
  have h2 := List.pairwise_iff_getElem.1 hnd i (i + 1) hi hj (by omega)
  rw [ea, eb] at h1 h2
  have h3 : cmpF a b ≠ 0 := fun e => h2 ((cmpF_eq (fact_parts hfa).2.2).1 e)
  refine ⟨by rw [ordE, hfa, hfb]; rfl, ?_⟩
  rw [ordN, hfa, hfb]
  simp only [Bool.and_self, if_true]; omega
end Go.Proofs.Ytdecgkhdbfgldaa

namespace Go.Proofs
open Go.Shelf
def Try.srtF_ren : Go.Shelf.Ren := ⟨fun | 6 => 85 | 15 => 120 | 14 => 119 | 28 => 146 | 29 => 147 | 20 => 138 | 21 => 139 | 22 => 140 | 23 => 141 | 24 => 142 | 25 => 143 | 26 => 144 | 27 => 145 | 46 => 156 | 47 => 157 | 48 => 158 | 49 => 159 | 50 => 160 | 57 => 171 | n => n, fun | 22 => 43 | 24 => 53 | 25 => 55 | 3 => 3 | 39 => 154 | 0 => 0 | 53 => 173 | 55 => 175 | 4 => 4 | 46 => 167 | 45 => 166 | 50 => 104 | 5 => 5 | 9 => 9 | 66 => 181 | 70 => 123 | 76 => 193 | 77 => 194 | n => n, fun | n => n⟩
theorem Try.srtF : Go.Proofs.SlLaysF0.n6 Try.prog Try.srtF_ren := {
  mixed := by kernel_rfl
  f6 := ⟨Try.f85.name, by decide, Try.func85.trans (congrArg some (by kernel_rfl))⟩
  f14 := ⟨Try.f119.name, by decide, Try.func119.trans (congrArg some (by kernel_rfl))⟩
  f15 := Try.func120.trans (congrArg some (by kernel_rfl))
  f20 := ⟨Try.f138.name, by decide, Try.func138.trans (congrArg some (by kernel_rfl))⟩
  f21 := ⟨Try.f139.name, by decide, Try.func139.trans (congrArg some (by kernel_rfl))⟩
  f22 := ⟨Try.f140.name, by decide, Try.func140.trans (congrArg some (by kernel_rfl))⟩
  f23 := ⟨Try.f141.name, by decide, Try.func141.trans (congrArg some (by kernel_rfl))⟩
  f24 := ⟨Try.f142.name, by decide, Try.func142.trans (congrArg some (by kernel_rfl))⟩
  f25 := ⟨Try.f143.name, by decide, Try.func143.trans (congrArg some (by kernel_rfl))⟩
  f26 := ⟨Try.f144.name, by decide, Try.func144.trans (congrArg some (by kernel_rfl))⟩
  f27 := ⟨Try.f145.name, by decide, Try.func145.trans (congrArg some (by kernel_rfl))⟩
  f28 := Try.func146.trans (congrArg some (by kernel_rfl))
  f29 := Try.func147.trans (congrArg some (by kernel_rfl))
  f46 := ⟨Try.f156.name, by decide, Try.func156.trans (congrArg some (by kernel_rfl))⟩
  f47 := Try.func157.trans (congrArg some (by kernel_rfl))
  f48 := Try.func158.trans (congrArg some (by kernel_rfl))
  f49 := ⟨Try.f159.name, by decide, Try.func159.trans (congrArg some (by kernel_rfl))⟩
  f50 := ⟨Try.f160.name, by decide, Try.func160.trans (congrArg some (by kernel_rfl))⟩
  f57 := ⟨Try.f171.name, by decide, Try.func171.trans (congrArg some (by kernel_rfl))⟩
  t0 := Try.underlying0
  a0 := Try.isAgg0
  z0 := Try.sizeOf0
  v0 := Try.zeroValue0
  t3 := Try.underlying3
  a3 := Try.isAgg3
  z3 := Try.sizeOf3
  v3 := Try.zeroValue3
  t4 := Try.underlying4
  a4 := Try.isAgg4
  z4 := Try.sizeOf4
  v4 := Try.zeroValue4
  t5 := Try.underlying5
  a5 := Try.isAgg5
  z5 := Try.sizeOf5
  v5 := Try.zeroValue5
  t9 := Try.underlying9
  a9 := Try.isAgg9
  z9 := Try.sizeOf9
  v9 := Try.zeroValue9
  t22 := Try.underlying43
  a22 := Try.isAgg43
  z22 := Try.sizeOf43
  v22 := Try.zeroValue43
  t25 := Try.underlying55
  a25 := Try.isAgg55
  z25 := Try.sizeOf55
  v25 := Try.zeroValue55
  t39 := Try.underlying154
  a39 := Try.isAgg154
  z39 := Try.sizeOf154
  v39 := Try.zeroValue154
  t45 := Try.underlying166
  a45 := Try.isAgg166
  z45 := Try.sizeOf166
  v45 := Try.zeroValue166
  t46 := Try.underlying167
  a46 := Try.isAgg167
  z46 := Try.sizeOf167
  v46 := Try.zeroValue167
  t50 := Try.underlying104
  a50 := Try.isAgg104
  z50 := Try.sizeOf104
  v50 := Try.zeroValue104
  t53 := Try.underlying173
  a53 := Try.isAgg173
  z53 := Try.sizeOf173
  v53 := Try.zeroValue173
  t55 := Try.underlying175
  a55 := Try.isAgg175
  z55 := Try.sizeOf175
  v55 := Try.zeroValue175
  t66 := Try.underlying181
  a66 := Try.isAgg181
  z66 := Try.sizeOf181
  v66 := Try.zeroValue181
  t70 := Try.underlying123
  a70 := Try.isAgg123
  z70 := Try.sizeOf123
  v70 := Try.zeroValue123
  t76 := Try.underlying193
  a76 := Try.isAgg193
  z76 := Try.sizeOf193
  v76 := Try.zeroValue193
  t77 := Try.underlying194
  a77 := Try.isAgg194
  z77 := Try.sizeOf194
  v77 := Try.zeroValue194 }
end Go.Proofs

set_option linter.unusedVariables false
set_option linter.unusedSimpArgs false
set_option maxRecDepth 8000
namespace Go.Proofs.Ytdecgkhdbfgldaa
open Go
def sortedL (l : List Kp) : List Ft := if listB l = true then srtF (l.map Kp.f) else []
def sortedE (l : List Kp) : Int := if listB l = true then 0 else 1
theorem factsSorted_ok (l : List Kp) (hw : ∀ k ∈ l, k.wf) : PF 44 [.dat false 7 (kpDs l)] (.tup [.dat true 6 (ftDs (sortedL l)), iv (sortedE l)]) := by
  have hlen := kpDs_length l
  refine AC_leP (Post := fun r O => ((listB l = false ∧ r = .tup [.imm (.slice none 0 0), iv 1]) ∨ (listB l = true ∧ r = .tup [.dat true 6 (ftDs (srtF (l.map Kp.f))), iv 0])) ∧ O = []) ?_ (fun r O' h => by
    obtain ⟨⟨h1, rfl⟩ | ⟨h1, rfl⟩, rfl⟩ := h
    · exact ⟨_, .tup (.cons (.nil (f := true) (k := 6)) (.cons .refl .nil)), by rw [sortedL, sortedE, if_neg (by simp [h1]), if_neg (by simp [h1])]; rfl, rfl⟩
    · exact ⟨_, .refl, by rw [sortedL, sortedE, if_pos h1, if_pos h1], rfl⟩)
  refine AC_intro Try.func44 rfl Try.ntmps44 (Nat.le_of_ble_eq_true rfl) fun c hL hQ hDD => ?_; refine awp_seq ?_; refine awp_region ?_; refine awps_stp0 rfl rfl (by decide) (stp_move (.inr rfl) rfl) ?_; refine awps_stp0 rfl rfl (by decide) (stp_move (.inr rfl) rfl) ?_; refine awps_nil ?_; refine thenQ_nil ?_; refine awp_seq ?_; refine awp_seq ?_; refine awp_region ?_
  refine awps_stp0 rfl rfl (by decide) (stp_move (.inl rfl) rfl) ?_; refine awps_call (avs := [_]) true rfl rfl rfl (by decide) en_facts_List rfl rfl (List_ok l hw) rfl rfl ?_; refine awps_stp0 rfl rfl (by decide) (stp_not rfl rfl) ?_; refine awps_nil ?_; refine thenQ_nil ?_; refine awp_cond rfl (fun c0 => ?_) (fun c0 => ?_)
  · try simp only [↓cqA, cqB] at c0
    refine awp_seq ?_; refine awp_region ?_; refine awps_stp0 rfl rfl (by decide) (stp_move (.inr rfl) rfl) ?_; refine awps_stp0 rfl rfl (by decide) (stp_move (.inr rfl) rfl) ?_; refine awps_nil ?_; refine thenQ_nil ?_; refine awp_ret ?_; refine thenQ_ret (?_)
    -- leaf 0T
    refine ret0 (noL hL) (.inl rfl) (resAs_tmp rfl (resAs_tmp rfl (resAs_nil))) ?_ ?_
    · rfl
    exact ⟨.inl ⟨by simp_all, rfl⟩, rfl⟩
  try simp only [↓cqA, cqB] at c0
  have hlb : listB l = true := by simp_all
  obtain ⟨hl3, hlm⟩ := listB_may hlb
  have hmay : ∀ k ∈ l, mayT k.f.t = true := fun k hk => factB_may (hlm k hk)
  refine awp_skip ?_; refine thenQ_nil ?_; refine awp_seq ?_; refine awp_region ?_; refine awps_stp0 rfl rfl (by decide) (stp_move (.inr rfl) rfl) ?_; refine awps_nil ?_; refine thenQ_nil ?_; refine awp_seq ?_; refine awp_seq ?_; refine awp_region ?_; refine awps_stp0 rfl rfl (by decide) (stp_move (.inl rfl) rfl) ?_; refine awps_u rfl rfl (by decide) (stpU_call (avs := [_]) true rfl en_facts_Owns rfl rfl (AC_rnE 2 77 (Owns_ok l hl3 hw hmay)) (fun _ => rfl) rfl) rfl ?_; refine awps_sub (sub_freeze (l := 77) rfl (by decide) (noL hL _) rfl rfl) ?_
  refine awps_stp0 rfl rfl (by decide) (stp_len_dat rfl sl_S_api_Kept rfl) ?_; refine awps_stp0 rfl rfl (by decide) (stp_move (.inl rfl) rfl) ?_; refine awps_nil ?_; refine thenQ_nil ?_; refine awp_block ?_; refine awp_while (l.length) (fun k => k ≤ l.length) (fun k => ⟨[(4, .row 4), (11, .dat true 7 (kpDs l)), (12, iv (kpDs l).length), (13, iv (k : Int))], [(4, .rowd 53 6 true (ftDs ((l.take k).map Kp.f)))]⟩) (by omega) ?_ (fun k hk hp => ?_)
  · exact Sub.trans (sub_nil_row (t := 4) (l := 4) 53 6 true rfl rfl) (sub_re (SubT.cons (lk_eq rfl (by first | rfl | simp)) (SubT.cons (lk_eq rfl (by first | rfl | simp)) (SubT.cons (lk_eq rfl (by first | rfl | simp)) (SubT.cons (lk_eq rfl (by first | rfl | simp)) (SubT.nil))))) (SubO.cons (ok_eq rfl (by rfl)) (SubO.nil)) rfl rfl (noL' (noL hL) _))
  have hl2 : (ftDs ((l.take k).map Kp.f)).length ≤ l.length := by rw [ftDs_length, List.length_map, List.length_take]; omega
  refine awp_seq ?_; refine awp_region ?_; refine awps_stp0 rfl rfl (by decide) (stp_binI rfl rfl rfl rfl) ?_; refine awps_nil ?_; refine thenQ_nil ?_; refine awp_seq ?_; refine awp_cond rfl (fun c1 => ?_) (fun c1 => ?_)
  · try simp only [↓cqA, cqB] at c1
    obtain ⟨u, hu⟩ := get_of_lt (l := l) (k := k) (by omega)
    refine awp_skip ?_; refine thenQ_nil ?_; refine awp_seq ?_; refine awp_block ?_; refine awp_seq ?_; refine awp_region ?_; refine awps_stp0 rfl rfl (by decide) (stp_indexAddr rfl sl_S_api_Kept rfl rfl (by omega) (kpDs_get hu)) ?_; refine awps_stp0 rfl rfl (by decide) (stp_load_elpa rfl tf_api_Kept rfl rfl) ?_
    refine awps_stp1 rfl rfl (by decide) (stp_alloc 6 rfl zv_api_Kept rfl) rfl ?_; refine awps_store rfl rfl rfl tf_api_Kept rfl rfl rfl rfl rfl rfl rfl rfl rfl ?_; refine awps_nil ?_; refine thenQ_nil ?_; refine awp_region ?_; refine awps_stp0 rfl rfl (by decide) (stp_move (.inl rfl) rfl) ?_; refine awps_stp0 rfl rfl (by decide) (stp_fieldAddr rfl fo_api_Kept_1 rfl) ?_; refine awps_stp0 rfl rfl (by decide) (stp_load rfl tf_api_Fact rfl rfl rfl rfl rfl) ?_
    refine awps_stp1 rfl rfl (by decide) (stp_buildSlice 20 rfl sl_S_api_Fact zv_api_Fact rfl rfl (by decide) (by decide) (by decide) rfl rfl rfl) rfl ?_; refine awps_u rfl rfl (by decide) (stpU_append1 21 ta_S_api_Fact rfl rfl rfl rfl rfl rfl rfl rfl (noL hL _) (by omega) rfl) rfl ?_
    refine awps_stp0 rfl rfl (by decide) (stp_move (.inr rfl) rfl) ?_; refine awps_nil ?_; refine inQ_nil ?_; refine thenQ_nil ?_; refine awp_region ?_; refine awps_stp0 rfl rfl (by decide) (stp_add rfl rfl rfl (by omega)) ?_; refine awps_stp0 rfl rfl (by decide) (stp_move (.inl rfl) rfl) ?_; refine awps_nil ?_; refine thenQ_nil ?_; refine ⟨?_, ?_, ?_⟩
    · skip
      omega
    · skip
      omega
    exact Sub.trans (sub_rename 21 4 (noL hL _) (noL hL _)) (sub_re (SubT.cons (lk_eq rfl (by first | rfl | simp)) (SubT.cons (lk_eq rfl (by first | rfl | simp)) (SubT.cons (lk_eq rfl (by first | rfl | simp)) (SubT.cons (lk_eq rfl (by first | rfl | simp)) (SubT.nil))))) (SubO.cons (ok_eq rfl (by rw [take_snoc hu, List.map_append, ftDs, ftDs, List.map_append]; rfl)) (SubO.nil)) rfl rfl (noL' (noL hL) _))
  try simp only [↓cqA, cqB] at c1
  refine awp_exit ?_; refine thenQ_exit (thenQ_exit (inQ_hit ?_)); refine thenQ_nil ?_; refine awp_seq ?_; refine awp_region ?_; refine awps_stp0 rfl rfl (by decide) (stp_move (.inl rfl) rfl) ?_
  refine awps_sort Try.srtF (k := 6) (by decide) tf_api_Fact (sf := 85) rfl en_facts_Compare en_slices_SortFunc_api_Fact_api_Fact (toD := ftD) (es := l.map Kp.f) (cf := cmpF) rfl rfl (by decide) rfl rfl rfl (by rw [List.take_of_length_le (by omega)]; rfl) (by rw [List.length_map]; omega) (fun x hx y hy => ?_) (fun x _ => by rw [TP.ft.self]; decide) (fun x _ y _ z _ h1 h2 => TP.ft.lt1 h1 (by omega)) (fun x _ y _ z _ h1 h2 h3 => ?_) (fun es' hp hs => ?_)
  · obtain ⟨kx, hkx, rfl⟩ := List.mem_map.1 hx
    obtain ⟨ky, hky, rfl⟩ := List.mem_map.1 hy
    exact factsCompare_ok _ _ (mayT_dle (hmay kx hkx)).1 (hw kx hkx).2 (hw ky hky).2
  · have h4 := TP.ft.anti x y
    have h5 := TP.ft.anti y z
    have h6 := TP.ft.anti x z
    have h7 := TP.ft.tr z y x (by omega) (by omega)
    omega
  obtain rfl := srtF_uniq (l := l.map Kp.f) (fun a ha => by obtain ⟨kx, hkx, rfl⟩ := List.mem_map.1 ha; exact (mayT_dle (hmay kx hkx)).1) hp hs
  refine awps_nil ?_; refine thenQ_nil ?_; refine awp_seq ?_; refine awp_sub (sub_freeze (l := 4) rfl (by decide) (noL hL _) rfl rfl) ?_; refine awp_region ?_; refine awps_stp0 rfl rfl (by decide) (stp_move (.inl rfl) rfl) ?_; refine awps_stp0 rfl rfl (by decide) (stp_move (.inr rfl) rfl) ?_; refine awps_stp0 rfl rfl (by decide) (stp_move (.inr rfl) rfl) ?_; refine awps_nil ?_; refine thenQ_nil ?_; refine awp_ret ?_
  -- leaf 0F1F
  refine ret0 (noL hL) (.inl rfl) (resAs_tmp rfl (resAs_tmp rfl (resAs_nil))) ?_ ?_
  · rfl
  exact ⟨.inr ⟨hlb, rfl⟩, rfl⟩
end Go.Proofs.Ytdecgkhdbfgldaa
