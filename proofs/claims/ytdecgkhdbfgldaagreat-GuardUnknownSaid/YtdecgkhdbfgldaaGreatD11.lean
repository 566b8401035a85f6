/- Part 11 of the proof: Ft, Fu, Fv, Fw, Fx, Fy, Fz, Ga, Gb, Gc, Gd, Rdb, Gf. -/
import Derived.Test.YtdecgkhdbfgldaaGreatD10
set_option linter.unusedVariables false
set_option linter.unusedSimpArgs false
set_option maxRecDepth 8000
namespace Go.Proofs.YtdecgkhdbfgldaaGreat
open Go
def goodB (one l : List Bd) : Bool := l.all (fun b => decide (intoE one b.t = 0))
def subB (one l : List Bd) : List Bd := l.map (fun b => ⟨b.name, putT one b.t⟩)
def qci (l : List Bd) (name : ByteArray) (t : Tm) : List Bd := if 16 ≤ l.length ∨ goodB [⟨name, t⟩] l = false then [] else ins (subB [⟨name, t⟩] l) (posB l name) ⟨name, t⟩
def standE (l : List Bd) (name : ByteArray) (t : Tm) : Int := if 16 ≤ l.length ∨ goodB [⟨name, t⟩] l = false then 2 else 0
theorem subB_pos (one : List Bd) (s : ByteArray) : ∀ l : List Bd, posB (subB one l) s = posB l s
  | [] => rfl
  | b :: l => by
    have ih := subB_pos one s l
    simp only [posB, subB] at ih
    by_cases h : ltS b.name s = true
    · simp [posB, subB, List.takeWhile_cons, h, ih]
    · simp [posB, subB, List.takeWhile_cons, h]
theorem subB_ris (one : List Bd) {l : List Bd} (h : RisB l) : RisB (subB one l) := List.pairwise_map.2 (h.imp fun h => h)
theorem qco (one l : List Bd) : (subB one l).length = l.length := by simp [subB]
theorem one_bok {name : ByteArray} {t : Tm} (hn : name.size ≤ 140737488351232) (ht : t.wf) (hm : mayT t = true) : BOk [⟨name, t⟩] := ⟨List.pairwise_singleton _ _, by simp, fun b hb => by simp only [List.mem_singleton] at hb; subst hb; exact ⟨⟨hn, ht⟩, hm⟩⟩
theorem Stand_ok (l : List Bd) (hl : BOk l) (name : ByteArray) (hn : name.size ≤ 140737488351232) (t : Tm) (ht : t.wf) (hm : mayT t = true) : PF 93 [bdA l, sv name, tmA false t] (.tup [.dat true 5 (bdDs (qci l name t)), iv (standE l name t)]) := by
  have hlen := qak l
  have hone := one_bok hn ht hm
  have hll := hl.len
  have key := Own_ok 5 t (qa6 hm).1 ht
  rw [own_may 5 t 24 hm] at key
  refine AC_leP (Post := fun r O => ((16 ≤ l.length ∨ goodB [⟨name, t⟩] l = false) ∧ r = .tup [.imm (.slice none 0 0), iv 2] ∨ r = .tup [.dat true 5 (bdDs (qci l name t)), iv (standE l name t)]) ∧ O = []) ?_ (fun r O' h => by
    obtain ⟨⟨h1, rfl⟩ | rfl, rfl⟩ := h
    · exact ⟨_, .tup (.cons (.nil (f := true) (k := 5)) (.cons .refl .nil)), by rw [qci, standE, if_pos h1, if_pos h1]; rfl, rfl⟩
    · exact ⟨_, .refl, rfl, rfl⟩)
  refine qG Tryz.func93 rfl Tryz.ntmps93 (Nat.le_of_ble_eq_true rfl) fun c hL hQ hDD => (qd (qb (qz rfl rfl (by decide) (qab 5 rfl rfl rfl) rfl (zN rfl rfl rfl (zN rfl rfl rfl (qc (qa ?_))))))); refine qd (qd (qb (zM rfl rfl rfl (zA rfl (qy rfl qp rfl) ?_))))
  refine zA rfl (qn rfl rfl rfl rfl) (qc (qa (qu rfl (fun c0 => ?_) (fun c0 => ?_))))
  · try simp only [↓cqA, cqB] at c0
    refine qd (qb (zN rfl rfl rfl (zN rfl rfl rfl (qc (qa (qm (ql (?_))))))))
    -- leaf 0T
    refine ret0 (noL hL) (.inl rfl) (qf rfl (qf rfl (qh))) ?_ ?_
    · rfl
    exact ⟨.inl ⟨.inl (by omega), rfl⟩, rfl⟩
  try simp only [↓cqA, cqB] at c0
  refine qt (qa (qd (qb (zM rfl rfl rfl (zA rfl (qw rfl qi rfl rfl rfl rfl) ?_)))))
  refine zA rfl (qbx rfl qaD rfl qcU rfl rfl) (qz rfl rfl (by decide) (qS 22 rfl qp qaD rfl rfl (by decide) (by decide) (by decide) rfl rfl rfl) rfl (qbA 22 false 1 rfl rfl rfl rfl (zN rfl rfl rfl (qc ?_))))
  refine qa (qd (qb (zN rfl rfl rfl (qc (qa (qd (qd ?_))))))); refine qb (zM rfl rfl rfl (zA rfl (qy rfl qp rfl) (zM rfl rfl rfl (qc (qa (qB ?_))))))
  refine qV (l.length) (fun k => k ≤ l.length ∧ ∀ (j : Nat) (b : Bd), j < k → l[j]? = some b → intoE [⟨name, t⟩] b.t = 0) (fun k => ⟨[(1, sv name), (5, .ptr 5 0), (8, .row 22), (9, .row 9), (23, bdA l), (24, iv (bdDs l).length), (25, iv (k : Int))], [(5, .box (lift false (tmD t))), (22, .rowd 40 5 false (bdDs [⟨name, t⟩])), (9, .rowd 40 5 true (bdDs (subB [⟨name, t⟩] (l.take k))))]⟩) (⟨by omega, fun j b hj => absurd hj (by omega)⟩) ?_ (fun k hk hp => ?_)
  · exact Sub.trans (qaL (t := 9) (l := 9) 40 5 true rfl rfl) (qI (SubT.cons (zT rfl) (SubT.cons (zT rfl) (SubT.cons (zT rfl) (SubT.cons (zT rfl) (SubT.cons (zT rfl) (SubT.cons (zT rfl) (SubT.cons (zT rfl) (SubT.nil)))))))) (SubO.cons (qag rfl (by rfl)) (SubO.cons (qag rfl (by rfl)) (SubO.cons (qag rfl (by rfl)) (SubO.nil)))) rfl rfl (noL' (noL hL) _))
  have hl2 : (bdDs (subB [⟨name, t⟩] (l.take k))).length ≤ l.length := by rw [qak, qco, List.length_take]; omega
  refine qd (qb (zA rfl (qn rfl rfl rfl rfl) (qc (qa (qd (qu rfl (fun c1 => ?_) (fun c1 => ?_)))))))
  · try simp only [↓cqA, cqB] at c1
    obtain ⟨u, hu⟩ := qK (l := l) (k := k) (by omega)
    have hum := hl.el u (List.mem_of_getElem? hu)
    refine qt (qa (qd (qB (qd (qb (zA rfl (qo rfl qp rfl rfl (by omega) (qaI hu)) (zA rfl (qD rfl qav rfl rfl) ?_)))))))
    refine qz rfl rfl (by decide) (qaf 11 rfl qaD rfl) rfl (qO rfl rfl rfl qav rfl rfl rfl rfl rfl rfl rfl rfl rfl (qc (qa (qd (qb (zM rfl rfl rfl (zA rfl (qg rfl qan rfl) ?_))))))); refine zA rfl (qr rfl qi rfl rfl rfl rfl rfl) ?_
    refine qC (avs := [_, _]) true rfl rfl rfl (by decide) en_bind_Into rfl rfl (Into_ok [⟨name, t⟩] hone u.t (qa6 hum.2).1 hum.1.2) rfl rfl (zM rfl rfl rfl (zA rfl (qY rfl rfl rfl) (zA rfl (qY rfl rfl rfl) ?_)))
    refine qz rfl rfl (by decide) (qaf 12 rfl q6 rfl) rfl (qO rfl rfl rfl qi rfl rfl rfl rfl rfl rfl rfl rfl rfl (zN rfl rfl rfl (qc (qa (qd (qd (qb ?_))))))); refine zM rfl rfl rfl (zA rfl (qn rfl rfl rfl rfl) (qc (qa (qu rfl (fun c2 => ?_) (fun c2 => ?_)))))
    · try simp only [↓cqA, cqB] at c2
      refine qd (qb (zM rfl rfl rfl (zN rfl rfl rfl (zN rfl rfl rfl (qc (qa (qm ?_))))))); refine ql (qL (ql (ql (qL (ql (?_))))))
      -- leaf 0F1T2T
      refine ret0 (noL hL) (.inl rfl) (qf rfl (qf rfl (qh))) ?_ ?_
      · rfl
      refine ⟨.inl ⟨.inr ?_, ?_⟩, rfl⟩
      · refine List.all_eq_false.2 ⟨u, List.mem_of_getElem? hu, by simpa using c2⟩
      · have : intoE [⟨name, t⟩] u.t = 2 := by
          unfold intoE at c2 ⊢
          split
          · rename_i h; rw [if_pos h] at c2; exact absurd rfl c2
          · rfl
        rw [this]; rfl
    try simp only [↓cqA, cqB] at c2
    obtain ⟨hput, hit⟩ := into_may c2
    rw [hit]
    refine qt (qa (qb (zM rfl rfl rfl (zA rfl (qg rfl qai rfl) (zA rfl (qr rfl qT rfl rfl rfl rfl rfl) (zA rfl (qw rfl qi rfl rfl rfl rfl) ?_))))))
    refine zA rfl (qbx rfl qaD rfl qcU rfl rfl) (qz rfl rfl (by decide) (qS 44 rfl qp qaD rfl rfl (by decide) (by decide) (by decide) rfl rfl rfl) rfl (qbt rfl rfl (by decide) (qaA 45 qaW rfl rfl rfl rfl rfl rfl rfl rfl (noL hL _) (by omega) rfl) rfl ?_))
    refine zN rfl rfl rfl (qc (qP (qa (qb (zA rfl (qM rfl rfl rfl (by omega)) (zM rfl rfl rfl (qc ?_))))))); refine qa ?_; refine ⟨?_, ?_, ?_⟩
    · skip
      omega
    · skip
      refine ⟨by omega, fun j b hj hb => ?_⟩
      by_cases hjk : j < k
      · exact hp.2 j b hjk hb
      · rw [show j = k by omega, hu] at hb; cases hb; exact c2
    exact Sub.trans (qaE 45 9 (noL hL _) (noL hL _)) (qI (SubT.cons (zT rfl) (SubT.cons (zT rfl) (SubT.cons (zT rfl) (SubT.cons (zT rfl) (SubT.cons (zT rfl) (SubT.cons (zT rfl) (SubT.cons (zT rfl) (SubT.nil)))))))) (SubO.cons (qag rfl (by rfl)) (SubO.cons (qag rfl (by rfl)) (SubO.cons (qag rfl (by rw [qah hu, subB, subB, List.map_append, bdDs, bdDs, List.map_append]; rfl)) (SubO.nil)))) rfl rfl (noL' (noL hL) _))
  try simp only [↓cqA, cqB] at c1
  have hk2 : l.take k = l := List.take_of_length_le (by omega)
  rw [hk2]
  have hgood : goodB [⟨name, t⟩] l = true := List.all_eq_true.2 fun b hb => by
    obtain ⟨j, hj⟩ := List.getElem?_of_mem hb
    simpa using hp.2 j b (by have := (List.getElem?_eq_some_iff.1 hj).1; omega) hj
  have hris := subB_ris [⟨name, t⟩] hl.ris
  have hsl := qco [⟨name, t⟩] l
  have hbl := qak (subB [⟨name, t⟩] l)
  have hpl := posB_le (subB [⟨name, t⟩] l) name
  refine qQ (qq (qq (q7 ?_))); refine qa (qd (qb (zM rfl rfl rfl (zM rfl rfl rfl ?_))))
  refine qC (avs := [_, _]) true rfl rfl rfl (by decide) en_bind_find rfl rfl (find_ok (subB [⟨name, t⟩] l) name hris (by omega)) rfl rfl (zM rfl rfl rfl (zA rfl (qY rfl rfl rfl) (zA rfl (qY rfl rfl rfl) ?_)))
  refine zN rfl rfl rfl (zN rfl rfl rfl (qc (qa (qd (qb (zM rfl rfl rfl (zM rfl rfl rfl ?_))))))); refine zM rfl rfl rfl (zA rfl (qw rfl qi rfl rfl rfl rfl) ?_)
  refine qC (avs := [_]) true rfl rfl rfl (by decide) en_term_Own rfl rfl (key) rfl rfl (zA rfl (qbx rfl qaD rfl qcU rfl rfl) (qz rfl rfl (by decide) (qS 59 rfl qp qaD rfl rfl (by decide) (by decide) (by decide) rfl rfl rfl) rfl (qbA 59 true 1 rfl rfl rfl rfl (awps_via ⟨[(60, .row 9)], [(9, .rowd 40 5 true (ins (bdDs (subB [⟨name, t⟩] l)) (posB (subB [⟨name, t⟩] l) name) (bdD ⟨name, t⟩)))]⟩ (fun Q2 K => ?_) ?_))))
  · refine qar (qI (T1 := [(53, .row 9), (54, iv (posB (subB [⟨name, t⟩] l) name : Int)), (59, .row 59)]) (O1 := [(9, .rowd 40 5 true (bdDs (subB [⟨name, t⟩] l))), (59, .rowd 40 5 true [bdD ⟨name, t⟩])]) (SubT.cons rfl (SubT.cons rfl (SubT.cons rfl SubT.nil))) (SubO.cons rfl (SubO.cons rfl SubO.nil)) rfl rfl (noL' (noL hL) _)) ?_
    refine awps_open (l := 9) rfl (by decide) (noL hL _) (fun he => ?_) (fun cap h1 h2 => ?_)
    · have hp0 : posB (subB [⟨name, t⟩] l) name = 0 := by rw [he] at hbl; simp at hbl; omega
      rw [hp0] at K ⊢
      rw [he] at K
      refine awps_callT (avs := [_, _, _]) rfl rfl rfl (by decide) qaZ rfl rfl (InsertNil_bd9_ok true (bdD ⟨name, t⟩) rfl) rfl (passT (.cons rfl trivial rfl .nil)) (by rintro r O' ⟨_, rfl⟩; exact frB rfl) ?_
      rintro r O' ⟨rfl, rfl⟩
      exact qar (Sub.trans (qaE 200 9 (noL hL _) (noL hL _)) (qI (SubT.cons rfl SubT.nil) (SubO.cons rfl SubO.nil) rfl rfl (noL' (noL hL) _))) K
    · refine awps_callT (avs := [_, _, _]) rfl rfl rfl (by decide) qaZ rfl rfl (Insert_bd9_ok true _ (bdD ⟨name, t⟩) (posB (subB [⟨name, t⟩] l) name) cap (by omega) h1 h2 (fun x hx => by obtain ⟨b, _, rfl⟩ := List.mem_map.1 hx; rfl) rfl (by omega)) rfl (passT (.cons rfl trivial rfl (.cons rfl trivial rfl .nil))) (by rintro r O' ⟨junk, ⟨_, _, rfl⟩ | ⟨cap', _, _, rfl⟩⟩ <;> exact frB rfl) ?_
      rintro r O' ⟨junk, ⟨rfl, hj, rfl⟩ | ⟨cap', rfl, hj, rfl⟩⟩
      · exact qar (Sub.trans (sub_close (l := 9) (cap := cap) (n := (bdDs (subB [⟨name, t⟩] l)).length + 1) (ins (bdDs (subB [⟨name, t⟩] l)) (posB (subB [⟨name, t⟩] l) name) (bdD ⟨name, t⟩)) rfl (noL hL _) ⟨junk, rfl⟩ (by rw [qa0 _ _ _ (by omega)]) (by rw [hj]; simp)) (qI (SubT.cons (qbg rfl (by simp [AV.rp, clV])) SubT.nil) (SubO.cons rfl SubO.nil) rfl rfl (noL' (noL hL) _))) K
      · exact qar (Sub.trans (sub_close (l := 200) (cap := cap') (n := (bdDs (subB [⟨name, t⟩] l)).length + 1) (ins (bdDs (subB [⟨name, t⟩] l)) (posB (subB [⟨name, t⟩] l) name) (bdD ⟨name, t⟩)) rfl (noL hL _) ⟨junk, rfl⟩ (by rw [qa0 _ _ _ (by omega)]) (by rw [hj]; simp)) (Sub.trans (qI (T1 := [(60, .row 200)]) (O1 := [(200, _)]) (SubT.cons (qbg rfl (by simp [AV.rp, clV])) SubT.nil) (SubO.cons rfl SubO.nil) rfl rfl (noL' (noL hL) _)) (Sub.trans (qaE 200 9 (noL hL _) (noL hL _)) (qI (SubT.cons rfl SubT.nil) (SubO.cons rfl SubO.nil) rfl rfl (noL' (noL hL) _))))) K
  refine zN rfl rfl rfl (zN rfl rfl rfl (qar (qam (l := 9) rfl (by decide) (noL hL _) rfl rfl) (qc (qa (qm ?_)))))
  -- leaf 0F1F
  refine ret0 (noL hL) (.inl rfl) (qf rfl (qf rfl (qh))) ?_ ?_
  · rfl
  refine ⟨.inr ?_, rfl⟩
  have e : bdDs (ins (subB [⟨name, t⟩] l) (posB l name) ⟨name, t⟩) = ins (bdDs (subB [⟨name, t⟩] l)) (posB (subB [⟨name, t⟩] l) name) (bdD ⟨name, t⟩) := by
    rw [subB_pos, bdDs, ins_map]; rfl
  rw [qci, standE, if_neg (by simp [hgood]; omega), if_neg (by simp [hgood]; omega), e]
  rfl
end Go.Proofs.YtdecgkhdbfgldaaGreat

set_option linter.unusedVariables false
set_option linter.unusedSimpArgs false
set_option maxRecDepth 8000
namespace Go.Proofs.YtdecgkhdbfgldaaGreat
open Go
theorem Clone_bd_ok (es : List (List D)) (hes : ∀ d ∈ es, d.length = 5) (hb : es.length * 72 ≤ 140737488355328) : AC Tryz.prog 161 [.dat false 5 es] [] (fun r O => r = .row 2 ∧ O = [(2, .rowd 40 5 false es)]) := by
  refine qG Tryz.func161 rfl Tryz.ntmps161 (Nat.le_of_ble_eq_true rfl) fun c hL hQ hDD => (qd (qb (zN rfl rfl rfl (qc (qa (qd (qd ?_))))))); refine qb (zM rfl rfl rfl (awps_eqnil rfl rfl (by decide) qp rfl rfl (fun g4 hg4 => ?_))); refine qc (qa (qu rfl (fun c0 => ?_) (fun c0 => ?_)))
  · try simp only [↓cqA, cqB] at c0
    refine qd (qb (zN rfl rfl rfl (qar (qaL (t := 2) (l := 2) 40 5 false rfl rfl) (qc (qa (qm (ql (?_))))))))
    change retQ _ _ _ _ _ _ _
    have he := hg4 c0
    subst he
    refine retO (O' := [(2, _)]) (.inl rfl) (qf rfl qh) (SubO.cons rfl SubO.nil) ?_ ?_ (noL' (noL hL) _) ?_
    · rfl
    · rfl
    exact ⟨rfl, rfl⟩
  try simp only [↓cqA, cqB] at c0
  refine qt (qa (qd (qb (qz rfl rfl (by decide) (stp_buildSlice0 5 false rfl qp qaD) rfl (zM rfl rfl rfl (qdg 7 qaW rfl rfl (by decide) rfl rfl rfl (src_dat hes rfl) rfl hes (noL hL _) rfl (by simpa using hb) rfl (zN rfl rfl rfl ?_))))))); refine qc (qa (qm ?_))
  change retQ _ _ _ _ _ _ _
  refine retS (qaE 7 2 (noL hL _) (noL hL _)) (retO (O' := [(2, _)]) (.inl rfl) (qf rfl qh) (SubO.cons rfl SubO.nil) ?_ ?_ (noL' (noL hL) _) ?_)
  · rfl
  · rfl
  exact ⟨rfl, rfl⟩
def groundL (l : List Bd) : Bool := (noteL 5 (l.map Bd.t)).isEmpty
theorem bindGround_ok (l : List Bd) (hl : BOk l) : PF 100 [bdA l] (bv (groundL l)) := by
  have hln := hl.len
  have hwt : Tm.wfs (l.map Bd.t) := wfs_of (fun t ht => by obtain ⟨b, hb, rfl⟩ := List.mem_map.1 ht; exact (hl.el b hb).1.2)
  have hmt : ∀ t ∈ l.map Bd.t, mayT t = true := fun t ht => by obtain ⟨b, hb, rfl⟩ := List.mem_map.1 ht; exact (hl.el b hb).2
  have hsum := noteL_sum hmt
  have hnm := Names_ok 5 (l.map Bd.t) (fun t ht => (qa6 (hmt t ht)).1) hwt (by simp; omega) (by rw [List.length_map] at hsum; omega)
  refine qG Tryz.func100 rfl Tryz.ntmps100 (Nat.le_of_ble_eq_true rfl) fun c hL hQ hDD => ?_; refine qd ?_; refine qb ?_; refine zN rfl rfl rfl ?_; refine qc ?_; refine qa ?_; refine qd ?_; refine qb ?_; refine zM rfl rfl rfl ?_; refine qaN (avs := [_]) false rfl rfl rfl (by decide) en_bind_terms rfl rfl (terms_ok l hl.len) (rfl) (passO .nil) (by rintro r O' ⟨_, rfl⟩; exact frB rfl) (by rintro h; cases h) ?_
  rintro r O' ⟨rfl, rfl⟩
  refine qaN (avs := [_]) true rfl rfl rfl (by decide) en_term_Names rfl rfl (hnm) (rfl) (passO .nil) (by rintro r O' ⟨_, rfl⟩; exact frB rfl) (by rintro - r O' ⟨⟨L, _, _, rfl⟩, rfl⟩; exact ⟨rfl, rfl⟩) ?_
  rintro r O' ⟨⟨L, g1, g2, rfl⟩, rfl⟩
  refine zA rfl (qy rfl qae rfl) (zA rfl (qn rfl rfl rfl rfl) (zN rfl rfl rfl (qc (qa (qm ?_)))))
  -- leaf 
  refine ret0 (noL hL) (.inl rfl) (qf rfl (qh)) ?_ ?_
  · rfl
  refine ⟨qW ?_, rfl⟩
  rw [qaT, natBeq0, groundL, Bool.eq_iff_iff, decide_eq_true_eq, List.length_eq_zero_iff, List.isEmpty_iff]
  constructor
  · rintro rfl; exact List.eq_nil_iff_forall_not_mem.2 fun s hs => by have := (g2 s).2 hs; simp at this
  · intro h; rw [h] at g2; exact List.eq_nil_iff_forall_not_mem.2 fun s hs => by have := (g2 s).1 hs; simp at this
end Go.Proofs.YtdecgkhdbfgldaaGreat

set_option linter.unusedVariables false
set_option linter.unusedSimpArgs false
set_option maxRecDepth 8000
namespace Go.Proofs.YtdecgkhdbfgldaaGreat
open Go
theorem InsertNil_bd6_ok (f : Bool) (d : List D) (hd : d.length = 5) :
    ACt Tryz.prog 156 [.imm (.slice none 0 0), iv 0, .row 32] [(32, .rowd 40 5 f [d])] (fun r O => r = .row 200 ∧ O = [(200, .rowd 40 5 f [d]), (32, .rowd 40 5 f [d])]) := by
  have hone : [d].length = 1 := rfl
  refine ACt_intro Tryz.func156 rfl Tryz.ntmps156 (Nat.le_of_ble_eq_true rfl) fun c hL hDD => (qd (qb (zN rfl rfl rfl (qc (qa (qd (qb ?_))))))); refine zM rfl rfl rfl (zM rfl rfl rfl (zA rfl (stp_slnL rfl qp rfl rfl (by omega)) ?_))
  refine qc (qa (qd (qb (zM rfl rfl rfl (zA rfl (qbI rfl qp rfl rfl) ?_)))))
  refine zN rfl rfl rfl (qc (qa (qd (qd (qb (zM rfl rfl rfl (zA rfl (qn rfl rfl rfl rfl) ?_))))))); refine qc (qa (qu rfl (fun c0 => ?_) (fun c0 => ?_)))
  · try simp only [↓cqA, cqB] at c0
    exfalso; simp at c0
  try simp only [↓cqA, cqB] at c0
  refine qt (qa (qd (qb (zM rfl rfl rfl (zA rfl (stp_len_nil rfl qp rfl) ?_)))))
  refine zN rfl rfl rfl (qc (qa (qd (qd (qb (zM rfl rfl rfl (zM rfl rfl rfl ?_))))))); refine zA rfl (qn rfl rfl rfl rfl) (qc (qa (qu rfl (fun c1 => ?_) (fun c1 => ?_))))
  · try simp only [↓cqA, cqB] at c1
    refine qd ?_; refine qb ?_; refine zM rfl rfl rfl ?_; refine zM rfl rfl rfl ?_; refine qar (qaL (t := 23) (l := 23) 40 5 f rfl rfl) ?_; refine qdg 200 qaW rfl rfl (by decide) rfl rfl rfl (src_rowd rfl rfl) rfl (fun x hx => by simp at hx; rw [hx, hd]) (oneL' hL rfl) rfl (by simp) rfl ?_; refine zN rfl rfl rfl ?_; refine qc ?_; refine qa ?_; refine qm ?_; refine ql (?_)
    -- leaf 0F1T
    change retQ _ _ _ _ _ _ _
    refine retO (O' := [(200, _), (32, _)]) (.inl rfl) (qf rfl qh) (SubO.cons rfl (SubO.cons rfl SubO.nil)) ?_ ?_ (oneL hL rfl) ?_
    · rfl
    · rfl
    exact ⟨rfl, rfl⟩
  try simp only [↓cqA, cqB] at c1
  exact absurd trivial c1
set_option maxHeartbeats 2000000 in
theorem Insert_bd6_ok (f : Bool) (es : List (List D)) (d : List D) (i cap : Nat) (hi : i ≤ es.length) (hcap : es.length ≤ cap) (hmax : cap ≤ maxLen) (hes : ∀ x ∈ es, x.length = 5) (hd : d.length = 5) (hb : (es.length + 1) * 72 ≤ 140737488355328) :
    ACt Tryz.prog 156 [.vw 6 0 es.length cap, iv i, .row 32] [(6, .arr 40 5 f (es.map some ++ List.replicate (cap - es.length) none)), (32, .rowd 40 5 f [d])]
      (fun r O => ∃ junk, (r = .vw 6 0 (es.length + 1) cap ∧ cap = (ins es i d).length + junk.length ∧ O = [(6, .arr 40 5 f ((ins es i d).map some ++ junk)), (32, .rowd 40 5 f [d])]) ∨
        ∃ cap', r = .vw 200 0 (es.length + 1) cap' ∧ cap' = (ins es i d).length + junk.length ∧ O = [(200, .arr 40 5 f ((ins es i d).map some ++ junk)), (6, .arr 40 5 f (es.map some ++ List.replicate (cap - es.length) none)), (32, .rowd 40 5 f [d])]) := by
  have hmx : maxLen = 9223372036854775807 := rfl
  have hlen : (es.map some ++ List.replicate (cap - es.length) (none : Option (List D))).length = cap := by simp; omega
  have hil := qa0 es i d hi
  have hone : [d].length = 1 := rfl
  have hoff1 : ∀ q : Nat, i < q → (if (q : Int) = (i : Int) then 0 else 0 + (i : Int).toNat * 5) = i * 5 := fun q h => by rw [if_neg (by omega)]; simp
  have hoff2 : ∀ q : Nat, i + 1 < q → (if (q : Int) = (i : Int) + ([d].length : Int) then 0 else 0 + ((i : Int) + ([d].length : Int)).toNat * 5) = (i + 1) * 5 := fun q h => by rw [if_neg (by simp; omega), Nat.zero_add]; congr 1
  have hdr : ∀ (j : Nat) (x : List D), (es.drop i)[j]? = some x → es[i + j]? = some x := fun j x hx => by rwa [List.getElem?_drop] at hx
  refine ACt_intro Tryz.func156 rfl Tryz.ntmps156 (Nat.le_of_ble_eq_true rfl) fun c hL hDD => (qd (qb (zN rfl rfl rfl (qc (qa (qd (qb ?_))))))); refine zM rfl rfl rfl (zM rfl rfl rfl (zA rfl (qbW rfl qp rfl rfl (by omega) (by omega) (by omega)) ?_))
  refine qc (qa (qd (qb (zM rfl rfl rfl (zA rfl (qbI rfl qp rfl rfl) ?_)))))
  refine zN rfl rfl rfl (qc (qa (qd (qd (qb (zM rfl rfl rfl (zA rfl (qn rfl rfl rfl rfl) ?_))))))); refine qc (qa (qu rfl (fun c0 => ?_) (fun c0 => ?_)))
  · try simp only [↓cqA, cqB] at c0
    exfalso; simp at c0
  try simp only [↓cqA, cqB] at c0
  refine qt (qa (qd (qb (zM rfl rfl rfl (zA rfl (stp_len_vw rfl qp rfl) ?_)))))
  refine zN rfl rfl rfl (qc (qa (qd (qd (qb (zM rfl rfl rfl (zM rfl rfl rfl ?_))))))); refine zA rfl (qn rfl rfl rfl rfl) (qc (qa (qu rfl (fun c1 => ?_) (fun c1 => ?_))))
  · try simp only [↓cqA, cqB] at c1
    refine qd (qb (zM rfl rfl rfl (zM rfl rfl rfl (awps_append_vw 200 es [d] qaW rfl rfl (by decide) rfl rfl rfl hlen.symm hcap (src_rowd rfl rfl) (by simp) rfl (fun j x hx => some_get hx) rfl (by simpa using hb) (by decide) (fun hroom => ?_) (fun hgr cap' hc1 hc2 => ?_)))))
    · skip
      refine zN rfl rfl rfl (qc (qa (qm (ql (?_)))))
      change retQ _ _ _ _ _ _ _
      have hie : i = es.length := by omega
      refine retO (O' := [(6, _), (32, _)]) (.inl rfl) (qf rfl qh) (SubO.cons rfl (SubO.cons rfl SubO.nil)) ?_ ?_ (LO hL rfl) ?_
      · rfl
      · rfl
      simp only [List.length_singleton] at hroom
      refine ⟨List.replicate (cap - es.length - 1) none, .inl ⟨rfl, by rw [hil, List.length_replicate]; omega, ?_⟩⟩
      congr 3
      subst hie
      have hse := splice_end (es.map some) ([d].map some) (r := List.replicate (cap - es.length) none) (by simp; omega)
      rw [List.length_map] at hse
      rw [hse]
      simp [ins]
    refine zN rfl rfl rfl (qc (qa (qm (ql (?_)))))
    change retQ _ _ _ _ _ _ _
    have hie : i = es.length := by omega
    refine retO (O' := [(200, _), (6, _), (32, _)]) (.inl rfl) (qf rfl qh) (SubO.cons rfl (SubO.cons rfl (SubO.cons rfl SubO.nil))) ?_ ?_ (fun l hl => ?_) ?_
    · rfl
    · rfl
    · have := (hL l).1 hl
      simp only [inD, qaF] at this ⊢
      split
      · rfl
      · exact this
    simp only [List.length_singleton] at hc1
    refine ⟨List.replicate (cap' - (es ++ [d]).length) none, .inr ⟨cap', rfl, by rw [hil, List.length_replicate]; simp; omega, ?_⟩⟩
    subst hie
    simp only [ins, List.take_length, List.drop_length]
  try simp only [↓cqA, cqB] at c1
  refine qt (qa (qd (qd (qb (zM rfl rfl rfl (zM rfl rfl rfl (zA rfl (qM rfl rfl rfl (by omega)) ?_))))))); refine zM rfl rfl rfl (zA rfl (stp_cap_vw rfl qp rfl) ?_)
  refine zA rfl (qn rfl rfl rfl rfl) (qc (qa (qu rfl (fun c2 => ?_) (fun c2 => ?_))))
  · try simp only [↓cqA, cqB] at c2
    refine qd (qb (zM rfl rfl rfl (zM rfl rfl rfl (zA rfl (stp_slvH rfl qp rfl rfl (by omega) (by omega) (by omega)) ?_))))
    refine zM rfl rfl rfl ?_; refine zM rfl rfl rfl ?_; refine zA rfl (qM rfl rfl rfl (by omega)) ?_; refine zM rfl rfl rfl ?_; refine zA rfl (stp_sub rfl rfl rfl (by omega)) ?_; refine awps_growz_vw 200 (es.take i) qaW rfl rfl (by decide) ul_int rfl rfl rfl rfl (by simp; omega) (by simp; omega) (fun j x hx => by
    rw [List.getElem?_take] at hx
    split at hx
    · exact some_get hx
    · cases hx) rfl (by simp; simp at c2; omega) (by simp; omega) (by decide) (fun cap' hc1 hc2 => ?_)
    refine zN rfl rfl rfl (qc (qa (qd (qb (zM rfl rfl rfl (zM rfl rfl rfl (zA rfl (qbW rfl qp rfl rfl (by omega) (by omega) (by omega)) ?_)))))))
    refine zM rfl rfl rfl ?_; refine awps_copy i [d] rfl rfl (by decide) qp rfl rfl rfl (hoff1 _ (by simp at hc1; omega)) (src_rowd rfl rfl) (by simp; omega) (by simp at hc1; simp; omega) ?_; refine qc ?_; refine qa ?_; refine qd ?_; refine q8 8 qbd rfl rfl rfl rfl ?_
    refine qe rfl (by decide) (.run rfl (qk (.inl rfl) rfl)) (qe rfl (by decide) (.run rfl (qk (.inl rfl) rfl)) (qe rfl (by decide) (.run rfl (qk (.inl rfl) rfl)) (qe rfl (by decide) (.run rfl (qM rfl rfl rfl (by omega))) (qe rfl (by decide) (.run rfl (qbW rfl qp rfl rfl (by omega) (by omega) (by omega))) (qe rfl (by decide) (.run rfl (qk (.inl rfl) rfl)) (qe rfl (by decide) (.run rfl (qk (.inl rfl) rfl)) ?_))))))
    refine qe rfl (by decide) (.run rfl (qbW rfl qp rfl rfl (by omega) (by omega) (by omega))) ?_; refine qau ⟨rfl, rfl, ?_⟩; refine awps_copy (i + 1) (es.drop i) rfl rfl (by decide) qp rfl rfl rfl (hoff2 _ (by simp at hc1; omega)) (src_vw (i := i) rfl rfl (hoff1 _ (by omega)) (fun j x hx => some_get (hdr j x hx)) (by simp)) (by simp; omega) (by rw [qaX (by simp; omega)]; simp; omega) ?_; refine qc ?_; refine qa ?_; refine qd ?_
    refine qb (zM rfl rfl rfl (zN rfl rfl rfl (qc (qa (qm (ql (?_)))))))
    change retQ _ _ _ _ _ _ _
    refine retO (O' := [(200, _), (6, _), (32, _)]) (.inl rfl) (qf rfl qh) (SubO.cons rfl (SubO.cons rfl (SubO.cons rfl SubO.nil))) ?_ ?_ (fun l hl => ?_) ?_
    · rfl
    · rfl
    · have := (hL l).1 hl
      simp only [inD, qaF] at this ⊢
      split
      · rfl
      · exact this
    have hc3 : es.length + 1 ≤ cap' := by omega
    refine ⟨List.replicate (cap' - (es.length + 1)) none, .inr ⟨cap', ?_, by rw [hil, List.length_replicate]; omega, ?_⟩⟩
    · rw [show (i : Int).toNat + ((es.length : Int) + ([d].length : Int) - (i : Int)).toNat = es.length + 1 by omega]; rfl
    · have hf := ins_fresh (es.map some) i cap' (some d) none (by simpa using hi) (by simpa using hc3)
      simp only [← List.map_take, ← List.map_drop, List.length_map] at hf
      rw [ins_map, List.map_cons, List.map_nil, hf]
  try simp only [↓cqA, cqB] at c2
  refine qt (qa (qd (qb (zM rfl rfl rfl (zM rfl rfl rfl (zM rfl rfl rfl (zA rfl (qM rfl rfl rfl (by omega)) ?_))))))); refine zA rfl (stp_slvH rfl qp rfl rfl (by omega) (by omega) (by omega)) ?_
  refine zN rfl rfl rfl (qc (qa (qd (qd (qb (zM rfl rfl rfl (zM rfl rfl rfl ?_))))))); refine zM rfl rfl rfl (zM rfl rfl rfl (zA rfl (qM rfl rfl rfl (by omega)) ?_))
  refine zA rfl (qbW rfl qp rfl rfl (by omega) (by omega) (by omega)) ?_; refine zA rfl (stp_overlaps Tryz.func213 (by kernel_rfl) (by kernel_rfl) (by kernel_rfl) (by kernel_rfl) rfl rfl rfl qp rfl rfl rfl rfl rfl (by decide) (by simp; omega) (by simp)) ?_; refine zA rfl (qU rfl rfl) ?_; refine qc ?_; refine qa ?_; refine qu rfl (fun c3 => ?_) (fun c3 => ?_)
  · try simp only [↓cqA, cqB] at c3
    refine qd (q8 8 qbd rfl rfl rfl rfl (qe rfl (by decide) (.run rfl (qk (.inl rfl) rfl)) (qe rfl (by decide) (.run rfl (qk (.inl rfl) rfl)) (qe rfl (by decide) (.run rfl (qk (.inl rfl) rfl)) (qe rfl (by decide) (.run rfl (qM rfl rfl rfl (by omega))) (qe rfl (by decide) (.run rfl (qbW rfl qp rfl rfl (by omega) (by omega) (by omega))) ?_))))))
    refine qe rfl (by decide) (.run rfl (qk (.inl rfl) rfl)) (qe rfl (by decide) (.run rfl (qk (.inl rfl) rfl)) (qe rfl (by decide) (.run rfl (qbW rfl qp rfl rfl (by omega) (by omega) (by omega))) ?_))
    refine qau ⟨rfl, rfl, ?_⟩; refine awps_copy (i + 1) (es.drop i) rfl rfl (by decide) qp rfl rfl rfl (hoff2 _ (by simp at c2; omega)) (src_vw (i := i) rfl rfl (hoff1 _ (by omega)) (fun j x hx => some_get (hdr j x hx)) (by simp; omega)) (by simp; omega) (by simp at c2; simp; omega) ?_; refine qc ?_; refine qa ?_; refine qd ?_; refine qb ?_; refine zM rfl rfl rfl ?_; refine zM rfl rfl rfl ?_
    refine zA rfl (qbW rfl qp rfl rfl (by omega) (by omega) (by omega)) ?_; refine zM rfl rfl rfl ?_; refine awps_copy i [d] rfl rfl (by decide) qp rfl rfl rfl (hoff1 _ (by simp at c2; omega)) (src_rowd rfl rfl) (by simp; omega) (by rw [qaX (by simp; omega)]; simp; omega) ?_; refine qc ?_; refine qa ?_; refine qd ?_; refine qb ?_
    refine zM rfl rfl rfl (zN rfl rfl rfl (qc (qa (qm (ql (?_))))))
    change retQ _ _ _ _ _ _ _
    refine retO (O' := [(6, _), (32, _)]) (.inl rfl) (qf rfl qh) (SubO.cons rfl (SubO.cons rfl SubO.nil)) ?_ ?_ (LO hL rfl) ?_
    · rfl
    · rfl
    have hc3 : es.length + 1 ≤ cap := by omega
    refine ⟨(List.replicate (cap - es.length) none).drop 1, .inl ⟨?_, by rw [hil]; simp; omega, ?_⟩⟩
    · rw [show ((es.length : Int) + ([d].length : Int)).toNat = es.length + 1 by omega]; rfl
    · have hf := ins_splice (es.map some) (List.replicate (cap - es.length) none) i (some d) (by simp; omega) (by simp; omega)
      simp only [← List.map_drop] at hf
      rw [ins_map, List.map_cons, List.map_nil, hf]
  try simp only [↓cqA, cqB] at c3
  exfalso; simp at c3
def qbc (x : List Bd) (y : Bd) : List Bd := if hasB x y.name = true then x else ins x (posB x y.name) y
def qbV (a l : List Bd) : List Bd := l.foldl qbc a
def qbO (x : List Bd) (y : Bd) : Bool := hasB x y.name && !decide (cmpT 5 (lookT x y.name) y.t = 0)
def qcZ : List Bd → List Bd → Bool
  | _, [] => true
  | x, y :: b => !qbO x y && qcZ (qbc x y) b
def qcf (a b : List Bd) : List Bd := if qcZ a b = true ∧ (qbV a b).length ≤ 16 then qbV a b else []
def qcc (a b : List Bd) : Int := if qcZ a b = true then (if (qbV a b).length ≤ 16 then 0 else 2) else 3
theorem bothX_snoc (a l : List Bd) (u : Bd) : qbV a (l ++ [u]) = qbc (qbV a l) u := by simp [qbV]
theorem bothOk_take : ∀ (l a : List Bd) (k : Nat), (∀ (j : Nat) (u : Bd), j < k → l[j]? = some u → qbO (qbV a (l.take j)) u = false) → qcZ a l = qcZ (qbV a (l.take k)) (l.drop k)
  | l, a, 0, _ => by simp [qbV]
  | [], a, k + 1, _ => by simp [qbV, qcZ]
  | y :: l, a, k + 1, h => by
    have h0 := h 0 y (by omega) rfl
    have ih := bothOk_take l (qbc a y) k (fun j u hj hu => by
      have := h (j + 1) u (by omega) (by simpa using hu)
      simpa [qbV] using this)
    simp only [List.take_zero, qbV, List.foldl_nil] at h0
    simp only [qcZ, h0, List.take_succ_cons, List.drop_succ_cons, Bool.not_false, Bool.true_and]
    rw [ih]; rfl
theorem drop_get {α : Type} {l : List α} {k : Nat} {u : α} (h : l[k]? = some u) : l.drop k = u :: l.drop (k + 1) := by
  obtain ⟨h1, rfl⟩ := List.getElem?_eq_some_iff.1 h
  exact List.drop_eq_getElem_cons h1
theorem ins_ris {x : List Bd} {y : Bd} (hr : RisB x) (hh : hasB x y.name = false) : RisB (ins x (posB x y.name) y) := by
  obtain ⟨h1, h2⟩ := posB_spec y.name x
  have hno : ∀ b ∈ x, b.name ≠ y.name := fun b hb e => by
    have : hasB x y.name = true := List.any_eq_true.2 ⟨b, hb, by simpa using e⟩
    rw [hh] at this; cases this
  have hle := posB_le x y.name
  unfold RisB ins
  rw [List.pairwise_append]
  refine ⟨List.Pairwise.sublist (List.take_sublist _ _) hr, List.pairwise_cons.2 ⟨fun b hb => ?_, List.Pairwise.sublist (List.drop_sublist _ _) hr⟩, fun a ha b hb => ?_⟩
  · obtain ⟨j, hj⟩ := List.getElem?_of_mem hb
    rw [List.getElem?_drop] at hj
    have hpos : posB x y.name < x.length := by have := (List.getElem?_eq_some_iff.1 hj).1; omega
    obtain ⟨c, hc⟩ := qK (l := x) (k := posB x y.name) hpos
    have h3 := h2 c hc
    have h4 : ltS y.name c.name = true := by
      rcases ltS_tri c.name y.name with h | h | h
      · rw [h] at h3; cases h3
      · exact absurd h (hno c (List.mem_of_getElem? hc))
      · exact h
    rcases Nat.eq_zero_or_pos j with rfl | hjp
    · rw [Nat.add_zero, hc] at hj; cases hj; exact h4
    · exact ltS_trans h4 (hr.lt (by omega) hc hj)
  · obtain ⟨i, hi⟩ := List.getElem?_of_mem ha
    rw [List.getElem?_take] at hi
    split at hi
    · rename_i hip
      have h3 := h1 i a hip hi
      rcases List.mem_cons.1 hb with rfl | hb
      · exact h3
      · obtain ⟨j, hj⟩ := List.getElem?_of_mem hb
        rw [List.getElem?_drop] at hj
        exact hr.lt (by omega) hi hj
    · cases hi
theorem bothStep_ok {x : List Bd} {y : Bd} (hx : RisB x ∧ ∀ b ∈ x, b.wf ∧ mayT b.t = true) (hy : y.wf ∧ mayT y.t = true) : RisB (qbc x y) ∧ (∀ b ∈ qbc x y, b.wf ∧ mayT b.t = true) ∧ (qbc x y).length ≤ x.length + 1 := by
  unfold qbc
  split
  · exact ⟨hx.1, hx.2, by omega⟩
  · rename_i h
    refine ⟨ins_ris hx.1 (by simpa using h), fun b hb => ?_, by rw [qa0 _ _ _ (posB_le _ _)]; omega⟩
    simp only [ins, List.mem_append, List.mem_cons] at hb
    rcases hb with hb | rfl | hb
    · exact hx.2 b (List.mem_of_mem_take hb)
    · exact hy
    · exact hx.2 b (List.mem_of_mem_drop hb)
theorem bothX_ok {a : List Bd} (ha : RisB a ∧ ∀ b ∈ a, b.wf ∧ mayT b.t = true) : ∀ l : List Bd, (∀ b ∈ l, b.wf ∧ mayT b.t = true) → (RisB (qbV a l) ∧ ∀ b ∈ qbV a l, b.wf ∧ mayT b.t = true) ∧ (qbV a l).length ≤ a.length + l.length := fun l => by
  induction l generalizing a with
  | nil => intro _; exact ⟨ha, by simp [qbV]⟩
  | cons y l ih =>
    intro h
    have h1 := bothStep_ok ha (h y (by simp))
    have h2 := ih ⟨h1.1, h1.2.1⟩ (fun b hb => h b (by simp [hb]))
    have e : qbV a (y :: l) = qbV (qbc a y) l := rfl
    rw [e]
    refine ⟨h2.1, ?_⟩
    have := h2.2; have := h1.2.2
    simp only [List.length_cons]; omega
theorem Both_ok (a b : List Bd) (ha : BOk a) (hb : BOk b) (hab : a.length + b.length ≤ 1000) : PF 101 [bdA a, bdA b] (.tup [bdA (qcf a b), iv (qcc a b)]) := by
  have hlen := qak b
  have hla := qak a
  refine AC_leP (Post := fun r O => (qcf a b = [] ∧ r = .tup [.imm (.slice none 0 0), iv (qcc a b)] ∨ r = .tup [bdA (qcf a b), iv (qcc a b)]) ∧ O = []) ?_ (fun r O' h => by
    obtain ⟨⟨h1, rfl⟩ | rfl, rfl⟩ := h
    · exact ⟨_, .tup (.cons (.nil (f := false) (k := 5)) (.cons .refl .nil)), by rw [h1]; rfl, rfl⟩
    · exact ⟨_, .refl, rfl, rfl⟩)
  refine qG Tryz.func101 rfl Tryz.ntmps101 (Nat.le_of_ble_eq_true rfl) fun c hL hQ hDD => (qd (qb (zN rfl rfl rfl (zN rfl rfl rfl (qc (qa (qd ?_))))))); refine qb ?_
  refine zM rfl rfl rfl ?_; refine qaN (avs := [_]) false rfl rfl rfl (by decide) qdc rfl rfl (Clone_bd_ok (bdDs a) (fun d hd => by obtain ⟨x, _, rfl⟩ := List.mem_map.1 hd; rfl) (by omega)) (rfl) (passO .nil) (by rintro r O' ⟨_, rfl⟩; exact frB rfl) (by rintro h; cases h) ?_
  rintro r O' ⟨rfl, rfl⟩
  refine zN rfl rfl rfl (qc (qa (qd (qd (qb (zM rfl rfl rfl (zA rfl (qy rfl qp rfl) ?_))))))); refine zM rfl rfl rfl (qc (qa (qB ?_)))
  refine qV (b.length) (fun k => k ≤ b.length ∧ ∀ (j : Nat) (u : Bd), j < k → b[j]? = some u → qbO (qbV a (b.take j)) u = false) (fun k => ⟨[(6, .row 6), (13, bdA b), (14, iv (bdDs b).length), (15, iv (k : Int))], [(6, .rowd 40 5 false (bdDs (qbV a (b.take k))))]⟩) (⟨by omega, fun j u hj => absurd hj (by omega)⟩) ?_ (fun k hk hp => ?_)
  · exact Sub.trans (qaE 2 6 (noL hL _) (noL hL _)) (qI (SubT.cons (zT rfl) (SubT.cons (zT rfl) (SubT.cons (zT rfl) (SubT.cons (zT rfl) (SubT.nil))))) (SubO.cons (qag rfl (by rfl)) (SubO.nil)) rfl rfl (noL' (noL hL) _))
  obtain ⟨⟨hr, hel⟩, hln⟩ := bothX_ok ⟨ha.ris, ha.el⟩ (b.take k) (fun u hu => hb.el u (List.mem_of_mem_take hu))
  have hln2 : (b.take k).length ≤ b.length := by simp; omega
  have hlx := qak (qbV a (b.take k))
  generalize hX : qbV a (b.take k) = X at *
  refine qd (qb (zA rfl (qn rfl rfl rfl rfl) (qc (qa (qd (qu rfl (fun c0 => ?_) (fun c0 => ?_)))))))
  · try simp only [↓cqA, cqB] at c0
    obtain ⟨u, hu⟩ := qK (l := b) (k := k) (by omega)
    have hum := hb.el u (List.mem_of_getElem? hu)
    have hpl := posB_le X u.name
    have hXs : qbV a (b.take (k + 1)) = qbc X u := by rw [qah hu, bothX_snoc, hX]
    refine qt (qa (qd (qB (qd (qb (zA rfl (qo rfl qp rfl rfl (by omega) (qaI hu)) (zA rfl (qD rfl qav rfl rfl) ?_)))))))
    refine qz rfl rfl (by decide) (qaf 8 rfl qaD rfl) rfl (qO rfl rfl rfl qav rfl rfl rfl rfl rfl rfl rfl rfl rfl (qc (qa (qd (qb (zM rfl rfl rfl (zA rfl (qg rfl qai rfl) ?_))))))); refine zA rfl (qr rfl qT rfl rfl rfl rfl rfl) ?_
    refine qC (avs := [_, _]) true rfl rfl rfl (by decide) en_bind_find rfl rfl (find_ok X u.name hr (by omega)) rfl rfl (zM rfl rfl rfl (zA rfl (qY rfl rfl rfl) (zA rfl (qY rfl rfl rfl) ?_)))
    refine zN rfl rfl rfl (zN rfl rfl rfl (qc (qa (qB (qd (qb (zM rfl rfl rfl ?_))))))); refine zA rfl (qU rfl rfl) (zN rfl rfl rfl (qc (qa (qu rfl (fun c1 => ?_) (fun c1 => ?_)))))
    · try simp only [↓cqA, cqB] at c1
      have hbad : qbO X u = false := by simp [qbO, c1]
      have hst : qbc X u = ins X (posB X u.name) u := by rw [qbc, if_neg (by simp [c1])]
      refine qb (zM rfl rfl rfl (zM rfl rfl rfl (zA rfl (qw rfl qav rfl rfl rfl rfl) ?_)))
      refine qz rfl rfl (by decide) (qS 32 rfl qp qaD rfl rfl (by decide) (by decide) (by decide) rfl rfl rfl) rfl (qbA 32 false 1 rfl rfl rfl rfl (awps_via ⟨[(33, .row 6), (13, bdA b), (14, iv (bdDs b).length), (15, iv (k : Int))], [(6, .rowd 40 5 false (ins (bdDs X) (posB X u.name) (bdD u)))]⟩ (fun Q2 K => ?_) ?_))
      · refine qar (qI (T1 := [(29, .row 6), (30, iv (posB X u.name : Int)), (32, .row 32), (13, bdA b), (14, iv (bdDs b).length), (15, iv (k : Int))]) (O1 := [(6, .rowd 40 5 false (bdDs X)), (32, .rowd 40 5 false [bdD u])]) (SubT.cons rfl (SubT.cons rfl (SubT.cons rfl (SubT.cons rfl (SubT.cons rfl (SubT.cons rfl SubT.nil)))))) (SubO.cons rfl (SubO.cons rfl SubO.nil)) rfl rfl (noL' (noL hL) _)) ?_
        refine awps_open (l := 6) rfl (by decide) (noL hL _) (fun he => ?_) (fun cap h1 h2 => ?_)
        · have hp0 : posB X u.name = 0 := by rw [he] at hlx; simp at hlx; omega
          rw [hp0] at K ⊢
          rw [he] at K
          refine awps_callT (avs := [_, _, _]) rfl rfl rfl (by decide) qaZ rfl rfl (InsertNil_bd6_ok false (bdD u) rfl) rfl (passT (.cons rfl trivial rfl .nil)) (by rintro r O' ⟨_, rfl⟩; exact frB rfl) ?_
          rintro r O' ⟨rfl, rfl⟩
          exact qar (Sub.trans (qaE 200 6 (noL hL _) (noL hL _)) (qI (SubT.cons rfl (SubT.cons rfl (SubT.cons rfl (SubT.cons rfl SubT.nil)))) (SubO.cons rfl SubO.nil) rfl rfl (noL' (noL hL) _))) K
        · refine awps_callT (avs := [_, _, _]) rfl rfl rfl (by decide) qaZ rfl rfl (Insert_bd6_ok false _ (bdD u) (posB X u.name) cap (by omega) h1 h2 (fun x hx => by obtain ⟨b, _, rfl⟩ := List.mem_map.1 hx; rfl) rfl (by omega)) rfl (passT (.cons rfl trivial rfl (.cons rfl trivial rfl .nil))) (by rintro r O' ⟨junk, ⟨_, _, rfl⟩ | ⟨cap', _, _, rfl⟩⟩ <;> exact frB rfl) ?_
          rintro r O' ⟨junk, ⟨rfl, hj, rfl⟩ | ⟨cap', rfl, hj, rfl⟩⟩
          · exact qar (Sub.trans (sub_close (l := 6) (cap := cap) (n := (bdDs X).length + 1) (ins (bdDs X) (posB X u.name) (bdD u)) rfl (noL hL _) ⟨junk, rfl⟩ (by rw [qa0 _ _ _ (by omega)]) (by rw [hj]; simp)) (qI (SubT.cons (qbg rfl (by simp [AV.rp, clV])) (SubT.cons rfl (SubT.cons rfl (SubT.cons rfl SubT.nil)))) (SubO.cons rfl SubO.nil) rfl rfl (noL' (noL hL) _))) K
          · exact qar (Sub.trans (sub_close (l := 200) (cap := cap') (n := (bdDs X).length + 1) (ins (bdDs X) (posB X u.name) (bdD u)) rfl (noL hL _) ⟨junk, rfl⟩ (by rw [qa0 _ _ _ (by omega)]) (by rw [hj]; simp)) (Sub.trans (qI (T1 := [(33, .row 200), (13, bdA b), (14, iv (bdDs b).length), (15, iv (k : Int))]) (O1 := [(200, _)]) (SubT.cons (qbg rfl (by simp [AV.rp, clV])) (SubT.cons rfl (SubT.cons rfl (SubT.cons rfl SubT.nil)))) (SubO.cons rfl SubO.nil) rfl rfl (noL' (noL hL) _)) (Sub.trans (qaE 200 6 (noL hL _) (noL hL _)) (qI (SubT.cons rfl (SubT.cons rfl (SubT.cons rfl (SubT.cons rfl SubT.nil)))) (SubO.cons rfl SubO.nil) rfl rfl (noL' (noL hL) _))))) K
      refine zN rfl rfl rfl (qc (qP (qP (qa (qb (zA rfl (qM rfl rfl rfl (by omega)) (zM rfl rfl rfl ?_))))))); refine qc (qa ?_); refine ⟨?_, ?_, ?_⟩
      · skip
        omega
      · skip
        refine ⟨by omega, fun j w hj hw => ?_⟩
        by_cases hjk : j < k
        · exact hp.2 j w hjk hw
        · rw [show j = k by omega] at hw ⊢
          rw [hu] at hw; cases hw
          rw [hX]; exact hbad
      exact qI (SubT.cons (zT rfl) (SubT.cons (zT rfl) (SubT.cons (zT rfl) (SubT.cons (zT rfl) (SubT.nil))))) (SubO.cons (qag rfl (by rw [hXs, hst]; try simp only [bdDs, ins_map])) (SubO.nil)) rfl rfl (noL' (noL hL) _)
    try simp only [↓cqA, cqB] at c1
    have c1' : hasB X u.name = true := by simpa using c1
    obtain ⟨v, hv, hvn, hlk⟩ := (lookB_has X u.name hr).2 (by simpa using c1)
    have hvt : lookT X u.name = v.t := by rw [lookT, hlk]; rfl
    have hvm := hel v (List.mem_of_getElem? hv)
    have hlt := (List.getElem?_eq_some_iff.1 hv).1
    refine qd ?_; refine q8 7 qbd rfl rfl rfl rfl ?_; refine qe rfl (by decide) (.run rfl (qk (.inl rfl) rfl)) ?_; refine qe rfl (by decide) (.run rfl (qk (.inl rfl) rfl)) ?_; refine qe rfl (by decide) (.run rfl (qch rfl qp rfl rfl rfl (by omega) (by rw [hlx]; omega))) ?_; refine qe rfl (by decide) (.run rfl (qg rfl qan rfl)) ?_; refine qe rfl (by decide) (.run rfl (stp_load_rowd rfl qi rfl rfl (i := posB X u.name) (j := 1) (by simp) (qaI hv) (by decide) (by decide) rfl)) ?_
    refine qe rfl (by decide) (.run rfl (qg rfl qan rfl)) (qe rfl (by decide) (.run rfl (qr rfl qi rfl rfl rfl rfl rfl)) (qau ⟨rfl, rfl, ?_⟩)); refine qC (avs := [_, _]) true rfl rfl rfl (by decide) qcs rfl rfl (Compare_ok 5 v.t u.t (qa6 hvm.2).1 hvm.1.2 hum.1.2) rfl rfl (zA rfl (qn rfl rfl rfl rfl) (zN rfl rfl rfl (qc (qa (qu rfl (fun c2 => ?_) (fun c2 => ?_))))))
    · try simp only [↓cqA, cqB] at c2
      refine qd (qb (zN rfl rfl rfl (zN rfl rfl rfl (qc (qa (qm (qL (qL (ql (ql (qL (ql (?_)))))))))))))
      -- leaf 0T1F2T
      refine ret0 (noL hL) (.inl rfl) (qf rfl (qf rfl (qh))) ?_ ?_
      · rfl
      have hbk : qcZ a b = false := by
        rw [bothOk_take b a k hp.2, hX, drop_get hu, qcZ]
        have : qbO X u = true := by simp [qbO, hvt, c2]; simpa using c1
        rw [this]; rfl
      exact ⟨.inl ⟨by rw [qcf, if_neg (by simp [hbk])], by rw [qcc, if_neg (by simp [hbk])]; rfl⟩, rfl⟩
    try simp only [↓cqA, cqB] at c2
    have hbad : qbO X u = false := by simp [qbO, hvt, c2]
    have hst : qbc X u = X := by rw [qbc, if_pos (by simpa using c1)]
    refine qt (qP (qP (qa (qb (zA rfl (qM rfl rfl rfl (by omega)) (zM rfl rfl rfl (qc ?_))))))); refine qa ?_; refine ⟨?_, ?_, ?_⟩
    · skip
      omega
    · skip
      refine ⟨by omega, fun j w hj hw => ?_⟩
      by_cases hjk : j < k
      · exact hp.2 j w hjk hw
      · rw [show j = k by omega] at hw ⊢
        rw [hu] at hw; cases hw
        rw [hX]; exact hbad
    exact qI (SubT.cons (zT rfl) (SubT.cons (zT rfl) (SubT.cons (zT rfl) (SubT.cons (zT rfl) (SubT.nil))))) (SubO.cons (qag rfl (by rw [hXs, hst]; try simp only [bdDs, ins_map])) (SubO.nil)) rfl rfl (noL' (noL hL) _)
  try simp only [↓cqA, cqB] at c0
  have hk2 : b.take k = b := List.take_of_length_le (by omega)
  rw [hk2] at hX
  have hgo : qcZ a b = true := by rw [bothOk_take b a k hp.2, List.drop_eq_nil_of_le (by omega)]; rfl
  refine qQ (qq (qq (q7 ?_))); refine qa (qd (qd (qb (zM rfl rfl rfl (zA rfl (qbI rfl qp rfl rfl) (zA rfl (qn rfl rfl rfl rfl) (qc ?_))))))); refine qa (qu rfl (fun c3 => ?_) (fun c3 => ?_))
  · try simp only [↓cqA, cqB] at c3
    refine qd (qb (zN rfl rfl rfl (zN rfl rfl rfl (qc (qa (qm (ql (?_))))))))
    -- leaf 0F3T
    refine ret0 (noL hL) (.inl rfl) (qf rfl (qf rfl (qh))) ?_ ?_
    · rfl
    exact ⟨.inl ⟨by rw [qcf, if_neg (by rw [hX]; omega)], by rw [qcc, if_pos hgo, if_neg (by rw [hX]; omega)]; rfl⟩, rfl⟩
  try simp only [↓cqA, cqB] at c3
  refine qt (qa (qd (qb (zM rfl rfl rfl (zN rfl rfl rfl (zN rfl rfl rfl (qar (qam (l := 6) rfl (by decide) (noL hL _) rfl rfl) ?_))))))); refine qc (qa (qm ?_))
  -- leaf 0F3F
  refine ret0 (noL hL) (.inl rfl) (qf rfl (qf rfl (qh))) ?_ ?_
  · rfl
  exact ⟨.inr (by rw [qcf, qcc, if_pos ⟨hgo, by rw [hX]; omega⟩, if_pos hgo, if_pos (by rw [hX]; omega), hX]; rfl), rfl⟩
end Go.Proofs.YtdecgkhdbfgldaaGreat

set_option linter.unusedVariables false
set_option linter.unusedSimpArgs false
set_option maxRecDepth 8000
namespace Go.Proofs.YtdecgkhdbfgldaaGreat
open Go
theorem bothL_ok {a b : List Bd} (ha : BOk a) (hb : BOk b) : BOk (qcf a b) := by
  unfold qcf
  split
  · rename_i h
    have := bothX_ok ⟨ha.ris, ha.el⟩ b hb.el
    exact ⟨this.1.1, by omega, this.1.2⟩
  · exact ⟨List.Pairwise.nil, by simp, fun b hb => by simp at hb⟩
theorem mayB_len {l : List Bd} (h : mayB l = true) : l.length ≤ 16 := by
  simp only [mayB, Bool.and_eq_true, decide_eq_true_eq] at h
  exact h.1.1
end Go.Proofs.YtdecgkhdbfgldaaGreat

set_option linter.unusedVariables false
set_option linter.unusedSimpArgs false
set_option maxRecDepth 8000
namespace Go.Proofs.YtdecgkhdbfgldaaGreat
open Go
def occB (t : Tm) (s : ByteArray) : Bool := (noteL 5 [t]).any (fun n => decide (n = s))
def standsL (l : List Bd) (s : ByteArray) (t : Tm) : List Bd := if occB t s = true then [] else qci l s t
def standsE (l : List Bd) (s : ByteArray) (t : Tm) : Int := if occB t s = true then 3 else standE l s t
end Go.Proofs.YtdecgkhdbfgldaaGreat

set_option linter.unusedVariables false
set_option linter.unusedSimpArgs false
set_option maxRecDepth 8000
namespace Go.Proofs.YtdecgkhdbfgldaaGreat
open Go
def prD (p : Tm × Tm) : List D := tmD p.1 ++ tmD p.2
def prDs (l : List (Tm × Tm)) : List (List D) := l.map prD
abbrev prA (l : List (Tm × Tm)) : AV := .dat false 8 (prDs l)
theorem prDs_length (l : List (Tm × Tm)) : (prDs l).length = l.length := by simp [prDs]
theorem prDs_get {l : List (Tm × Tm)} {i : Nat} {p : Tm × Tm} (h : l[i]? = some p) : (prDs l)[i]? = some (prD p) := by simp [prDs, h]
theorem prDs_snoc (l : List (Tm × Tm)) (p : Tm × Tm) : prDs (l ++ [p]) = prDs l ++ [prD p] := by simp [prDs]
def qcV (a b : Tm) : Bool := decide (a.kind = b.kind) && decide (a.name = b.name) && decide (a.n = b.n) && decide (a.args.length = b.args.length)
def argsL (a b : Tm) : List (Tm × Tm) := if qcV a b = true then a.args.zip b.args else []
theorem zip_snoc {α β : Type} {l : List α} {m : List β} {k : Nat} {u : α} {v : β} (hu : l[k]? = some u) (hv : m[k]? = some v) : (l.zip m).take (k + 1) = (l.zip m).take k ++ [(u, v)] := by
  refine qah ?_
  rw [List.getElem?_zip_eq_some]; exact ⟨hu, hv⟩
theorem args_ok (a b : Tm) (ha : a.wf) (hb : b.wf) (ha0 : a.args.length ≤ 1000) : PF 250 [tmA false a, tmA false b] (.tup [prA (argsL a b), bv (qcV a b)]) := by
  have hla := qaa a.args
  have hlb := qaa b.args
  have hal := ha.2.2.2.1
  have hbl := hb.2.2.2.1
  refine AC_leP (Post := fun r O => (qcV a b = false ∧ r = .tup [.imm (.slice none 0 0), bv false] ∨ r = .tup [prA (argsL a b), bv (qcV a b)]) ∧ O = []) ?_ (fun r O' h => by
    obtain ⟨⟨h1, rfl⟩ | rfl, rfl⟩ := h
    · exact ⟨_, .tup (.cons (.nil (f := false) (k := 8)) (.cons .refl .nil)), by rw [argsL, if_neg (by simp [h1]), h1]; rfl, rfl⟩
    · exact ⟨_, .refl, rfl, rfl⟩)
  refine qG Tryz.func250 rfl Tryz.ntmps250 (Nat.le_of_ble_eq_true rfl) fun c hL hQ hDD => (qd (qb (qz rfl rfl (by decide) (qab 2 rfl rfl rfl) rfl (qz rfl rfl (by decide) (qab 3 rfl rfl rfl) rfl (zN rfl rfl rfl (zN rfl rfl rfl (qc ?_))))))); refine qa (qd (qd (qb (zA rfl (qg rfl q9 rfl) ?_))))
  refine zA rfl (qr rfl qay rfl rfl rfl rfl rfl) (zA rfl (qg rfl q9 rfl) (zA rfl (qr rfl qay rfl rfl rfl rfl rfl) (zA rfl (qn rfl rfl rfl rfl) (zM rfl rfl rfl (qA 12 rfl (fun g12 => ?_) (fun g12 => ?_))))))
  · try simp only [↓cqA, cqB] at g12
    refine zS rfl rfl rfl rfl (zS rfl rfl rfl rfl (zS rfl rfl rfl rfl (zS rfl rfl rfl rfl (zS rfl rfl rfl rfl (zA rfl (qj rfl rfl rfl) ?_)))))
    refine zM rfl rfl rfl (zS rfl rfl rfl rfl (zS rfl rfl rfl rfl (zS rfl rfl rfl rfl (zS rfl rfl rfl rfl (zS rfl rfl rfl rfl ?_)))))
    refine zA rfl (qj rfl rfl rfl) (zM rfl rfl rfl (zS rfl rfl rfl rfl (zS rfl rfl rfl rfl (zS rfl rfl rfl rfl (zS rfl rfl rfl rfl ?_)))))
    refine zS rfl rfl rfl rfl (zS rfl rfl rfl rfl (zS rfl rfl rfl rfl (zA rfl (qj rfl rfl rfl) (qc (qa (qaj rfl (qd ?_))))))); refine qb (zN rfl rfl rfl (zN rfl rfl rfl (qc (qa (qm (ql (?_)))))))
    -- leaf g12T
    refine ret0 (noL hL) (.inl rfl) (qf rfl (qf rfl (qh))) ?_ ?_
    · rfl
    first | exact ⟨.inl ⟨by simp_all [qcV] <;> omega, rfl⟩, rfl⟩ | exact ⟨.inr (by rw [List.take_of_length_le (by omega), argsL, if_pos hab, hab]; rfl), rfl⟩
  try simp only [↓cqA, cqB] at g12
  refine zG rfl rfl rfl rfl (qg rfl qad rfl) (zG rfl rfl rfl rfl (qr rfl qT rfl rfl rfl rfl rfl) (zG rfl rfl rfl rfl (qg rfl qad rfl) (zG rfl rfl rfl rfl (qr rfl qT rfl rfl rfl rfl rfl) ?_)))
  refine zG rfl rfl rfl rfl (qbn rfl rfl rfl rfl) (zA rfl (qj rfl rfl rfl) (zM rfl rfl rfl (qA 19 rfl (fun g19 => ?_) (fun g19 => ?_))))
  · try simp only [↓cqA, cqB] at g19
    refine zS rfl rfl rfl rfl (zS rfl rfl rfl rfl (zS rfl rfl rfl rfl (zS rfl rfl rfl rfl (zS rfl rfl rfl rfl (zA rfl (qj rfl rfl rfl) ?_)))))
    refine zM rfl rfl rfl (zS rfl rfl rfl rfl (zS rfl rfl rfl rfl (zS rfl rfl rfl rfl (zS rfl rfl rfl rfl (zS rfl rfl rfl rfl ?_)))))
    refine zS rfl rfl rfl rfl (zS rfl rfl rfl rfl (zA rfl (qj rfl rfl rfl) (qc (qa (qaj rfl (qd (qb ?_))))))); refine zN rfl rfl rfl (zN rfl rfl rfl (qc (qa (qm (ql (?_))))))
    -- leaf g12Fg19T
    refine ret0 (noL hL) (.inl rfl) (qf rfl (qf rfl (qh))) ?_ ?_
    · rfl
    first | exact ⟨.inl ⟨by simp_all [qcV] <;> omega, rfl⟩, rfl⟩ | exact ⟨.inr (by rw [List.take_of_length_le (by omega), argsL, if_pos hab, hab]; rfl), rfl⟩
  try simp only [↓cqA, cqB] at g19
  refine zG rfl rfl rfl rfl (qg rfl qaB rfl) (zG rfl rfl rfl rfl (qr rfl qay rfl rfl rfl rfl rfl) (zG rfl rfl rfl rfl (qg rfl qaB rfl) (zG rfl rfl rfl rfl (qr rfl qay rfl rfl rfl rfl rfl) ?_)))
  refine zG rfl rfl rfl rfl (qn rfl rfl rfl rfl) (zA rfl (qj rfl rfl rfl) (zM rfl rfl rfl (qA 26 rfl (fun g26 => ?_) (fun g26 => ?_))))
  · try simp only [↓cqA, cqB] at g26
    refine zS rfl rfl rfl rfl (zS rfl rfl rfl rfl (zS rfl rfl rfl rfl (zS rfl rfl rfl rfl (zS rfl rfl rfl rfl (zS rfl rfl rfl rfl ?_)))))
    refine zS rfl rfl rfl rfl (zA rfl (qj rfl rfl rfl) (qc (qa (qaj rfl (qd (qb (zN rfl rfl rfl ?_))))))); refine zN rfl rfl rfl (qc (qa (qm (ql (?_)))))
    -- leaf g12Fg19Fg26T
    refine ret0 (noL hL) (.inl rfl) (qf rfl (qf rfl (qh))) ?_ ?_
    · rfl
    first | exact ⟨.inl ⟨by simp_all [qcV] <;> omega, rfl⟩, rfl⟩ | exact ⟨.inr (by rw [List.take_of_length_le (by omega), argsL, if_pos hab, hab]; rfl), rfl⟩
  try simp only [↓cqA, cqB] at g26
  refine zG rfl rfl rfl rfl (qg rfl qJ rfl) (zG rfl rfl rfl rfl (qr rfl qF rfl rfl rfl rfl rfl) (zG rfl rfl rfl rfl (qy rfl qv rfl) (zG rfl rfl rfl rfl (qg rfl qJ rfl) (zG rfl rfl rfl rfl (qr rfl qF rfl rfl rfl rfl rfl) ?_))))
  refine zG rfl rfl rfl rfl (qy rfl qv rfl) (zG rfl rfl rfl rfl (qn rfl rfl rfl rfl) (zA rfl (qj rfl rfl rfl) (qc (qa (qu rfl (fun c0 => ?_) (fun c0 => ?_))))))
  · try simp only [↓cqA, cqB] at c0
    refine qd (qb (zN rfl rfl rfl (zN rfl rfl rfl (qc (qa (qm (ql (?_))))))))
    -- leaf g12Fg19Fg26F0T
    refine ret0 (noL hL) (.inl rfl) (qf rfl (qf rfl (qh))) ?_ ?_
    · rfl
    first | exact ⟨.inl ⟨by simp_all [qcV] <;> omega, rfl⟩, rfl⟩ | exact ⟨.inr (by rw [List.take_of_length_le (by omega), argsL, if_pos hab, hab]; rfl), rfl⟩
  try simp only [↓cqA, cqB] at c0
  have hab : qcV a b = true := by simp_all [qcV] <;> omega
  have hlen : a.args.length = b.args.length := by simp only [qcV, Bool.and_eq_true, decide_eq_true_eq] at hab; exact hab.2
  have hzl : (a.args.zip b.args).length = a.args.length := by rw [List.length_zip]; omega
  refine qt (qa (qd (qd (qb (zA rfl (qg rfl qJ rfl) (zA rfl (qr rfl qF rfl rfl rfl rfl rfl) (zA rfl (qy rfl qv rfl) ?_))))))); refine zM rfl rfl rfl (qc (qa (qB ?_)))
  refine qV (a.args.length) (fun k => k ≤ a.args.length) (fun k => ⟨[(2, .ptr 2 0), (3, .ptr 3 0), (4, .row 4), (37, iv (tmDs a.args).length), (38, iv (k : Int))], [(2, .box (lift false (tmD a))), (3, .box (lift false (tmD b))), (4, .rowd 251 8 false (prDs ((a.args.zip b.args).take k)))]⟩) (by omega) ?_ (fun k hk hp => ?_)
  · exact Sub.trans (qaL (t := 4) (l := 4) 251 8 false rfl rfl) (qI (SubT.cons (zT rfl) (SubT.cons (zT rfl) (SubT.cons (zT rfl) (SubT.cons (zT rfl) (SubT.cons (zT rfl) (SubT.nil)))))) (SubO.cons (qag rfl (by rfl)) (SubO.cons (qag rfl (by rfl)) (SubO.cons (qag rfl (by rfl)) (SubO.nil)))) rfl rfl (noL' (noL hL) _))
  have hl2 : (prDs ((a.args.zip b.args).take k)).length ≤ a.args.length := by rw [prDs_length, List.length_take]; omega
  refine qd (qb (zA rfl (qn rfl rfl rfl rfl) (qc (qa (qd (qu rfl (fun c1 => ?_) (fun c1 => ?_)))))))
  · try simp only [↓cqA, cqB] at c1
    obtain ⟨u, hu⟩ := qK (l := a.args) (k := k) (by omega)
    obtain ⟨v, hv⟩ := qK (l := b.args) (k := k) (by omega)
    refine qt (qa (qd (qB (qd (qb (zM rfl rfl rfl (zN rfl rfl rfl ?_))))))); refine qc (qa (q8 13 qbd rfl rfl rfl rfl (qe rfl (by decide) (.run rfl (qk (.inl rfl) rfl)) (qe rfl (by decide) (.run rfl (qg rfl qJ rfl)) (qe rfl (by decide) (.run rfl (qr rfl qF rfl rfl rfl rfl rfl)) ?_)))))
    refine qe rfl (by decide) (.run rfl (qk (.inl rfl) rfl)) (qe rfl (by decide) (.run rfl (qo rfl qv rfl rfl (by omega) (qax hu))) (qe rfl (by decide) (.run rfl (qD rfl qi rfl rfl)) (qe rfl (by decide) (.run rfl (qg rfl qJ rfl)) (qe rfl (by decide) (.run rfl (qr rfl qF rfl rfl rfl rfl rfl)) (qe rfl (by decide) (.run rfl (qk (.inl rfl) rfl)) ?_)))))
    refine qe rfl (by decide) (.run rfl (qo rfl qv rfl rfl (by omega) (qax hv))) (qe rfl (by decide) (.run rfl (qD rfl qi rfl rfl)) (qe rfl (by decide) (.run rfl (stp_build_arr rfl zv_unify_pair rfl (show arB Tryz.prog 251 2 35 4 = true by kernel_rfl) rfl rfl)) (MGo_c1 rfl (by decide) (.run rfl (qS 53 rfl qc6 zv_unify_pair rfl rfl (by decide) (by decide) (by decide) rfl rfl rfl)) (qau ⟨rfl, rfl, ?_⟩))))
    refine qbt rfl rfl (by decide) (qaA 54 ta_S_unify_pair rfl rfl rfl rfl rfl rfl rfl rfl (noL hL _) (by omega) rfl) rfl (zN rfl rfl rfl (qc (qP (qa (qb (zA rfl (qM rfl rfl rfl (by omega)) (zM rfl rfl rfl ?_))))))); refine qc (qa ?_); refine ⟨?_, ?_, ?_⟩
    · skip
      omega
    · skip
      omega
    exact Sub.trans (qaE 54 4 (noL hL _) (noL hL _)) (qI (SubT.cons (zT rfl) (SubT.cons (zT rfl) (SubT.cons (zT rfl) (SubT.cons (zT rfl) (SubT.cons (zT rfl) (SubT.nil)))))) (SubO.cons (qag rfl (by rfl)) (SubO.cons (qag rfl (by rfl)) (SubO.cons (qag rfl (by rw [zip_snoc hu hv, prDs_snoc]; rfl)) (SubO.nil)))) rfl rfl (noL' (noL hL) _))
  try simp only [↓cqA, cqB] at c1
  refine qQ (qq (qq (q7 ?_))); refine qa (qd (qbb (qam (l := 4) rfl (by decide) (noL hL _) rfl rfl) (qb (zM rfl rfl rfl (zN rfl rfl rfl (zN rfl rfl rfl (qc ?_))))))); refine qa (qm ?_)
  -- leaf g12Fg19Fg26F0F1F
  refine ret0 (noL hL) (.inl rfl) (qf rfl (qf rfl (qh))) ?_ ?_
  · rfl
  first | exact ⟨.inl ⟨by simp_all [qcV] <;> omega, rfl⟩, rfl⟩ | exact ⟨.inr (by rw [List.take_of_length_le (by omega), argsL, if_pos hab, hab]; rfl), rfl⟩
theorem flat_le {α : Type} (rs : List (List α)) (k : Nat) : (rs.take k).flatten.length ≤ rs.flatten.length := by
  have := congrArg (fun l : List (List α) => l.flatten.length) (List.take_append_drop k rs)
  simp only [List.flatten_append, List.length_append] at this
  omega
end Go.Proofs.YtdecgkhdbfgldaaGreat

set_option linter.unusedVariables false
set_option linter.unusedSimpArgs false
set_option maxRecDepth 8000
namespace Go.Proofs.YtdecgkhdbfgldaaGreat
open Go
def oneR (l : List Bd) (p : Tm × Tm) : List Bd × List (Tm × Tm) × Int :=
  if intoE l p.1 ≠ 0 then ([], [], intoE l p.1) else
  if intoE l p.2 ≠ 0 then ([], [], intoE l p.2) else
  if (putT l p.1).kind = 1 ∧ (putT l p.2).kind = 1 ∧ (putT l p.1).name = (putT l p.2).name then (l, [], 0) else
  if (putT l p.1).kind = 1 ∧ ((putT l p.2).kind ≠ 1 ∨ ltS (putT l p.2).name (putT l p.1).name = true) then (standsL l (putT l p.1).name (putT l p.2), [], standsE l (putT l p.1).name (putT l p.2)) else
  if (putT l p.2).kind = 1 then (standsL l (putT l p.2).name (putT l p.1), [], standsE l (putT l p.2).name (putT l p.1)) else
  if qcV (putT l p.1) (putT l p.2) = true then (l, argsL (putT l p.1) (putT l p.2), 0) else ([], [], 3)
end Go.Proofs.YtdecgkhdbfgldaaGreat

set_option linter.unusedVariables false
set_option linter.unusedSimpArgs false
namespace Go.Proofs.YtdecgkhdbfgldaaGreat
open Go
mutual
def Tm.sub (g : ByteArray → Tm) : Tm → Tm
  | ⟨k, nm, n, l0⟩ => if k = 1 then g nm else ⟨k, nm, n, Tm.subs g l0⟩
def Tm.subs (g : ByteArray → Tm) : List Tm → List Tm
  | [] => []
  | t :: ts => Tm.sub g t :: Tm.subs g ts
end
mutual
def Tm.occ (y : ByteArray) : Tm → Prop
  | ⟨k, nm, _, l0⟩ => (k = 1 ∧ nm = y) ∨ Tm.occs y l0
def Tm.occs (y : ByteArray) : List Tm → Prop
  | [] => False
  | t :: ts => Tm.occ y t ∨ Tm.occs y ts
end
mutual
def Tm.sz : Tm → Nat
  | ⟨_, _, _, l0⟩ => 1 + Tm.szs l0
def Tm.szs : List Tm → Nat
  | [] => 0
  | t :: ts => Tm.sz t + Tm.szs ts
end
mutual
def Tm.shp : Tm → Prop
  | ⟨k, nm, n, l0⟩ => ((k = 1 ∧ varB nm = true ∧ n = 0 ∧ l0 = []) ∨ (k = 2 ∧ numB n = true ∧ nm.size = 0 ∧ l0 = []) ∨ (k = 3 ∧ nameB nm = true ∧ n = 0 ∧ l0.length ≤ 4)) ∧ Tm.shps l0
def Tm.shps : List Tm → Prop
  | [] => True
  | t :: ts => Tm.shp t ∧ Tm.shps ts
end
theorem Tm.subs_map (g : ByteArray → Tm) : ∀ l, Tm.subs g l = l.map (Tm.sub g)
  | [] => by rw [Tm.subs]; rfl
  | t :: ts => by rw [Tm.subs, Tm.subs_map g ts]; rfl
theorem Tm.sub_eq (g : ByteArray → Tm) (t : Tm) : t.sub g = if t.kind = 1 then g t.name else ⟨t.kind, t.name, t.n, t.args.map (Tm.sub g)⟩ := by
  cases t; simp only [Tm.sub, Tm.subs_map]
theorem Tm.occs_iff (y : ByteArray) : ∀ l, Tm.occs y l ↔ ∃ u ∈ l, Tm.occ y u
  | [] => by simp [Tm.occs]
  | t :: ts => by simp [Tm.occs, Tm.occs_iff y ts]
theorem Tm.occ_iff (y : ByteArray) (t : Tm) : t.occ y ↔ (t.kind = 1 ∧ t.name = y) ∨ ∃ u ∈ t.args, Tm.occ y u := by
  cases t; simp only [Tm.occ, Tm.occs_iff]
theorem Tm.szs_sum : ∀ l, Tm.szs l = (l.map Tm.sz).sum
  | [] => by simp [Tm.szs]
  | t :: ts => by simp [Tm.szs, Tm.szs_sum ts]
theorem Tm.sz_eq (t : Tm) : t.sz = 1 + (t.args.map Tm.sz).sum := by cases t; simp only [Tm.sz, Tm.szs_sum]
theorem Tm.sz_pos (t : Tm) : 1 ≤ t.sz := by rw [Tm.sz_eq]; omega
theorem Tm.shps_iff : ∀ l, Tm.shps l ↔ ∀ u ∈ l, Tm.shp u
  | [] => by simp [Tm.shps]
  | t :: ts => by simp [Tm.shps, Tm.shps_iff ts]
def Tm.top (t : Tm) : Prop := (t.kind = 1 ∧ varB t.name = true ∧ t.n = 0 ∧ t.args = []) ∨ (t.kind = 2 ∧ numB t.n = true ∧ t.name.size = 0 ∧ t.args = []) ∨ (t.kind = 3 ∧ nameB t.name = true ∧ t.n = 0 ∧ t.args.length ≤ 4)
theorem Tm.shp_iff (t : Tm) : t.shp ↔ t.top ∧ ∀ u ∈ t.args, Tm.shp u := by cases t; simp only [Tm.shp, Tm.shps_iff, Tm.top]
theorem Tm.ind {P : Tm → Prop} (h : ∀ t : Tm, (∀ u ∈ t.args, P u) → P t) (t : Tm) : P t :=
  Tm.rec (motive_1 := P) (motive_2 := fun ts => ∀ u ∈ ts, P u) (fun k nm n l0 ih => h ⟨k, nm, n, l0⟩ ih) (fun u hu => by cases hu) (fun t ts h1 h2 u hu => by
    rcases List.mem_cons.1 hu with e | hu
    · exact e ▸ h1
    · exact h2 u hu) t
theorem Tm.shp.arg {t u : Tm} (h : t.shp) (hu : u ∈ t.args) : u.shp := ((Tm.shp_iff t).1 h).2 u hu
theorem Tm.shp.var {t : Tm} (h : t.shp) (hk : t.kind = 1) : t = ⟨1, t.name, 0, []⟩ ∧ varB t.name = true := by
  have := ((Tm.shp_iff t).1 h).1
  cases t
  simp only [Tm.top] at this hk ⊢
  subst hk
  rcases this with ⟨_, h2, h3, h4⟩ | ⟨h1, _⟩ | ⟨h1, _⟩
  · subst h3 h4; exact ⟨rfl, h2⟩
  · cases h1
  · cases h1
theorem turn_sub (g : ByteArray → Tm) : ∀ (d : Nat) (t : Tm), dle d t → qc0 g d t = t.sub g
  | 0, t, h => h.elim
  | d + 1, t, h => by
    rw [qc0, Tm.sub_eq]
    split
    · rfl
    · congr 1
      exact List.map_congr_left fun u hu => turn_sub g d u (h u hu)
theorem note_occ (y : ByteArray) : ∀ (d : Nat) (t : Tm), dle d t → (y ∈ qcL d t [] ↔ t.occ y)
  | 0, t, h => h.elim
  | d + 1, t, h => by
    rw [qcL, noteL_mem d y (noteS_mem d y), Tm.occ_iff]
    have e : (∃ u, u ∈ t.args ∧ y ∈ qcL d u []) ↔ ∃ u ∈ t.args, Tm.occ y u := by
      constructor
      · rintro ⟨u, hu, hy⟩; exact ⟨u, hu, (note_occ y d u (h u hu)).1 hy⟩
      · rintro ⟨u, hu, hy⟩; exact ⟨u, hu, (note_occ y d u (h u hu)).2 hy⟩
    rw [e]
    split
    · rename_i hk; simp [hk, eq_comm]
    · rename_i hk; simp [hk]
theorem dle_mono : ∀ (d e : Nat) (t : Tm), d ≤ e → dle d t → dle e t
  | 0, _, t, _, h => h.elim
  | d + 1, 0, t, h, _ => by omega
  | d + 1, e + 1, t, h, hd => fun u hu => dle_mono d e u (by omega) (hd u hu)
theorem mayL_fwd (d : Nat) (ih : ∀ (t : Tm) (n : Int), 0 ≤ n → (mayS d t n).1 = true → t.shp ∧ dle d t ∧ (mayS d t n).2 = n - t.sz ∧ (t.sz : Int) ≤ n) : ∀ (l : List Tm) (n : Int), 0 ≤ n → (mayL (mayS d) l n).1 = true → (∀ u ∈ l, u.shp ∧ dle d u) ∧ (mayL (mayS d) l n).2 = n - ((l.map Tm.sz).sum : Nat) ∧ (((l.map Tm.sz).sum : Nat) : Int) ≤ n
  | [], n, hn, _ => by simp [mayL]; omega
  | a :: l, n, hn, h => by
    simp only [mayL] at h ⊢
    split at h
    · rename_i hb
      obtain ⟨h1, h2, h3, h4⟩ := ih a n hn hb
      obtain ⟨h5, h6, h7⟩ := mayL_fwd d ih l (mayS d a n).2 (by omega) h
      rw [if_pos hb]
      refine ⟨fun u hu => ?_, ?_, ?_⟩
      · rcases List.mem_cons.1 hu with rfl | hu
        · exact ⟨h1, h2⟩
        · exact h5 u hu
      · rw [h6, h3]; simp only [List.map_cons, List.sum_cons]; omega
      · simp only [List.map_cons, List.sum_cons]; omega
    · cases h
theorem mayS_fwd : ∀ (d : Nat) (t : Tm) (n : Int), 0 ≤ n → (mayS d t n).1 = true → t.shp ∧ dle d t ∧ (mayS d t n).2 = n - t.sz ∧ (t.sz : Int) ≤ n
  | 0, t, n, _, h => by simp [mayS] at h
  | d + 1, t, n, hn0, h => by
    rw [Tm.shp_iff, Tm.sz_eq]
    have e0 : ∀ l : List Tm, l.length = 0 → l = [] := fun l h => List.eq_nil_of_length_eq_zero h
    simp only [mayS] at h ⊢
    split at h
    · cases h
    rename_i hn
    rw [if_neg hn]
    split at h
    · rename_i hk
      rw [if_pos hk]
      simp only [Bool.and_eq_true, decide_eq_true_eq] at h
      have := e0 _ h.2
      refine ⟨⟨.inl ⟨hk, h.1.1, h.1.2, this⟩, by simp [this]⟩, fun u hu => by simp [this] at hu, ?_, ?_⟩ <;> simp [this] <;> omega
    rename_i hk1
    rw [if_neg hk1]
    split at h
    · rename_i hk
      rw [if_pos hk]
      simp only [Bool.and_eq_true, decide_eq_true_eq] at h
      have := e0 _ h.2
      refine ⟨⟨.inr (.inl ⟨hk, h.1.1, h.1.2, this⟩), by simp [this]⟩, fun u hu => by simp [this] at hu, ?_, ?_⟩ <;> simp [this] <;> omega
    rename_i hk2
    rw [if_neg hk2]
    split at h
    · rename_i hk
      rw [if_pos hk]
      split at h
      · rename_i hc
        rw [if_pos hc]
        obtain ⟨h5, h6, h7⟩ := mayL_fwd d (mayS_fwd d) t.args (n - 1) (by omega) h
        simp only [Bool.and_eq_true, decide_eq_true_eq] at hc
        refine ⟨⟨.inr (.inr ⟨hk, hc.1.1, hc.1.2, hc.2⟩), fun u hu => (h5 u hu).1⟩, fun u hu => (h5 u hu).2, ?_, ?_⟩
        · rw [h6]; omega
        · omega
      · cases h
    · cases h
theorem mayL_bwd (d : Nat) (ih : ∀ (t : Tm) (n : Int), t.shp → dle d t → (t.sz : Int) ≤ n → mayS d t n = (true, n - t.sz)) : ∀ (l : List Tm) (n : Int), (∀ u ∈ l, u.shp ∧ dle d u) → (((l.map Tm.sz).sum : Nat) : Int) ≤ n → mayL (mayS d) l n = (true, n - ((l.map Tm.sz).sum : Nat))
  | [], n, _, _ => by simp [mayL]
  | a :: l, n, h, hn => by
    simp only [List.map_cons, List.sum_cons] at hn ⊢
    have h1 := ih a n (h a (by simp)).1 (h a (by simp)).2 (by omega)
    have h2 := mayL_bwd d ih l (n - a.sz) (fun u hu => h u (by simp [hu])) (by omega)
    simp only [mayL, h1, if_true, h2]
    congr 1; omega
theorem mayS_bwd : ∀ (d : Nat) (t : Tm) (n : Int), t.shp → dle d t → (t.sz : Int) ≤ n → mayS d t n = (true, n - t.sz)
  | 0, t, n, _, h, _ => h.elim
  | d + 1, t, n, hs, hd, hn => by
    rw [Tm.shp_iff] at hs
    rw [Tm.sz_eq] at hn ⊢
    obtain ⟨ht, hs⟩ := hs
    simp only [mayS]
    rw [if_neg (by omega)]
    rcases ht with ⟨h1, h2, h3, h4⟩ | ⟨h1, h2, h3, h4⟩ | ⟨h1, h2, h3, h4⟩
    · rw [if_pos h1, h2, h3, h4]; simp
    · rw [if_neg (by omega), if_pos h1, h2, h3, h4]; simp
    · rw [if_neg (by omega), if_neg (by omega), if_pos h1, if_pos (by simp [h2, h3, h4])]
      rw [mayL_bwd d (mayS_bwd d) t.args (n - 1) (fun u hu => ⟨hs u hu, hd u hu⟩) (by omega)]
      congr 1; omega
theorem mayT_iff (t : Tm) : mayT t = true ↔ t.shp ∧ dle 5 t ∧ t.sz ≤ 24 := by
  constructor
  · intro h
    obtain ⟨h1, h2, h3, h4⟩ := mayS_fwd 5 t 24 (by omega) h
    exact ⟨h1, h2, by omega⟩
  · rintro ⟨h1, h2, h3⟩
    show (mayS 5 t 24).1 = true
    rw [mayS_bwd 5 t 24 h1 h2 (by omega)]
def varT (s : ByteArray) : Tm := ⟨1, s, 0, []⟩
theorem sub_congr {g h : ByteArray → Tm} (t : Tm) : (∀ y, t.occ y → g y = h y) → t.sub g = t.sub h := by
  refine Tm.ind (P := fun t => (∀ y, t.occ y → g y = h y) → t.sub g = t.sub h) (fun t ih hy => ?_) t
  rw [Tm.sub_eq, Tm.sub_eq]
  split
  · rename_i hk; exact hy _ ((Tm.occ_iff _ _).2 (.inl ⟨hk, rfl⟩))
  · congr 1
    exact List.map_congr_left fun u hu => ih u hu fun y hu2 => hy y ((Tm.occ_iff _ _).2 (.inr ⟨u, hu, hu2⟩))
theorem sub_varT {t : Tm} (hs : t.shp) : t.sub varT = t := by
  refine Tm.ind (P := fun t => t.shp → t.sub varT = t) (fun t ih hs => ?_) t hs
  rw [Tm.sub_eq]
  split
  · rename_i hk; rw [(hs.var hk).1]; rfl
  · have : t.args.map (Tm.sub varT) = t.args := by
      have h2 : t.args.map (Tm.sub varT) = t.args.map id := List.map_congr_left fun u hu => ih u hu (hs.arg hu)
      rw [h2, List.map_id]
    rw [this]
    cases t; rfl
theorem sub_id {g : ByteArray → Tm} {t : Tm} (hs : t.shp) (h : ∀ y, t.occ y → g y = varT y) : t.sub g = t := by
  rw [sub_congr t h, sub_varT hs]
theorem sub_sub (g h : ByteArray → Tm) (t : Tm) : (t.sub g).sub h = t.sub (fun y => (g y).sub h) := by
  refine Tm.ind (P := fun t => (t.sub g).sub h = t.sub (fun y => (g y).sub h)) (fun t ih => ?_) t
  rw [Tm.sub_eq g, Tm.sub_eq (fun y => (g y).sub h)]
  split
  · rfl
  · rename_i hk
    rw [Tm.sub_eq h, if_neg hk]
    congr 1
    rw [List.map_map]
    exact List.map_congr_left fun u hu => ih u hu
theorem occ_sub (g : ByteArray → Tm) (y : ByteArray) (t : Tm) (hs : t.shp) : (t.sub g).occ y ↔ ∃ x, t.occ x ∧ (g x).occ y := by
  refine Tm.ind (P := fun t => t.shp → ((t.sub g).occ y ↔ ∃ x, t.occ x ∧ (g x).occ y)) (fun t ih hs => ?_) t hs
  rw [Tm.sub_eq]
  split
  · rename_i hk
    constructor
    · intro h; exact ⟨t.name, (Tm.occ_iff _ _).2 (.inl ⟨hk, rfl⟩), h⟩
    · rintro ⟨x, hx, h⟩
      rw [Tm.occ_iff] at hx
      rcases hx with ⟨_, rfl⟩ | ⟨u, hu, _⟩
      · exact h
      · rw [(hs.var hk).1] at hu; cases hu
  · rename_i hk
    rw [Tm.occ_iff]
    constructor
    · rintro (⟨h, _⟩ | ⟨u, hu, h⟩)
      · exact absurd h hk
      · obtain ⟨v, hv, rfl⟩ := List.mem_map.1 hu
        obtain ⟨x, hx, h2⟩ := (ih v hv (hs.arg hv)).1 h
        exact ⟨x, (Tm.occ_iff _ _).2 (.inr ⟨v, hv, hx⟩), h2⟩
    · rintro ⟨x, hx, h⟩
      rw [Tm.occ_iff] at hx
      rcases hx with ⟨h, _⟩ | ⟨u, hu, h2⟩
      · exact absurd h hk
      · exact .inr ⟨u.sub g, List.mem_map.2 ⟨u, hu, rfl⟩, (ih u hu (hs.arg hu)).2 ⟨x, h2, h⟩⟩
theorem shp_sub {g : ByteArray → Tm} {t : Tm} (hs : t.shp) (h : ∀ y, t.occ y → (g y).shp) : (t.sub g).shp := by
  refine Tm.ind (P := fun t => t.shp → (∀ y, t.occ y → (g y).shp) → (t.sub g).shp) (fun t ih hs h => ?_) t hs h
  rw [Tm.sub_eq]
  split
  · rename_i hk; exact h _ ((Tm.occ_iff _ _).2 (.inl ⟨hk, rfl⟩))
  · rename_i hk
    rw [Tm.shp_iff] at hs ⊢
    refine ⟨?_, fun u hu => ?_⟩
    · have := hs.1
      simp only [Tm.top, List.length_map, List.map_eq_nil_iff] at this ⊢
      exact this
    · obtain ⟨v, hv, rfl⟩ := List.mem_map.1 hu
      exact ih v hv (hs.2 v hv) fun y hy => h y ((Tm.occ_iff _ _).2 (.inr ⟨v, hv, hy⟩))
theorem sz_occ {x : ByteArray} (g : ByteArray → Tm) {t : Tm} (hs : t.shp) (h : t.occ x) : (g x).sz ≤ (t.sub g).sz ∧ (t.kind ≠ 1 → (g x).sz < (t.sub g).sz) := by
  refine Tm.ind (P := fun t => t.shp → t.occ x → (g x).sz ≤ (t.sub g).sz ∧ (t.kind ≠ 1 → (g x).sz < (t.sub g).sz)) (fun t ih hs h => ?_) t hs h
  rw [Tm.occ_iff] at h
  rw [Tm.sub_eq]
  split
  · rename_i hk
    refine ⟨?_, fun h2 => absurd hk h2⟩
    rcases h with ⟨_, rfl⟩ | ⟨u, hu, _⟩
    · exact Nat.le_refl _
    · rw [(hs.var hk).1] at hu; cases hu
  · rename_i hk
    rcases h with ⟨h, _⟩ | ⟨u, hu, h⟩
    · exact absurd h hk
    · have h1 := (ih u hu (hs.arg hu) h).1
      have h2 : (u.sub g).sz < (Tm.mk t.kind t.name t.n (t.args.map (Tm.sub g))).sz := by
        rw [Tm.sz_eq (Tm.mk _ _ _ _)]
        simp only [List.map_map]
        obtain ⟨i, hi⟩ := List.getElem?_of_mem hu
        have := sum_split (l := t.args) (k := i) (u := u) (Tm.sz ∘ Tm.sub g) hi
        simp only [Function.comp] at this ⊢
        omega
      exact ⟨by omega, fun _ => by omega⟩
end Go.Proofs.YtdecgkhdbfgldaaGreat

set_option linter.unusedVariables false
set_option linter.unusedSimpArgs false
namespace Go.Proofs.YtdecgkhdbfgldaaGreat
open Go
structure GB (l : List Bd) : Prop where
  len : l.length ≤ 16
  ris : RisB l
  el : ∀ b ∈ l, b.wf ∧ varB b.name = true ∧ mayT b.t = true
  idem : ∀ b ∈ l, ∀ y, b.t.occ y → hasB l y = false
theorem GB.bok {l : List Bd} (h : GB l) : BOk l := ⟨h.ris, by have := h.len; omega, fun b hb => ⟨(h.el b hb).1, (h.el b hb).2.2⟩⟩
theorem qb7 (l : List Bd) (y : ByteArray) : hasB l y = true ↔ ∃ b ∈ l, b.name = y := by simp [hasB]
theorem hasB_no (l : List Bd) (y : ByteArray) : hasB l y = false ↔ ∀ b ∈ l, b.name ≠ y := by simp [hasB]
theorem qao {t : Tm} (h : mayT t = true) : dle 5 t := ((mayT_iff t).1 h).2.1
theorem qby {t : Tm} (h : mayT t = true) : t.shp := ((mayT_iff t).1 h).1
theorem note5 {t : Tm} (h : dle 5 t) (y : ByteArray) : y ∈ noteL 5 [t] ↔ t.occ y := note_occ y 5 t h
theorem noteL5 {l : List Tm} (h : ∀ t ∈ l, dle 5 t) (y : ByteArray) : y ∈ noteL 5 l ↔ ∃ t ∈ l, Tm.occ y t := by
  rw [noteL, noteL_mem 5 y (noteS_mem 5 y)]
  constructor
  · rintro (h1 | ⟨u, hu, hy⟩)
    · cases h1
    · exact ⟨u, hu, (note_occ y 5 u (h u hu)).1 hy⟩
  · rintro ⟨u, hu, hy⟩; exact .inr ⟨u, hu, (note_occ y 5 u (h u hu)).2 hy⟩
theorem mayB_iff {l : List Bd} (hw : ∀ b ∈ l, b.wf) : mayB l = true ↔ GB l := by
  constructor
  · intro h
    have hb := mayB_bok h hw
    simp only [mayB, Bool.and_eq_true, decide_eq_true_eq, List.all_eq_true, List.mem_range, Bool.not_eq_true'] at h
    refine ⟨h.1.1, hb.ris, fun b hm => ⟨hw b hm, ?_, (hb.el b hm).2⟩, fun b hm y hy => ?_⟩
    · obtain ⟨j, hj⟩ := List.getElem?_of_mem hm
      have := h.1.2 j (List.getElem?_eq_some_iff.1 hj).1
      simp only [qc1, hj, Bool.and_eq_true] at this
      exact this.1.1
    · have hd : ∀ t ∈ l.map Bd.t, dle 5 t := fun t ht => by obtain ⟨b, hb2, rfl⟩ := List.mem_map.1 ht; exact qao (hb.el b hb2).2
      cases hc : hasB l y with
      | false => rfl
      | true =>
        have := List.any_eq_false.1 h.2 y ((noteL5 hd y).2 ⟨b.t, List.mem_map.2 ⟨b, hm, rfl⟩, hy⟩)
        exact absurd hc this
  · intro h
    have hd : ∀ t ∈ l.map Bd.t, dle 5 t := fun t ht => by obtain ⟨b, hb2, rfl⟩ := List.mem_map.1 ht; exact qao (h.el b hb2).2.2
    simp only [mayB, Bool.and_eq_true, decide_eq_true_eq, List.all_eq_true, List.mem_range, Bool.not_eq_true']
    refine ⟨⟨h.len, fun j hj => ?_⟩, List.any_eq_false.2 fun y hy => ?_⟩
    · obtain ⟨b, hb⟩ := qK (l := l) (k := j) hj
      have hbm := List.mem_of_getElem? hb
      rw [qbQ hb, (h.el b hbm).2.1, (h.el b hbm).2.2]
      rcases Nat.eq_zero_or_pos j with rfl | hj0
      · simp
      · obtain ⟨a, ha⟩ := qK (l := l) (k := j - 1) (by omega)
        rw [ha]
        have := List.pairwise_iff_getElem.1 h.ris (j - 1) j (by omega) hj (by omega)
        rw [(List.getElem?_eq_some_iff.1 ha).2, (List.getElem?_eq_some_iff.1 hb).2] at this
        simp [this]
    · obtain ⟨t, ht, ho⟩ := (noteL5 hd y).1 hy
      obtain ⟨b, hb2, rfl⟩ := List.mem_map.1 ht
      rw [h.idem b hb2 y ho]; simp
theorem gB_mem {l : List Bd} (h : RisB l) {b : Bd} (hb : b ∈ l) : gB l b.name = b.t := by
  have key : ∀ l : List Bd, RisB l → b ∈ l → l.find? (fun c => decide (c.name = b.name)) = some b := fun l => by
    induction l with
    | nil => intro _ h; cases h
    | cons a l ih =>
      intro hr hm
      rcases List.mem_cons.1 hm with rfl | hm
      · simp
      · have h1 := List.pairwise_cons.1 hr
        have h2 := h1.1 b hm
        have hne : a.name ≠ b.name := fun e => by rw [e, ltS_irrefl] at h2; cases h2
        rw [List.find?_cons_of_neg (by simpa using hne)]
        exact ih h1.2 hm
  rw [gB, lookB, key l h hb]; rfl
theorem gB_none {l : List Bd} (h : RisB l) {y : ByteArray} (hy : hasB l y = false) : gB l y = varT y := by
  rw [gB, lookB_none h hy]; rfl
theorem gB_cases {l : List Bd} (h : RisB l) (y : ByteArray) : (∃ b ∈ l, b.name = y ∧ gB l y = b.t) ∨ hasB l y = false ∧ gB l y = varT y := by
  cases hc : hasB l y with
  | false => exact .inr ⟨rfl, gB_none h hc⟩
  | true =>
    obtain ⟨b, hb, rfl⟩ := (qb7 l y).1 hc
    exact .inl ⟨b, hb, rfl, gB_mem h hb⟩
theorem qcT {t : Tm} (h : dle 5 t) (l : List Bd) : putT l t = t.sub (gB l) := turn_sub _ 5 t h
theorem varT_sub (g : ByteArray → Tm) (y : ByteArray) : (varT y).sub g = g y := by rw [Tm.sub_eq]; rfl
theorem varT_occ (x y : ByteArray) : (varT x).occ y ↔ x = y := by rw [Tm.occ_iff]; simp [varT]
theorem gB_occ {l : List Bd} (h : GB l) {x y : ByteArray} (ho : (gB l x).occ y) : hasB l y = false := by
  rcases gB_cases h.ris x with ⟨b, hb, _, e⟩ | ⟨hn, e⟩
  · rw [e] at ho; exact h.idem b hb y ho
  · rw [e, varT_occ] at ho; rw [← ho]; exact hn
theorem gB_shp {l : List Bd} (h : GB l) {x : ByteArray} (hx : varB x = true) : (gB l x).shp := by
  rcases gB_cases h.ris x with ⟨b, hb, _, e⟩ | ⟨hn, e⟩
  · rw [e]; exact qby (h.el b hb).2.2
  · rw [e, Tm.shp_iff]; exact ⟨.inl ⟨rfl, hx, rfl, rfl⟩, fun u hu => by cases hu⟩
theorem occ_var {t : Tm} (hs : t.shp) {y : ByteArray} (h : t.occ y) : varB y = true := by
  refine Tm.ind (P := fun t => t.shp → t.occ y → varB y = true) (fun t ih hs h => ?_) t hs h
  rw [Tm.occ_iff] at h
  rcases h with ⟨h1, rfl⟩ | ⟨u, hu, h2⟩
  · exact (hs.var h1).2
  · exact ih u hu (hs.arg hu) h2
theorem gB_id {l : List Bd} (h : GB l) {t : Tm} (hs : t.shp) (hn : ∀ y, t.occ y → hasB l y = false) : t.sub (gB l) = t :=
  sub_id hs fun y hy => gB_none h.ris (hn y hy)
theorem ap_occ {l : List Bd} (h : GB l) {t : Tm} (hs : t.shp) {y : ByteArray} (ho : (t.sub (gB l)).occ y) : hasB l y = false := by
  obtain ⟨x, _, hx⟩ := (occ_sub _ y t hs).1 ho
  exact gB_occ h hx
theorem ap_shp {l : List Bd} (h : GB l) {t : Tm} (hs : t.shp) : (t.sub (gB l)).shp := shp_sub hs fun y hy => gB_shp h (occ_var hs hy)
theorem gB_one (name : ByteArray) (t : Tm) (y : ByteArray) : gB [⟨name, t⟩] y = if name = y then t else varT y := by
  simp only [gB, lookB, List.find?]
  split
  · rename_i h; simp only [decide_eq_true_eq] at h; rw [if_pos h]; rfl
  · rename_i h; simp only [decide_eq_false_iff_not] at h; rw [if_neg h]; rfl
theorem GB_nil : GB [] := ⟨by simp, List.Pairwise.nil, (fun b hb => by cases hb), (fun b hb => by cases hb)⟩
theorem mem_ins {α : Type} (l : List α) (i : Nat) (x b : α) : b ∈ ins l i x ↔ b ∈ l ∨ b = x := by
  unfold ins
  rw [List.mem_append, List.mem_cons]
  have : b ∈ l ↔ b ∈ l.take i ∨ b ∈ l.drop i := by rw [← List.mem_append, List.take_append_drop]
  rw [this]
  constructor
  · rintro (h | h | h) <;> simp [h]
  · rintro ((h | h) | h) <;> simp [h]
theorem stand_spec {l : List Bd} (h : GB l) {name : ByteArray} {t : Tm} (hn : varB name = true) (hns : name.size ≤ 140737488351232) (hw : t.wf) (hm : mayT t = true) (hl : hasB l name = false) (ho : ¬ t.occ name) (hf : ∀ y, t.occ y → hasB l y = false) (he : standE l name t = 0) :
    GB (qci l name t) ∧ (qci l name t).length = l.length + 1 ∧ (∀ y, gB (qci l name t) y = (gB l y).sub (gB [⟨name, t⟩])) ∧ ∀ y, hasB (qci l name t) y = (hasB l y || decide (name = y)) := by
  have hc : ¬ (16 ≤ l.length ∨ goodB [⟨name, t⟩] l = false) := by
    intro hc; rw [standE, if_pos hc] at he; cases he
  have hg : goodB [⟨name, t⟩] l = true := by
    cases hx : goodB [⟨name, t⟩] l with
    | true => rfl
    | false => exact absurd (.inr hx) hc
  have hg2 : ∀ b ∈ l, mayT (putT [⟨name, t⟩] b.t) = true := fun b hb => (into_may (by simpa using List.all_eq_true.1 hg b hb)).1
  rw [qci, if_neg hc]
  have hlen : (ins (subB [⟨name, t⟩] l) (posB l name) ⟨name, t⟩).length = l.length + 1 := by
    rw [qa0 _ _ _ (by rw [qco]; exact posB_le l name), qco]
  have hh : ∀ y, hasB (ins (subB [⟨name, t⟩] l) (posB l name) ⟨name, t⟩) y = (hasB l y || decide (name = y)) := fun y => by
    rw [Bool.eq_iff_iff, Bool.or_eq_true, qb7, qb7, decide_eq_true_eq]
    constructor
    · rintro ⟨b, hb, rfl⟩
      rcases (mem_ins _ _ _ _).1 hb with hb | rfl
      · obtain ⟨c, hc2, rfl⟩ := List.mem_map.1 hb
        exact .inl ⟨c, hc2, rfl⟩
      · exact .inr rfl
    · rintro (⟨b, hb, rfl⟩ | rfl)
      · exact ⟨_, (mem_ins _ _ _ _).2 (.inl (List.mem_map.2 ⟨b, hb, rfl⟩)), rfl⟩
      · exact ⟨_, (mem_ins _ _ _ _).2 (.inr rfl), rfl⟩
  have hsb : hasB (subB [⟨name, t⟩] l) name = false := by
    rw [hasB_no] at hl ⊢
    intro b hb
    obtain ⟨c, hc2, rfl⟩ := List.mem_map.1 hb
    exact hl c hc2
  have hris : RisB (ins (subB [⟨name, t⟩] l) (posB l name) ⟨name, t⟩) := by
    have := ins_ris (y := ⟨name, t⟩) (subB_ris [⟨name, t⟩] h.ris) hsb
    rwa [subB_pos] at this
  have hone := one_bok hns hw hm
  have hput : ∀ b ∈ l, putT [⟨name, t⟩] b.t = b.t.sub (gB [⟨name, t⟩]) := fun b hb => qcT (qao (h.el b hb).2.2) _
  have hGB : GB (ins (subB [⟨name, t⟩] l) (posB l name) ⟨name, t⟩) := by
    refine ⟨by rw [hlen]; omega, hris, fun b hb => ?_, fun b hb y hy => ?_⟩
    · rcases (mem_ins _ _ _ _).1 hb with hb | rfl
      · obtain ⟨c, hc2, rfl⟩ := List.mem_map.1 hb
        exact ⟨⟨(h.el c hc2).1.1, qcq hone (h.el c hc2).1.2⟩, (h.el c hc2).2.1, hg2 c hc2⟩
      · exact ⟨⟨hns, hw⟩, hn, hm⟩
    · rw [hh, Bool.or_eq_false_iff, decide_eq_false_iff_not]
      rcases (mem_ins _ _ _ _).1 hb with hb | rfl
      · obtain ⟨c, hc2, rfl⟩ := List.mem_map.1 hb
        simp only at hy
        rw [hput c hc2, occ_sub _ _ _ (qby (h.el c hc2).2.2)] at hy
        obtain ⟨x, hx, hy⟩ := hy
        rw [gB_one] at hy
        split at hy
        · exact ⟨hf y hy, fun e => ho (e ▸ hy)⟩
        · rename_i hne
          rw [varT_occ] at hy; subst hy
          exact ⟨h.idem c hc2 x hx, hne⟩
      · exact ⟨hf y hy, fun e => ho (e ▸ hy)⟩
  refine ⟨hGB, hlen, fun y => ?_, hh⟩
  rcases gB_cases h.ris y with ⟨b, hb, rfl, e⟩ | ⟨hn2, e⟩
  · rw [e]
    have := gB_mem hris (b := ⟨b.name, putT [⟨name, t⟩] b.t⟩) ((mem_ins _ _ _ _).2 (.inl (List.mem_map.2 ⟨b, hb, rfl⟩)))
    simp only at this
    rw [this, hput b hb]
  · rw [e, varT_sub, gB_one]
    split
    · rename_i hy; subst hy
      exact gB_mem hris (b := ⟨name, t⟩) ((mem_ins _ _ _ _).2 (.inr rfl))
    · rename_i hy
      exact gB_none hris (by rw [hh, hn2]; simpa using hy)
end Go.Proofs.YtdecgkhdbfgldaaGreat

set_option linter.unusedVariables false
set_option linter.unusedSimpArgs false
namespace Go.Proofs.YtdecgkhdbfgldaaGreat
open Go
def TK (t : Tm) : Prop := t.shp ∧ dle 5 t ∧ t.wf
def PK (p : Tm × Tm) : Prop := TK p.1 ∧ TK p.2
theorem TK_may {t : Tm} (h : mayT t = true) (hw : t.wf) : TK t := ⟨qby h, qao h, hw⟩
theorem TK.arg {t u : Tm} (h : TK t) (hu : u ∈ t.args) : TK u := ⟨h.1.arg hu, dle_mono 4 5 u (by omega) (h.2.1 u hu), Tm.wfs_mem h.2.2.2.2.2.2 hu⟩
theorem occB_iff {t : Tm} (h : dle 5 t) (s : ByteArray) : occB t s = true ↔ t.occ s := by
  rw [occB, List.any_eq_true]
  constructor
  · rintro ⟨y, hy, e⟩
    simp only [decide_eq_true_eq] at e; subst e
    exact (note5 h y).1 hy
  · intro ho; exact ⟨s, (note5 h s).2 ho, by simp⟩
theorem stands_spec {l : List Bd} (h : GB l) {x : ByteArray} {u : Tm} (hx : varB x = true) (hxs : x.size ≤ 140737488351232) (hw : u.wf) (hm : mayT u = true) (hl : hasB l x = false) (hf : ∀ y, u.occ y → hasB l y = false) (hne : u ≠ varT x) :
    standsE l x u = 2 ∨ (standsE l x u = 3 ∧ ∀ θ : ByteArray → Tm, θ x ≠ u.sub θ) ∨ (standsE l x u = 0 ∧ GB (standsL l x u) ∧ (standsL l x u).length = l.length + 1 ∧ (∀ y, gB (standsL l x u) y = (gB l y).sub (gB [⟨x, u⟩])) ∧ ∀ y, hasB (standsL l x u) y = (hasB l y || decide (x = y))) := by
  have hs := qby hm
  rw [standsE, standsL]
  cases hc : occB u x with
  | true =>
    rw [occB_iff (qao hm)] at hc
    rw [if_pos rfl]
    refine .inr (.inl ⟨rfl, fun θ e => ?_⟩)
    have hk : u.kind ≠ 1 := fun hk => by
      have hv := (hs.var hk).1
      rw [hv, Tm.occ_iff] at hc
      simp only [List.not_mem_nil, false_and, exists_false, or_false, true_and] at hc
      rw [hc] at hv; exact hne hv
    have := (sz_occ θ hs hc).2 hk
    rw [e] at this; omega
  | false =>
    have ho : ¬ u.occ x := fun ho => by rw [(occB_iff (qao hm) x).2 ho] at hc; cases hc
    rw [if_neg (by simp), if_neg (by simp)]
    by_cases he : standE l x u = 0
    · obtain ⟨h1, h2, h3, h4⟩ := stand_spec h hx hxs hw hm hl ho hf he
      exact .inr (.inr ⟨he, h1, h2, h3, h4⟩)
    · left
      unfold standE at he ⊢
      split
      · rfl
      · rename_i hh; rw [if_neg hh] at he; exact absurd rfl he
def OneOk (l : List Bd) (a b : Tm) (q : List Bd × List (Tm × Tm) × Int) : Prop :=
  mayT a = true ∧ mayT b = true ∧ ((q = (l, [], 0) ∧ a = b) ∨
    (∃ x u, ((a = varT x ∧ b = u) ∨ (b = varT x ∧ a = u)) ∧ u.shp ∧ q.2 = ([], 0) ∧ GB q.1 ∧ q.1.length = l.length + 1 ∧ (∀ y, gB q.1 y = (gB l y).sub (gB [⟨x, u⟩])) ∧ ∀ y, hasB q.1 y = (hasB l y || decide (x = y))) ∨
    (q = (l, a.args.zip b.args, 0) ∧ a.kind ≠ 1 ∧ b.kind ≠ 1 ∧ a.kind = b.kind ∧ a.name = b.name ∧ a.n = b.n ∧ a.args.length = b.args.length))
theorem one_spec {l : List Bd} (h : GB l) {p : Tm × Tm} (hp : PK p) :
    (oneR l p).2.2 = 2 ∨ ((oneR l p).2.2 = 3 ∧ ∀ θ : ByteArray → Tm, (p.1.sub (gB l)).sub θ ≠ (p.2.sub (gB l)).sub θ) ∨ OneOk l (p.1.sub (gB l)) (p.2.sub (gB l)) (oneR l p) := by
  have e1 := qcT hp.1.2.1 l
  have e2 := qcT hp.2.2.1 l
  have w1 := qcq h.bok hp.1.2.2
  have w2 := qcq h.bok hp.2.2.2
  have f1 : ∀ y, (p.1.sub (gB l)).occ y → hasB l y = false := fun y => ap_occ h hp.1.1
  have f2 : ∀ y, (p.2.sub (gB l)).occ y → hasB l y = false := fun y => ap_occ h hp.2.1
  have hi : ∀ t, intoE l t = 0 ∨ intoE l t = 2 := fun t => by unfold intoE; split <;> simp
  unfold oneR
  by_cases c0 : intoE l p.1 = 0
  case neg => rw [if_pos c0]; rcases hi p.1 with h | h; exact absurd h c0; exact .inl h
  rw [if_neg (by simp [c0])]
  by_cases c1 : intoE l p.2 = 0
  case neg => rw [if_pos c1]; rcases hi p.2 with h | h; exact absurd h c1; exact .inl h
  rw [if_neg (by simp [c1])]
  have m1 := (into_may c0).1
  have m2 := (into_may c1).1
  rw [e1] at w1 m1
  rw [e2] at w2 m2
  rw [e1, e2]
  generalize p.1.sub (gB l) = a at *
  generalize p.2.sub (gB l) = b at *
  have s1 := qby m1
  have s2 := qby m2
  have key : ∀ (x : ByteArray) (u : Tm), ((a = varT x ∧ b = u) ∨ (b = varT x ∧ a = u)) → u ≠ varT x → u.wf → mayT u = true → (∀ y, u.occ y → hasB l y = false) → varB x = true → x.size ≤ 140737488351232 → hasB l x = false →
      (standsE l x u = 2 ∨ (standsE l x u = 3 ∧ ∀ θ : ByteArray → Tm, a.sub θ ≠ b.sub θ) ∨ OneOk l a b (standsL l x u, [], standsE l x u)) := fun x u hab hne hw hm hf hx hxs hl => by
    rcases stands_spec h hx hxs hw hm hl hf hne with h1 | ⟨h1, h2⟩ | ⟨h1, h2, h3, h4, h5⟩
    · exact .inl h1
    · refine .inr (.inl ⟨h1, fun θ e => ?_⟩)
      rcases hab with ⟨rfl, rfl⟩ | ⟨rfl, rfl⟩
      · rw [varT_sub] at e; exact h2 θ e
      · rw [varT_sub] at e; exact h2 θ e.symm
    · exact .inr (.inr ⟨m1, m2, .inr (.inl ⟨x, u, hab, qby hm, by rw [h1], h2, h3, h4, h5⟩)⟩)
  split
  · rename_i hc
    have ea := (s1.var hc.1).1
    have eb := (s2.var hc.2.1).1
    exact .inr (.inr ⟨m1, m2, .inl ⟨rfl, by rw [ea, eb, hc.2.2]⟩⟩)
  rename_i n0
  split
  · rename_i hc
    have ea := s1.var hc.1
    refine key a.name b (.inl ⟨ea.1, rfl⟩) (fun e => ?_) w2 m2 f2 ea.2 w1.2.1 (f1 _ ((Tm.occ_iff _ _).2 (.inl ⟨hc.1, rfl⟩)))
    have hbk : b.kind = 1 := by rw [e]; rfl
    have hbn : b.name = a.name := by rw [e]; rfl
    exact n0 ⟨hc.1, hbk, hbn.symm⟩
  rename_i n1
  split
  · rename_i hc
    have eb := s2.var hc
    refine key b.name a (.inr ⟨eb.1, rfl⟩) (fun e => ?_) w1 m1 f1 eb.2 w2.2.1 (f2 _ ((Tm.occ_iff _ _).2 (.inl ⟨hc, rfl⟩)))
    have hak : a.kind = 1 := by rw [e]; rfl
    have han : a.name = b.name := by rw [e]; rfl
    exact n0 ⟨hak, hc, han⟩
  rename_i n2
  have hak : a.kind ≠ 1 := fun hk => n1 ⟨hk, .inl n2⟩
  split
  · rename_i hc
    rw [argsL, if_pos hc]
    simp only [qcV, Bool.and_eq_true, decide_eq_true_eq] at hc
    exact .inr (.inr ⟨m1, m2, .inr (.inr ⟨rfl, hak, n2, hc.1.1.1, hc.1.1.2, hc.1.2, hc.2⟩)⟩)
  · rename_i hc
    refine .inr (.inl ⟨rfl, fun θ e => ?_⟩)
    rw [Tm.sub_eq, if_neg hak, Tm.sub_eq, if_neg n2] at e
    simp only [Tm.mk.injEq] at e
    apply hc
    have := congrArg List.length e.2.2.2
    simp only [List.length_map] at this
    simp [qcV, e.1, e.2.1, e.2.2.1, this]
def uIter : Nat → List Bd → List (Tm × Tm) → Option (List Bd × Int)
  | _, l, [] => some (l, 0)
  | 0, _, _ :: _ => none
  | n + 1, l, p :: ps => if (oneR l p).2.2 ≠ 0 then some ([], (oneR l p).2.2) else uIter n (oneR l p).1 ((oneR l p).2.1 ++ ps)
theorem PK_zip {a b : Tm} (ha : TK a) (hb : TK b) : ∀ p ∈ a.args.zip b.args, PK p := fun p hp => by
  have := List.of_mem_zip hp
  exact ⟨ha.arg this.1, hb.arg this.2⟩
theorem one_keeps {l : List Bd} (h : GB l) {p : Tm × Tm} (hp : PK p) (he : (oneR l p).2.2 = 0) : GB (oneR l p).1 ∧ (∀ q ∈ (oneR l p).2.1, PK q) ∧ OneOk l (p.1.sub (gB l)) (p.2.sub (gB l)) (oneR l p) := by
  have e1 := qcT hp.1.2.1 l
  have e2 := qcT hp.2.2.1 l
  have w1 := qcq h.bok hp.1.2.2
  have w2 := qcq h.bok hp.2.2.2
  rw [e1] at w1
  rw [e2] at w2
  rcases one_spec h hp with h1 | ⟨h1, _⟩ | h1
  · rw [h1] at he; cases he
  · rw [h1] at he; cases he
  · refine ⟨?_, ?_, h1⟩
    · obtain ⟨_, _, ⟨e, _⟩ | ⟨x, u, _, _, e, hg, _⟩ | ⟨e, _⟩⟩ := h1
      · rw [e]; exact h
      · exact hg
      · rw [e]; exact h
    · obtain ⟨m1, m2, ⟨e, _⟩ | ⟨x, u, _, _, e, hg, _⟩ | ⟨e, _⟩⟩ := h1
      · rw [e]; intro q hq; cases hq
      · rw [e]; intro q hq; cases hq
      · rw [e]; exact PK_zip (TK_may m1 w1) (TK_may m2 w2)
end Go.Proofs.YtdecgkhdbfgldaaGreat

set_option linter.unusedVariables false
set_option linter.unusedSimpArgs false
namespace Go.Proofs.YtdecgkhdbfgldaaGreat
open Go
def wgh (l : List Bd) (ps : List (Tm × Tm)) : Nat := (ps.map fun p => (p.1.sub (gB l)).sz).sum
theorem wgh_cons (l : List Bd) (p : Tm × Tm) (ps : List (Tm × Tm)) : wgh l (p :: ps) = (p.1.sub (gB l)).sz + wgh l ps := by simp [wgh]
theorem wgh_append (l : List Bd) (ps qs : List (Tm × Tm)) : wgh l (ps ++ qs) = wgh l ps + wgh l qs := by simp [wgh]
theorem wgh_zip {l : List Bd} (h : GB l) {p : Tm × Tm} (hp : PK p) {bs : List Tm} (hlen : (p.1.sub (gB l)).args.length = bs.length) : 1 + wgh l ((p.1.sub (gB l)).args.zip bs) = (p.1.sub (gB l)).sz := by
  rw [Tm.sz_eq (p.1.sub (gB l)), wgh]
  have hs := ap_shp h hp.1.1
  have ho : ∀ y, (p.1.sub (gB l)).occ y → hasB l y = false := fun y => ap_occ h hp.1.1
  have e : (((p.1.sub (gB l)).args.zip bs).map fun p => (p.1.sub (gB l)).sz) = (((p.1.sub (gB l)).args.zip bs).map Prod.fst).map fun u => (u.sub (gB l)).sz := by rw [List.map_map]; rfl
  rw [e, List.map_fst_zip (by omega)]
  have e2 : ((p.1.sub (gB l)).args.map fun u => (u.sub (gB l)).sz) = (p.1.sub (gB l)).args.map Tm.sz := List.map_congr_left fun u hu => by
    rw [gB_id h (hs.arg hu) fun y hy => ho y ((Tm.occ_iff _ _).2 (.inr ⟨u, hu, hy⟩))]
  rw [e2]
def WI (l : List Bd) (ps : List (Tm × Tm)) : Prop := ∃ pend rest, ps = pend ++ rest ∧ wgh l pend ≤ 24 ∧ rest.length ≤ 24 * (l.length + 1)
theorem wgh_len (l : List Bd) : ∀ ps, ps.length ≤ wgh l ps
  | [] => Nat.zero_le _
  | p :: ps => by
    have := wgh_len l ps
    have := Tm.sz_pos (p.1.sub (gB l))
    rw [wgh_cons, List.length_cons]; omega
theorem WI.len {l : List Bd} {ps : List (Tm × Tm)} (h : WI l ps) (hl : l.length ≤ 16) : ps.length ≤ 432 := by
  obtain ⟨pend, rest, rfl, h1, h2⟩ := h
  have := wgh_len l pend
  rw [List.length_append]; omega
theorem WI.step {l : List Bd} (h : GB l) {p : Tm × Tm} (hp : PK p) {ps : List (Tm × Tm)} (hw : WI l (p :: ps)) (he : (oneR l p).2.2 = 0) : WI (oneR l p).1 ((oneR l p).2.1 ++ ps) := by
  obtain ⟨g1, g2, g3⟩ := one_keeps h hp he
  obtain ⟨pend, rest, e0, h1, h2⟩ := hw
  cases pend with
  | nil =>
    simp only [List.nil_append] at e0
    subst e0
    simp only [List.length_cons] at h2
    obtain ⟨m1, m2, ⟨e, _⟩ | ⟨x, u, _, _, e, _, hl, _⟩ | ⟨e, _, _, _, _, _, hlen⟩⟩ := g3
    · rw [e]; exact ⟨[], ps, rfl, by simp [wgh], by simp only; omega⟩
    · rw [e]; exact ⟨[], ps, rfl, by simp [wgh], by rw [hl]; omega⟩
    · rw [e]
      have := wgh_zip h hp hlen
      have hz := ((mayT_iff _).1 m1).2.2
      exact ⟨_, ps, rfl, by simp only; omega, by simp only; omega⟩
  | cons q pend =>
    simp only [List.cons_append, List.cons.injEq] at e0
    obtain ⟨rfl, rfl⟩ := e0
    rw [wgh_cons] at h1
    have hpos := Tm.sz_pos (p.1.sub (gB l))
    obtain ⟨m1, m2, ⟨e, _⟩ | ⟨x, u, _, _, e, _, hl, _⟩ | ⟨e, _, _, _, _, _, hlen⟩⟩ := g3
    · rw [e]; exact ⟨pend, rest, rfl, by simp only; omega, h2⟩
    · rw [e]
      refine ⟨[], pend ++ rest, rfl, by simp [wgh], ?_⟩
      have := wgh_len l pend
      rw [hl, List.length_append]; omega
    · rw [e]
      have := wgh_zip h hp hlen
      refine ⟨(p.1.sub (gB l)).args.zip (p.2.sub (gB l)).args ++ pend, rest, by simp, ?_, h2⟩
      rw [wgh_append]; simp only; omega
def uSt : Nat → List Bd × List (Tm × Tm) → List Bd × List (Tm × Tm)
  | 0, s => s
  | k + 1, s => match uSt k s with
    | (l, []) => (l, [])
    | (l, p :: ps) => ((oneR l p).1, (oneR l p).2.1 ++ ps)
theorem uSt_step {k : Nat} {s : List Bd × List (Tm × Tm)} {p : Tm × Tm} {ps : List (Tm × Tm)} (h : (uSt k s).2 = p :: ps) : uSt (k + 1) s = ((oneR (uSt k s).1 p).1, (oneR (uSt k s).1 p).2.1 ++ ps) := by
  rw [uSt]
  split
  · rename_i e; rw [e] at h; cases h
  · rename_i e; rw [e] at h ⊢; simp only [List.cons.injEq] at h; obtain ⟨rfl, rfl⟩ := h; rfl
def UI (n : Nat) (s : List Bd × List (Tm × Tm)) (R : List Bd × Int) (k : Nat) : Prop := k ≤ n ∧ GB (uSt k s).1 ∧ (∀ p ∈ (uSt k s).2, PK p) ∧ WI (uSt k s).1 (uSt k s).2 ∧ uIter (n - k) (uSt k s).1 (uSt k s).2 = some R
theorem UI.step {n : Nat} {s : List Bd × List (Tm × Tm)} {R : List Bd × Int} {k : Nat} (h : UI n s R k) {p : Tm × Tm} {ps : List (Tm × Tm)} (hp : (uSt k s).2 = p :: ps) : k < n ∧ ((oneR (uSt k s).1 p).2.2 = 0 → UI n s R (k + 1)) ∧ ((oneR (uSt k s).1 p).2.2 ≠ 0 → R = ([], (oneR (uSt k s).1 p).2.2)) := by
  obtain ⟨h1, h2, h3, h4, h5⟩ := h
  rw [hp] at h3 h4 h5
  have hk : k < n := by
    rcases Nat.lt_or_ge k n with h | h
    · exact h
    · rw [show n - k = 0 by omega, uIter] at h5; cases h5
  rw [show n - k = (n - (k + 1)) + 1 by omega, uIter] at h5
  refine ⟨hk, fun he => ?_, fun he => ?_⟩
  · rw [if_neg (by simp [he])] at h5
    obtain ⟨g1, g2, _⟩ := one_keeps h2 (h3 p (by simp)) he
    rw [UI, uSt_step hp]
    exact ⟨hk, g1, fun q hq => by
      rcases List.mem_append.1 hq with hq | hq
      · exact g2 q hq
      · exact h3 q (by simp [hq]), WI.step h2 (h3 p (by simp)) h4 he, h5⟩
  · rw [if_pos he] at h5; exact (Option.some.inj h5).symm
end Go.Proofs.YtdecgkhdbfgldaaGreat

set_option linter.unusedVariables false
set_option maxRecDepth 8000
namespace Go.Proofs.YtdecgkhdbfgldaaGreat
open Go Go.RowKit
structure Ask2 where
  B : List (List Bd)
  T : List Tm
  S : List ByteArray
def Ask2.wf (p : Ask2) : Prop := (qbD p.B ∧ ∀ l ∈ p.B, qbD l ∧ ∀ b ∈ l, b.wf) ∧ (qbD p.T ∧ Tm.wfs p.T) ∧ (qbD p.S ∧ ∀ s ∈ p.S, s.size ≤ 140737488351232)
end Go.Proofs.YtdecgkhdbfgldaaGreat

set_option linter.unusedVariables false
set_option linter.unusedSimpArgs false
set_option maxRecDepth 8000
namespace Go.Proofs.YtdecgkhdbfgldaaGreat
open Go
abbrev nmT (s : ByteArray) (l : List Tm) : Tm := ⟨3, s, 0, l⟩
end Go.Proofs.YtdecgkhdbfgldaaGreat
