/- Part 6 of the proof: Fc, Iter, Fd. -/
import Derived.Test.YtpgceiijoedppaaGreatB5
import Derived.Shelf.SlIter.Nil
import Derived.Shelf.SortM.Plain
import Derived.Shelf.SortM.SortNone
import Derived.Ground.GgzProg
import Derived.Ground.SlgmProg
import Derived.Shelf.SlGeneric
import Derived.Test.YtpgceiijoedppaaGreatProg
set_option linter.unusedVariables false
set_option linter.unusedSimpArgs false
set_option maxRecDepth 8000
namespace Go.Proofs.YtpgceiijoedppaaGreat
open Go
def cmpI (a b : Int) : Int := if a < b then -1 else if b < a then 1 else 0
def cmpS (a b : ByteArray) : Int := Lib.compareBytes a.data.toList b.data.toList
theorem isNaN_ok (x : Int) : PFm 243 [iv x] (bv false) := by
 refine qF Tryz.func243 E Tryz.ntmps243 zL fun c hL hQ hDD => (qd (qb (zX E (zK (qd (qb ?_)))))); refine zX E (zX E (zA E (qj E E E E) (zX E (zK (qo (zI hL (qh E qi) ?_ ?_))))))
 ·rfl
 refine ⟨qT ?_, rfl⟩
 simp
theorem cmpInt_ok (x y : Int) : PFm 184 [iv x, iv y] (iv (cmpI x y)) := by
 refine qF Tryz.func184 E Tryz.ntmps184 zL fun c hL hQ hDD => (qd (qb (zX E (zK (qd (qb ?_)))))); refine zX E (qE (avs := [_]) true E E E zD en_cmp_isNaN_int E E (isNaN_ok _) E E (zX E (zK (qd (qb (zX E ?_))))))
 refine qE (avs := [_]) true E E E zD en_cmp_isNaN_int E E (isNaN_ok _) E E (zX E (zK (qd (qd (qb (zX E ?_)))))); refine zK (qq E (fun c0 => ?_) (fun c0 => ?_))
 ·try simp only[↓cqA,cqB]at c0
  cases c0
 try simp only[↓cqA,cqB]at c0
 refine qr (qa (qd (qd (qb (zX E (zK ?_)))))); refine qq E (fun c2 => ?_) (fun c2 => ?_)
 ·try simp only[↓cqA,cqB]at c2
  cases c2
 try simp only[↓cqA,cqB]at c2
 refine qr (qa (qd (qd (qb (zX E (zX E (zA E (qj E E E E) ?_))))))); refine zK (qq E (fun c3 => ?_) (fun c3 => ?_))
 ·try simp only[↓cqA,cqB]at c3
  refine qd (qb (zX E (zK (qo (qm (zI hL (qh E qi) ?_ ?_))))))
  ·rfl
  refine ⟨qa2 ?_, rfl⟩
  simp only [cmpI]; split <;> (try split) <;> omega
 try simp only[↓cqA,cqB]at c3
 refine qr (qa (qd (qd (qb (zX E (zX E (zA E (qj E E E E) ?_))))))); refine zK (qq E (fun c4 => ?_) (fun c4 => ?_))
 ·try simp only[↓cqA,cqB]at c4
  refine qd (qb (zX E (zK (qo (qm (zI hL (qh E qi) ?_ ?_))))))
  ·rfl
  refine ⟨qa2 ?_, rfl⟩
  simp only [cmpI]; split <;> (try split) <;> omega
 try simp only[↓cqA,cqB]at c4
 refine qr (qa (qd (qb (zX E (zK (qo (zI hL (qh E qi) ?_ ?_)))))))
 ·rfl
 refine ⟨qa2 ?_, rfl⟩
 simp only [cmpI]; split <;> (try split) <;> omega
def orL : List Int → Int
 | [] => 0
 | a :: l => if a = 0 then orL l else a
theorem orL_drop : ∀ (l : List Int) (k : Nat), (∀ j x, j < k → l[j]? = some x → x = 0) → orL l = orL (l.drop k)
  | l, 0, _ => by simp
  | [], k + 1, _ => by simp
  | a :: l, k + 1, h => by
    have h0 := h 0 a (by omega) (by simp)
    simp only [orL, if_pos h0, List.drop_succ_cons]
    exact orL_drop l k fun j x hj hx => h (j + 1) x (by omega) (by simpa using hx)
def intDs (l : List Int) : List (List D) := l.map fun x => [.imm (.int .i64 x)]
theorem intDs_get {l : List Int} {k : Nat} {x : Int} (h : l[k]? = some x) : (intDs l)[k]? = some [.imm (.int .i64 x)] := by simp [intDs, h]
theorem cmpOr_ok (l : List Int) (hl : l.length ≤ 1000000) : PFm 182 [.dat false 1 (intDs l)] (iv (orL l)) := by
 have hlen : (intDs l).length = l.length := by simp [intDs]
 refine qF Tryz.func182 E Tryz.ntmps182 zL fun c hL hQ hDD => (qd (qb (zX E (zK (qd (qb ?_)))))); refine zX E (zK (qd (qd (qb (zX E (zA E (qu E qaL E) (zX E (zK (qv (q6 (l.length) (fun k => k ≤ l.length ∧ ∀ j x, j < k → l[j]? = some x → x = 0) (fun k => ⟨[(3, iv 0), (6, .dat false 1 (intDs l)), (7, iv (intDs l).length), (8, iv (k : Int))], []⟩) (⟨by omega, fun j x hj => absurd hj (by omega)⟩) ?_ (fun k hk hp => ?_)))))))))))
 ·exact zR hL (zC E (zC E (zC E (zC E SubT.nil)))) SubO.nil
 refine qd (qb (zA E (qj E E E E) (zK (qd (qq E (fun c0 => ?_) (fun c0 => ?_))))))
 ·try simp only[↓cqA,cqB]at c0
  obtain ⟨u, hu⟩ := qH (l := l) (k := k) (by omega)
  refine qr (qa (qd (qv (qd (qb (zA E (qp E qaL E E (by omega) (intDs_get hu)) (zA E (qN E qU E) ?_)))))))
  refine zX E (zK (qd (qb (zX E (zX E (zA E (qj E E E E) ?_)))))); refine zK (qq E (fun c1 => ?_) (fun c1 => ?_))
  ·try simp only[↓cqA,cqB]at c1
   refine qd (qb (zX E (zX E (zK (qo (qS (qm (qm (qS (qm (zI hL (qh E qi) ?_ ?_)))))))))))
   ·rfl
   refine ⟨qa2 ?_, rfl⟩
   rw [orL_drop l k hp.2, List.drop_eq_getElem_cons (by omega), orL]
   have h2 := List.getElem?_eq_some_iff.1 hu
   rw [h2.2, if_neg (by simpa using c1)]
  try simp only[↓cqA,cqB]at c1
  refine qr (qP (qa (qb (zA E (qJ E E E (by omega)) (zX E (zK ?_)))))); refine ⟨?_, ?_, ?_⟩
  ·omega
  ·refine ⟨by omega, fun j x hj hx => ?_⟩
   by_cases hjk : j < k
   ·exact hp.2 j x hjk hx
   ·rw [show j = k by omega, hu] at hx; cases hx; simpa using c1
  exact zR hL (zC E (zC E (zC E (zC E SubT.nil)))) SubO.nil
 try simp only[↓cqA,cqB]at c0
 refine qQ (qn (qn (qX ?_))); refine qa (qd (qb (zX E (zX E (zK (qo (zI hL (qh E qi) ?_ ?_)))))))
 ·rfl
 refine ⟨qa2 ?_, rfl⟩
 rw [orL_drop l k hp.2, List.drop_eq_nil_of_le (by omega), orL]
theorem CompareString_ok (a b : ByteArray) : PFm 280 [sv a, sv b] (iv (cmpS a b)) := by
 refine qF Tryz.func280 E Tryz.ntmps280 zL fun c hL hQ hDD => (qd (qb (zX E (zK (qd (qb ?_)))))); refine zX E (zX E (zA E (stp_cmpstring Tryz.func314 (by kernel_rfl) (by kernel_rfl) (by kernel_rfl) (by kernel_rfl) E E E) (zX E (zK (qo (zI hL (qh E qi) ?_ ?_))))))
 ·rfl
 exact ⟨rfl, rfl⟩
theorem stringsCompare_ok (a b : ByteArray) : PFm 237 [sv a, sv b] (iv (cmpS a b)) := by
 refine qF Tryz.func237 E Tryz.ntmps237 zL fun c hL hQ hDD => (qd (qb (zX E (zK (qd (qb ?_)))))); refine zX E (zX E (qE (avs := [_, _]) true E E E zD qdZ E E (CompareString_ok _ _) E E (zX E (zK (qo (zI hL (qh E qi) ?_ ?_))))))
 ·rfl
 exact ⟨rfl, rfl⟩
def cmpL (f : Tm → Tm → Int) : List Tm → List Tm → Int
 | [], [] => 0
 | [], _ :: _ => -1
 | _ :: _, [] => 1
 | a :: x, b :: y => if f a b = 0 then cmpL f x y else f a b
theorem cmpL_drop (f : Tm → Tm → Int) : ∀ (x y : List Tm) (k : Nat), k ≤ x.length → k ≤ y.length → (∀ j a b, j < k → x[j]? = some a → y[j]? = some b → f a b = 0) → cmpL f x y = cmpL f (x.drop k) (y.drop k)
  | x, y, 0, _, _, _ => by simp
  | [], y, k + 1, h, _, _ => by simp at h
  | x, [], k + 1, _, h, _ => by simp at h
  | a :: x, b :: y, k + 1, h1, h2, h => by
    have h0 := h 0 a b (by omega) (by simp) (by simp)
    simp only [cmpL, if_pos h0, List.drop_succ_cons]
    exact cmpL_drop f x y k (by simpa using h1) (by simpa using h2) fun j a b hj hx hy => h (j + 1) a b (by omega) (by simpa using hx) (by simpa using hy)
theorem CompareFunc_ok (x y : List Tm) (hx : x.length ≤ 140737488351232) (hy : y.length ≤ 140737488351232) (f : Tm → Tm → Int) (g : FuncId) (hen : qW Tryz.prog g) (hg : ∀ a b, a ∈ x → b ∈ y → PFm g [tmA false a, tmA false b] (iv (f a b))) :
  PFm 254 [.dat false 4 (tmDs x), .dat false 4 (tmDs y), .fn g []] (iv (cmpL f x y)) := by
 have hlx := qaJ x
 have hly := qaJ y
 refine qF Tryz.func254 E Tryz.ntmps254 zL fun c hL hQ hDD => (qd (qb (zX E (zK (qd (qd ?_)))))); refine qb (zX E (zA E (qu E qI E) (zX E (zK (qv (q6 (x.length) (fun k => k ≤ x.length ∧ k ≤ y.length ∧ ∀ j a b, j < k → x[j]? = some a → y[j]? = some b → f a b = 0) (fun k => ⟨[(0, .dat false 4 (tmDs x)), (1, .dat false 4 (tmDs y)), (2, .fn g []), (11, .dat false 4 (tmDs x)), (12, iv (tmDs x).length), (13, iv (k : Int))], []⟩) (⟨by omega, by omega, fun j a b hj => absurd hj (by omega)⟩) ?_ (fun k hk hp => ?_)))))))
 ·exact zR hL (zC E (zC E (zC E (zC E (zC E (zC E SubT.nil)))))) SubO.nil
 refine qd (qb (zA E (qj E E E E) (zK (qd (qq E (fun c0 => ?_) (fun c0 => ?_))))))
 ·try simp only[↓cqA,cqB]at c0
  obtain ⟨u, hu⟩ := qH (l := x) (k := k) (by omega)
  have hu2 := List.getElem?_eq_some_iff.1 hu
  refine qr (qa (qd (qv (qd (qb (zX E (zA E (qp E qI E E (by omega) (qbv hu)) ?_))))))); refine zA E (qC E qw E E) ?_
  refine qy E E zD (qaD 8 E qaw E) E (zX E (qae E E E qw E E E E E E E E E (zK (qd (qd (qb ?_)))))); refine zX E (zX E (zA E (qu E qI E) (zA E (qj E E E E) (zK (qq E (fun c1 => ?_) (fun c1 => ?_))))))
  ·try simp only[↓cqA,cqB]at c1
   refine qd (qb (zX E (zK (qo (qm (qS (qm (qm (qS (qm (zI hL (qh E qi) ?_ ?_)))))))))))
   ·rfl
   refine ⟨qa2 ?_, rfl⟩
   rw [cmpL_drop f x y k (by omega) (by omega) hp.2.2, List.drop_eq_getElem_cons (by omega), show List.drop k y = [] from List.drop_eq_nil_of_le (by omega), cmpL]
  try simp only[↓cqA,cqB]at c1
  obtain ⟨v, hv⟩ := qH (l := y) (k := k) (by omega)
  have hv2 := List.getElem?_eq_some_iff.1 hv
  refine qr (qa (qd (qb (zX E (zX E (zA E (qp E qI E E (by omega) (qbv hv)) (zA E (qC E qw E E) ?_)))))))
  refine qy E E zD (qaD 9 E qaw E) E (qae E E E qw E E E E E E E E E (zK (qd (qb (zX E (zA E (qK E qw E E E E) ?_)))))); refine zA E (qK E qw E E E E) ?_
  refine qE (avs := [_, _]) true E E E zD hen E E (hg u v (List.mem_of_getElem? hu) (List.mem_of_getElem? hv)) E E (zX E (zK (qd (qb (zX E (zA E (qj E E E E) ?_)))))); refine zK (qq E (fun c2 => ?_) (fun c2 => ?_))
  ·try simp only[↓cqA,cqB]at c2
   refine qd (qb (zX E (zX E (zK (qo (qS (qm (qm (qS (qm (zI hL (qh E qi) ?_ ?_)))))))))))
   ·rfl
   refine ⟨qa2 ?_, rfl⟩
   rw [cmpL_drop f x y k (by omega) (by omega) hp.2.2, List.drop_eq_getElem_cons (by omega), List.drop_eq_getElem_cons (l := y) (by omega), cmpL, hu2.2, hv2.2, if_neg (by simpa using c2)]
  try simp only[↓cqA,cqB]at c2
  refine qr (qP (qa (qb (zA E (qJ E E E (by omega)) (zX E (zK ?_)))))); refine ⟨?_, ?_, ?_⟩
  ·omega
  ·refine ⟨by omega, by omega, fun j a b hj hx hy => ?_⟩
   by_cases hjk : j < k
   ·exact hp.2.2 j a b hjk hx hy
   ·rw [show j = k by omega] at hx hy; rw [hu] at hx; rw [hv] at hy; cases hx; cases hy; simpa using c2
  exact zR hL (zC E (zC E (zC E (zC E (zC E (zC E SubT.nil)))))) SubO.nil
 try simp only[↓cqA,cqB]at c0
 refine qQ (qn (qn (qX ?_))); refine qa (qd (qd (qb (zX E (zA E (qu E qI E) (zX E (zA E (qu E qI E) ?_))))))); refine zA E (qj E E E E) (zK (qq E (fun c3 => ?_) (fun c3 => ?_)))
 ·try simp only[↓cqA,cqB]at c3
  refine qd (qb (zX E (zK (qo (qm (zI hL (qh E qi) ?_ ?_))))))
  ·rfl
  refine ⟨qa2 ?_, rfl⟩
  rw [cmpL_drop f x y k (by omega) (by omega) hp.2.2, List.drop_eq_nil_of_le (by omega), List.drop_eq_getElem_cons (l := y) (by omega), cmpL]
 try simp only[↓cqA,cqB]at c3
 refine qr (qa (qd (qb (zX E (zK (qo (zI hL (qh E qi) ?_ ?_)))))))
 ·rfl
 refine ⟨qa2 ?_, rfl⟩
 rw [cmpL_drop f x y k (by omega) (by omega) hp.2.2, List.drop_eq_nil_of_le (by omega), List.drop_eq_nil_of_le (by omega), cmpL]
def dle : Nat → Tm → Prop
 | 0, _ => False
 | d + 1, t => ∀ u, u ∈ t.args → dle d u
def cmpT : Nat → Tm → Tm → Int
  | 0, _, _ => 0
  | d + 1, a, b =>
    if orL [cmpI a.kind b.kind, cmpI a.n b.n, cmpI a.args.length b.args.length, cmpS a.name b.name] = 0 then cmpL (cmpT d) a.args b.args
    else orL [cmpI a.kind b.kind, cmpI a.n b.n, cmpI a.args.length b.args.length, cmpS a.name b.name]
theorem Tm.wfs_mem {ts : List Tm} {t : Tm} (h : Tm.wfs ts) (hm : t ∈ ts) : t.wf := by
 obtain ⟨i, hi⟩ := List.getElem?_of_mem hm
 exact Tm.wfs_get h hi
theorem Compare_ok : ∀ (d : Nat) (a b : Tm), dle d a → a.wf → b.wf → PFm 192 [tmA false a, tmA false b] (iv (cmpT d a b))
  | 0, a, b, h, _, _ => h.elim
  | d + 1, a, b, h, ha, hb => by
    have h1 := ha.2.2.2.1
    have h2 := hb.2.2.2.1
    have hla := qaJ a.args
    have hlb := qaJ b.args
    refine qF Tryz.func192 E Tryz.ntmps192 zL fun c hL hQ hDD => (qd (qb (qy E E zD (qaa 2 E E E) E (qy E E zD (qaa 3 E E E) E (zX E (zK ?_)))))); refine qd (qd (qZ 21 mixed E E E E (qf E zD (.run E (qe E qar E)) (qf E zD (.run E (ql E qU E E E E E)) (qf E zD (.run E (qe E qar E)) (qf E zD (.run E (ql E qU E E E E E)) (qf E zD (.run E (qY (avs := [_, _]) true E qbp E E (cmpInt_ok _ _) (fun _ => rfl) E)) (qf E zD (.run E (qe E qbc E)) (qf E zD (.run E (ql E qU E E E E E)) ?_)))))))))
    refine qf E zD (.run E (qe E qbc E)) (qf E zD (.run E (ql E qU E E E E E)) (qf E zD (.run E (qY (avs := [_, _]) true E qbp E E (cmpInt_ok _ _) (fun _ => rfl) E)) (qf E zD (.run E (qe E q8 E)) (qf E zD (.run E (ql E q7 E E E E E)) (qf E zD (.run E (qu E qI E)) (qf E zD (.run E (qe E q8 E)) (qf E zD (.run E (ql E q7 E E E E E)) (qf E zD (.run E (qu E qI E)) (qf E zD (.run E (qY (avs := [_, _]) true E qbp E E (cmpInt_ok _ _) (fun _ => rfl) E)) (qf E zD (.run E (qe E qav E)) (qf E zD (.run E (ql E qaf E E E E E)) ?_)))))))))))
    refine qf E zD (.run E (qe E qav E)) (qf E zD (.run E (ql E qaf E E E E E)) (qak ⟨rfl, rfl, ?_⟩)); refine qE (avs := [_, _]) true E E E zD qdX E E (stringsCompare_ok _ _) E E (qy E E zD (qam 28 E qaL zv_int E E zD zD zD E E E) E (qdg 28 false 4 E E E E ?_))
    refine qE (avs := [_]) true E E E zD en_cmp_Or_int E E (cmpOr_ok [cmpI a.kind b.kind, cmpI a.n b.n, cmpI (tmDs a.args).length (tmDs b.args).length, cmpS a.name b.name] (by simp)) rfl rfl (zN rfl rfl rfl (zK (qd (qb (zM rfl rfl rfl (zA rfl (qj rfl rfl rfl rfl) ?_)))))); refine zK (qq E (fun c0 => ?_) (fun c0 => ?_))
    · try simp only[↓cqA,cqB]at c0
      refine qd (qb (zX E (zX E (zK (qo (qm (zI hL (qh E qi) ?_ ?_)))))))
      · rfl
      refine ⟨qa2 ?_, rfl⟩
      rw [hla, hlb] at c0
      rw [cmpT]
      try rw [hla, hlb]
      first | rw [if_pos (by simpa using c0)] | rw [if_neg (by simpa using c0)]
    try simp only[↓cqA,cqB]at c0
    refine qr (qa (qd (qb (zA E (qe E q8 E) (zA E (ql E q7 E E E E E) (zA E (qe E q8 E) (zA E (ql E q7 E E E E E) (qE (avs := [_, _, _]) true E E E zD qbQ E E (CompareFunc_ok a.args b.args (by omega) (by omega) (cmpT d) _ en_term_Compare (fun u v hu hv => Compare_ok d u v (h u hu) (Tm.wfs_mem ha.2.2.2.2 hu) (Tm.wfs_mem hb.2.2.2.2 hv))) E E (zX E (zK (qo (zI hL (qh E qi) ?_ ?_))))))))))))
    · rfl
    refine ⟨qa2 ?_, rfl⟩
    rw [hla, hlb] at c0
    rw [cmpT]
    try rw [hla, hlb]
    first | rw [if_pos (by simpa using c0)] | rw [if_neg (by simpa using c0)]
end Go.Proofs.YtpgceiijoedppaaGreat

namespace Go.Proofs
open Go.Shelf
def Tryz.keys241_ren : Go.Shelf.Ren := ⟨fun | 7 => 241 | 10 => 283 | n => n, fun | 23 => 248 | 26 => 9 | 3 => 4 | 28 => 252 | 0 => 0 | 27 => 251 | 33 => 57 | 4 => 4 | n => n, fun | n => n⟩
theorem Tryz.keys241 : Go.Proofs.SlLaysZ.n7 Tryz.prog Tryz.keys241_ren := {
 mixed := by kernel_rfl
 f7 := ⟨Tryz.f241.name, by decide, Tryz.func241.trans (congrArg some (by kernel_rfl))⟩
 f10 := ⟨Tryz.f283.name, by decide, Tryz.func283.trans (congrArg some (by kernel_rfl))⟩
 t0 := Tryz.underlying0
 a0 := Tryz.isAgg0
 z0 := Tryz.sizeOf0
 v0 := Tryz.zeroValue0
 t4 := Tryz.underlying4
 a4 := Tryz.isAgg4
 z4 := Tryz.sizeOf4
 v4 := Tryz.zeroValue4
 t23 := Tryz.underlying248
 a23 := Tryz.isAgg248
 z23 := Tryz.sizeOf248
 v23 := Tryz.zeroValue248
 t26 := Tryz.underlying9
 a26 := Tryz.isAgg9
 z26 := Tryz.sizeOf9
 v26 := Tryz.zeroValue9
 t27 := Tryz.underlying251
 a27 := Tryz.isAgg251
 z27 := Tryz.sizeOf251
 v27 := Tryz.zeroValue251
 t28 := Tryz.underlying252
 a28 := Tryz.isAgg252
 z28 := Tryz.sizeOf252
 v28 := Tryz.zeroValue252
 t33 := Tryz.underlying57
 a33 := Tryz.isAgg57
 z33 := Tryz.sizeOf57
 v33 := Tryz.zeroValue57 }
def Tryz.sorted240_ren : Go.Shelf.Ren := ⟨fun | 6 => 240 | 8 => 281 | 9 => 282 | 11 => 315 | 13 => 191 | 12 => 316 | 23 => 252 | 24 => 253 | 14 => 331 | 15 => 332 | 16 => 333 | 17 => 334 | 18 => 335 | 19 => 336 | 20 => 337 | 21 => 338 | 22 => 339 | 25 => 344 | 26 => 285 | 27 => 286 | 28 => 345 | 29 => 346 | 30 => 347 | 31 => 349 | n => n, fun | 26 => 9 | 28 => 252 | 24 => 84 | 0 => 0 | 3 => 3 | 37 => 125 | 48 => 263 | 50 => 265 | 4 => 4 | 40 => 257 | 39 => 256 | 45 => 196 | 5 => 5 | 9 => 9 | 51 => 295 | 55 => 193 | 57 => 321 | 58 => 322 | 33 => 57 | n => n, fun | n => n⟩
theorem Tryz.sorted240 : Go.Proofs.SlLaysZ.n6 Tryz.prog Tryz.sorted240_ren := {
 mixed := by kernel_rfl
 f6 := ⟨Tryz.f240.name, by decide, Tryz.func240.trans (congrArg some (by kernel_rfl))⟩
 f8 := ⟨Tryz.f281.name, by decide, Tryz.func281.trans (congrArg some (by kernel_rfl))⟩
 f11 := ⟨Tryz.f315.name, by decide, Tryz.func315.trans (congrArg some (by kernel_rfl))⟩
 t0 := Tryz.underlying0
 a0 := Tryz.isAgg0
 z0 := Tryz.sizeOf0
 v0 := Tryz.zeroValue0
 t24 := Tryz.underlying84
 a24 := Tryz.isAgg84
 z24 := Tryz.sizeOf84
 v24 := Tryz.zeroValue84
 t26 := Tryz.underlying9
 a26 := Tryz.isAgg9
 z26 := Tryz.sizeOf9
 v26 := Tryz.zeroValue9
 t28 := Tryz.underlying252
 a28 := Tryz.isAgg252
 z28 := Tryz.sizeOf252
 v28 := Tryz.zeroValue252
 i26 := by kernel_rfl }
def Tryz.sort282_ren : Go.Shelf.Ren := ⟨fun | 6 => 282 | 8 => 191 | 9 => 316 | 19 => 252 | 20 => 253 | 21 => 331 | 22 => 332 | 23 => 333 | 24 => 334 | 25 => 335 | 26 => 336 | 27 => 337 | 28 => 338 | 29 => 339 | 36 => 344 | 31 => 285 | 32 => 286 | 37 => 345 | 38 => 346 | 39 => 347 | 41 => 349 | n => n, fun | 27 => 84 | 29 => 9 | 3 => 3 | 32 => 125 | 26 => 84 | 0 => 0 | 44 => 263 | 46 => 265 | 4 => 4 | 36 => 257 | 35 => 256 | 41 => 196 | 5 => 5 | 9 => 9 | 53 => 295 | 57 => 193 | 63 => 321 | 64 => 322 | n => n, fun | n => n⟩
theorem Tryz.sort282 : Go.Proofs.SlLaysM.n6 Tryz.prog Tryz.sort282_ren := {
 mixed := by kernel_rfl
 f6 := ⟨Tryz.f282.name, by decide, Tryz.func282.trans (congrArg some (by kernel_rfl))⟩
 f8 := Tryz.func191.trans (congrArg some (by kernel_rfl))
 f9 := ⟨Tryz.f316.name, by decide, Tryz.func316.trans (congrArg some (by kernel_rfl))⟩
 f19 := Tryz.func252.trans (congrArg some (by kernel_rfl))
 f20 := Tryz.func253.trans (congrArg some (by kernel_rfl))
 f21 := ⟨Tryz.f331.name, by decide, Tryz.func331.trans (congrArg some (by kernel_rfl))⟩
 f22 := ⟨Tryz.f332.name, by decide, Tryz.func332.trans (congrArg some (by kernel_rfl))⟩
 f23 := ⟨Tryz.f333.name, by decide, Tryz.func333.trans (congrArg some (by kernel_rfl))⟩
 f24 := ⟨Tryz.f334.name, by decide, Tryz.func334.trans (congrArg some (by kernel_rfl))⟩
 f25 := ⟨Tryz.f335.name, by decide, Tryz.func335.trans (congrArg some (by kernel_rfl))⟩
 f26 := ⟨Tryz.f336.name, by decide, Tryz.func336.trans (congrArg some (by kernel_rfl))⟩
 f27 := ⟨Tryz.f337.name, by decide, Tryz.func337.trans (congrArg some (by kernel_rfl))⟩
 f28 := ⟨Tryz.f338.name, by decide, Tryz.func338.trans (congrArg some (by kernel_rfl))⟩
 f29 := ⟨Tryz.f339.name, by decide, Tryz.func339.trans (congrArg some (by kernel_rfl))⟩
 f31 := Tryz.func285.trans (congrArg some (by kernel_rfl))
 f32 := Tryz.func286.trans (congrArg some (by kernel_rfl))
 f36 := ⟨Tryz.f344.name, by decide, Tryz.func344.trans (congrArg some (by kernel_rfl))⟩
 f37 := ⟨Tryz.f345.name, by decide, Tryz.func345.trans (congrArg some (by kernel_rfl))⟩
 f38 := ⟨Tryz.f346.name, by decide, Tryz.func346.trans (congrArg some (by kernel_rfl))⟩
 f39 := ⟨Tryz.f347.name, by decide, Tryz.func347.trans (congrArg some (by kernel_rfl))⟩
 f41 := ⟨Tryz.f349.name, by decide, Tryz.func349.trans (congrArg some (by kernel_rfl))⟩
 t0 := Tryz.underlying0
 a0 := Tryz.isAgg0
 z0 := Tryz.sizeOf0
 v0 := Tryz.zeroValue0
 t3 := Tryz.underlying3
 a3 := Tryz.isAgg3
 z3 := Tryz.sizeOf3
 v3 := Tryz.zeroValue3
 t4 := Tryz.underlying4
 a4 := Tryz.isAgg4
 z4 := Tryz.sizeOf4
 v4 := Tryz.zeroValue4
 t5 := Tryz.underlying5
 a5 := Tryz.isAgg5
 z5 := Tryz.sizeOf5
 v5 := Tryz.zeroValue5
 t9 := Tryz.underlying9
 a9 := Tryz.isAgg9
 z9 := Tryz.sizeOf9
 v9 := Tryz.zeroValue9
 t26 := Tryz.underlying84
 a26 := Tryz.isAgg84
 z26 := Tryz.sizeOf84
 v26 := Tryz.zeroValue84
 t27 := Tryz.underlying84
 a27 := Tryz.isAgg84
 z27 := Tryz.sizeOf84
 v27 := Tryz.zeroValue84
 t29 := Tryz.underlying9
 a29 := Tryz.isAgg9
 z29 := Tryz.sizeOf9
 v29 := Tryz.zeroValue9
 t32 := Tryz.underlying125
 a32 := Tryz.isAgg125
 z32 := Tryz.sizeOf125
 v32 := Tryz.zeroValue125
 t35 := Tryz.underlying256
 a35 := Tryz.isAgg256
 z35 := Tryz.sizeOf256
 v35 := Tryz.zeroValue256
 t36 := Tryz.underlying257
 a36 := Tryz.isAgg257
 z36 := Tryz.sizeOf257
 v36 := Tryz.zeroValue257
 t41 := Tryz.underlying196
 a41 := Tryz.isAgg196
 z41 := Tryz.sizeOf196
 v41 := Tryz.zeroValue196
 t44 := Tryz.underlying263
 a44 := Tryz.isAgg263
 z44 := Tryz.sizeOf263
 v44 := Tryz.zeroValue263
 t46 := Tryz.underlying265
 a46 := Tryz.isAgg265
 z46 := Tryz.sizeOf265
 v46 := Tryz.zeroValue265
 t53 := Tryz.underlying295
 a53 := Tryz.isAgg295
 z53 := Tryz.sizeOf295
 v53 := Tryz.zeroValue295
 t57 := Tryz.underlying193
 a57 := Tryz.isAgg193
 z57 := Tryz.sizeOf193
 v57 := Tryz.zeroValue193
 t63 := Tryz.underlying321
 a63 := Tryz.isAgg321
 z63 := Tryz.sizeOf321
 v63 := Tryz.zeroValue321
 t64 := Tryz.underlying322
 a64 := Tryz.isAgg322
 z64 := Tryz.sizeOf322
 v64 := Tryz.zeroValue322 }
end Go.Proofs
namespace Go.Proofs
open Go.RowKit Go.Maps Go.Sort Go.Shelf
theorem Tryz.sorts240 (m : Nat) : AnyZ.SortsIn Tryz.prog Tryz.sorted240_ren Fence.wide m :=
  ⟨fun blk off cap ss W hH hblk hsz => callsIn_wide.2 (AnyM.slices_Sort_string Tryz.sort282 blk off cap ss W hH hblk hsz),
   fun p cap W => callsIn_wide.2 (AnyM.slices_Sort_string_none Tryz.sort282 p cap W)⟩
end Go.Proofs

namespace Go.Proofs.YtpgceiijoedppaaGreat
open Go Go.Maps Go.Sort Go.Shelf Go.RowKit
def litS (ss : List ByteArray) : List Lit := ss.map fun s => .string s.data.toList
theorem litS_mem {ss : List ByteArray} {s : ByteArray} : Lit.string s.data.toList ∈ litS ss ↔ s ∈ ss := by
 simp only [litS, List.mem_map, Lit.string.injEq]
 constructor
 ·rintro ⟨u, hu, e⟩
  have : u = s := by cases u; cases s; congr 1; exact Array.toList_inj.1 e
  rw [← this]; exact hu
 ·intro h; exact ⟨s, h, rfl⟩
theorem litS_length (ss : List ByteArray) : (litS ss).length = ss.length := by simp [litS]
noncomputable abbrev mpS (ss : List ByteArray) : Ob := .mp Tryz.prog 9 (litS ss)
def qdA : Nat → Tm → List ByteArray → List ByteArray
 | 0, _, ss => ss
 | d + 1, t, ss => t.args.foldl (fun s u => qdA d u s) (if t.kind = 1 then t.name :: ss else ss)
def nodes : Nat → Tm → Nat
 | 0, _ => 0
 | d + 1, t => 1 + (t.args.map (nodes d)).sum
theorem noteS_len : ∀ (d : Nat) (t : Tm) (ss : List ByteArray), (qdA d t ss).length ≤ ss.length + nodes d t
  | 0, t, ss => by simp [qdA, nodes]
  | d + 1, t, ss => by
    have key : ∀ (l : List Tm) (ss : List ByteArray), (l.foldl (fun s u => qdA d u s) ss).length ≤ ss.length + (l.map (nodes d)).sum := fun l => by
      induction l with
      | nil => intro ss; simp
      | cons a l ih =>
        intro ss
        have h1 := ih (qdA d a ss)
        have h2 := noteS_len d a ss
        simp only [List.foldl_cons, List.map_cons, List.sum_cons]; omega
    simp only [qdA, nodes]
    have := key t.args (if t.kind = 1 then t.name :: ss else ss)
    have h3 : (if t.kind = 1 then t.name :: ss else ss).length ≤ ss.length + 1 := by split <;> simp
    omega
theorem noteL_len (d : Nat) : ∀ (l : List Tm) (ss : List ByteArray), (l.foldl (fun s u => qdA d u s) ss).length ≤ ss.length + (l.map (nodes d)).sum
  | [], ss => by simp
  | a :: l, ss => by
    have h1 := noteL_len d l (qdA d a ss)
    have h2 := noteS_len d a ss
    simp only [List.foldl_cons, List.map_cons, List.sum_cons]; omega
theorem sum_split {l : List Tm} {k : Nat} {u : Tm} (f : Tm → Nat) (h : l[k]? = some u) : ((l.take k).map f).sum + f u ≤ (l.map f).sum := by
 have h2 := List.getElem?_eq_some_iff.1 h
 have : l = l.take k ++ l.drop k := (List.take_append_drop k l).symm
 rw [List.drop_eq_getElem_cons h2.1, h2.2] at this
 have h3 := congrArg (fun l => (l.map f).sum) this
 simp only [List.map_append, List.sum_append, List.map_cons, List.sum_cons] at h3
 omega
theorem Note_ok : ∀ (d : Nat) (t : Tm) (ss : List ByteArray), dle d t → t.wf → ss.length + nodes d t ≤ 1000000 → AC Tryz.prog 239 [tmA false t, .map 0] [(0, mpS ss)] (fun r O => r = .tup [] ∧ O = [(0, mpS (qdA d t ss))])
  | 0, t, ss, h, _, _ => h.elim
  | d + 1, t, ss, h, ht, hn => by
    have hal := ht.2.2.2.1
    have hnm := ht.2.1
    have hlen := qaJ t.args
    have hmx : maxLen = 9223372036854775807 := rfl
    simp only [nodes] at hn
    refine qF Tryz.func239 E Tryz.ntmps239 zL fun c hL hQ hDD => (qd (qb (qy E E zD (qaa 2 E E E) E (zK (qd (qd ?_)))))); refine qb (zA E (qe E qar E) (zA E (ql E qU E E E E E) (zA E (qj E E E E) (zK (qq E (fun c0 => ?_) (fun c0 => ?_))))))
    · try simp only[↓cqA,cqB]at c0
      refine qb ?_; refine zX E ?_; refine zA E (qe E qav E) ?_; refine zA E (ql E qaf E E E E E) ?_; refine awps_mapSet E E E um_map_string_bool E E E E E (Go.WideMaps.keyOf_string_mk qbG (by omega)) (by rw [litS_length]; omega) ?_; refine qc ?_; refine qa ?_; refine qd ?_; refine qb ?_; refine zA E (qe E q8 E) (zA E (ql E q7 E E E E E) (zA E (qu E qI E) (zX E (zK (qv (q6 (t.args.length) (fun k => k ≤ t.args.length) (fun k => ⟨[(1, .map 0), (13, .dat false 4 (tmDs t.args)), (14, iv (tmDs t.args).length), (15, iv (k : Int))], [(0, mpS ((t.args.take k).foldl (fun s u => qdA d u s) (if t.kind = 1 then t.name :: ss else ss)))]⟩) (by omega) ?_ (fun k hk hp => ?_)))))))
      · exact qB (zC E (zC E (zC E (zC E SubT.nil)))) (SubO.cons (qR E (by simp [c0, litS])) SubO.nil) rfl rfl (LO hL rfl)
      refine qd (qb (zA E (qj E E E E) (zK (qd (qq E (fun c1 => ?_) (fun c1 => ?_))))))
      · try simp only[↓cqA,cqB]at c1
        obtain ⟨u, hu⟩ := qH (l := t.args) (k := k) (by omega)
        have hum := List.mem_of_getElem? hu
        have hs1 := noteL_len d (t.args.take k) (if t.kind = 1 then t.name :: ss else ss)
        have hs2 := sum_split (nodes d) hu
        have hs3 : (if t.kind = 1 then t.name :: ss else ss).length ≤ ss.length + 1 := by split <;> simp
        refine qr (qa (qd (qv (qd (qb (zA E (qp E qI E E (by omega) (qbv hu)) (zA E (qC E qw E E) ?_))))))); refine qy E E zD (qaD 5 E qaw E) E (qae E E E qw E E E E E E E E E (zK (qb ?_)))
        refine zA E (qK E qw E E E E) ?_; refine zX E ?_; refine qaj (avs := [_, _]) true E E E zD en_term_Note E E (Note_ok d u _ (h u hum) (Tm.wfs_mem ht.2.2.2.2 hum) (by omega)) E (qbX (.cons E trivial E .nil)) (by rintro r O' ⟨rfl, rfl⟩ l hl; exact .inl ((qdr (by rfl) l).trans hl)) (by rintro - r O' ⟨rfl, rfl⟩; exact ⟨rfl, rfl⟩) ?_
        rintro r O' ⟨rfl, rfl⟩
        refine qc (qP (qa (qb (zA E (qJ E E E (by omega)) (zX E (zK ?_)))))); refine ⟨?_, ?_, ?_⟩
        · omega
        · omega
        exact qB (zC E (zC E (zC E (zC E SubT.nil)))) (SubO.cons (qR E (by rw [qac hu, List.foldl_append]; rfl)) SubO.nil) E E (LO hL E)
      try simp only[↓cqA,cqB]at c1
      refine qQ (qn (qn (qX ?_)))
      change retQ _ _ _ _ _ _ _
      refine retO (O' := [(0, _)]) (.inr E) qi (SubO.cons E SubO.nil) ?_ ?_ ?_ ?_
      · rfl
      · rfl
      · exact LO hL E
      exact ⟨rfl, by rw [qdA, List.take_of_length_le (by omega)]⟩
    try simp only[↓cqA,cqB]at c0
    refine qr (qa (qd (qb (zA E (qe E q8 E) (zA E (ql E q7 E E E E E) (zA E (qu E qI E) (zX E ?_))))))); refine zK (qv (q6 (t.args.length) (fun k => k ≤ t.args.length) (fun k => ⟨[(1, .map 0), (13, .dat false 4 (tmDs t.args)), (14, iv (tmDs t.args).length), (15, iv (k : Int))], [(0, mpS ((t.args.take k).foldl (fun s u => qdA d u s) (if t.kind = 1 then t.name :: ss else ss)))]⟩) (by omega) ?_ (fun k hk hp => ?_)))
    · exact qB (zC E (zC E (zC E (zC E SubT.nil)))) (SubO.cons (qR E (by simp [c0, litS])) SubO.nil) rfl rfl (LO hL rfl)
    refine qd (qb (zA E (qj E E E E) (zK (qd (qq E (fun c1 => ?_) (fun c1 => ?_))))))
    · try simp only[↓cqA,cqB]at c1
      obtain ⟨u, hu⟩ := qH (l := t.args) (k := k) (by omega)
      have hum := List.mem_of_getElem? hu
      have hs1 := noteL_len d (t.args.take k) (if t.kind = 1 then t.name :: ss else ss)
      have hs2 := sum_split (nodes d) hu
      have hs3 : (if t.kind = 1 then t.name :: ss else ss).length ≤ ss.length + 1 := by split <;> simp
      refine qr (qa (qd (qv (qd (qb (zA E (qp E qI E E (by omega) (qbv hu)) (zA E (qC E qw E E) ?_))))))); refine qy E E zD (qaD 5 E qaw E) E (qae E E E qw E E E E E E E E E (zK (qb ?_)))
      refine zA E (qK E qw E E E E) ?_; refine zX E ?_; refine qaj (avs := [_, _]) true E E E zD en_term_Note E E (Note_ok d u _ (h u hum) (Tm.wfs_mem ht.2.2.2.2 hum) (by omega)) E (qbX (.cons E trivial E .nil)) (by rintro r O' ⟨rfl, rfl⟩ l hl; exact .inl ((qdr (by rfl) l).trans hl)) (by rintro - r O' ⟨rfl, rfl⟩; exact ⟨rfl, rfl⟩) ?_
      rintro r O' ⟨rfl, rfl⟩
      refine qc (qP (qa (qb (zA E (qJ E E E (by omega)) (zX E (zK ?_)))))); refine ⟨?_, ?_, ?_⟩
      · omega
      · omega
      exact qB (zC E (zC E (zC E (zC E SubT.nil)))) (SubO.cons (qR E (by rw [qac hu, List.foldl_append]; rfl)) SubO.nil) E E (LO hL E)
    try simp only[↓cqA,cqB]at c1
    refine qQ (qn (qn (qX ?_)))
    change retQ _ _ _ _ _ _ _
    refine retO (O' := [(0, _)]) (.inr E) qi (SubO.cons E SubO.nil) ?_ ?_ ?_ ?_
    · rfl
    · rfl
    · exact LO hL E
    exact ⟨rfl, by rw [qdA, List.take_of_length_le (by omega)]⟩
theorem Keys_ok (ss : List ByteArray) : AC Tryz.prog 241 [.map 0] [(0, mpS ss)] (fun r O => r = .fn 283 [.ptr 1 0] ∧ O = [(1, .box [.map 0]), (0, mpS ss)]) := by
 refine qF Tryz.func241 E Tryz.ntmps241 zL fun c hL hQ hDD => (qd (qb (qy E E zD (qaa 1 E E E) E (zX E (zK (qd ?_)))))); refine qb (zA E (qdL (vs := [_]) E E) (zX E (zK (qo ?_))))
 change retQ _ _ _ _ _ _ _
 refine retO (O' := [(1, _), (0, _)]) (.inl E) (qh E qi) (SubO.cons E (SubO.cons E SubO.nil)) ?_ ?_ ?_ ?_
 ·rfl
 ·rfl
 ·intro l hl
  have := (hL l).1 hl
  simp only [inD, qa3] at this ⊢
  split
  ·rfl
  ·exact this
 exact ⟨rfl, rfl⟩
def Rising (l : List ByteArray) : Prop := l.Pairwise (fun a b => a.data.toList < b.data.toList)
def qbw (l : List ByteArray) : List (List D) := l.map fun s => [.imm (.string s)]
theorem qaX (l : List ByteArray) : (qbw l).length = l.length := by simp [qbw]
theorem strKeys_spec {P : Program} {k : TypeId} {w : World} {b n : Nat} {D : DataW Unit} (hk : P.underlying k = some .string) (h : w.ownsMap P k R1 b n D) : (strKeys D).Nodup ∧ ∀ x, x ∈ strKeys D ↔ has D (.string x) = true := by
 obtain ⟨es, rfl, hp, _⟩ := h.entries (string_keyed hk)
 obtain ⟨es', he, hks⟩ := h.keysOf
 cases he
 have hk' : ∀ p ∈ es, ∃ x, p.1 = .string x := fun p hp' => by
  obtain ⟨v, hv⟩ := hks p hp'
  obtain ⟨x, _, h2, _⟩ := Maps.keyOf_str hk hv
  exact ⟨x, h2⟩
 refine ⟨?_, fun x => ?_⟩
 ·show (es.map fun p => strOf p.1).Nodup
  refine List.pairwise_map.2 (hp.imp_of_mem fun {p q} hp' hq' hne e => hne ?_)
  obtain ⟨a, ha⟩ := hk' p hp'
  obtain ⟨b, hb⟩ := hk' q hq'
  rw [ha, hb] at e ⊢
  exact congrArg _ e
 ·rw [has_eq, List.any_eq_true]
  show x ∈ es.map (fun p => strOf p.1) ↔ _
  rw [List.mem_map]
  constructor
  ·rintro ⟨p, hp', hs⟩
   obtain ⟨a, ha⟩ := hk' p hp'
   rw [ha] at hs
   exact ⟨p, hp', by rw [ha]; simpa [Lit.sameKey, strOf] using hs⟩
  ·rintro ⟨p, hp', hs⟩
   obtain ⟨a, ha⟩ := hk' p hp'
   rw [ha] at hs
   exact ⟨p, hp', by rw [ha]; simpa [Lit.sameKey, strOf] using hs⟩
theorem rising_sort {l : List (List UInt8)} (h : l.Nodup) : Rising ((l.mergeSort leB).map fun x => ⟨x.toArray⟩) := by
 have tr : ∀ a b c : List UInt8, leB a b = true → leB b c = true → leB a c = true := fun a b c h1 h2 => by simp only [leB, decide_eq_true_eq] at *; exact List.le_trans h1 h2
 have to : ∀ a b : List UInt8, (leB a b || leB b a) = true := fun a b => by simp only [leB, Bool.or_eq_true, decide_eq_true_eq]; exact List.le_total a b
 have h1 := List.pairwise_mergeSort tr to l
 have h2 : (l.mergeSort leB).Nodup := (List.mergeSort_perm l leB).nodup_iff.2 h
 unfold Rising
 rw [List.pairwise_map]
 refine (h1.and h2).imp fun {a b} ⟨h3, h4⟩ => ?_
 simp only [leB, decide_eq_true_eq] at h3
 exact (List.le_iff_lt_or_eq.1 h3).resolve_right h4
theorem Sorted_ok (ss : List ByteArray) (hn : ss.length ≤ 1000000) : AC Tryz.prog 240 [.fn 283 [.ptr 1 0]] [(1, .box [.map 0]), (0, mpS ss)]
  (fun r O => ∃ L, Rising L ∧ (∀ s, s ∈ L ↔ s ∈ ss) ∧ r = .dat true 1 (qbw L) ∧ O = [(1, .box [.map 0]), (0, mpS ss)]) := by
 rintro c w vs ρ S hw0 hL hSt hDD hc
 have h0 := hc.T 0 _ E
 simp only [Rep, RepL] at h0
 obtain ⟨xs, hx, y, ys, rfl, ⟨hU, b1, hb1, rfl⟩, rfl⟩ := h0
 obtain ⟨v0, rfl⟩ : ∃ v0, vs = [v0] := by
  have := hc.tm
  match vs, this with
  | [v0], _ => exact ⟨v0, rfl⟩
 have hv0 : v0 = .func (.func 283) #[] #[.pointer (some ⟨b1, 0, none⟩)] := by simpa using hx
 subst hv0
 obtain ⟨b, ty, ys, h1, h2, h3, h4⟩ := hc.O 1 _ rfl
 obtain ⟨r, h5, n, D0, K, hown', hnn, hmem0⟩ := hc.O 0 _ rfl
 have hmem : ∀ s : ByteArray, s ∈ ss ↔ has D0 (.string s.data.toList) = true := fun s => by
  by_cases hs : s ∈ ss
  ·exact ⟨fun _ => has_true_of_atKey ((hmem0 _).1 (litS_mem.2 hs)), fun _ => hs⟩
  ·have := has_false_of_atKey ((hmem0 (.string s.data.toList)).2 (fun h => hs (litS_mem.1 h)))
   rw [this]; simp [hs]
 have hll : (litS ss).length = ss.length := by simp [litS]
 have hbb : b1 = b := by rw [h1] at hb1; simpa [blk] using hb1.symm
 subst hbb
 simp only [RepL] at h4
 obtain ⟨y, zs, rfl, hy, rfl⟩ := h4
 simp only [Rep] at hy
 obtain ⟨_, rfl, _⟩ := hy
 rw [h5] at h2
 have hcell : w.cell? ⟨b1, 0, none⟩ = some (.map (some r)) := by rw [qdp h2]; rfl
 have hlt : b1 < w.heap.size := hc.lt 1 _ b1 E trivial (by rw [h1]; rfl)
 have hsz := hown'.size_le
 have hseq : SeqGives Fence.wide 2 Tryz.prog 283 #[.pointer (some ⟨b1, 0, none⟩)] encStr (fun l => l.Perm (strKeys D0)) (Maps.size D0) w :=
  AnyZ.keys_gives (ρ := Tryz.keys241_ren) { Tryz.keys241 with } Fence.wide _ trivial E (by omega) b1 r n D0 w hlt hcell hown'
 have hcall := callsIn_wide.1 (AnyZ.sorted_in Tryz.sorted240 Fence.wide 5 trivial trivial trivial trivial E (by omega) (Tryz.sorts240 _) (qD Tryz.func282 (by kernel_rfl) E) 283 #[.pointer (some ⟨b1, 0, none⟩)] trivial (qD Tryz.func283 (by kernel_rfl) E) _ _ (by have : maxLen = 9223372036854775807 := rfl; omega) (by omega) _ hseq)
 refine hcall.mono ?_
 rintro e w' ⟨v, l, rfl, hperm, hrow, hnil, hbel⟩
 obtain ⟨hnd, hms⟩ := strKeys_spec qbG hown'
 have hnl : l.Nodup := hperm.nodup_iff.2 hnd
 let M : List (List UInt8) := l.mergeSort leB
 have hlen : (M.map encStr).length = l.length := by simp [M]
 have hxs : ((M.map encStr).map fun x => [D.imm x]) = qbw (M.map fun x => ⟨x.toArray⟩) := by simp [qbw, encStr]
 have hc2 := C_freshrow (c := c) (N := 1) (T := [(0, AV.fn 283 [.ptr 1 0])]) (O := [(1, .box [.map 0]), (0, mpS ss)]) (l := 2) (d := 0) (v := v) (e := 9) (xs := M.map encStr) hc hDD.no (Far0.of_below hbel) (by rw [hlen]; exact hrow) (fun y hy => by simp only [List.mem_map] at hy; obtain ⟨x, _, rfl⟩ := hy; rfl) E zD E (fun h => Bool.false_ne_true ((show false = inD [(1, Ob.box [AV.map 0]), (0, mpS ss)] 2 from E).trans ((hL 2).1 h))) E E
 rw [hxs] at hc2
 refine ⟨v, _, _, rfl, ⟨M.map fun x => ⟨x.toArray⟩, rising_sort hnl, fun s => ?_, rfl, rfl⟩, ?_⟩
 ·rw [hmem s, ← hms, ← hperm.mem_iff, ← (List.mergeSort_perm l leB).mem_iff, List.mem_map]
  constructor
  ·rintro ⟨x, hx, rfl⟩; exact hx
  ·intro hx; exact ⟨_, hx, rfl⟩
 ·exact sub_TO (c := c) (N := 1) (zB E SubT.nil) (SubO.cons E (SubO.cons E SubO.nil)) E E (LO hL E) _ _ hc2
def noteL (d : Nat) (ts : List Tm) : List ByteArray := ts.foldl (fun s u => qdA d u s) []
theorem noteL_snoc (d : Nat) (l : List Tm) (u : Tm) : noteL d (l ++ [u]) = qdA d u (noteL d l) := by simp [noteL]
theorem Names_ok (d : Nat) (ts : List Tm) (hd : ∀ t, t ∈ ts → dle d t) (ht : Tm.wfs ts) (hb : ts.length * 56 ≤ 140737488351232) (hn : (ts.map (nodes d)).sum ≤ 1000000) : AC Tryz.prog 176 [.dat false 4 (tmDs ts)] [] (fun r O => (∃ L, Rising L ∧ (∀ s, s ∈ L ↔ s ∈ noteL d ts) ∧ r = .dat true 1 (qbw L)) ∧ O = []) := by
 have hlen := qaJ ts
 have hkk := fun ss => AC_rnE 0 6 (Keys_ok ss)
 refine qF Tryz.func176 E Tryz.ntmps176 zL fun c hL hQ hDD => (qd (qb (zX E (zK (qd (qb ?_)))))); refine qy E E zD (stp_makeMap 6 E (Go.Maps.string_keyed qbG)) E (zX E (zK (qd (qd (qb (zX E (zA E (qu E qI E) (zX E (zK (qv (q6 (ts.length) (fun k => k ≤ ts.length) (fun k => ⟨[(3, .map 6), (7, .dat false 4 (tmDs ts)), (8, iv (tmDs ts).length), (9, iv (k : Int))], [(6, mpS (noteL d (ts.take k)))]⟩) (by omega) ?_ (fun k hk hp => ?_))))))))))))
 ·exact zR hL (zC E (zC E (zC E (zC E SubT.nil)))) (SubO.cons (qR E (by rfl)) SubO.nil)
 have hs1 := noteL_len d (ts.take k) []
 refine qd (qb (zA E (qj E E E E) (zK (qd (qq E (fun c0 => ?_) (fun c0 => ?_))))))
 ·try simp only[↓cqA,cqB]at c0
  obtain ⟨u, hu⟩ := qH (l := ts) (k := k) (by omega)
  have hum := List.mem_of_getElem? hu
  have hs2 := sum_split (nodes d) hu
  have hnk := fun ss h => AC_rnE 0 6 (Note_ok d u ss (hd u hum) (Tm.wfs_mem ht hum) h)
  refine qr (qa (qd (qv (qd (qb (zA E (qp E qI E E (by omega) (qbv hu)) (zA E (qC E qw E E) ?_))))))); refine qy E E zD (qaD 5 E qaw E) E (qae E E E qw E E E E E E E E E (zK (qb ?_)))
  refine zA E (qK E qw E E E E) ?_; refine zX E ?_; refine qaj (avs := [_, _]) true E E E zD en_term_Note E E (hnk (noteL d (ts.take k)) (by simp only [noteL]; simp only [List.length_nil] at hs1; omega)) E (qbX (.cons E trivial E .nil)) (by rintro r O' ⟨rfl, rfl⟩ l hl; exact .inl ((qdr (by rfl) l).trans hl)) (by rintro - r O' ⟨rfl, rfl⟩; exact ⟨rfl, rfl⟩) ?_
  rintro r O' ⟨rfl, rfl⟩
  refine qc (qP (qa (qb (zA E (qJ E E E (by omega)) (zX E (zK ?_)))))); refine ⟨?_, ?_, ?_⟩
  ·omega
  ·omega
  exact zR hL (zC E (zC E (zC E (zC E SubT.nil)))) (SubO.cons (qR E (by rw [qac hu, noteL_snoc]; rfl)) SubO.nil)
 try simp only[↓cqA,cqB]at c0
 have hk2 : ts.take k = ts := List.take_of_length_le (by omega)
 rw [hk2] at hs1 ⊢
 have hs3 := AC_mono (AC_rn 0 6 (Sorted_ok (noteL d ts) (by simp only [noteL]; simp only [List.length_nil] at hs1; omega))) (Post' := fun r O' => ∃ L, Rising L ∧ (∀ s, s ∈ L ↔ s ∈ noteL d ts) ∧ r = .dat true 1 (qbw L) ∧ O' = [(1, .box [.map 6]), (6, mpS (noteL d ts))])
  (fun r O' ⟨L, h1, h2, h3, h4⟩ => ⟨L, h1, h2, by rw [← rn_rn (swp_swp 0 6) r, h3]; rfl, by rw [← rnO_rnO (swp_swp 0 6) O', h4]; rfl⟩)
 refine qQ ?_; refine qn (qn (qX ?_)); refine qa ?_; refine qd ?_; refine qb ?_; refine zX E ?_; refine qaj (avs := [_]) true E E E zD qc4 E E (hkk _) E (qbX (.cons E trivial E .nil)) (by rintro r O' ⟨rfl, rfl⟩; exact frB E) (by rintro - r O' ⟨rfl, rfl⟩; exact ⟨rfl, rfl⟩) ?_
 rintro r O' ⟨rfl, rfl⟩
 refine qaj (avs := [_]) true E E E zD en_slices_Sorted_string E E (hs3) E (qbX (.cons E trivial E (.cons E trivial E .nil))) (by rintro r O' ⟨L, _, _, _, rfl⟩; exact frB E) (by rintro - r O' ⟨L, _, _, rfl, rfl⟩; exact ⟨rfl, rfl⟩) ?_
 rintro r O' ⟨L, h1, h2, rfl, rfl⟩
 refine zX E (zK (qo (zI hL (qh E qi) ?_ ?_)))
 ·rfl
 exact ⟨⟨L, h1, h2, rfl⟩, rfl⟩
theorem mayL_dle (d : Nat) (ih : ∀ (t : Tm) (n : Int), (mayS d t n).1 = true → dle d t ∧ (nodes d t : Int) ≤ n - (mayS d t n).2) : ∀ (l : List Tm) (n : Int), (mayL (mayS d) l n).1 = true → (∀ u, u ∈ l → dle d u) ∧ ((l.map (nodes d)).sum : Int) ≤ n - (mayL (mayS d) l n).2
  | [], n, _ => by simp [mayL]
  | a :: l, n, h => by
    simp only [mayL] at h ⊢
    split at h
    · rename_i hb
      have h1 := ih a n hb
      have h2 := mayL_dle d ih l (mayS d a n).2 h
      rw [if_pos hb]
      refine ⟨fun u hu => ?_, ?_⟩
      · rcases List.mem_cons.1 hu with rfl | hu
        · exact h1.1
        · exact h2.1 u hu
      · simp only [List.map_cons, List.sum_cons]
        have := h1.2; have := h2.2; push_cast at *; omega
    · cases h
theorem mayS_dle : ∀ (d : Nat) (t : Tm) (n : Int), (mayS d t n).1 = true → dle d t ∧ (nodes d t : Int) ≤ n - (mayS d t n).2
  | 0, t, n, h => by simp [mayS] at h
  | d + 1, t, n, h => by
    have e0 : ∀ l : List Tm, l.length = 0 → l = [] := fun l h => List.eq_nil_of_length_eq_zero h
    simp only [mayS] at h ⊢
    split at h
    · cases h
    rename_i hn
    rw [if_neg hn]
    split at h
    · rename_i hk
      rw [if_pos hk]
      simp only [Bool.and_eq_true, decide_eq_true_eq] at h
      have := e0 _ h.2
      simp [dle, nodes, this]; omega
    rename_i hk1
    rw [if_neg hk1]
    split at h
    · rename_i hk
      rw [if_pos hk]
      simp only [Bool.and_eq_true, decide_eq_true_eq] at h
      have := e0 _ h.2
      simp [dle, nodes, this]; omega
    rename_i hk2
    rw [if_neg hk2]
    split at h
    · rename_i hk
      rw [if_pos hk]
      split at h
      · rename_i hc
        rw [if_pos hc]
        have := mayL_dle d (mayS_dle d) t.args (n - 1) h
        refine ⟨this.1, ?_⟩
        simp only [nodes]; push_cast; have := this.2; omega
      · cases h
    · cases h
theorem mayT_dle {t : Tm} (h : mayT t = true) : dle 5 t ∧ nodes 5 t ≤ 25 := by
 have h1 := mayS_dle 5 t 24 h
 have h2 := mayS_range 5 t 24 (by omega)
 exact ⟨h1.1, by omega⟩
def groundB (t : Tm) : Bool := (qdA 5 t []).isEmpty
theorem Is_ok (t : Tm) (ht : t.wf) (hm : mayT t = true) : PF 121 [tmA false t] (bv (groundB t)) := by
 obtain ⟨h1, h2⟩ := mayT_dle hm
 have key := Names_ok 5 [t] (fun u hu => by simp at hu; subst hu; exact h1) ⟨(Tm.wf0_iff t).2 ht, trivial⟩ (by simp) (by simp; omega)
 rw [qdh] at key
 refine qF Tryz.func121 E Tryz.ntmps121 zL fun c hL hQ hDD => (qd (qb (qy E E zD (qaa 1 E E E) E (zX E (zK (qd ?_)))))); refine qb (zA E (qK E qw E E E E) ?_)
 refine qy E E zD (qam 4 E qI qaw E E zD zD zD E E E) E ?_; refine qdg 4 false 1 E E E E ?_; refine qaj (avs := [_]) true E E E zD en_term_Names E E (key) E (qbX .nil) (by rintro r O' ⟨_, rfl⟩; exact frB E) (by rintro - r O' ⟨⟨L, _, _, rfl⟩, rfl⟩; exact ⟨rfl, rfl⟩) ?_
 rintro r O' ⟨⟨L, g1, g2, rfl⟩, rfl⟩
 refine zA E (qu E qag E) (zA E (qj E E E E) (zX E (zK (qo (zI hL (qh E qi) ?_ ?_)))))
 ·rfl
 refine ⟨qT ?_, rfl⟩
 rw [qaX, natBeq0, groundB, Bool.eq_iff_iff, decide_eq_true_eq, List.length_eq_zero_iff, List.isEmpty_iff]
 have e : noteL 5 [t] = qdA 5 t [] := rfl
 rw [e] at g2
 constructor
 ·rintro rfl; exact List.eq_nil_iff_forall_not_mem.2 fun s hs => by have := (g2 s).2 hs; simp at this
 ·intro h; rw [h] at g2; exact List.eq_nil_iff_forall_not_mem.2 fun s hs => by have := (g2 s).1 hs; simp at this
end Go.Proofs.YtpgceiijoedppaaGreat
