/- Part 6 of the proof: Iter, Fd, Ff, Fg, Fh, Fj, Fm, Fo, Fp, Fq. -/
import Derived.Test.YtdecgkhdbfgldaaGreatG5
import Derived.Shelf.SlIter.Nil
import Derived.Shelf.SortM.Plain
import Derived.Shelf.SortM.SortNone
import Derived.Ground.GgzProg
import Derived.Ground.SlgmProg
import Derived.Shelf.SlGeneric
import Derived.Test.YtdecgkhdbfgldaaGreatProg
namespace Go.Proofs
open Go.Shelf
def Tryz.keys155_ren : Go.Shelf.Ren := ⟨fun | 7 => 155 | 10 => 212 | n => n, fun | 23 => 173 | 26 => 9 | 3 => 4 | 28 => 177 | 0 => 0 | 27 => 176 | 33 => 123 | 4 => 4 | n => n, fun | n => n⟩
theorem Tryz.keys155 : Go.Proofs.SlLaysZ.n7 Tryz.prog Tryz.keys155_ren := {
  mixed := by kernel_rfl
  f7 := ⟨Tryz.f155.name, by decide, Tryz.func155.trans (congrArg some (by kernel_rfl))⟩
  f10 := ⟨Tryz.f212.name, by decide, Tryz.func212.trans (congrArg some (by kernel_rfl))⟩
  t0 := Tryz.underlying0
  a0 := Tryz.isAgg0
  z0 := Tryz.sizeOf0
  v0 := Tryz.zeroValue0
  t4 := Tryz.underlying4
  a4 := Tryz.isAgg4
  z4 := Tryz.sizeOf4
  v4 := Tryz.zeroValue4
  t23 := Tryz.underlying173
  a23 := Tryz.isAgg173
  z23 := Tryz.sizeOf173
  v23 := Tryz.zeroValue173
  t26 := Tryz.underlying9
  a26 := Tryz.isAgg9
  z26 := Tryz.sizeOf9
  v26 := Tryz.zeroValue9
  t27 := Tryz.underlying176
  a27 := Tryz.isAgg176
  z27 := Tryz.sizeOf176
  v27 := Tryz.zeroValue176
  t28 := Tryz.underlying177
  a28 := Tryz.isAgg177
  z28 := Tryz.sizeOf177
  v28 := Tryz.zeroValue177
  t33 := Tryz.underlying123
  a33 := Tryz.isAgg123
  z33 := Tryz.sizeOf123
  v33 := Tryz.zeroValue123 }
def Tryz.sorted154_ren : Go.Shelf.Ren := ⟨fun | 6 => 154 | 8 => 210 | 9 => 211 | 11 => 255 | 13 => 182 | 12 => 256 | 23 => 233 | 24 => 234 | 14 => 273 | 15 => 274 | 16 => 275 | 17 => 276 | 18 => 277 | 19 => 278 | 20 => 279 | 21 => 280 | 22 => 281 | 25 => 287 | 26 => 263 | 27 => 264 | 28 => 288 | 29 => 289 | 30 => 290 | 31 => 291 | n => n, fun | 26 => 9 | 28 => 177 | 24 => 24 | 0 => 0 | 3 => 3 | 37 => 159 | 48 => 235 | 50 => 237 | 4 => 4 | 40 => 229 | 39 => 228 | 45 => 127 | 5 => 5 | 9 => 9 | 51 => 256 | 55 => 168 | 57 => 272 | 58 => 273 | 33 => 123 | n => n, fun | n => n⟩
theorem Tryz.sorted154 : Go.Proofs.SlLaysZ.n6 Tryz.prog Tryz.sorted154_ren := {
  mixed := by kernel_rfl
  f6 := ⟨Tryz.f154.name, by decide, Tryz.func154.trans (congrArg some (by kernel_rfl))⟩
  f8 := ⟨Tryz.f210.name, by decide, Tryz.func210.trans (congrArg some (by kernel_rfl))⟩
  f11 := ⟨Tryz.f255.name, by decide, Tryz.func255.trans (congrArg some (by kernel_rfl))⟩
  t0 := Tryz.underlying0
  a0 := Tryz.isAgg0
  z0 := Tryz.sizeOf0
  v0 := Tryz.zeroValue0
  t24 := Tryz.underlying24
  a24 := Tryz.isAgg24
  z24 := Tryz.sizeOf24
  v24 := Tryz.zeroValue24
  t26 := Tryz.underlying9
  a26 := Tryz.isAgg9
  z26 := Tryz.sizeOf9
  v26 := Tryz.zeroValue9
  t28 := Tryz.underlying177
  a28 := Tryz.isAgg177
  z28 := Tryz.sizeOf177
  v28 := Tryz.zeroValue177
  i26 := by kernel_rfl }
def Tryz.sort211_ren : Go.Shelf.Ren := ⟨fun | 6 => 211 | 8 => 182 | 9 => 256 | 19 => 233 | 20 => 234 | 21 => 273 | 22 => 274 | 23 => 275 | 24 => 276 | 25 => 277 | 26 => 278 | 27 => 279 | 28 => 280 | 29 => 281 | 36 => 287 | 31 => 263 | 32 => 264 | 37 => 288 | 38 => 289 | 39 => 290 | 41 => 291 | n => n, fun | 27 => 24 | 29 => 9 | 3 => 3 | 32 => 159 | 26 => 24 | 0 => 0 | 44 => 235 | 46 => 237 | 4 => 4 | 36 => 229 | 35 => 228 | 41 => 127 | 5 => 5 | 9 => 9 | 53 => 256 | 57 => 168 | 63 => 272 | 64 => 273 | n => n, fun | n => n⟩
theorem Tryz.sort211 : Go.Proofs.SlLaysM.n6 Tryz.prog Tryz.sort211_ren := {
  mixed := by kernel_rfl
  f6 := ⟨Tryz.f211.name, by decide, Tryz.func211.trans (congrArg some (by kernel_rfl))⟩
  f8 := Tryz.func182.trans (congrArg some (by kernel_rfl))
  f9 := ⟨Tryz.f256.name, by decide, Tryz.func256.trans (congrArg some (by kernel_rfl))⟩
  f19 := Tryz.func233.trans (congrArg some (by kernel_rfl))
  f20 := Tryz.func234.trans (congrArg some (by kernel_rfl))
  f21 := ⟨Tryz.f273.name, by decide, Tryz.func273.trans (congrArg some (by kernel_rfl))⟩
  f22 := ⟨Tryz.f274.name, by decide, Tryz.func274.trans (congrArg some (by kernel_rfl))⟩
  f23 := ⟨Tryz.f275.name, by decide, Tryz.func275.trans (congrArg some (by kernel_rfl))⟩
  f24 := ⟨Tryz.f276.name, by decide, Tryz.func276.trans (congrArg some (by kernel_rfl))⟩
  f25 := ⟨Tryz.f277.name, by decide, Tryz.func277.trans (congrArg some (by kernel_rfl))⟩
  f26 := ⟨Tryz.f278.name, by decide, Tryz.func278.trans (congrArg some (by kernel_rfl))⟩
  f27 := ⟨Tryz.f279.name, by decide, Tryz.func279.trans (congrArg some (by kernel_rfl))⟩
  f28 := ⟨Tryz.f280.name, by decide, Tryz.func280.trans (congrArg some (by kernel_rfl))⟩
  f29 := ⟨Tryz.f281.name, by decide, Tryz.func281.trans (congrArg some (by kernel_rfl))⟩
  f31 := Tryz.func263.trans (congrArg some (by kernel_rfl))
  f32 := Tryz.func264.trans (congrArg some (by kernel_rfl))
  f36 := ⟨Tryz.f287.name, by decide, Tryz.func287.trans (congrArg some (by kernel_rfl))⟩
  f37 := ⟨Tryz.f288.name, by decide, Tryz.func288.trans (congrArg some (by kernel_rfl))⟩
  f38 := ⟨Tryz.f289.name, by decide, Tryz.func289.trans (congrArg some (by kernel_rfl))⟩
  f39 := ⟨Tryz.f290.name, by decide, Tryz.func290.trans (congrArg some (by kernel_rfl))⟩
  f41 := ⟨Tryz.f291.name, by decide, Tryz.func291.trans (congrArg some (by kernel_rfl))⟩
  t0 := Tryz.underlying0
  a0 := Tryz.isAgg0
  z0 := Tryz.sizeOf0
  v0 := Tryz.zeroValue0
  t3 := Tryz.underlying3
  a3 := Tryz.isAgg3
  z3 := Tryz.sizeOf3
  v3 := Tryz.zeroValue3
  t4 := Tryz.underlying4
  a4 := Tryz.isAgg4
  z4 := Tryz.sizeOf4
  v4 := Tryz.zeroValue4
  t5 := Tryz.underlying5
  a5 := Tryz.isAgg5
  z5 := Tryz.sizeOf5
  v5 := Tryz.zeroValue5
  t9 := Tryz.underlying9
  a9 := Tryz.isAgg9
  z9 := Tryz.sizeOf9
  v9 := Tryz.zeroValue9
  t26 := Tryz.underlying24
  a26 := Tryz.isAgg24
  z26 := Tryz.sizeOf24
  v26 := Tryz.zeroValue24
  t27 := Tryz.underlying24
  a27 := Tryz.isAgg24
  z27 := Tryz.sizeOf24
  v27 := Tryz.zeroValue24
  t29 := Tryz.underlying9
  a29 := Tryz.isAgg9
  z29 := Tryz.sizeOf9
  v29 := Tryz.zeroValue9
  t32 := Tryz.underlying159
  a32 := Tryz.isAgg159
  z32 := Tryz.sizeOf159
  v32 := Tryz.zeroValue159
  t35 := Tryz.underlying228
  a35 := Tryz.isAgg228
  z35 := Tryz.sizeOf228
  v35 := Tryz.zeroValue228
  t36 := Tryz.underlying229
  a36 := Tryz.isAgg229
  z36 := Tryz.sizeOf229
  v36 := Tryz.zeroValue229
  t41 := Tryz.underlying127
  a41 := Tryz.isAgg127
  z41 := Tryz.sizeOf127
  v41 := Tryz.zeroValue127
  t44 := Tryz.underlying235
  a44 := Tryz.isAgg235
  z44 := Tryz.sizeOf235
  v44 := Tryz.zeroValue235
  t46 := Tryz.underlying237
  a46 := Tryz.isAgg237
  z46 := Tryz.sizeOf237
  v46 := Tryz.zeroValue237
  t53 := Tryz.underlying256
  a53 := Tryz.isAgg256
  z53 := Tryz.sizeOf256
  v53 := Tryz.zeroValue256
  t57 := Tryz.underlying168
  a57 := Tryz.isAgg168
  z57 := Tryz.sizeOf168
  v57 := Tryz.zeroValue168
  t63 := Tryz.underlying272
  a63 := Tryz.isAgg272
  z63 := Tryz.sizeOf272
  v63 := Tryz.zeroValue272
  t64 := Tryz.underlying273
  a64 := Tryz.isAgg273
  z64 := Tryz.sizeOf273
  v64 := Tryz.zeroValue273 }
end Go.Proofs
namespace Go.Proofs
open Go.RowKit Go.Maps Go.Sort Go.Shelf
theorem Tryz.sorts154 (m : Nat) : AnyZ.SortsIn Tryz.prog Tryz.sorted154_ren Fence.wide m :=
  ⟨fun blk off cap ss W hH hblk hsz => callsIn_wide.2 (AnyM.slices_Sort_string Tryz.sort211 blk off cap ss W hH hblk hsz),
   fun p cap W => callsIn_wide.2 (AnyM.slices_Sort_string_none Tryz.sort211 p cap W)⟩
end Go.Proofs

set_option linter.unusedVariables false
set_option linter.unusedSimpArgs false
set_option maxRecDepth 8000
namespace Go.Proofs.YtdecgkhdbfgldaaGreat
open Go Go.Maps Go.Sort Go.Shelf Go.RowKit
def litS (ss : List ByteArray) : List Lit := ss.map fun s => .string s.data.toList
theorem litS_mem {ss : List ByteArray} {s : ByteArray} : Lit.string s.data.toList ∈ litS ss ↔ s ∈ ss := by
  simp only [litS, List.mem_map, Lit.string.injEq]
  constructor
  · rintro ⟨u, hu, e⟩
    have : u = s := by cases u; cases s; congr 1; exact Array.toList_inj.1 e
    rw [← this]; exact hu
  · intro h; exact ⟨s, h, rfl⟩
theorem litS_length (ss : List ByteArray) : (litS ss).length = ss.length := by simp [litS]
noncomputable abbrev mpS (ss : List ByteArray) : Ob := .mp Tryz.prog 9 (litS ss)
def noteS : Nat → Tm → List ByteArray → List ByteArray
  | 0, _, ss => ss
  | d + 1, t, ss => t.args.foldl (fun s u => noteS d u s) (if t.kind = 1 then t.name :: ss else ss)
def nodes : Nat → Tm → Nat
  | 0, _ => 0
  | d + 1, t => 1 + (t.args.map (nodes d)).sum
theorem noteS_len : ∀ (d : Nat) (t : Tm) (ss : List ByteArray), (noteS d t ss).length ≤ ss.length + nodes d t
  | 0, t, ss => by simp [noteS, nodes]
  | d + 1, t, ss => by
    have key : ∀ (l : List Tm) (ss : List ByteArray), (l.foldl (fun s u => noteS d u s) ss).length ≤ ss.length + (l.map (nodes d)).sum := fun l => by
      induction l with
      | nil => intro ss; simp
      | cons a l ih =>
        intro ss
        have h1 := ih (noteS d a ss)
        have h2 := noteS_len d a ss
        simp only [List.foldl_cons, List.map_cons, List.sum_cons]; omega
    simp only [noteS, nodes]
    have := key t.args (if t.kind = 1 then t.name :: ss else ss)
    have h3 : (if t.kind = 1 then t.name :: ss else ss).length ≤ ss.length + 1 := by split <;> simp
    omega
theorem noteL_len (d : Nat) : ∀ (l : List Tm) (ss : List ByteArray), (l.foldl (fun s u => noteS d u s) ss).length ≤ ss.length + (l.map (nodes d)).sum
  | [], ss => by simp
  | a :: l, ss => by
    have h1 := noteL_len d l (noteS d a ss)
    have h2 := noteS_len d a ss
    simp only [List.foldl_cons, List.map_cons, List.sum_cons]; omega
theorem sum_split {l : List Tm} {k : Nat} {u : Tm} (f : Tm → Nat) (h : l[k]? = some u) : ((l.take k).map f).sum + f u ≤ (l.map f).sum := by
  have h2 := List.getElem?_eq_some_iff.1 h
  have : l = l.take k ++ l.drop k := (List.take_append_drop k l).symm
  rw [List.drop_eq_getElem_cons h2.1, h2.2] at this
  have h3 := congrArg (fun l => (l.map f).sum) this
  simp only [List.map_append, List.sum_append, List.map_cons, List.sum_cons] at h3
  omega
theorem Note_ok : ∀ (d : Nat) (t : Tm) (ss : List ByteArray), dle d t → t.wf → ss.length + nodes d t ≤ 1000000 → AC Tryz.prog 153 [tmA false t, .map 0] [(0, mpS ss)] (fun r O => r = .tup [] ∧ O = [(0, mpS (noteS d t ss))])
  | 0, t, ss, h, _, _ => h.elim
  | d + 1, t, ss, h, ht, hn => by
    have hal := ht.2.2.2.1
    have hnm := ht.2.1
    have hlen := tmDs_length t.args
    have hmx : maxLen = 9223372036854775807 := rfl
    simp only [nodes] at hn
    refine AC_intro Tryz.func153 rfl Tryz.ntmps153 (Nat.le_of_ble_eq_true rfl) fun c hL hQ hDD => ?_; refine awp_seq ?_; refine awp_region ?_; refine awps_stp1 rfl rfl (by decide) (stp_box 2 rfl rfl rfl) rfl ?_; refine awps_nil ?_; refine thenQ_nil ?_; refine awp_seq ?_; refine awp_seq ?_; refine awp_region ?_; refine awps_stp0 rfl rfl (by decide) (stp_fieldAddr rfl fo_api_Term_0 rfl) ?_; refine awps_stp0 rfl rfl (by decide) (stp_load rfl tf_int rfl rfl rfl rfl rfl) ?_
    refine awps_stp0 rfl rfl (by decide) (stp_binI rfl rfl rfl rfl) ?_; refine awps_nil ?_; refine thenQ_nil ?_; refine awp_cond rfl (fun c0 => ?_) (fun c0 => ?_)
    · try simp only [↓cqA, cqB] at c0
      refine awp_region ?_; refine awps_stp0 rfl rfl (by decide) (stp_move (.inl rfl) rfl) ?_; refine awps_stp0 rfl rfl (by decide) (stp_fieldAddr rfl fo_api_Term_1 rfl) ?_; refine awps_stp0 rfl rfl (by decide) (stp_load rfl tf_string rfl rfl rfl rfl rfl) ?_; refine awps_mapSet rfl rfl rfl um_map_string_bool rfl rfl rfl rfl rfl (Go.WideMaps.keyOf_string_mk ul_string (by omega)) (by rw [litS_length]; omega) ?_; refine awps_nil ?_; refine thenQ_nil ?_; refine awp_seq ?_; refine awp_region ?_; refine awps_stp0 rfl rfl (by decide) (stp_fieldAddr rfl fo_api_Term_3 rfl) ?_
      refine awps_stp0 rfl rfl (by decide) (stp_load rfl tf_S_api_Term rfl rfl rfl rfl rfl) ?_; refine awps_stp0 rfl rfl (by decide) (stp_len_dat rfl sl_S_api_Term rfl) ?_; refine awps_stp0 rfl rfl (by decide) (stp_move (.inl rfl) rfl) ?_; refine awps_nil ?_; refine thenQ_nil ?_; refine awp_block ?_
      refine awp_while (t.args.length) (fun k => k ≤ t.args.length) (fun k => ⟨[(1, .map 0), (13, .dat false 4 (tmDs t.args)), (14, iv (tmDs t.args).length), (15, iv (k : Int))], [(0, mpS ((t.args.take k).foldl (fun s u => noteS d u s) (if t.kind = 1 then t.name :: ss else ss)))]⟩) (by omega) ?_ (fun k hk hp => ?_)
      · exact sub_re (SubT.cons (lk_eq rfl (by first | rfl | simp)) (SubT.cons (lk_eq rfl (by first | rfl | simp)) (SubT.cons (lk_eq rfl (by first | rfl | simp)) (SubT.cons (lk_eq rfl (by first | rfl | simp)) (SubT.nil))))) (SubO.cons (ok_eq rfl (by simp [c0, litS])) (SubO.nil)) rfl rfl (LO hL rfl)
      refine awp_seq ?_; refine awp_region ?_; refine awps_stp0 rfl rfl (by decide) (stp_binI rfl rfl rfl rfl) ?_; refine awps_nil ?_; refine thenQ_nil ?_; refine awp_seq ?_; refine awp_cond rfl (fun c1 => ?_) (fun c1 => ?_)
      · try simp only [↓cqA, cqB] at c1
        obtain ⟨u, hu⟩ := get_of_lt (l := t.args) (k := k) (by omega)
        have hum := List.mem_of_getElem? hu
        have hs1 := noteL_len d (t.args.take k) (if t.kind = 1 then t.name :: ss else ss)
        have hs2 := sum_split (nodes d) hu
        have hs3 : (if t.kind = 1 then t.name :: ss else ss).length ≤ ss.length + 1 := by split <;> simp
        refine awp_skip ?_; refine thenQ_nil ?_; refine awp_seq ?_; refine awp_block ?_; refine awp_seq ?_; refine awp_region ?_; refine awps_stp0 rfl rfl (by decide) (stp_indexAddr rfl sl_S_api_Term rfl rfl (by omega) (tmDs_get hu)) ?_; refine awps_stp0 rfl rfl (by decide) (stp_load_elpa rfl tf_api_Term rfl rfl) ?_; refine awps_stp1 rfl rfl (by decide) (stp_alloc 5 rfl zv_api_Term rfl) rfl ?_; refine awps_store rfl rfl rfl tf_api_Term rfl rfl rfl rfl rfl rfl rfl rfl rfl ?_; refine awps_nil ?_; refine thenQ_nil ?_; refine awp_region ?_
        refine awps_stp0 rfl rfl (by decide) (stp_load_all rfl tf_api_Term rfl rfl rfl rfl) ?_; refine awps_stp0 rfl rfl (by decide) (stp_move (.inl rfl) rfl) ?_; refine awps_callP (avs := [_, _]) true rfl rfl rfl (by decide) en_term_Note rfl rfl (Note_ok d u _ (h u hum) (Tm.wfs_mem ht.2.2.2.2 hum) (by omega)) (rfl) (passO (.cons rfl trivial rfl .nil)) (by rintro r O' ⟨rfl, rfl⟩ l hl; exact .inl ((inD_dom (by rfl) l).trans hl)) (by rintro - r O' ⟨rfl, rfl⟩; exact ⟨rfl, rfl⟩) ?_
        rintro r O' ⟨rfl, rfl⟩
        refine awps_nil ?_; refine inQ_nil ?_; refine thenQ_nil ?_; refine awp_region ?_; refine awps_stp0 rfl rfl (by decide) (stp_add rfl rfl rfl (by omega)) ?_; refine awps_stp0 rfl rfl (by decide) (stp_move (.inl rfl) rfl) ?_; refine awps_nil ?_; refine thenQ_nil ?_; refine ⟨?_, ?_, ?_⟩
        · skip
          omega
        · skip
          omega
        exact sub_re (SubT.cons (lk_eq rfl (by first | rfl | simp)) (SubT.cons (lk_eq rfl (by first | rfl | simp)) (SubT.cons (lk_eq rfl (by first | rfl | simp)) (SubT.cons (lk_eq rfl (by first | rfl | simp)) (SubT.nil))))) (SubO.cons (ok_eq rfl (by rw [take_snoc hu, List.foldl_append]; rfl)) (SubO.nil)) rfl rfl (LO hL rfl)
      try simp only [↓cqA, cqB] at c1
      refine awp_exit ?_; refine thenQ_exit (thenQ_exit (inQ_hit ?_))
      -- leaf 0T1F
      change retQ _ _ _ _ _ _ _
      refine retO (O' := [(0, _)]) (.inr rfl) resAs_nil (SubO.cons rfl SubO.nil) ?_ ?_ ?_ ?_
      · rfl
      · rfl
      · exact LO hL rfl
      exact ⟨rfl, by rw [noteS, List.take_of_length_le (by omega)]⟩
    try simp only [↓cqA, cqB] at c0
    refine awp_skip ?_; refine thenQ_nil ?_; refine awp_seq ?_; refine awp_region ?_; refine awps_stp0 rfl rfl (by decide) (stp_fieldAddr rfl fo_api_Term_3 rfl) ?_; refine awps_stp0 rfl rfl (by decide) (stp_load rfl tf_S_api_Term rfl rfl rfl rfl rfl) ?_; refine awps_stp0 rfl rfl (by decide) (stp_len_dat rfl sl_S_api_Term rfl) ?_; refine awps_stp0 rfl rfl (by decide) (stp_move (.inl rfl) rfl) ?_; refine awps_nil ?_; refine thenQ_nil ?_; refine awp_block ?_
    refine awp_while (t.args.length) (fun k => k ≤ t.args.length) (fun k => ⟨[(1, .map 0), (13, .dat false 4 (tmDs t.args)), (14, iv (tmDs t.args).length), (15, iv (k : Int))], [(0, mpS ((t.args.take k).foldl (fun s u => noteS d u s) (if t.kind = 1 then t.name :: ss else ss)))]⟩) (by omega) ?_ (fun k hk hp => ?_)
    · exact sub_re (SubT.cons (lk_eq rfl (by first | rfl | simp)) (SubT.cons (lk_eq rfl (by first | rfl | simp)) (SubT.cons (lk_eq rfl (by first | rfl | simp)) (SubT.cons (lk_eq rfl (by first | rfl | simp)) (SubT.nil))))) (SubO.cons (ok_eq rfl (by simp [c0, litS])) (SubO.nil)) rfl rfl (LO hL rfl)
    refine awp_seq ?_; refine awp_region ?_; refine awps_stp0 rfl rfl (by decide) (stp_binI rfl rfl rfl rfl) ?_; refine awps_nil ?_; refine thenQ_nil ?_; refine awp_seq ?_; refine awp_cond rfl (fun c1 => ?_) (fun c1 => ?_)
    · try simp only [↓cqA, cqB] at c1
      obtain ⟨u, hu⟩ := get_of_lt (l := t.args) (k := k) (by omega)
      have hum := List.mem_of_getElem? hu
      have hs1 := noteL_len d (t.args.take k) (if t.kind = 1 then t.name :: ss else ss)
      have hs2 := sum_split (nodes d) hu
      have hs3 : (if t.kind = 1 then t.name :: ss else ss).length ≤ ss.length + 1 := by split <;> simp
      refine awp_skip ?_; refine thenQ_nil ?_; refine awp_seq ?_; refine awp_block ?_; refine awp_seq ?_; refine awp_region ?_; refine awps_stp0 rfl rfl (by decide) (stp_indexAddr rfl sl_S_api_Term rfl rfl (by omega) (tmDs_get hu)) ?_; refine awps_stp0 rfl rfl (by decide) (stp_load_elpa rfl tf_api_Term rfl rfl) ?_; refine awps_stp1 rfl rfl (by decide) (stp_alloc 5 rfl zv_api_Term rfl) rfl ?_; refine awps_store rfl rfl rfl tf_api_Term rfl rfl rfl rfl rfl rfl rfl rfl rfl ?_; refine awps_nil ?_; refine thenQ_nil ?_; refine awp_region ?_
      refine awps_stp0 rfl rfl (by decide) (stp_load_all rfl tf_api_Term rfl rfl rfl rfl) ?_; refine awps_stp0 rfl rfl (by decide) (stp_move (.inl rfl) rfl) ?_; refine awps_callP (avs := [_, _]) true rfl rfl rfl (by decide) en_term_Note rfl rfl (Note_ok d u _ (h u hum) (Tm.wfs_mem ht.2.2.2.2 hum) (by omega)) (rfl) (passO (.cons rfl trivial rfl .nil)) (by rintro r O' ⟨rfl, rfl⟩ l hl; exact .inl ((inD_dom (by rfl) l).trans hl)) (by rintro - r O' ⟨rfl, rfl⟩; exact ⟨rfl, rfl⟩) ?_
      rintro r O' ⟨rfl, rfl⟩
      refine awps_nil ?_; refine inQ_nil ?_; refine thenQ_nil ?_; refine awp_region ?_; refine awps_stp0 rfl rfl (by decide) (stp_add rfl rfl rfl (by omega)) ?_; refine awps_stp0 rfl rfl (by decide) (stp_move (.inl rfl) rfl) ?_; refine awps_nil ?_; refine thenQ_nil ?_; refine ⟨?_, ?_, ?_⟩
      · skip
        omega
      · skip
        omega
      exact sub_re (SubT.cons (lk_eq rfl (by first | rfl | simp)) (SubT.cons (lk_eq rfl (by first | rfl | simp)) (SubT.cons (lk_eq rfl (by first | rfl | simp)) (SubT.cons (lk_eq rfl (by first | rfl | simp)) (SubT.nil))))) (SubO.cons (ok_eq rfl (by rw [take_snoc hu, List.foldl_append]; rfl)) (SubO.nil)) rfl rfl (LO hL rfl)
    try simp only [↓cqA, cqB] at c1
    refine awp_exit ?_; refine thenQ_exit (thenQ_exit (inQ_hit ?_))
    -- leaf 0F1F
    change retQ _ _ _ _ _ _ _
    refine retO (O' := [(0, _)]) (.inr rfl) resAs_nil (SubO.cons rfl SubO.nil) ?_ ?_ ?_ ?_
    · rfl
    · rfl
    · exact LO hL rfl
    exact ⟨rfl, by rw [noteS, List.take_of_length_le (by omega)]⟩
theorem Keys_ok (ss : List ByteArray) : AC Tryz.prog 155 [.map 0] [(0, mpS ss)] (fun r O => r = .fn 212 [.ptr 1 0] ∧ O = [(1, .box [.map 0]), (0, mpS ss)]) := by
  refine AC_intro Tryz.func155 rfl Tryz.ntmps155 (Nat.le_of_ble_eq_true rfl) fun c hL hQ hDD => ?_; refine awp_seq ?_; refine awp_region ?_; refine awps_stp1 rfl rfl (by decide) (stp_box 1 rfl rfl rfl) rfl ?_; refine awps_stp0 rfl rfl (by decide) (stp_move (.inr rfl) rfl) ?_; refine awps_nil ?_; refine thenQ_nil ?_; refine awp_seq ?_; refine awp_region ?_; refine awps_stp0 rfl rfl (by decide) (stp_makeFunc (vs := [_]) rfl rfl) ?_; refine awps_stp0 rfl rfl (by decide) (stp_move (.inr rfl) rfl) ?_; refine awps_nil ?_; refine thenQ_nil ?_; refine awp_ret ?_
  -- leaf 
  change retQ _ _ _ _ _ _ _
  refine retO (O' := [(1, _), (0, _)]) (.inl rfl) (resAs_tmp rfl resAs_nil) (SubO.cons rfl (SubO.cons rfl SubO.nil)) ?_ ?_ ?_ ?_
  · rfl
  · rfl
  · intro l hl
    have := (hL l).1 hl
    simp only [inD, ok_cons] at this ⊢
    split
    · rfl
    · exact this
  exact ⟨rfl, rfl⟩
def Rising (l : List ByteArray) : Prop := l.Pairwise (fun a b => a.data.toList < b.data.toList)
def strDs (l : List ByteArray) : List (List D) := l.map fun s => [.imm (.string s)]
theorem strDs_length (l : List ByteArray) : (strDs l).length = l.length := by simp [strDs]
theorem strKeys_spec {P : Program} {k : TypeId} {w : World} {b n : Nat} {D : DataW Unit} (hk : P.underlying k = some .string) (h : w.ownsMap P k R1 b n D) : (strKeys D).Nodup ∧ ∀ x, x ∈ strKeys D ↔ has D (.string x) = true := by
  obtain ⟨es, rfl, hp, _⟩ := h.entries (string_keyed hk)
  obtain ⟨es', he, hks⟩ := h.keysOf
  cases he
  have hk' : ∀ p ∈ es, ∃ x, p.1 = .string x := fun p hp' => by
    obtain ⟨v, hv⟩ := hks p hp'
    obtain ⟨x, _, h2, _⟩ := Maps.keyOf_str hk hv
    exact ⟨x, h2⟩
  refine ⟨?_, fun x => ?_⟩
  · show (es.map fun p => strOf p.1).Nodup
    refine List.pairwise_map.2 (hp.imp_of_mem fun {p q} hp' hq' hne e => hne ?_)
    obtain ⟨a, ha⟩ := hk' p hp'
    obtain ⟨b, hb⟩ := hk' q hq'
    rw [ha, hb] at e ⊢
    exact congrArg _ e
  · rw [has_eq, List.any_eq_true]
    show x ∈ es.map (fun p => strOf p.1) ↔ _
    rw [List.mem_map]
    constructor
    · rintro ⟨p, hp', hs⟩
      obtain ⟨a, ha⟩ := hk' p hp'
      rw [ha] at hs
      exact ⟨p, hp', by rw [ha]; simpa [Lit.sameKey, strOf] using hs⟩
    · rintro ⟨p, hp', hs⟩
      obtain ⟨a, ha⟩ := hk' p hp'
      rw [ha] at hs
      exact ⟨p, hp', by rw [ha]; simpa [Lit.sameKey, strOf] using hs⟩
theorem rising_sort {l : List (List UInt8)} (h : l.Nodup) : Rising ((l.mergeSort leB).map fun x => ⟨x.toArray⟩) := by
  have tr : ∀ a b c : List UInt8, leB a b = true → leB b c = true → leB a c = true := fun a b c h1 h2 => by simp only [leB, decide_eq_true_eq] at *; exact List.le_trans h1 h2
  have to : ∀ a b : List UInt8, (leB a b || leB b a) = true := fun a b => by simp only [leB, Bool.or_eq_true, decide_eq_true_eq]; exact List.le_total a b
  have h1 := List.pairwise_mergeSort tr to l
  have h2 : (l.mergeSort leB).Nodup := (List.mergeSort_perm l leB).nodup_iff.2 h
  unfold Rising
  rw [List.pairwise_map]
  refine (h1.and h2).imp fun {a b} ⟨h3, h4⟩ => ?_
  simp only [leB, decide_eq_true_eq] at h3
  exact (List.le_iff_lt_or_eq.1 h3).resolve_right h4
theorem Sorted_ok (ss : List ByteArray) (hn : ss.length ≤ 1000000) : AC Tryz.prog 154 [.fn 212 [.ptr 1 0]] [(1, .box [.map 0]), (0, mpS ss)]
    (fun r O => ∃ L, Rising L ∧ (∀ s, s ∈ L ↔ s ∈ ss) ∧ r = .dat true 1 (strDs L) ∧ O = [(1, .box [.map 0]), (0, mpS ss)]) := by
  rintro c w vs ρ S hw0 hL hSt hDD hc
  have h0 := hc.T 0 _ rfl
  simp only [Rep, RepL] at h0
  obtain ⟨xs, hx, y, ys, rfl, ⟨hU, b1, hb1, rfl⟩, rfl⟩ := h0
  obtain ⟨v0, rfl⟩ : ∃ v0, vs = [v0] := by
    have := hc.tm
    match vs, this with
    | [v0], _ => exact ⟨v0, rfl⟩
  have hv0 : v0 = .func (.func 212) #[] #[.pointer (some ⟨b1, 0, none⟩)] := by simpa using hx
  subst hv0
  obtain ⟨b, ty, ys, h1, h2, h3, h4⟩ := hc.O 1 _ rfl
  obtain ⟨r, h5, n, D0, K, hown', hnn, hmem0⟩ := hc.O 0 _ rfl
  have hmem : ∀ s : ByteArray, s ∈ ss ↔ has D0 (.string s.data.toList) = true := fun s => by
    by_cases hs : s ∈ ss
    · exact ⟨fun _ => has_true_of_atKey ((hmem0 _).1 (litS_mem.2 hs)), fun _ => hs⟩
    · have := has_false_of_atKey ((hmem0 (.string s.data.toList)).2 (fun h => hs (litS_mem.1 h)))
      rw [this]; simp [hs]
  have hll : (litS ss).length = ss.length := by simp [litS]
  have hbb : b1 = b := by rw [h1] at hb1; simpa [blk] using hb1.symm
  subst hbb
  simp only [RepL] at h4
  obtain ⟨y, zs, rfl, hy, rfl⟩ := h4
  simp only [Rep] at hy
  obtain ⟨_, rfl, _⟩ := hy
  rw [h5] at h2
  have hcell : w.cell? ⟨b1, 0, none⟩ = some (.map (some r)) := by rw [cell_of_block h2]; rfl
  have hlt : b1 < w.heap.size := hc.lt 1 _ b1 rfl trivial (by rw [h1]; rfl)
  have hsz := hown'.size_le
  have hseq : SeqGives Fence.wide 2 Tryz.prog 212 #[.pointer (some ⟨b1, 0, none⟩)] encStr (fun l => l.Perm (strKeys D0)) (Maps.size D0) w :=
    AnyZ.keys_gives (ρ := Tryz.keys155_ren) { Tryz.keys155 with } Fence.wide _ trivial rfl (by omega) b1 r n D0 w hlt hcell hown'
  have hcall := callsIn_wide.1 (AnyZ.sorted_in Tryz.sorted154 Fence.wide 5 trivial trivial trivial trivial rfl (by omega) (Tryz.sorts154 _) (enters_of Tryz.func211 (by kernel_rfl) rfl) 212 #[.pointer (some ⟨b1, 0, none⟩)] trivial (enters_of Tryz.func212 (by kernel_rfl) rfl) _ _ (by have : maxLen = 9223372036854775807 := rfl; omega) (by omega) _ hseq)
  refine hcall.mono ?_
  rintro e w' ⟨v, l, rfl, hperm, hrow, hnil, hbel⟩
  obtain ⟨hnd, hms⟩ := strKeys_spec ul_string hown'
  have hnl : l.Nodup := hperm.nodup_iff.2 hnd
  let M : List (List UInt8) := l.mergeSort leB
  have hlen : (M.map encStr).length = l.length := by simp [M]
  have hxs : ((M.map encStr).map fun x => [D.imm x]) = strDs (M.map fun x => ⟨x.toArray⟩) := by simp [strDs, encStr]
  have hc2 := C_freshrow (c := c) (N := 1) (T := [(0, AV.fn 212 [.ptr 1 0])]) (O := [(1, .box [.map 0]), (0, mpS ss)]) (l := 2) (d := 0) (v := v) (e := 9) (xs := M.map encStr) hc hDD.no (Far0.of_below hbel) (by rw [hlen]; exact hrow) (fun y hy => by simp only [List.mem_map] at hy; obtain ⟨x, _, rfl⟩ := hy; rfl) rfl (by decide) rfl (fun h => Bool.false_ne_true ((show false = inD [(1, Ob.box [AV.map 0]), (0, mpS ss)] 2 from rfl).trans ((hL 2).1 h))) rfl rfl
  rw [hxs] at hc2
  refine ⟨v, _, _, rfl, ⟨M.map fun x => ⟨x.toArray⟩, rising_sort hnl, fun s => ?_, rfl, rfl⟩, ?_⟩
  · rw [hmem s, ← hms, ← hperm.mem_iff, ← (List.mergeSort_perm l leB).mem_iff, List.mem_map]
    constructor
    · rintro ⟨x, hx, rfl⟩; exact hx
    · intro hx; exact ⟨_, hx, rfl⟩
  · exact sub_TO (c := c) (N := 1) (SubT.cons rfl SubT.nil) (SubO.cons rfl (SubO.cons rfl SubO.nil)) rfl rfl (LO hL rfl) _ _ hc2
def noteL (d : Nat) (ts : List Tm) : List ByteArray := ts.foldl (fun s u => noteS d u s) []
theorem noteL_snoc (d : Nat) (l : List Tm) (u : Tm) : noteL d (l ++ [u]) = noteS d u (noteL d l) := by simp [noteL]
theorem Names_ok (d : Nat) (ts : List Tm) (hd : ∀ t, t ∈ ts → dle d t) (ht : Tm.wfs ts) (hb : ts.length * 56 ≤ 140737488351232) (hn : (ts.map (nodes d)).sum ≤ 1000000) : AC Tryz.prog 92 [.dat false 4 (tmDs ts)] [] (fun r O => (∃ L, Rising L ∧ (∀ s, s ∈ L ↔ s ∈ noteL d ts) ∧ r = .dat true 1 (strDs L)) ∧ O = []) := by
  have hlen := tmDs_length ts
  have hkk := fun ss => AC_rnE 0 6 (Keys_ok ss)
  refine AC_intro Tryz.func92 rfl Tryz.ntmps92 (Nat.le_of_ble_eq_true rfl) fun c hL hQ hDD => ?_; refine awp_seq ?_; refine awp_region ?_; refine awps_stp0 rfl rfl (by decide) (stp_move (.inr rfl) rfl) ?_; refine awps_nil ?_; refine thenQ_nil ?_; refine awp_seq ?_; refine awp_region ?_; refine awps_stp1 rfl rfl (by decide) (stp_makeMap 6 rfl (Go.Maps.string_keyed ul_string)) rfl ?_
  refine awps_stp0 rfl rfl (by decide) (stp_move (.inr rfl) rfl) ?_; refine awps_nil ?_; refine thenQ_nil ?_; refine awp_seq ?_; refine awp_seq ?_; refine awp_region ?_; refine awps_stp0 rfl rfl (by decide) (stp_move (.inl rfl) rfl) ?_; refine awps_stp0 rfl rfl (by decide) (stp_len_dat rfl sl_S_api_Term rfl) ?_
  refine awps_stp0 rfl rfl (by decide) (stp_move (.inl rfl) rfl) ?_; refine awps_nil ?_; refine thenQ_nil ?_; refine awp_block ?_; refine awp_while (ts.length) (fun k => k ≤ ts.length) (fun k => ⟨[(3, .map 6), (7, .dat false 4 (tmDs ts)), (8, iv (tmDs ts).length), (9, iv (k : Int))], [(6, mpS (noteL d (ts.take k)))]⟩) (by omega) ?_ (fun k hk hp => ?_)
  · exact sub_re (SubT.cons (lk_eq rfl (by first | rfl | simp)) (SubT.cons (lk_eq rfl (by first | rfl | simp)) (SubT.cons (lk_eq rfl (by first | rfl | simp)) (SubT.cons (lk_eq rfl (by first | rfl | simp)) (SubT.nil))))) (SubO.cons (ok_eq rfl (by rfl)) (SubO.nil)) rfl rfl (noL' (noL hL) _)
  have hs1 := noteL_len d (ts.take k) []
  refine awp_seq ?_; refine awp_region ?_; refine awps_stp0 rfl rfl (by decide) (stp_binI rfl rfl rfl rfl) ?_; refine awps_nil ?_; refine thenQ_nil ?_; refine awp_seq ?_; refine awp_cond rfl (fun c0 => ?_) (fun c0 => ?_)
  · try simp only [↓cqA, cqB] at c0
    obtain ⟨u, hu⟩ := get_of_lt (l := ts) (k := k) (by omega)
    have hum := List.mem_of_getElem? hu
    have hs2 := sum_split (nodes d) hu
    have hnk := fun ss h => AC_rnE 0 6 (Note_ok d u ss (hd u hum) (Tm.wfs_mem ht hum) h)
    refine awp_skip ?_; refine thenQ_nil ?_; refine awp_seq ?_; refine awp_block ?_; refine awp_seq ?_; refine awp_region ?_; refine awps_stp0 rfl rfl (by decide) (stp_indexAddr rfl sl_S_api_Term rfl rfl (by omega) (tmDs_get hu)) ?_; refine awps_stp0 rfl rfl (by decide) (stp_load_elpa rfl tf_api_Term rfl rfl) ?_; refine awps_stp1 rfl rfl (by decide) (stp_alloc 5 rfl zv_api_Term rfl) rfl ?_; refine awps_store rfl rfl rfl tf_api_Term rfl rfl rfl rfl rfl rfl rfl rfl rfl ?_; refine awps_nil ?_; refine thenQ_nil ?_; refine awp_region ?_
    refine awps_stp0 rfl rfl (by decide) (stp_load_all rfl tf_api_Term rfl rfl rfl rfl) ?_; refine awps_stp0 rfl rfl (by decide) (stp_move (.inl rfl) rfl) ?_; refine awps_callP (avs := [_, _]) true rfl rfl rfl (by decide) en_term_Note rfl rfl (hnk (noteL d (ts.take k)) (by simp only [noteL]; simp only [List.length_nil] at hs1; omega)) (rfl) (passO (.cons rfl trivial rfl .nil)) (by rintro r O' ⟨rfl, rfl⟩ l hl; exact .inl ((inD_dom (by rfl) l).trans hl)) (by rintro - r O' ⟨rfl, rfl⟩; exact ⟨rfl, rfl⟩) ?_
    rintro r O' ⟨rfl, rfl⟩
    refine awps_nil ?_; refine inQ_nil ?_; refine thenQ_nil ?_; refine awp_region ?_; refine awps_stp0 rfl rfl (by decide) (stp_add rfl rfl rfl (by omega)) ?_; refine awps_stp0 rfl rfl (by decide) (stp_move (.inl rfl) rfl) ?_; refine awps_nil ?_; refine thenQ_nil ?_; refine ⟨?_, ?_, ?_⟩
    · skip
      omega
    · skip
      omega
    exact sub_re (SubT.cons (lk_eq rfl (by first | rfl | simp)) (SubT.cons (lk_eq rfl (by first | rfl | simp)) (SubT.cons (lk_eq rfl (by first | rfl | simp)) (SubT.cons (lk_eq rfl (by first | rfl | simp)) (SubT.nil))))) (SubO.cons (ok_eq rfl (by rw [take_snoc hu, noteL_snoc]; rfl)) (SubO.nil)) rfl rfl (noL' (noL hL) _)
  try simp only [↓cqA, cqB] at c0
  have hk2 : ts.take k = ts := List.take_of_length_le (by omega)
  rw [hk2] at hs1 ⊢
  have hs3 := AC_mono (AC_rn 0 6 (Sorted_ok (noteL d ts) (by simp only [noteL]; simp only [List.length_nil] at hs1; omega))) (Post' := fun r O' => ∃ L, Rising L ∧ (∀ s, s ∈ L ↔ s ∈ noteL d ts) ∧ r = .dat true 1 (strDs L) ∧ O' = [(1, .box [.map 6]), (6, mpS (noteL d ts))])
    (fun r O' ⟨L, h1, h2, h3, h4⟩ => ⟨L, h1, h2, by rw [← rn_rn (swp_swp 0 6) r, h3]; rfl, by rw [← rnO_rnO (swp_swp 0 6) O', h4]; rfl⟩)
  refine awp_exit ?_; refine thenQ_exit (thenQ_exit (inQ_hit ?_)); refine thenQ_nil ?_; refine awp_seq ?_; refine awp_region ?_; refine awps_stp0 rfl rfl (by decide) (stp_move (.inl rfl) rfl) ?_; refine awps_callP (avs := [_]) true rfl rfl rfl (by decide) en_maps_Keys_map_string_bool_string_bool rfl rfl (hkk _) (rfl) (passO (.cons rfl trivial rfl .nil)) (by rintro r O' ⟨rfl, rfl⟩; exact frB rfl) (by rintro - r O' ⟨rfl, rfl⟩; exact ⟨rfl, rfl⟩) ?_
  rintro r O' ⟨rfl, rfl⟩
  refine awps_callP (avs := [_]) true rfl rfl rfl (by decide) en_slices_Sorted_string rfl rfl (hs3) (rfl) (passO (.cons rfl trivial rfl (.cons rfl trivial rfl .nil))) (by rintro r O' ⟨L, _, _, _, rfl⟩; exact frB rfl) (by rintro - r O' ⟨L, _, _, rfl, rfl⟩; exact ⟨rfl, rfl⟩) ?_
  rintro r O' ⟨L, h1, h2, rfl, rfl⟩
  refine awps_stp0 rfl rfl (by decide) (stp_move (.inr rfl) rfl) ?_; refine awps_nil ?_; refine thenQ_nil ?_; refine awp_ret ?_
  -- leaf 0F
  refine ret0 (noL hL) (.inl rfl) (resAs_tmp rfl (resAs_nil)) ?_ ?_
  · rfl
  exact ⟨⟨L, h1, h2, rfl⟩, rfl⟩
theorem mayL_dle (d : Nat) (ih : ∀ (t : Tm) (n : Int), (mayS d t n).1 = true → dle d t ∧ (nodes d t : Int) ≤ n - (mayS d t n).2) : ∀ (l : List Tm) (n : Int), (mayL (mayS d) l n).1 = true → (∀ u, u ∈ l → dle d u) ∧ ((l.map (nodes d)).sum : Int) ≤ n - (mayL (mayS d) l n).2
  | [], n, _ => by simp [mayL]
  | a :: l, n, h => by
    simp only [mayL] at h ⊢
    split at h
    · rename_i hb
      have h1 := ih a n hb
      have h2 := mayL_dle d ih l (mayS d a n).2 h
      rw [if_pos hb]
      refine ⟨fun u hu => ?_, ?_⟩
      · rcases List.mem_cons.1 hu with rfl | hu
        · exact h1.1
        · exact h2.1 u hu
      · simp only [List.map_cons, List.sum_cons]
        have := h1.2; have := h2.2; push_cast at *; omega
    · cases h
theorem mayS_dle : ∀ (d : Nat) (t : Tm) (n : Int), (mayS d t n).1 = true → dle d t ∧ (nodes d t : Int) ≤ n - (mayS d t n).2
  | 0, t, n, h => by simp [mayS] at h
  | d + 1, t, n, h => by
    have e0 : ∀ l : List Tm, l.length = 0 → l = [] := fun l h => List.eq_nil_of_length_eq_zero h
    simp only [mayS] at h ⊢
    split at h
    · cases h
    rename_i hn
    rw [if_neg hn]
    split at h
    · rename_i hk
      rw [if_pos hk]
      simp only [Bool.and_eq_true, decide_eq_true_eq] at h
      have := e0 _ h.2
      simp [dle, nodes, this]; omega
    rename_i hk1
    rw [if_neg hk1]
    split at h
    · rename_i hk
      rw [if_pos hk]
      simp only [Bool.and_eq_true, decide_eq_true_eq] at h
      have := e0 _ h.2
      simp [dle, nodes, this]; omega
    rename_i hk2
    rw [if_neg hk2]
    split at h
    · rename_i hk
      rw [if_pos hk]
      split at h
      · rename_i hc
        rw [if_pos hc]
        have := mayL_dle d (mayS_dle d) t.args (n - 1) h
        refine ⟨this.1, ?_⟩
        simp only [nodes]; push_cast; have := this.2; omega
      · cases h
    · cases h
theorem mayT_dle {t : Tm} (h : mayT t = true) : dle 5 t ∧ nodes 5 t ≤ 25 := by
  have h1 := mayS_dle 5 t 24 h
  have h2 := mayS_range 5 t 24 (by omega)
  exact ⟨h1.1, by omega⟩
def groundB (t : Tm) : Bool := (noteS 5 t []).isEmpty
theorem Is_ok (t : Tm) (ht : t.wf) (hm : mayT t = true) : PF 164 [tmA false t] (bv (groundB t)) := by
  obtain ⟨h1, h2⟩ := mayT_dle hm
  have key := Names_ok 5 [t] (fun u hu => by simp at hu; subst hu; exact h1) ⟨(Tm.wf0_iff t).2 ht, trivial⟩ (by simp) (by simp; omega)
  rw [tmDs_map] at key
  refine AC_intro Tryz.func164 rfl Tryz.ntmps164 (Nat.le_of_ble_eq_true rfl) fun c hL hQ hDD => ?_; refine awp_seq ?_; refine awp_region ?_; refine awps_stp1 rfl rfl (by decide) (stp_box 1 rfl rfl rfl) rfl ?_; refine awps_stp0 rfl rfl (by decide) (stp_move (.inr rfl) rfl) ?_; refine awps_nil ?_; refine thenQ_nil ?_; refine awp_seq ?_; refine awp_region ?_; refine awps_stp0 rfl rfl (by decide) (stp_load_all rfl tf_api_Term rfl rfl rfl rfl) ?_
  refine awps_stp1 rfl rfl (by decide) (stp_buildSlice 4 rfl sl_S_api_Term zv_api_Term rfl rfl (by decide) (by decide) (by decide) rfl rfl rfl) rfl ?_; refine awps_rowd 4 false 1 rfl rfl rfl rfl ?_; refine awps_callP (avs := [_]) true rfl rfl rfl (by decide) en_term_Names rfl rfl (key) (rfl) (passO .nil) (by rintro r O' ⟨_, rfl⟩; exact frB rfl) (by rintro - r O' ⟨⟨L, _, _, rfl⟩, rfl⟩; exact ⟨rfl, rfl⟩) ?_
  rintro r O' ⟨⟨L, g1, g2, rfl⟩, rfl⟩
  refine awps_stp0 rfl rfl (by decide) (stp_len_dat rfl sl_S_string rfl) ?_; refine awps_stp0 rfl rfl (by decide) (stp_binI rfl rfl rfl rfl) ?_; refine awps_stp0 rfl rfl (by decide) (stp_move (.inr rfl) rfl) ?_; refine awps_nil ?_; refine thenQ_nil ?_; refine awp_ret ?_
  -- leaf 
  refine ret0 (noL hL) (.inl rfl) (resAs_tmp rfl (resAs_nil)) ?_ ?_
  · rfl
  refine ⟨bool_w ?_, rfl⟩
  rw [strDs_length, natBeq0, groundB, Bool.eq_iff_iff, decide_eq_true_eq, List.length_eq_zero_iff, List.isEmpty_iff]
  have e : noteL 5 [t] = noteS 5 t [] := rfl
  rw [e] at g2
  constructor
  · rintro rfl; exact List.eq_nil_iff_forall_not_mem.2 fun s hs => by have := (g2 s).2 hs; simp at this
  · intro h; rw [h] at g2; exact List.eq_nil_iff_forall_not_mem.2 fun s hs => by have := (g2 s).1 hs; simp at this
end Go.Proofs.YtdecgkhdbfgldaaGreat

set_option linter.unusedVariables false
set_option linter.unusedSimpArgs false
set_option maxRecDepth 8000
namespace Go.Proofs.YtdecgkhdbfgldaaGreat
open Go
def ltS (a b : ByteArray) : Bool := Op.bytesLess a.toList b.toList
end Go.Proofs.YtdecgkhdbfgldaaGreat

set_option linter.unusedVariables false
set_option linter.unusedSimpArgs false
set_option maxRecDepth 8000
namespace Go.Proofs.YtdecgkhdbfgldaaGreat
open Go
theorem noteL_mem (d : Nat) (y : ByteArray) (ih : ∀ (t : Tm) (ss : List ByteArray), y ∈ noteS d t ss ↔ y ∈ ss ∨ y ∈ noteS d t []) : ∀ (l : List Tm) (ss : List ByteArray), y ∈ l.foldl (fun s u => noteS d u s) ss ↔ y ∈ ss ∨ ∃ u, u ∈ l ∧ y ∈ noteS d u []
  | [], ss => by simp
  | a :: l, ss => by
    simp only [List.foldl_cons]
    rw [noteL_mem d y ih l (noteS d a ss), ih a ss]
    constructor
    · rintro ((h | h) | ⟨u, h1, h2⟩)
      · exact .inl h
      · exact .inr ⟨a, by simp, h⟩
      · exact .inr ⟨u, by simp [h1], h2⟩
    · rintro (h | ⟨u, h1, h2⟩)
      · exact .inl (.inl h)
      · rcases List.mem_cons.1 h1 with rfl | h1
        · exact .inl (.inr h2)
        · exact .inr ⟨u, h1, h2⟩
theorem noteS_mem : ∀ (d : Nat) (y : ByteArray) (t : Tm) (ss : List ByteArray), y ∈ noteS d t ss ↔ y ∈ ss ∨ y ∈ noteS d t []
  | 0, y, t, ss => by simp [noteS]
  | d + 1, y, t, ss => by
    simp only [noteS]
    rw [noteL_mem d y (noteS_mem d y), noteL_mem d y (noteS_mem d y) t.args (if t.kind = 1 then t.name :: [] else [])]
    split
    · simp only [List.mem_cons, List.not_mem_nil, or_false]
      constructor
      · rintro ((h | h) | h) <;> simp [h]
      · rintro (h | h | h) <;> simp [h]
    · simp
end Go.Proofs.YtdecgkhdbfgldaaGreat

set_option linter.unusedVariables false
set_option linter.unusedSimpArgs false
set_option maxRecDepth 8000
namespace Go.Proofs.YtdecgkhdbfgldaaGreat
open Go
theorem cmpBytes_less : ∀ a b : List UInt8, Lib.compareBytes a b = if Op.bytesLess a b = true then -1 else if a = b then 0 else 1
  | [], [] => by simp [Lib.compareBytes, Op.bytesLess]
  | [], _ :: _ => by simp [Lib.compareBytes, Op.bytesLess]
  | _ :: _, [] => by simp [Lib.compareBytes, Op.bytesLess]
  | a :: l, b :: m => by
    have ih := cmpBytes_less l m
    simp only [Lib.compareBytes, Op.bytesLess]
    by_cases h1 : a < b
    · simp [h1]
    · by_cases h2 : b < a
      · have : a ≠ b := fun e => by subst e; exact h1 h2
        simp [h1, h2, this]
      · have : a = b := by
          rcases Nat.lt_trichotomy a.toNat b.toNat with h | h | h
          · exact absurd (UInt8.lt_iff_toNat_lt.2 h) h1
          · exact UInt8.toNat_inj.1 h
          · exact absurd (UInt8.lt_iff_toNat_lt.2 h) h2
        subst this
        simp [h1, ih]
theorem cmpS_eq (a b : ByteArray) : cmpS a b = if ltS a b = true then -1 else if a = b then 0 else 1 := by
  unfold cmpS ltS
  rw [cmpBytes_less, ByteArray.toList_eq, ByteArray.toList_eq]
  have : a.data.toList = b.data.toList ↔ a = b := by rw [← ByteArray.toList_eq, ← ByteArray.toList_eq]; exact toList_inj
  simp only [this]
theorem data_inj (a b : ByteArray) : a.data = b.data ↔ a = b := ⟨fun h => by cases a; cases b; simpa using h, fun h => by rw [h]⟩
def eqL (f : Tm → Tm → Bool) : List Tm → List Tm → Bool
  | [], [] => true
  | a :: l, b :: m => f a b && eqL f l m
  | _, _ => false
def eqT : Nat → Tm → Tm → Bool
  | 0, _, _ => false
  | d + 1, a, b => decide (a.kind = b.kind) && decide (a.name.data.toList = b.name.data.toList) && decide (a.n = b.n) && eqL (eqT d) a.args b.args
theorem eqL_len (f : Tm → Tm → Bool) : ∀ {l m : List Tm}, l.length ≠ m.length → eqL f l m = false
  | [], [], h => absurd rfl h
  | a :: l, b :: m, h => by simp only [eqL, eqL_len f (l := l) (m := m) (by simpa using h), Bool.and_false]
  | [], _ :: _, _ => rfl
  | _ :: _, [], _ => rfl
end Go.Proofs.YtdecgkhdbfgldaaGreat

set_option linter.unusedVariables false
set_option linter.unusedSimpArgs false
set_option maxRecDepth 8000
namespace Go.Proofs.YtdecgkhdbfgldaaGreat
open Go
def knownC (kind : Int) (a b : Tm) : Bool :=
  if kind = 1 ∨ kind = 2 then (if a.kind ≠ 2 ∨ b.kind ≠ 2 then false else decide (cmpT 5 a b < 0 ∨ (kind = 2 ∧ cmpT 5 a b = 0)))
  else (decide (cmpT 5 a b = 0) == decide (kind = 3))
theorem knownCompare_ok (kind : Int) (a b : Tm) (hd : dle 5 a) (ha : a.wf) (hb : b.wf) : PF 172 [iv kind, tmA false a, tmA false b] (bv (knownC kind a b)) := by
  refine AC_intro Tryz.func172 rfl Tryz.ntmps172 (Nat.le_of_ble_eq_true rfl) fun c hL hQ hDD => ?_; refine awp_seq ?_; refine awp_region ?_; refine awps_stp1 rfl rfl (by decide) (stp_box 4 rfl rfl rfl) rfl ?_; refine awps_stp1 rfl rfl (by decide) (stp_box 5 rfl rfl rfl) rfl ?_; refine awps_stp0 rfl rfl (by decide) (stp_move (.inr rfl) rfl) ?_; refine awps_nil ?_; refine thenQ_nil ?_; refine awp_seq ?_; refine awp_region ?_; refine awps_stp0 rfl rfl (by decide) (stp_load_all rfl tf_api_Term rfl rfl rfl rfl) ?_
  refine awps_stp0 rfl rfl (by decide) (stp_load_all rfl tf_api_Term rfl rfl rfl rfl) ?_; refine awps_call (avs := [_, _]) true rfl rfl rfl (by decide) en_term_Compare rfl rfl (Compare_ok 5 a b hd ha hb) rfl rfl ?_; refine awps_stp0 rfl rfl (by decide) (stp_move (.inr rfl) rfl) ?_; refine awps_nil ?_; refine thenQ_nil ?_; refine awp_seq ?_; refine awp_seq ?_; refine awp_region ?_; refine awps_stp0 rfl rfl (by decide) (stp_move (.inl rfl) rfl) ?_
  refine awps_stp0 rfl rfl (by decide) (stp_binI rfl rfl rfl rfl) ?_; refine awps_stp0 rfl rfl (by decide) (stp_move (.inl rfl) rfl) ?_; refine awps_split 13 rfl (fun g13 => ?_) (fun g13 => ?_)
  · try simp only [↓cqA, cqB] at g13
    refine awps_gs rfl rfl rfl rfl (by decide) rfl (by decide) ?_; refine awps_gs rfl rfl rfl rfl (by decide) rfl (by decide) ?_; refine awps_stp0 rfl rfl (by decide) (stp_pick rfl rfl rfl) ?_; refine awps_nil ?_; refine thenQ_nil ?_; refine awp_condT rfl ?_; refine awp_seq ?_; refine awp_seq ?_; refine awp_region ?_; refine awps_stp0 rfl rfl (by decide) (stp_fieldAddr rfl fo_api_Term_0 rfl) ?_; refine awps_stp0 rfl rfl (by decide) (stp_load rfl tf_int rfl rfl rfl rfl rfl) ?_
    refine awps_stp0 rfl rfl (by decide) (stp_binI rfl rfl rfl rfl) ?_; refine awps_stp0 rfl rfl (by decide) (stp_move (.inl rfl) rfl) ?_; refine awps_split 20 rfl (fun g20 => ?_) (fun g20 => ?_)
    · try simp only [↓cqA, cqB] at g20
      refine awps_gs rfl rfl rfl rfl (by decide) rfl (by decide) ?_; refine awps_gs rfl rfl rfl rfl (by decide) rfl (by decide) ?_; refine awps_gs rfl rfl rfl rfl (by decide) rfl (by decide) ?_; refine awps_stp0 rfl rfl (by decide) (stp_pick rfl rfl rfl) ?_; refine awps_nil ?_; refine thenQ_nil ?_; refine awp_condT rfl ?_; refine awp_seq ?_; refine awp_region ?_; refine awps_stp0 rfl rfl (by decide) (stp_move (.inr rfl) rfl) ?_; refine awps_nil ?_; refine thenQ_nil ?_; refine awp_ret ?_; refine thenQ_ret (thenQ_ret (?_))
      -- leaf g13Tg20T
      refine ret0 (noL hL) (.inl rfl) (resAs_tmp rfl (resAs_nil)) ?_ ?_
      · rfl
      refine ⟨bool_w ?_, rfl⟩
      rw [knownC]; repeat' split
      all_goals first | rfl | omega | (simp_all; done) | (simp_all; omega) | (rw [Bool.eq_iff_iff]; simp_all; done) | (rw [Bool.eq_iff_iff]; simp_all; omega)
    try simp only [↓cqA, cqB] at g20
    refine awps_g0 rfl rfl rfl (by decide) rfl (by decide) (stp_fieldAddr rfl fo_api_Term_0 rfl) ?_; refine awps_g0 rfl rfl rfl (by decide) rfl (by decide) (stp_load rfl tf_int rfl rfl rfl rfl rfl) ?_; refine awps_g0 rfl rfl rfl (by decide) rfl (by decide) (stp_binI rfl rfl rfl rfl) ?_; refine awps_stp0 rfl rfl (by decide) (stp_pick rfl rfl rfl) ?_; refine awps_nil ?_; refine thenQ_nil ?_; refine awp_cond rfl (fun c1 => ?_) (fun c1 => ?_)
    · try simp only [↓cqA, cqB] at c1
      refine awp_seq ?_; refine awp_region ?_; refine awps_stp0 rfl rfl (by decide) (stp_move (.inr rfl) rfl) ?_; refine awps_nil ?_; refine thenQ_nil ?_; refine awp_ret ?_; refine thenQ_ret (thenQ_ret (?_))
      -- leaf g13Tg20F1T
      refine ret0 (noL hL) (.inl rfl) (resAs_tmp rfl (resAs_nil)) ?_ ?_
      · rfl
      refine ⟨bool_w ?_, rfl⟩
      rw [knownC]; repeat' split
      all_goals first | rfl | omega | (simp_all; done) | (simp_all; omega) | (rw [Bool.eq_iff_iff]; simp_all; done) | (rw [Bool.eq_iff_iff]; simp_all; omega)
    try simp only [↓cqA, cqB] at c1
    refine awp_skip ?_; refine thenQ_nil ?_; refine awp_seq ?_; refine awp_region ?_; refine awps_stp0 rfl rfl (by decide) (stp_move (.inl rfl) rfl) ?_; refine awps_stp0 rfl rfl (by decide) (stp_binI rfl rfl rfl rfl) ?_; refine awps_stp0 rfl rfl (by decide) (stp_move (.inl rfl) rfl) ?_; refine awps_split 27 rfl (fun g27 => ?_) (fun g27 => ?_)
    · try simp only [↓cqA, cqB] at g27
      refine awps_gs rfl rfl rfl rfl (by decide) rfl (by decide) ?_; refine awps_gs rfl rfl rfl rfl (by decide) rfl (by decide) ?_; refine awps_gs rfl rfl rfl rfl (by decide) rfl (by decide) ?_; refine awps_gu rfl rfl rfl (by decide) rfl (by decide) ?_; refine awps_gu rfl rfl rfl (by decide) rfl (by decide) ?_; refine awps_gs rfl rfl rfl rfl (by decide) rfl (by decide) ?_; refine awps_stp0 rfl rfl (by decide) (stp_pick rfl rfl rfl) ?_; refine awps_stp0 rfl rfl (by decide) (stp_move (.inr rfl) rfl) ?_; refine awps_nil ?_; refine thenQ_nil ?_; refine awp_ret ?_; refine thenQ_ret (?_)
      -- leaf g13Tg20F1Fg27T
      refine ret0 (noL hL) (.inl rfl) (resAs_tmp rfl (resAs_nil)) ?_ ?_
      · rfl
      refine ⟨bool_w ?_, rfl⟩
      rw [knownC]; repeat' split
      all_goals first | rfl | omega | (simp_all; done) | (simp_all; omega) | (rw [Bool.eq_iff_iff]; simp_all; done) | (rw [Bool.eq_iff_iff]; simp_all; omega)
    try simp only [↓cqA, cqB] at g27
    refine awps_g0 rfl rfl rfl (by decide) rfl (by decide) (stp_move (.inl rfl) rfl) ?_; refine awps_g0 rfl rfl rfl (by decide) rfl (by decide) (stp_binI rfl rfl rfl rfl) ?_; refine awps_g0 rfl rfl rfl (by decide) rfl (by decide) (stp_move (.inl rfl) rfl) ?_; refine awps_split 30 rfl (fun g30 => ?_) (fun g30 => ?_)
    · try simp only [↓cqA, cqB] at g30
      refine awps_g0 rfl rfl rfl (by decide) rfl (by decide) (stp_move (.inl rfl) rfl) ?_; refine awps_g0 rfl rfl rfl (by decide) rfl (by decide) (stp_binI rfl rfl rfl rfl) ?_; refine awps_g0 rfl rfl rfl (by decide) rfl (by decide) (stp_pick rfl rfl rfl) ?_; refine awps_stp0 rfl rfl (by decide) (stp_pick rfl rfl rfl) ?_; refine awps_stp0 rfl rfl (by decide) (stp_move (.inr rfl) rfl) ?_; refine awps_nil ?_; refine thenQ_nil ?_; refine awp_ret ?_; refine thenQ_ret (?_)
      -- leaf g13Tg20F1Fg27Fg30T
      refine ret0 (noL hL) (.inl rfl) (resAs_tmp rfl (resAs_nil)) ?_ ?_
      · rfl
      refine ⟨bool_w ?_, rfl⟩
      rw [knownC]; repeat' split
      all_goals first | rfl | omega | (simp_all; done) | (simp_all; omega) | (rw [Bool.eq_iff_iff]; simp_all; done) | (rw [Bool.eq_iff_iff]; simp_all; omega)
    try simp only [↓cqA, cqB] at g30
    refine awps_gs rfl rfl rfl rfl (by decide) rfl (by decide) ?_; refine awps_gs rfl rfl rfl rfl (by decide) rfl (by decide) ?_; refine awps_g0 rfl rfl rfl (by decide) rfl (by decide) (stp_pick rfl rfl rfl) ?_; refine awps_stp0 rfl rfl (by decide) (stp_pick rfl rfl rfl) ?_; refine awps_stp0 rfl rfl (by decide) (stp_move (.inr rfl) rfl) ?_; refine awps_nil ?_; refine thenQ_nil ?_; refine awp_ret ?_; refine thenQ_ret (?_)
    -- leaf g13Tg20F1Fg27Fg30F
    refine ret0 (noL hL) (.inl rfl) (resAs_tmp rfl (resAs_nil)) ?_ ?_
    · rfl
    refine ⟨bool_w ?_, rfl⟩
    rw [knownC]; repeat' split
    all_goals first | rfl | omega | (simp_all; done) | (simp_all; omega) | (rw [Bool.eq_iff_iff]; simp_all; done) | (rw [Bool.eq_iff_iff]; simp_all; omega)
  try simp only [↓cqA, cqB] at g13
  refine awps_g0 rfl rfl rfl (by decide) rfl (by decide) (stp_move (.inl rfl) rfl) ?_; refine awps_g0 rfl rfl rfl (by decide) rfl (by decide) (stp_binI rfl rfl rfl rfl) ?_; refine awps_stp0 rfl rfl (by decide) (stp_pick rfl rfl rfl) ?_; refine awps_nil ?_; refine thenQ_nil ?_; refine awp_cond rfl (fun c0 => ?_) (fun c0 => ?_)
  · try simp only [↓cqA, cqB] at c0
    refine awp_seq ?_; refine awp_seq ?_; refine awp_region ?_; refine awps_stp0 rfl rfl (by decide) (stp_fieldAddr rfl fo_api_Term_0 rfl) ?_; refine awps_stp0 rfl rfl (by decide) (stp_load rfl tf_int rfl rfl rfl rfl rfl) ?_; refine awps_stp0 rfl rfl (by decide) (stp_binI rfl rfl rfl rfl) ?_; refine awps_stp0 rfl rfl (by decide) (stp_move (.inl rfl) rfl) ?_; refine awps_split 20 rfl (fun g20 => ?_) (fun g20 => ?_)
    · try simp only [↓cqA, cqB] at g20
      refine awps_gs rfl rfl rfl rfl (by decide) rfl (by decide) ?_; refine awps_gs rfl rfl rfl rfl (by decide) rfl (by decide) ?_; refine awps_gs rfl rfl rfl rfl (by decide) rfl (by decide) ?_; refine awps_stp0 rfl rfl (by decide) (stp_pick rfl rfl rfl) ?_; refine awps_nil ?_; refine thenQ_nil ?_; refine awp_condT rfl ?_; refine awp_seq ?_; refine awp_region ?_; refine awps_stp0 rfl rfl (by decide) (stp_move (.inr rfl) rfl) ?_; refine awps_nil ?_; refine thenQ_nil ?_; refine awp_ret ?_; refine thenQ_ret (thenQ_ret (?_))
      -- leaf g13F0Tg20T
      refine ret0 (noL hL) (.inl rfl) (resAs_tmp rfl (resAs_nil)) ?_ ?_
      · rfl
      refine ⟨bool_w ?_, rfl⟩
      rw [knownC]; repeat' split
      all_goals first | rfl | omega | (simp_all; done) | (simp_all; omega) | (rw [Bool.eq_iff_iff]; simp_all; done) | (rw [Bool.eq_iff_iff]; simp_all; omega)
    try simp only [↓cqA, cqB] at g20
    refine awps_g0 rfl rfl rfl (by decide) rfl (by decide) (stp_fieldAddr rfl fo_api_Term_0 rfl) ?_; refine awps_g0 rfl rfl rfl (by decide) rfl (by decide) (stp_load rfl tf_int rfl rfl rfl rfl rfl) ?_; refine awps_g0 rfl rfl rfl (by decide) rfl (by decide) (stp_binI rfl rfl rfl rfl) ?_; refine awps_stp0 rfl rfl (by decide) (stp_pick rfl rfl rfl) ?_; refine awps_nil ?_; refine thenQ_nil ?_; refine awp_cond rfl (fun c1 => ?_) (fun c1 => ?_)
    · try simp only [↓cqA, cqB] at c1
      refine awp_seq ?_; refine awp_region ?_; refine awps_stp0 rfl rfl (by decide) (stp_move (.inr rfl) rfl) ?_; refine awps_nil ?_; refine thenQ_nil ?_; refine awp_ret ?_; refine thenQ_ret (thenQ_ret (?_))
      -- leaf g13F0Tg20F1T
      refine ret0 (noL hL) (.inl rfl) (resAs_tmp rfl (resAs_nil)) ?_ ?_
      · rfl
      refine ⟨bool_w ?_, rfl⟩
      rw [knownC]; repeat' split
      all_goals first | rfl | omega | (simp_all; done) | (simp_all; omega) | (rw [Bool.eq_iff_iff]; simp_all; done) | (rw [Bool.eq_iff_iff]; simp_all; omega)
    try simp only [↓cqA, cqB] at c1
    refine awp_skip ?_; refine thenQ_nil ?_; refine awp_seq ?_; refine awp_region ?_; refine awps_stp0 rfl rfl (by decide) (stp_move (.inl rfl) rfl) ?_; refine awps_stp0 rfl rfl (by decide) (stp_binI rfl rfl rfl rfl) ?_; refine awps_stp0 rfl rfl (by decide) (stp_move (.inl rfl) rfl) ?_; refine awps_split 27 rfl (fun g27 => ?_) (fun g27 => ?_)
    · try simp only [↓cqA, cqB] at g27
      refine awps_gs rfl rfl rfl rfl (by decide) rfl (by decide) ?_; refine awps_gs rfl rfl rfl rfl (by decide) rfl (by decide) ?_; refine awps_gs rfl rfl rfl rfl (by decide) rfl (by decide) ?_; refine awps_gu rfl rfl rfl (by decide) rfl (by decide) ?_; refine awps_gu rfl rfl rfl (by decide) rfl (by decide) ?_; refine awps_gs rfl rfl rfl rfl (by decide) rfl (by decide) ?_; refine awps_stp0 rfl rfl (by decide) (stp_pick rfl rfl rfl) ?_; refine awps_stp0 rfl rfl (by decide) (stp_move (.inr rfl) rfl) ?_; refine awps_nil ?_; refine thenQ_nil ?_; refine awp_ret ?_; refine thenQ_ret (?_)
      -- leaf g13F0Tg20F1Fg27T
      refine ret0 (noL hL) (.inl rfl) (resAs_tmp rfl (resAs_nil)) ?_ ?_
      · rfl
      refine ⟨bool_w ?_, rfl⟩
      rw [knownC]; repeat' split
      all_goals first | rfl | omega | (simp_all; done) | (simp_all; omega) | (rw [Bool.eq_iff_iff]; simp_all; done) | (rw [Bool.eq_iff_iff]; simp_all; omega)
    try simp only [↓cqA, cqB] at g27
    refine awps_g0 rfl rfl rfl (by decide) rfl (by decide) (stp_move (.inl rfl) rfl) ?_; refine awps_g0 rfl rfl rfl (by decide) rfl (by decide) (stp_binI rfl rfl rfl rfl) ?_; refine awps_g0 rfl rfl rfl (by decide) rfl (by decide) (stp_move (.inl rfl) rfl) ?_; refine awps_split 30 rfl (fun g30 => ?_) (fun g30 => ?_)
    · try simp only [↓cqA, cqB] at g30
      refine awps_g0 rfl rfl rfl (by decide) rfl (by decide) (stp_move (.inl rfl) rfl) ?_; refine awps_g0 rfl rfl rfl (by decide) rfl (by decide) (stp_binI rfl rfl rfl rfl) ?_; refine awps_g0 rfl rfl rfl (by decide) rfl (by decide) (stp_pick rfl rfl rfl) ?_; refine awps_stp0 rfl rfl (by decide) (stp_pick rfl rfl rfl) ?_; refine awps_stp0 rfl rfl (by decide) (stp_move (.inr rfl) rfl) ?_; refine awps_nil ?_; refine thenQ_nil ?_; refine awp_ret ?_; refine thenQ_ret (?_)
      -- leaf g13F0Tg20F1Fg27Fg30T
      refine ret0 (noL hL) (.inl rfl) (resAs_tmp rfl (resAs_nil)) ?_ ?_
      · rfl
      refine ⟨bool_w ?_, rfl⟩
      rw [knownC]; repeat' split
      all_goals first | rfl | omega | (simp_all; done) | (simp_all; omega) | (rw [Bool.eq_iff_iff]; simp_all; done) | (rw [Bool.eq_iff_iff]; simp_all; omega)
    try simp only [↓cqA, cqB] at g30
    refine awps_gs rfl rfl rfl rfl (by decide) rfl (by decide) ?_; refine awps_gs rfl rfl rfl rfl (by decide) rfl (by decide) ?_; refine awps_g0 rfl rfl rfl (by decide) rfl (by decide) (stp_pick rfl rfl rfl) ?_; refine awps_stp0 rfl rfl (by decide) (stp_pick rfl rfl rfl) ?_; refine awps_stp0 rfl rfl (by decide) (stp_move (.inr rfl) rfl) ?_; refine awps_nil ?_; refine thenQ_nil ?_; refine awp_ret ?_; refine thenQ_ret (?_)
    -- leaf g13F0Tg20F1Fg27Fg30F
    refine ret0 (noL hL) (.inl rfl) (resAs_tmp rfl (resAs_nil)) ?_ ?_
    · rfl
    refine ⟨bool_w ?_, rfl⟩
    rw [knownC]; repeat' split
    all_goals first | rfl | omega | (simp_all; done) | (simp_all; omega) | (rw [Bool.eq_iff_iff]; simp_all; done) | (rw [Bool.eq_iff_iff]; simp_all; omega)
  try simp only [↓cqA, cqB] at c0
  refine awp_skip ?_; refine thenQ_nil ?_; refine awp_seq ?_; refine awp_region ?_; refine awps_stp0 rfl rfl (by decide) (stp_move (.inl rfl) rfl) ?_; refine awps_stp0 rfl rfl (by decide) (stp_binI rfl rfl rfl rfl) ?_; refine awps_stp0 rfl rfl (by decide) (stp_move (.inl rfl) rfl) ?_; refine awps_stp0 rfl rfl (by decide) (stp_binI rfl rfl rfl rfl) ?_; refine awps_stp0 rfl rfl (by decide) (stp_eqB rfl ul_bool rfl rfl) ?_; refine awps_stp0 rfl rfl (by decide) (stp_move (.inr rfl) rfl) ?_; refine awps_nil ?_; refine thenQ_nil ?_; refine awp_ret ?_
  -- leaf g13F0F
  refine ret0 (noL hL) (.inl rfl) (resAs_tmp rfl (resAs_nil)) ?_ ?_
  · rfl
  refine ⟨bool_w ?_, rfl⟩
  rw [knownC]; repeat' split
  all_goals first | rfl | omega | (simp_all; done) | (simp_all; omega) | (rw [Bool.eq_iff_iff]; simp_all; done) | (rw [Bool.eq_iff_iff]; simp_all; omega)
theorem cmpI_zero (a b : Int) : cmpI a b = 0 ↔ a = b := by
  simp only [cmpI]; split
  · constructor
    · intro h; cases h
    · intro h; omega
  · split
    · constructor
      · intro h; cases h
      · intro h; omega
    · constructor
      · intro _; omega
      · intro _; rfl
theorem cmpS_zero (a b : ByteArray) : cmpS a b = 0 ↔ a = b := by
  rw [cmpS_eq]
  split
  · rename_i h
    constructor
    · intro h; cases h
    · rintro rfl
      have irr : ∀ l : List UInt8, Op.bytesLess l l = false := fun l => by
        induction l with
        | nil => rfl
        | cons x l ih => simp [Op.bytesLess, ih]
      rw [ltS, irr] at h; cases h
  · split
    · rename_i h; simp [h]
    · rename_i h; simp [h]
theorem cmpL_zero (f : Tm → Tm → Int) (g : Tm → Tm → Bool) : ∀ (l m : List Tm), (∀ u v, u ∈ l → (f u v = 0 ↔ g u v = true)) → (cmpL f l m = 0 ↔ eqL g l m = true)
  | [], [], _ => by simp [cmpL, eqL]
  | [], _ :: _, _ => by simp [cmpL, eqL]
  | _ :: _, [], _ => by simp [cmpL, eqL]
  | a :: l, b :: m, h => by
    have h1 := h a b (by simp)
    have ih := cmpL_zero f g l m (fun u v hu => h u v (by simp [hu]))
    simp only [cmpL, eqL, Bool.and_eq_true, ← h1]
    split
    · rename_i h0; simp [h0, ih]
    · rename_i h0; simp [h0]
theorem orL_zero (a b c d : Int) : orL [a, b, c, d] = 0 ↔ a = 0 ∧ b = 0 ∧ c = 0 ∧ d = 0 := by
  simp only [orL]; split
  · split
    · split
      · split
        · simp_all
        · simp_all
      · simp_all
    · simp_all
  · simp_all
theorem cmpT_zero : ∀ (d : Nat) (a b : Tm), dle d a → (cmpT d a b = 0 ↔ eqT d a b = true)
  | 0, a, b, h => h.elim
  | d + 1, a, b, h => by
    have hL := cmpL_zero (cmpT d) (eqT d) a.args b.args (fun u v hu => cmpT_zero d u v (h u hu))
    have hz := orL_zero (cmpI a.kind b.kind) (cmpI a.n b.n) (cmpI a.args.length b.args.length) (cmpS a.name b.name)
    simp only [cmpT, eqT, Bool.and_eq_true, decide_eq_true_eq, Array.toList_inj, data_inj]
    split
    · rename_i h0
      obtain ⟨h1, h2, h3, h4⟩ := hz.1 h0
      rw [cmpI_zero] at h1 h2
      rw [cmpS_zero] at h4
      rw [hL]
      exact ⟨fun h => ⟨⟨⟨h1, h4⟩, h2⟩, h⟩, fun h => h.2⟩
    · rename_i h0
      constructor
      · intro h; exact absurd h h0
      · rintro ⟨⟨⟨h1, h4⟩, h2⟩, h3⟩
        exfalso
        apply h0
        rw [hz, cmpI_zero, cmpI_zero, cmpI_zero, cmpS_zero]
        refine ⟨h1, h2, ?_, h4⟩
        by_cases hl : a.args.length = b.args.length
        · rw [hl]
        · rw [eqL_len _ hl] at h3; cases h3
end Go.Proofs.YtdecgkhdbfgldaaGreat

set_option linter.unusedVariables false
set_option linter.unusedSimpArgs false
set_option maxRecDepth 8000
namespace Go.Proofs.YtdecgkhdbfgldaaGreat
open Go
def turnT (g : ByteArray → Tm) : Nat → Tm → Tm
  | 0, t => t
  | d + 1, t => if t.kind = 1 then g t.name else ⟨t.kind, t.name, t.n, t.args.map (turnT g d)⟩
def tmDsL (l : List Tm) : List (List D) := l.map tmD
theorem Turned_ok (g : ByteArray → Tm) (fb : FuncId) (hen : Enters Tryz.prog fb) (hby : ∀ s, PF fb [sv s] (.agg (lift true (tmD (g s))))) : ∀ (d : Nat) (t : Tm), dle d t → t.wf → PF 144 [tmA false t, .fn fb []] (.agg (lift true (tmD (turnT g d t))))
  | 0, t, h, _ => h.elim
  | d + 1, t, h, ht => by
    have hlen := tmDs_length t.args
    have hal := ht.2.2.2.1
    refine AC_intro Tryz.func144 rfl Tryz.ntmps144 (Nat.le_of_ble_eq_true rfl) fun c hL hQ hDD => ?_; refine awp_seq ?_; refine awp_region ?_; refine awps_stp1 rfl rfl (by decide) (stp_box 2 rfl rfl rfl) rfl ?_; refine awps_stp1 rfl rfl (by decide) (stp_alloc 4 rfl zv_api_Term rfl) rfl ?_; refine awps_nil ?_; refine thenQ_nil ?_; refine awp_seq ?_; refine awp_seq ?_; refine awp_region ?_; refine awps_stp0 rfl rfl (by decide) (stp_fieldAddr rfl fo_api_Term_0 rfl) ?_; refine awps_stp0 rfl rfl (by decide) (stp_load rfl tf_int rfl rfl rfl rfl rfl) ?_
    refine awps_stp0 rfl rfl (by decide) (stp_binI rfl rfl rfl rfl) ?_; refine awps_nil ?_; refine thenQ_nil ?_; refine awp_cond rfl (fun c0 => ?_) (fun c0 => ?_)
    · try simp only [↓cqA, cqB] at c0
      refine awp_seq ?_; refine awp_region ?_; refine awps_stp0 rfl rfl (by decide) (stp_move (.inl rfl) rfl) ?_; refine awps_stp0 rfl rfl (by decide) (stp_fieldAddr rfl fo_api_Term_1 rfl) ?_; refine awps_stp0 rfl rfl (by decide) (stp_load rfl tf_string rfl rfl rfl rfl rfl) ?_; refine awps_call (avs := [_]) true rfl rfl rfl (by decide) hen rfl rfl (hby t.name) rfl rfl ?_; refine awps_store rfl rfl rfl tf_api_Term rfl rfl rfl rfl rfl rfl rfl rfl rfl ?_; refine awps_nil ?_; refine thenQ_nil ?_; refine awp_ret ?_; refine thenQ_ret (?_)
      -- leaf 0T
      refine ret0 (noL hL) (.inl rfl) (resAs_cell tf_api_Term rfl rfl rfl (resAs_nil)) ?_ ?_
      · rfl
      exact ⟨by rw [turnT, if_pos c0]; rfl, rfl⟩
    try simp only [↓cqA, cqB] at c0
    refine awp_skip ?_; refine thenQ_nil ?_; refine awp_seq ?_; refine awp_region ?_; refine awps_stp0 rfl rfl (by decide) (stp_move (.inr rfl) rfl) ?_; refine awps_nil ?_; refine thenQ_nil ?_; refine awp_seq ?_; refine awp_seq ?_; refine awp_region ?_; refine awps_stp0 rfl rfl (by decide) (stp_fieldAddr rfl fo_api_Term_3 rfl) ?_; refine awps_stp0 rfl rfl (by decide) (stp_load rfl tf_S_api_Term rfl rfl rfl rfl rfl) ?_; refine awps_stp0 rfl rfl (by decide) (stp_len_dat rfl sl_S_api_Term rfl) ?_
    refine awps_stp0 rfl rfl (by decide) (stp_move (.inl rfl) rfl) ?_; refine awps_nil ?_; refine thenQ_nil ?_; refine awp_block ?_; refine awp_while (t.args.length) (fun k => k ≤ t.args.length) (fun k => ⟨[(1, .fn fb []), (2, .ptr 2 0), (4, .ptr 4 0), (5, .row 5), (16, .dat false 4 (tmDs t.args)), (17, iv (tmDs t.args).length), (18, iv (k : Int))], [(2, .box (lift false (tmD t))), (4, .box ([Value.int .i64 0, Value.string ⟨#[]⟩, Value.int .i64 0, Value.slice none 0 0].map .imm)), (5, .rowd 35 4 true (tmDsL ((t.args.take k).map (turnT g d))))]⟩) (by omega) ?_ (fun k hk hp => ?_)
    · exact Sub.trans (sub_nil_row (t := 5) (l := 5) 35 4 true rfl rfl) (sub_re (SubT.cons (lk_eq rfl (by first | rfl | simp)) (SubT.cons (lk_eq rfl (by first | rfl | simp)) (SubT.cons (lk_eq rfl (by first | rfl | simp)) (SubT.cons (lk_eq rfl (by first | rfl | simp)) (SubT.cons (lk_eq rfl (by first | rfl | simp)) (SubT.cons (lk_eq rfl (by first | rfl | simp)) (SubT.cons (lk_eq rfl (by first | rfl | simp)) (SubT.nil)))))))) (SubO.cons (ok_eq rfl (by rfl)) (SubO.cons (ok_eq rfl (by rfl)) (SubO.cons (ok_eq rfl (by rfl)) (SubO.nil)))) rfl rfl (noL' (noL hL) _))
    have hl2 : (tmDsL ((t.args.take k).map (turnT g d))).length ≤ t.args.length := by simp [tmDsL]; omega
    refine awp_seq ?_; refine awp_region ?_; refine awps_stp0 rfl rfl (by decide) (stp_binI rfl rfl rfl rfl) ?_; refine awps_nil ?_; refine thenQ_nil ?_; refine awp_seq ?_; refine awp_cond rfl (fun c1 => ?_) (fun c1 => ?_)
    · try simp only [↓cqA, cqB] at c1
      obtain ⟨u, hu⟩ := get_of_lt (l := t.args) (k := k) (by omega)
      have hum := List.mem_of_getElem? hu
      refine awp_skip ?_; refine thenQ_nil ?_; refine awp_seq ?_; refine awp_block ?_; refine awp_seq ?_; refine awp_region ?_; refine awps_stp0 rfl rfl (by decide) (stp_indexAddr rfl sl_S_api_Term rfl rfl (by omega) (tmDs_get hu)) ?_; refine awps_stp0 rfl rfl (by decide) (stp_load_elpa rfl tf_api_Term rfl rfl) ?_
      refine awps_stp1 rfl rfl (by decide) (stp_alloc 7 rfl zv_api_Term rfl) rfl ?_; refine awps_store rfl rfl rfl tf_api_Term rfl rfl rfl rfl rfl rfl rfl rfl rfl ?_; refine awps_nil ?_; refine thenQ_nil ?_; refine awp_region ?_; refine awps_stp0 rfl rfl (by decide) (stp_move (.inl rfl) rfl) ?_; refine awps_stp0 rfl rfl (by decide) (stp_load_all rfl tf_api_Term rfl rfl rfl rfl) ?_
      refine awps_stp0 rfl rfl (by decide) (stp_move (.inl rfl) rfl) ?_; refine awps_call (avs := [_, _]) true rfl rfl rfl (by decide) en_term_Turned rfl rfl (Turned_ok g fb hen hby d u (h u hum) (Tm.wfs_mem ht.2.2.2.2 hum)) rfl rfl ?_; refine awps_stp1 rfl rfl (by decide) (stp_buildSlice 26 rfl sl_S_api_Term zv_api_Term rfl rfl (by decide) (by decide) (by decide) rfl rfl rfl) rfl ?_; refine awps_u rfl rfl (by decide) (stpU_append1 27 ta_S_api_Term rfl rfl rfl rfl rfl rfl rfl rfl (noL hL _) (by omega) rfl) rfl ?_
      refine awps_stp0 rfl rfl (by decide) (stp_move (.inr rfl) rfl) ?_; refine awps_nil ?_; refine inQ_nil ?_; refine thenQ_nil ?_; refine awp_region ?_; refine awps_stp0 rfl rfl (by decide) (stp_add rfl rfl rfl (by omega)) ?_; refine awps_stp0 rfl rfl (by decide) (stp_move (.inl rfl) rfl) ?_; refine awps_nil ?_; refine thenQ_nil ?_; refine ⟨?_, ?_, ?_⟩
      · skip
        omega
      · skip
        omega
      exact Sub.trans (sub_rename 27 5 (noL hL _) (noL hL _)) (sub_re (SubT.cons (lk_eq rfl (by first | rfl | simp)) (SubT.cons (lk_eq rfl (by first | rfl | simp)) (SubT.cons (lk_eq rfl (by first | rfl | simp)) (SubT.cons (lk_eq rfl (by first | rfl | simp)) (SubT.cons (lk_eq rfl (by first | rfl | simp)) (SubT.cons (lk_eq rfl (by first | rfl | simp)) (SubT.cons (lk_eq rfl (by first | rfl | simp)) (SubT.nil)))))))) (SubO.cons (ok_eq rfl (by rfl)) (SubO.cons (ok_eq rfl (by rfl)) (SubO.cons (ok_eq rfl (by rw [take_snoc hu, List.map_append, tmDsL, tmDsL, List.map_append]; rfl)) (SubO.nil)))) rfl rfl (noL' (noL hL) _))
    try simp only [↓cqA, cqB] at c1
    refine awp_exit ?_; refine thenQ_exit (thenQ_exit (inQ_hit ?_)); refine thenQ_nil ?_; refine awp_seq ?_; refine awp_region ?_; refine awps_stp0 rfl rfl (by decide) (stp_move (.inl rfl) rfl) ?_; refine awps_stp0 rfl rfl (by decide) (stp_fieldAddr rfl fo_api_Term_3 rfl) ?_; refine awps_store rfl rfl rfl tf_S_api_Term rfl rfl rfl rfl rfl rfl rfl rfl rfl ?_; refine awps_nil ?_; refine thenQ_nil ?_; refine awp_seq ?_; refine awp_sub (sub_freeze (l := 5) rfl (by decide) (noL hL _) rfl rfl) ?_; refine awp_region ?_
    refine awps_stp0 rfl rfl (by decide) (stp_load_all rfl tf_api_Term rfl rfl rfl rfl) ?_; refine awps_store rfl rfl rfl tf_api_Term rfl rfl rfl rfl rfl rfl rfl rfl rfl ?_; refine awps_nil ?_; refine thenQ_nil ?_; refine awp_ret ?_
    -- leaf 0F1F
    refine ret0 (noL hL) (.inl rfl) (resAs_cell tf_api_Term rfl rfl rfl (resAs_nil)) ?_ ?_
    · rfl
    exact ⟨by rw [turnT, if_neg c0, List.take_of_length_le (by omega)]; simp only [tmD, tmDs_map]; rfl, rfl⟩
theorem Own1_raw (s : ByteArray) : PF 145 [sv s] (.agg [iv 1, sv s, iv 0, .imm (.slice none 0 0)]) := by
  refine AC_intro Tryz.func145 rfl Tryz.ntmps145 (Nat.le_of_ble_eq_true rfl) fun c hL hQ hDD => ?_; refine awp_seq ?_; refine awp_region ?_; refine awps_stp1 rfl rfl (by decide) (stp_alloc 2 rfl zv_api_Term rfl) rfl ?_; refine awps_nil ?_; refine thenQ_nil ?_; refine awp_seq ?_; refine awp_region ?_; refine awps_stp0 rfl rfl (by decide) (stp_move (.inl rfl) rfl) ?_
  refine awps_stp0 rfl rfl (by decide) (stp_build rfl zv_api_Term rfl pl_api_Term rfl rfl) ?_; refine awps_store rfl rfl rfl tf_api_Term rfl rfl rfl rfl rfl rfl rfl rfl rfl ?_; refine awps_nil ?_; refine thenQ_nil ?_; refine awp_ret ?_
  -- leaf 
  refine ret0 (noL hL) (.inl rfl) (resAs_cell tf_api_Term rfl rfl rfl (resAs_nil)) ?_ ?_
  · rfl
  exact ⟨rfl, rfl⟩
theorem Own1_ok (s : ByteArray) : PF 145 [sv s] (.agg (lift true (tmD ⟨1, s, 0, []⟩))) :=
  AC_leR (.agg (.cons .refl (.cons .refl (.cons .refl (.cons .nil .nil))))) (Own1_raw s)
def ownT (d : Nat) (t : Tm) : Tm := turnT (fun s => ⟨1, s, 0, []⟩) d t
theorem Own_ok (d : Nat) (t : Tm) (h : dle d t) (ht : t.wf) : PF 86 [tmA false t] (.agg (lift true (tmD (ownT d t)))) := by
  refine AC_intro Tryz.func86 rfl Tryz.ntmps86 (Nat.le_of_ble_eq_true rfl) fun c hL hQ hDD => ?_; refine awp_seq ?_; refine awp_region ?_; refine awps_stp1 rfl rfl (by decide) (stp_box 1 rfl rfl rfl) rfl ?_; refine awps_stp1 rfl rfl (by decide) (stp_alloc 2 rfl zv_api_Term rfl) rfl ?_; refine awps_nil ?_; refine thenQ_nil ?_; refine awp_seq ?_; refine awp_region ?_; refine awps_stp0 rfl rfl (by decide) (stp_load_all rfl tf_api_Term rfl rfl rfl rfl) ?_
  refine awps_call (avs := [_, _]) true rfl rfl rfl (by decide) en_term_Turned rfl rfl (Turned_ok _ _ en_term_Own_1 Own1_ok d t h ht) rfl rfl ?_; refine awps_store rfl rfl rfl tf_api_Term rfl rfl rfl rfl rfl rfl rfl rfl rfl ?_; refine awps_nil ?_; refine thenQ_nil ?_; refine awp_ret ?_
  -- leaf 
  refine ret0 (noL hL) (.inl rfl) (resAs_cell tf_api_Term rfl rfl rfl (resAs_nil)) ?_ ?_
  · rfl
  exact ⟨rfl, rfl⟩
theorem own_may : ∀ (d : Nat) (t : Tm) (n : Int), (mayS d t n).1 = true → ownT d t = t
  | 0, t, n, h => by simp [mayS] at h
  | d + 1, t, n, h => by
    have hL : ∀ (l : List Tm) (n : Int), (mayL (mayS d) l n).1 = true → l.map (ownT d) = l := by
      intro l
      induction l with
      | nil => intro n _; rfl
      | cons a l ih =>
        intro n h
        simp only [mayL] at h
        split at h
        · rename_i hb
          rw [List.map_cons, own_may d a n hb, ih _ h]
        · cases h
    obtain ⟨kind, name, m, args⟩ := t
    have e0 : ∀ l : List Tm, l.length = 0 → l = [] := fun l h => List.eq_nil_of_length_eq_zero h
    simp only [mayS] at h
    split at h
    · cases h
    split at h
    · rename_i k1
      simp only [Bool.and_eq_true, decide_eq_true_eq] at h
      simp only [ownT, turnT, if_pos k1]
      rw [k1, h.1.2, e0 _ h.2]
    rename_i k1
    split at h
    · simp only [Bool.and_eq_true, decide_eq_true_eq] at h
      simp only [ownT, turnT, if_neg k1]
      rw [e0 _ h.2]; rfl
    split at h
    · split at h
      · have hA : args.map (turnT (fun s => ⟨1, s, 0, []⟩) d) = args := hL args (n - 1) h
        simp only [ownT, turnT, if_neg k1]
        rw [hA]
      · cases h
    · cases h
end Go.Proofs.YtdecgkhdbfgldaaGreat

set_option linter.unusedVariables false
set_option linter.unusedSimpArgs false
set_option maxRecDepth 8000
namespace Go.Proofs.YtdecgkhdbfgldaaGreat
open Go
theorem bl_irrefl : ∀ l : List UInt8, Op.bytesLess l l = false
  | [] => rfl
  | x :: l => by simp [Op.bytesLess, bl_irrefl l]
theorem bl_trans : ∀ a b c : List UInt8, Op.bytesLess a b = true → Op.bytesLess b c = true → Op.bytesLess a c = true
  | [], _, [], _, h2 => by cases ‹List UInt8› <;> simp [Op.bytesLess] at h2
  | [], _, _ :: _, _, _ => by simp [Op.bytesLess]
  | _ :: _, [], _, h1, _ => by simp [Op.bytesLess] at h1
  | _ :: _, _ :: _, [], _, h2 => by simp [Op.bytesLess] at h2
  | x :: a, y :: b, z :: c, h1, h2 => by
    have ih := bl_trans a b c
    simp only [Op.bytesLess, Bool.or_eq_true, decide_eq_true_eq, Bool.and_eq_true, beq_iff_eq] at h1 h2 ⊢
    rcases h1 with h1 | ⟨rfl, h1⟩
    · rcases h2 with h2 | ⟨rfl, h2⟩
      · exact .inl (UInt8.lt_trans h1 h2)
      · exact .inl h1
    · rcases h2 with h2 | ⟨rfl, h2⟩
      · exact .inl h2
      · exact .inr ⟨rfl, ih h1 h2⟩
theorem bl_tri : ∀ a b : List UInt8, Op.bytesLess a b = true ∨ a = b ∨ Op.bytesLess b a = true
  | [], [] => .inr (.inl rfl)
  | [], _ :: _ => .inl (by simp [Op.bytesLess])
  | _ :: _, [] => .inr (.inr (by simp [Op.bytesLess]))
  | x :: a, y :: b => by
    have ih := bl_tri a b
    simp only [Op.bytesLess, Bool.or_eq_true, decide_eq_true_eq, Bool.and_eq_true, beq_iff_eq, List.cons.injEq]
    rcases Nat.lt_trichotomy x.toNat y.toNat with h | h | h
    · exact .inl (.inl (UInt8.lt_iff_toNat_lt.2 h))
    · have := UInt8.toNat_inj.1 h; subst this
      rcases ih with h | h | h
      · exact .inl (.inr ⟨rfl, h⟩)
      · exact .inr (.inl ⟨rfl, h⟩)
      · exact .inr (.inr (.inr ⟨rfl, h⟩))
    · exact .inr (.inr (.inl (UInt8.lt_iff_toNat_lt.2 h)))
theorem ltS_irrefl (a : ByteArray) : ltS a a = false := bl_irrefl _
theorem ltS_trans {a b c : ByteArray} (h1 : ltS a b = true) (h2 : ltS b c = true) : ltS a c = true := bl_trans _ _ _ h1 h2
theorem ltS_tri (a b : ByteArray) : ltS a b = true ∨ a = b ∨ ltS b a = true := by
  rcases bl_tri a.toList b.toList with h | h | h
  · exact .inl h
  · exact .inr (.inl (toList_inj.1 h))
  · exact .inr (.inr h)
theorem cmpS_neg (a b : ByteArray) : cmpS a b < 0 ↔ ltS a b = true := by
  rw [cmpS_eq]; split
  · simp_all
  · split <;> simp_all
def RisB (l : List Bd) : Prop := l.Pairwise (fun a b => ltS a.name b.name = true)
def posB (l : List Bd) (s : ByteArray) : Nat := (l.takeWhile (fun b => ltS b.name s)).length
def lookB (l : List Bd) (s : ByteArray) : Option Tm := (l.find? (fun b => decide (b.name = s))).map Bd.t
def hasB (l : List Bd) (s : ByteArray) : Bool := l.any (fun b => decide (b.name = s))
theorem posB_le (l : List Bd) (s : ByteArray) : posB l s ≤ l.length := (List.takeWhile_prefix _).length_le
theorem posB_eq (s : ByteArray) : ∀ (l : List Bd) (k : Nat), k ≤ l.length → (∀ (j : Nat) (b : Bd), j < k → l[j]? = some b → ltS b.name s = true) → (∀ b, l[k]? = some b → ltS b.name s = false) → posB l s = k
  | [], k, h, _, _ => by simp at h; subst h; rfl
  | a :: l, 0, _, _, h2 => by
    have := h2 a (by simp)
    simp [posB, List.takeWhile_cons, this]
  | a :: l, k + 1, h, h1, h2 => by
    have h0 := h1 0 a (by omega) (by simp)
    have ih := posB_eq s l k (by simpa using h) (fun j b hj hs => h1 (j + 1) b (by omega) (by simpa using hs)) (fun b hs => h2 b (by simpa using hs))
    simp only [posB] at ih ⊢
    rw [List.takeWhile_cons, if_pos h0, List.length_cons, ih]
theorem RisB.lt {l : List Bd} (h : RisB l) {i j : Nat} {a b : Bd} (hij : i < j) (ha : l[i]? = some a) (hb : l[j]? = some b) : ltS a.name b.name = true := by
  obtain ⟨h1, rfl⟩ := List.getElem?_eq_some_iff.1 ha
  obtain ⟨h2, rfl⟩ := List.getElem?_eq_some_iff.1 hb
  exact List.pairwise_iff_getElem.1 h i j h1 h2 hij
theorem posB_spec (s : ByteArray) : ∀ (l : List Bd), (∀ (j : Nat) (b : Bd), j < posB l s → l[j]? = some b → ltS b.name s = true) ∧ ∀ b, l[posB l s]? = some b → ltS b.name s = false
  | [] => ⟨fun j b h => by simp [posB] at h, fun b h => by simp at h⟩
  | a :: l => by
    have ih := posB_spec s l
    by_cases h : ltS a.name s = true
    · have e : posB (a :: l) s = posB l s + 1 := by simp [posB, List.takeWhile_cons, h]
      rw [e]
      refine ⟨fun j b hj hb => ?_, fun b hb => ih.2 b (by simpa using hb)⟩
      cases j with
      | zero => simp only [List.getElem?_cons_zero, Option.some.injEq] at hb; subst hb; exact h
      | succ j => exact ih.1 j b (by omega) (by simpa using hb)
    · have e : posB (a :: l) s = 0 := by simp [posB, List.takeWhile_cons, h]
      rw [e]
      refine ⟨fun j b hj => absurd hj (by omega), fun b hb => ?_⟩
      simp only [List.getElem?_cons_zero, Option.some.injEq] at hb; subst hb; simpa using h
theorem hasB_pos {l : List Bd} (h : RisB l) (s : ByteArray) : hasB l s = (match l[posB l s]? with | some b => decide (b.name = s) | none => false) := by
  obtain ⟨hp, hq⟩ := posB_spec s l
  rw [Bool.eq_iff_iff]
  constructor
  · intro ha
    simp only [hasB, List.any_eq_true, decide_eq_true_eq] at ha
    obtain ⟨b, hb, rfl⟩ := ha
    obtain ⟨j, hj⟩ := List.getElem?_of_mem hb
    have hjl := (List.getElem?_eq_some_iff.1 hj).1
    have e : j = posB l b.name := by
      rcases Nat.lt_trichotomy j (posB l b.name) with h1 | h1 | h1
      · have := hp j b h1 hj; rw [ltS_irrefl] at this; cases this
      · exact h1
      · obtain ⟨x, hx⟩ := get_of_lt (l := l) (k := posB l b.name) (by omega)
        have h2 := h.lt h1 hx hj
        rw [hq x hx] at h2; cases h2
    rw [← e, hj]; simp
  · intro ha
    split at ha
    · rename_i b hb
      simp only [decide_eq_true_eq] at ha
      simp only [hasB, List.any_eq_true, decide_eq_true_eq]
      exact ⟨b, List.mem_of_getElem? hb, ha⟩
    · cases ha
def bsI (p : Nat → Bool) (n : Nat) : Nat → Nat × Nat
  | 0 => (0, n)
  | k + 1 => let q := bsI p n k; if p ((q.1 + q.2) / 2) then ((q.1 + q.2) / 2 + 1, q.2) else (q.1, (q.1 + q.2) / 2)
def bdP (l : List Bd) (s : ByteArray) (i : Nat) : Bool := match l[i]? with
  | some b => ltS b.name s
  | none => false
theorem find1_ok (b : Bd) (s : ByteArray) : PF 150 [.agg (lift false (bdD b)), sv s] (iv (cmpS b.name s)) := by
  refine AC_intro Tryz.func150 rfl Tryz.ntmps150 (Nat.le_of_ble_eq_true rfl) fun c hL hQ hDD => ?_; refine awp_seq ?_; refine awp_region ?_; refine awps_stp1 rfl rfl (by decide) (stp_box 2 rfl rfl rfl) rfl ?_; refine awps_stp0 rfl rfl (by decide) (stp_move (.inr rfl) rfl) ?_; refine awps_nil ?_; refine thenQ_nil ?_; refine awp_seq ?_; refine awp_region ?_; refine awps_stp0 rfl rfl (by decide) (stp_fieldAddr rfl fo_api_Bind_0 rfl) ?_; refine awps_stp0 rfl rfl (by decide) (stp_load rfl tf_string rfl rfl rfl rfl rfl) ?_
  refine awps_stp0 rfl rfl (by decide) (stp_move (.inl rfl) rfl) ?_; refine awps_call (avs := [_, _]) true rfl rfl rfl (by decide) en_strings_Compare rfl rfl (stringsCompare_ok _ _) rfl rfl ?_; refine awps_stp0 rfl rfl (by decide) (stp_move (.inr rfl) rfl) ?_; refine awps_nil ?_; refine thenQ_nil ?_; refine awp_ret ?_
  -- leaf 
  refine ret0 (noL hL) (.inl rfl) (resAs_tmp rfl (resAs_nil)) ?_ ?_
  · rfl
  exact ⟨rfl, rfl⟩
theorem half_conv {i j : Nat} (h : i + j ≤ 9223372036854775807) : IntKind.i64.wrap (IntKind.u64.wrap ((i : Int) + (j : Int)) / 2 ^ min (1 : Int).toNat IntKind.u64.bits) = (((i + j) / 2 : Nat) : Int) := by
  have e1 : IntKind.u64.wrap ((i : Int) + (j : Int)) = ((i + j : Nat) : Int) := by
    simp only [IntKind.wrap, IntKind.signed, IntKind.bits]
    show (if (false && _) = true then _ else _) = _
    rw [if_neg (by simp)]
    show ((i : Int) + (j : Int)) % 18446744073709551616 = _
    push_cast
    omega
  rw [e1, show ((2 : Int) ^ min (1 : Int).toNat IntKind.u64.bits) = 2 from rfl]
  rw [wrap_in (by omega)]
  omega
theorem find_bs (l : List Bd) (s : ByteArray) (hr : RisB l) (hl : l.length ≤ 1000000) : AC Tryz.prog 149 [.dat false 5 (bdDs l), sv s, .fn 150 []] [] (fun r O => r = .tup [iv (posB l s), bv (hasB l s)] ∧ O = []) := by
  have hlen := bdDs_length l
  have hmono : ∀ (a b : Nat), a < b → bdP l s b = true → bdP l s a = true := fun a b hab hb => by
    unfold bdP at hb ⊢
    cases hx : l[b]? with
    | none => rw [hx] at hb; cases hb
    | some y =>
      rw [hx] at hb
      obtain ⟨x, hxa⟩ := get_of_lt (l := l) (k := a) (by have := (List.getElem?_eq_some_iff.1 hx).1; omega)
      rw [hxa]
      exact ltS_trans (hr.lt hab hxa hx) hb
  refine AC_intro Tryz.func149 rfl Tryz.ntmps149 (Nat.le_of_ble_eq_true rfl) fun c hL hQ hDD => ?_; refine awp_seq ?_; refine awp_region ?_; refine awps_stp0 rfl rfl (by decide) (stp_move (.inr rfl) rfl) ?_; refine awps_stp0 rfl rfl (by decide) (stp_move (.inr rfl) rfl) ?_; refine awps_nil ?_; refine thenQ_nil ?_; refine awp_seq ?_; refine awp_region ?_; refine awps_stp0 rfl rfl (by decide) (stp_move (.inl rfl) rfl) ?_; refine awps_stp0 rfl rfl (by decide) (stp_len_dat rfl sl_S_api_Bind rfl) ?_
  refine awps_stp0 rfl rfl (by decide) (stp_move (.inr rfl) rfl) ?_; refine awps_nil ?_; refine thenQ_nil ?_; refine awp_seq ?_; refine awp_region ?_; refine awps_stp0 rfl rfl (by decide) (stp_move (.inl rfl) rfl) ?_; refine awps_stp0 rfl rfl (by decide) (stp_move (.inr rfl) rfl) ?_; refine awps_stp0 rfl rfl (by decide) (stp_move (.inr rfl) rfl) ?_; refine awps_nil ?_; refine thenQ_nil ?_; refine awp_seq ?_; refine awp_block ?_
  refine awp_while (l.length) (fun k => (bsI (bdP l s) l.length k).1 ≤ (bsI (bdP l s) l.length k).2 ∧ (bsI (bdP l s) l.length k).2 ≤ l.length ∧ (bsI (bdP l s) l.length k).2 - (bsI (bdP l s) l.length k).1 + k ≤ l.length ∧ (∀ j, j < (bsI (bdP l s) l.length k).1 → bdP l s j = true) ∧ (∀ j, (bsI (bdP l s) l.length k).2 ≤ j → bdP l s j = false)) (fun k => ⟨[(0, .dat false 5 (bdDs l)), (1, sv s), (2, .fn 150 []), (8, iv (bdDs l).length), (9, iv ((bsI (bdP l s) l.length k).1 : Int)), (10, iv ((bsI (bdP l s) l.length k).2 : Int))], []⟩) (⟨by simp [bsI], by simp [bsI], by simp [bsI], fun j hj => absurd hj (by simp [bsI]), fun j hj => by simp only [bsI] at hj; simp [bdP, List.getElem?_eq_none hj]⟩) ?_ (fun k hk hp => ?_)
  · exact sub_re (SubT.cons (lk_eq rfl (by first | rfl | simp)) (SubT.cons (lk_eq rfl (by first | rfl | simp)) (SubT.cons (lk_eq rfl (by first | rfl | simp)) (SubT.cons (lk_eq rfl (by first | rfl | simp)) (SubT.cons (lk_eq rfl (by rfl)) (SubT.cons (lk_eq rfl (by simp [bsI, bdDs_length])) (SubT.nil))))))) (SubO.nil) rfl rfl (noL' (noL hL) _)
  obtain ⟨hp1, hp2, hp3, hp4, hp5⟩ := hp
  generalize hI : (bsI (bdP l s) l.length k).1 = I at *
  generalize hJ : (bsI (bdP l s) l.length k).2 = J at *
  refine awp_seq ?_; refine awp_seq ?_; refine awp_region ?_; refine awps_stp0 rfl rfl (by decide) (stp_move (.inl rfl) rfl) ?_; refine awps_stp0 rfl rfl (by decide) (stp_move (.inl rfl) rfl) ?_; refine awps_stp0 rfl rfl (by decide) (stp_binI rfl rfl rfl rfl) ?_; refine awps_nil ?_; refine thenQ_nil ?_; refine awp_cond rfl (fun c0 => ?_) (fun c0 => ?_)
  · try simp only [↓cqA, cqB] at c0
    obtain ⟨u, hu⟩ := get_of_lt (l := l) (k := (I + J) / 2) (by omega)
    refine awp_skip ?_; refine thenQ_nil ?_; refine awp_block ?_; refine awp_seq ?_; refine awp_region ?_; refine awps_stp0 rfl rfl (by decide) (stp_move (.inl rfl) rfl) ?_; refine awps_stp0 rfl rfl (by decide) (stp_move (.inl rfl) rfl) ?_; refine awps_stp0 rfl rfl (by decide) (stp_add rfl rfl rfl (by omega)) ?_; refine awps_stp0 rfl rfl (by decide) (stp_conv rfl us_int ul_uint rfl) ?_
    refine awps_stp0 rfl rfl (by decide) (stp_shr rfl rfl rfl (by decide)) ?_; refine awps_stp0 rfl rfl (by decide) (stp_conv rfl us_uint ul_int rfl) ?_; refine awps_stp0 rfl rfl (by decide) (stp_move (.inr rfl) rfl) ?_; refine awps_nil ?_; refine thenQ_nil ?_; refine awp_seq ?_; refine awp_region ?_
    rw [half_conv (by omega)]
    refine awps_stp0 rfl rfl (by decide) (stp_move (.inl rfl) rfl) ?_; refine awps_stp0 rfl rfl (by decide) (stp_move (.inl rfl) rfl) ?_; refine awps_stp0 rfl rfl (by decide) (stp_move (.inl rfl) rfl) ?_; refine awps_stp0 rfl rfl (by decide) (stp_indexAddr rfl sl_S_api_Bind rfl rfl (by omega) (bdDs_get hu)) ?_; refine awps_stp0 rfl rfl (by decide) (stp_load_elpa rfl tf_api_Bind rfl rfl) ?_
    refine awps_stp0 rfl rfl (by decide) (stp_move (.inl rfl) rfl) ?_; refine awps_call (avs := [_, _]) true rfl rfl rfl (by decide) en_bind_find_1 rfl rfl (find1_ok u s) rfl rfl ?_; refine awps_stp0 rfl rfl (by decide) (stp_binI rfl rfl rfl rfl) ?_; refine awps_nil ?_; refine thenQ_nil ?_; refine awp_cond rfl (fun c1 => ?_) (fun c1 => ?_)
    · try simp only [↓cqA, cqB] at c1
      have hpm1 : bdP l s ((I + J) / 2) = true := by simp only [bdP, hu]; exact (cmpS_neg _ _).1 c1
      have hs1 : bsI (bdP l s) l.length (k + 1) = ((I + J) / 2 + 1, J) := by simp only [bsI, hI, hJ, hpm1, if_true]
      refine awp_region ?_; refine awps_stp0 rfl rfl (by decide) (stp_move (.inl rfl) rfl) ?_; refine awps_stp0 rfl rfl (by decide) (stp_add rfl rfl rfl (by omega)) ?_; refine awps_stp0 rfl rfl (by decide) (stp_move (.inr rfl) rfl) ?_; refine awps_nil ?_; refine inQ_nil ?_; refine thenQ_nil ?_; refine ⟨?_, ?_, ?_⟩
      · skip
        omega
      · skip
        have hs : bsI (bdP l s) l.length (k + 1) = if bdP l s ((I + J) / 2) then ((I + J) / 2 + 1, J) else (I, (I + J) / 2) := by simp only [bsI, hI, hJ]
        have hpm : bdP l s ((I + J) / 2) = ltS u.name s := by simp [bdP, hu]
        rw [hs, hpm]
        by_cases hc : ltS u.name s = true
        · rw [if_pos hc]
          refine ⟨by simp only; omega, by simp only; omega, by simp only; omega, fun j hj => ?_, fun j hj => hp5 j hj⟩
          rcases Nat.lt_or_ge j ((I + J) / 2) with h1 | h1
          · exact hmono j _ h1 (hpm.trans hc)
          · rw [show j = (I + J) / 2 by simp only at hj; omega, hpm]; exact hc
        · rw [if_neg hc]
          refine ⟨by simp only; omega, by simp only; omega, by simp only; omega, hp4, fun j hj => ?_⟩
          cases h1 : bdP l s j with
          | false => rfl
          | true =>
            exfalso
            rcases Nat.eq_or_lt_of_le hj with h2 | h2
            · simp only at h2; rw [← h2, hpm] at h1; exact hc h1
            · have := hmono _ j h2 h1
              rw [hpm] at this; exact hc this
      exact sub_re (SubT.cons (lk_eq rfl (by first | rfl | simp)) (SubT.cons (lk_eq rfl (by first | rfl | simp)) (SubT.cons (lk_eq rfl (by first | rfl | simp)) (SubT.cons (lk_eq rfl (by first | rfl | simp)) (SubT.cons (lk_eq rfl (by simp [hs1])) (SubT.cons (lk_eq rfl (by simp [hs1])) (SubT.nil))))))) (SubO.nil) rfl rfl (noL' (noL hL) _)
    try simp only [↓cqA, cqB] at c1
    have hpm1 : bdP l s ((I + J) / 2) = false := by
      simp only [bdP, hu]
      cases h : ltS u.name s with
      | false => rfl
      | true => have := (cmpS_neg _ _).2 h; omega
    have hs1 : bsI (bdP l s) l.length (k + 1) = (I, (I + J) / 2) := by simp only [bsI, hI, hJ, hpm1]; rfl
    refine awp_region ?_; refine awps_stp0 rfl rfl (by decide) (stp_move (.inl rfl) rfl) ?_; refine awps_stp0 rfl rfl (by decide) (stp_move (.inr rfl) rfl) ?_; refine awps_nil ?_; refine inQ_nil ?_; refine thenQ_nil ?_; refine ⟨?_, ?_, ?_⟩
    · skip
      omega
    · skip
      have hs : bsI (bdP l s) l.length (k + 1) = if bdP l s ((I + J) / 2) then ((I + J) / 2 + 1, J) else (I, (I + J) / 2) := by simp only [bsI, hI, hJ]
      have hpm : bdP l s ((I + J) / 2) = ltS u.name s := by simp [bdP, hu]
      rw [hs, hpm]
      by_cases hc : ltS u.name s = true
      · rw [if_pos hc]
        refine ⟨by simp only; omega, by simp only; omega, by simp only; omega, fun j hj => ?_, fun j hj => hp5 j hj⟩
        rcases Nat.lt_or_ge j ((I + J) / 2) with h1 | h1
        · exact hmono j _ h1 (hpm.trans hc)
        · rw [show j = (I + J) / 2 by simp only at hj; omega, hpm]; exact hc
      · rw [if_neg hc]
        refine ⟨by simp only; omega, by simp only; omega, by simp only; omega, hp4, fun j hj => ?_⟩
        cases h1 : bdP l s j with
        | false => rfl
        | true =>
          exfalso
          rcases Nat.eq_or_lt_of_le hj with h2 | h2
          · simp only at h2; rw [← h2, hpm] at h1; exact hc h1
          · have := hmono _ j h2 h1
            rw [hpm] at this; exact hc this
    exact sub_re (SubT.cons (lk_eq rfl (by first | rfl | simp)) (SubT.cons (lk_eq rfl (by first | rfl | simp)) (SubT.cons (lk_eq rfl (by first | rfl | simp)) (SubT.cons (lk_eq rfl (by first | rfl | simp)) (SubT.cons (lk_eq rfl (by simp [hs1])) (SubT.cons (lk_eq rfl (by simp [hs1])) (SubT.nil))))))) (SubO.nil) rfl rfl (noL' (noL hL) _)
  try simp only [↓cqA, cqB] at c0
  refine awp_exit ?_; refine thenQ_exit (thenQ_exit (inQ_hit ?_)); refine thenQ_nil ?_; refine awp_seq ?_; refine awp_region ?_; refine awps_stp0 rfl rfl (by decide) (stp_move (.inl rfl) rfl) ?_; refine awps_stp0 rfl rfl (by decide) (stp_move (.inl rfl) rfl) ?_; refine awps_stp0 rfl rfl (by decide) (stp_move (.inl rfl) rfl) ?_; refine awps_stp0 rfl rfl (by decide) (stp_binI rfl rfl rfl rfl) ?_; refine awps_stp0 rfl rfl (by decide) (stp_move (.inl rfl) rfl) ?_; refine awps_split 39 rfl (fun g39 => ?_) (fun g39 => ?_)
  · try simp only [↓cqA, cqB] at g39
    obtain ⟨v, hv⟩ := get_of_lt (l := l) (k := I) (by omega)
    refine awps_g0 rfl rfl rfl (by decide) rfl (by decide) (stp_move (.inl rfl) rfl) ?_; refine awps_g0 rfl rfl rfl (by decide) rfl (by decide) (stp_move (.inl rfl) rfl) ?_; refine awps_g0 rfl rfl rfl (by decide) rfl (by decide) (stp_move (.inl rfl) rfl) ?_; refine awps_g0 rfl rfl rfl (by decide) rfl (by decide) (stp_indexAddr rfl sl_S_api_Bind rfl rfl (by omega) (bdDs_get hv)) ?_; refine awps_g0 rfl rfl rfl (by decide) rfl (by decide) (stp_load_elpa rfl tf_api_Bind rfl rfl) ?_
    refine awps_g0 rfl rfl rfl (by decide) rfl (by decide) (stp_move (.inl rfl) rfl) ?_; refine awps_g0 rfl rfl rfl (by decide) rfl (by decide) (stp_call (avs := [_, _]) true rfl en_bind_find_1 rfl rfl (find1_ok v s) (fun _ => rfl) rfl) ?_; refine awps_g0 rfl rfl rfl (by decide) rfl (by decide) (stp_binI rfl rfl rfl rfl) ?_; refine awps_stp0 rfl rfl (by decide) (stp_pick rfl rfl rfl) ?_; refine awps_stp0 rfl rfl (by decide) (stp_move (.inr rfl) rfl) ?_; refine awps_stp0 rfl rfl (by decide) (stp_move (.inr rfl) rfl) ?_; refine awps_nil ?_; refine thenQ_nil ?_; refine awp_ret ?_
    -- leaf 0Fg39T
    refine ret0 (noL hL) (.inl rfl) (resAs_tmp rfl (resAs_tmp rfl (resAs_nil))) ?_ ?_
    · rfl
    refine ⟨?_, rfl⟩
    have hIJ : I = J := by omega
    have e1 : posB l s = I := posB_eq s l I (by omega) (fun j b hj hb => by have := hp4 j hj; simpa [bdP, hb] using this) (fun b hb => by have := hp5 I (by omega); simpa [bdP, hb] using this)
    have e2 := hasB_pos hr s
    rw [e1] at e2 ⊢
    rw [e2]
    try rw [hv]
    try rw [List.getElem?_eq_none (by omega)]
    first | rfl | (simp only [Value.bool.injEq, resV]; congr; rw [Bool.eq_iff_iff]; simp [cmpS_zero])
  try simp only [↓cqA, cqB] at g39
  refine awps_gs rfl rfl rfl rfl (by decide) rfl (by decide) ?_; refine awps_gs rfl rfl rfl rfl (by decide) rfl (by decide) ?_; refine awps_gs rfl rfl rfl rfl (by decide) rfl (by decide) ?_; refine awps_gs rfl rfl rfl rfl (by decide) rfl (by decide) ?_; refine awps_gs rfl rfl rfl rfl (by decide) rfl (by decide) ?_; refine awps_gs rfl rfl rfl rfl (by decide) rfl (by decide) ?_
  refine awps_gs rfl rfl rfl rfl (by decide) rfl (by decide) ?_; refine awps_gs rfl rfl rfl rfl (by decide) rfl (by decide) ?_; refine awps_stp0 rfl rfl (by decide) (stp_pick rfl rfl rfl) ?_; refine awps_stp0 rfl rfl (by decide) (stp_move (.inr rfl) rfl) ?_; refine awps_stp0 rfl rfl (by decide) (stp_move (.inr rfl) rfl) ?_; refine awps_nil ?_; refine thenQ_nil ?_; refine awp_ret ?_
  -- leaf 0Fg39F
  refine ret0 (noL hL) (.inl rfl) (resAs_tmp rfl (resAs_tmp rfl (resAs_nil))) ?_ ?_
  · rfl
  refine ⟨?_, rfl⟩
  have hIJ : I = J := by omega
  have e1 : posB l s = I := posB_eq s l I (by omega) (fun j b hj hb => by have := hp4 j hj; simpa [bdP, hb] using this) (fun b hb => by have := hp5 I (by omega); simpa [bdP, hb] using this)
  have e2 := hasB_pos hr s
  rw [e1] at e2 ⊢
  rw [e2]
  try rw [hv]
  try rw [List.getElem?_eq_none (by omega)]
  first | rfl | (simp only [Value.bool.injEq, resV]; congr; rw [Bool.eq_iff_iff]; simp [cmpS_zero])
end Go.Proofs.YtdecgkhdbfgldaaGreat

set_option linter.unusedVariables false
set_option linter.unusedSimpArgs false
set_option maxRecDepth 8000
namespace Go.Proofs.YtdecgkhdbfgldaaGreat
open Go
theorem some_get {α : Type} {l : List α} {junk : List (Option α)} {j : Nat} {d : α} (h : l[j]? = some d) : (l.map some ++ junk)[j]? = some (some d) := by
  rw [List.getElem?_append_left (by simpa using (List.getElem?_eq_some_iff.1 h).1), List.getElem?_map, h]; rfl
theorem splice_end {α : Type} (l m : List α) {r : List α} (h : m.length ≤ r.length) : splice (l ++ r) l.length m = l ++ m ++ r.drop m.length := by
  simp only [splice]
  rw [List.take_append_of_le_length (Nat.le_refl _), List.take_length, List.drop_append, List.drop_eq_nil_of_le (by omega), List.nil_append]
  congr 2; omega
theorem InsertNil_bd9_ok (f : Bool) (d : List D) (hd : d.length = 5) :
    ACt Tryz.prog 156 [.imm (.slice none 0 0), iv 0, .row 59] [(59, .rowd 40 5 f [d])] (fun r O => r = .row 200 ∧ O = [(200, .rowd 40 5 f [d]), (59, .rowd 40 5 f [d])]) := by
  have hone : [d].length = 1 := rfl
  refine ACt_intro Tryz.func156 rfl Tryz.ntmps156 (Nat.le_of_ble_eq_true rfl) fun c hL hDD => ?_; refine awp_seq ?_; refine awp_region ?_; refine awps_stp0 rfl rfl (by decide) (stp_move (.inr rfl) rfl) ?_; refine awps_nil ?_; refine thenQ_nil ?_; refine awp_seq ?_; refine awp_region ?_; refine awps_stp0 rfl rfl (by decide) (stp_move (.inl rfl) rfl) ?_; refine awps_stp0 rfl rfl (by decide) (stp_move (.inl rfl) rfl) ?_; refine awps_stp0 rfl rfl (by decide) (stp_slnL rfl sl_S_api_Bind rfl rfl (by omega)) ?_
  refine awps_nil ?_; refine thenQ_nil ?_; refine awp_seq ?_; refine awp_region ?_; refine awps_stp0 rfl rfl (by decide) (stp_move (.inl rfl) rfl) ?_; refine awps_stp0 rfl rfl (by decide) (stp_len_rowd rfl sl_S_api_Bind rfl rfl) ?_
  refine awps_stp0 rfl rfl (by decide) (stp_move (.inr rfl) rfl) ?_; refine awps_nil ?_; refine thenQ_nil ?_; refine awp_seq ?_; refine awp_seq ?_; refine awp_region ?_; refine awps_stp0 rfl rfl (by decide) (stp_move (.inl rfl) rfl) ?_; refine awps_stp0 rfl rfl (by decide) (stp_binI rfl rfl rfl rfl) ?_; refine awps_nil ?_; refine thenQ_nil ?_; refine awp_cond rfl (fun c0 => ?_) (fun c0 => ?_)
  · try simp only [↓cqA, cqB] at c0
    exfalso; simp at c0
  try simp only [↓cqA, cqB] at c0
  refine awp_skip ?_; refine thenQ_nil ?_; refine awp_seq ?_; refine awp_region ?_; refine awps_stp0 rfl rfl (by decide) (stp_move (.inl rfl) rfl) ?_; refine awps_stp0 rfl rfl (by decide) (stp_len_nil rfl sl_S_api_Bind rfl) ?_
  refine awps_stp0 rfl rfl (by decide) (stp_move (.inr rfl) rfl) ?_; refine awps_nil ?_; refine thenQ_nil ?_; refine awp_seq ?_; refine awp_seq ?_; refine awp_region ?_; refine awps_stp0 rfl rfl (by decide) (stp_move (.inl rfl) rfl) ?_; refine awps_stp0 rfl rfl (by decide) (stp_move (.inl rfl) rfl) ?_; refine awps_stp0 rfl rfl (by decide) (stp_binI rfl rfl rfl rfl) ?_; refine awps_nil ?_; refine thenQ_nil ?_; refine awp_cond rfl (fun c1 => ?_) (fun c1 => ?_)
  · try simp only [↓cqA, cqB] at c1
    refine awp_seq ?_; refine awp_region ?_; refine awps_stp0 rfl rfl (by decide) (stp_move (.inl rfl) rfl) ?_; refine awps_stp0 rfl rfl (by decide) (stp_move (.inl rfl) rfl) ?_; refine awps_sub (sub_nil_row (t := 23) (l := 23) 40 5 f rfl rfl) ?_; refine awps_append_src 200 ta_S_api_Bind rfl rfl (by decide) rfl rfl rfl (src_rowd rfl rfl) rfl (fun x hx => by simp at hx; rw [hx, hd]) (oneL' hL rfl) rfl (by simp) rfl ?_; refine awps_stp0 rfl rfl (by decide) (stp_move (.inr rfl) rfl) ?_; refine awps_nil ?_; refine thenQ_nil ?_; refine awp_ret ?_; refine thenQ_ret (?_)
    -- leaf 0F1T
    change retQ _ _ _ _ _ _ _
    refine retO (O' := [(200, _), (59, _)]) (.inl rfl) (resAs_tmp rfl resAs_nil) (SubO.cons rfl (SubO.cons rfl SubO.nil)) ?_ ?_ (oneL hL rfl) ?_
    · rfl
    · rfl
    exact ⟨rfl, rfl⟩
  try simp only [↓cqA, cqB] at c1
  exact absurd trivial c1
set_option maxHeartbeats 2000000 in
theorem Insert_bd9_ok (f : Bool) (es : List (List D)) (d : List D) (i cap : Nat) (hi : i ≤ es.length) (hcap : es.length ≤ cap) (hmax : cap ≤ maxLen) (hes : ∀ x ∈ es, x.length = 5) (hd : d.length = 5) (hb : (es.length + 1) * 72 ≤ 140737488355328) :
    ACt Tryz.prog 156 [.vw 9 0 es.length cap, iv i, .row 59] [(9, .arr 40 5 f (es.map some ++ List.replicate (cap - es.length) none)), (59, .rowd 40 5 f [d])]
      (fun r O => ∃ junk, (r = .vw 9 0 (es.length + 1) cap ∧ cap = (ins es i d).length + junk.length ∧ O = [(9, .arr 40 5 f ((ins es i d).map some ++ junk)), (59, .rowd 40 5 f [d])]) ∨
        ∃ cap', r = .vw 200 0 (es.length + 1) cap' ∧ cap' = (ins es i d).length + junk.length ∧ O = [(200, .arr 40 5 f ((ins es i d).map some ++ junk)), (9, .arr 40 5 f (es.map some ++ List.replicate (cap - es.length) none)), (59, .rowd 40 5 f [d])]) := by
  have hmx : maxLen = 9223372036854775807 := rfl
  have hlen : (es.map some ++ List.replicate (cap - es.length) (none : Option (List D))).length = cap := by simp; omega
  have hil := ins_length es i d hi
  have hone : [d].length = 1 := rfl
  have hoff1 : ∀ q : Nat, i < q → (if (q : Int) = (i : Int) then 0 else 0 + (i : Int).toNat * 5) = i * 5 := fun q h => by rw [if_neg (by omega)]; simp
  have hoff2 : ∀ q : Nat, i + 1 < q → (if (q : Int) = (i : Int) + ([d].length : Int) then 0 else 0 + ((i : Int) + ([d].length : Int)).toNat * 5) = (i + 1) * 5 := fun q h => by rw [if_neg (by simp; omega), Nat.zero_add]; congr 1
  have hdr : ∀ (j : Nat) (x : List D), (es.drop i)[j]? = some x → es[i + j]? = some x := fun j x hx => by rwa [List.getElem?_drop] at hx
  refine ACt_intro Tryz.func156 rfl Tryz.ntmps156 (Nat.le_of_ble_eq_true rfl) fun c hL hDD => ?_; refine awp_seq ?_; refine awp_region ?_; refine awps_stp0 rfl rfl (by decide) (stp_move (.inr rfl) rfl) ?_; refine awps_nil ?_; refine thenQ_nil ?_; refine awp_seq ?_; refine awp_region ?_; refine awps_stp0 rfl rfl (by decide) (stp_move (.inl rfl) rfl) ?_; refine awps_stp0 rfl rfl (by decide) (stp_move (.inl rfl) rfl) ?_; refine awps_stp0 rfl rfl (by decide) (stp_slvL rfl sl_S_api_Bind rfl rfl (by omega) (by omega) (by omega)) ?_
  refine awps_nil ?_; refine thenQ_nil ?_; refine awp_seq ?_; refine awp_region ?_; refine awps_stp0 rfl rfl (by decide) (stp_move (.inl rfl) rfl) ?_; refine awps_stp0 rfl rfl (by decide) (stp_len_rowd rfl sl_S_api_Bind rfl rfl) ?_
  refine awps_stp0 rfl rfl (by decide) (stp_move (.inr rfl) rfl) ?_; refine awps_nil ?_; refine thenQ_nil ?_; refine awp_seq ?_; refine awp_seq ?_; refine awp_region ?_; refine awps_stp0 rfl rfl (by decide) (stp_move (.inl rfl) rfl) ?_; refine awps_stp0 rfl rfl (by decide) (stp_binI rfl rfl rfl rfl) ?_; refine awps_nil ?_; refine thenQ_nil ?_; refine awp_cond rfl (fun c0 => ?_) (fun c0 => ?_)
  · try simp only [↓cqA, cqB] at c0
    exfalso; simp at c0
  try simp only [↓cqA, cqB] at c0
  refine awp_skip ?_; refine thenQ_nil ?_; refine awp_seq ?_; refine awp_region ?_; refine awps_stp0 rfl rfl (by decide) (stp_move (.inl rfl) rfl) ?_; refine awps_stp0 rfl rfl (by decide) (stp_len_vw rfl sl_S_api_Bind rfl) ?_
  refine awps_stp0 rfl rfl (by decide) (stp_move (.inr rfl) rfl) ?_; refine awps_nil ?_; refine thenQ_nil ?_; refine awp_seq ?_; refine awp_seq ?_; refine awp_region ?_; refine awps_stp0 rfl rfl (by decide) (stp_move (.inl rfl) rfl) ?_; refine awps_stp0 rfl rfl (by decide) (stp_move (.inl rfl) rfl) ?_; refine awps_stp0 rfl rfl (by decide) (stp_binI rfl rfl rfl rfl) ?_; refine awps_nil ?_; refine thenQ_nil ?_; refine awp_cond rfl (fun c1 => ?_) (fun c1 => ?_)
  · try simp only [↓cqA, cqB] at c1
    refine awp_seq ?_; refine awp_region ?_; refine awps_stp0 rfl rfl (by decide) (stp_move (.inl rfl) rfl) ?_; refine awps_stp0 rfl rfl (by decide) (stp_move (.inl rfl) rfl) ?_; refine awps_append_vw 200 es [d] ta_S_api_Bind rfl rfl (by decide) rfl rfl rfl hlen.symm hcap (src_rowd rfl rfl) (by simp) rfl (fun j x hx => some_get hx) rfl (by simpa using hb) (by decide) (fun hroom => ?_) (fun hgr cap' hc1 hc2 => ?_)
    · skip
      refine awps_stp0 rfl rfl (by decide) (stp_move (.inr rfl) rfl) ?_; refine awps_nil ?_; refine thenQ_nil ?_; refine awp_ret ?_; refine thenQ_ret (?_)
      change retQ _ _ _ _ _ _ _
      have hie : i = es.length := by omega
      refine retO (O' := [(9, _), (59, _)]) (.inl rfl) (resAs_tmp rfl resAs_nil) (SubO.cons rfl (SubO.cons rfl SubO.nil)) ?_ ?_ (LO hL rfl) ?_
      · rfl
      · rfl
      simp only [List.length_singleton] at hroom
      refine ⟨List.replicate (cap - es.length - 1) none, .inl ⟨rfl, by rw [hil, List.length_replicate]; omega, ?_⟩⟩
      congr 3
      subst hie
      have hse := splice_end (es.map some) ([d].map some) (r := List.replicate (cap - es.length) none) (by simp; omega)
      rw [List.length_map] at hse
      rw [hse]
      simp [ins]
    refine awps_stp0 rfl rfl (by decide) (stp_move (.inr rfl) rfl) ?_; refine awps_nil ?_; refine thenQ_nil ?_; refine awp_ret ?_; refine thenQ_ret (?_)
    change retQ _ _ _ _ _ _ _
    have hie : i = es.length := by omega
    refine retO (O' := [(200, _), (9, _), (59, _)]) (.inl rfl) (resAs_tmp rfl resAs_nil) (SubO.cons rfl (SubO.cons rfl (SubO.cons rfl SubO.nil))) ?_ ?_ (fun l hl => ?_) ?_
    · rfl
    · rfl
    · have := (hL l).1 hl
      simp only [inD, ok_cons] at this ⊢
      split
      · rfl
      · exact this
    simp only [List.length_singleton] at hc1
    refine ⟨List.replicate (cap' - (es ++ [d]).length) none, .inr ⟨cap', rfl, by rw [hil, List.length_replicate]; simp; omega, ?_⟩⟩
    subst hie
    simp only [ins, List.take_length, List.drop_length]
  try simp only [↓cqA, cqB] at c1
  refine awp_skip ?_; refine thenQ_nil ?_; refine awp_seq ?_; refine awp_seq ?_; refine awp_region ?_; refine awps_stp0 rfl rfl (by decide) (stp_move (.inl rfl) rfl) ?_; refine awps_stp0 rfl rfl (by decide) (stp_move (.inl rfl) rfl) ?_; refine awps_stp0 rfl rfl (by decide) (stp_add rfl rfl rfl (by omega)) ?_; refine awps_stp0 rfl rfl (by decide) (stp_move (.inl rfl) rfl) ?_; refine awps_stp0 rfl rfl (by decide) (stp_cap_vw rfl sl_S_api_Bind rfl) ?_
  refine awps_stp0 rfl rfl (by decide) (stp_binI rfl rfl rfl rfl) ?_; refine awps_nil ?_; refine thenQ_nil ?_; refine awp_cond rfl (fun c2 => ?_) (fun c2 => ?_)
  · try simp only [↓cqA, cqB] at c2
    refine awp_seq ?_; refine awp_region ?_; refine awps_stp0 rfl rfl (by decide) (stp_move (.inl rfl) rfl) ?_; refine awps_stp0 rfl rfl (by decide) (stp_move (.inl rfl) rfl) ?_; refine awps_stp0 rfl rfl (by decide) (stp_slvH rfl sl_S_api_Bind rfl rfl (by omega) (by omega) (by omega)) ?_
    refine awps_stp0 rfl rfl (by decide) (stp_move (.inl rfl) rfl) ?_; refine awps_stp0 rfl rfl (by decide) (stp_move (.inl rfl) rfl) ?_; refine awps_stp0 rfl rfl (by decide) (stp_add rfl rfl rfl (by omega)) ?_; refine awps_stp0 rfl rfl (by decide) (stp_move (.inl rfl) rfl) ?_; refine awps_stp0 rfl rfl (by decide) (stp_sub rfl rfl rfl (by omega)) ?_; refine awps_growz_vw 200 (es.take i) ta_S_api_Bind rfl rfl (by decide) ul_int rfl rfl rfl rfl (by simp; omega) (by simp; omega) (fun j x hx => by
    rw [List.getElem?_take] at hx
    split at hx
    · exact some_get hx
    · cases hx) rfl (by simp; simp at c2; omega) (by simp; omega) (by decide) (fun cap' hc1 hc2 => ?_)
    refine awps_stp0 rfl rfl (by decide) (stp_move (.inr rfl) rfl) ?_; refine awps_nil ?_; refine thenQ_nil ?_; refine awp_seq ?_; refine awp_region ?_; refine awps_stp0 rfl rfl (by decide) (stp_move (.inl rfl) rfl) ?_; refine awps_stp0 rfl rfl (by decide) (stp_move (.inl rfl) rfl) ?_; refine awps_stp0 rfl rfl (by decide) (stp_slvL rfl sl_S_api_Bind rfl rfl (by omega) (by omega) (by omega)) ?_
    refine awps_stp0 rfl rfl (by decide) (stp_move (.inl rfl) rfl) ?_; refine awps_copy i [d] rfl rfl (by decide) sl_S_api_Bind rfl rfl rfl (hoff1 _ (by simp at hc1; omega)) (src_rowd rfl rfl) (by simp; omega) (by simp at hc1; simp; omega) ?_; refine awps_nil ?_; refine thenQ_nil ?_; refine awp_seq ?_; refine awp_drawG 8 mixed rfl rfl rfl rfl ?_
    refine MGo_c0 rfl (by decide) (.run rfl (stp_move (.inl rfl) rfl)) ?_; refine MGo_c0 rfl (by decide) (.run rfl (stp_move (.inl rfl) rfl)) ?_; refine MGo_c0 rfl (by decide) (.run rfl (stp_move (.inl rfl) rfl)) ?_; refine MGo_c0 rfl (by decide) (.run rfl (stp_add rfl rfl rfl (by omega))) ?_; refine MGo_c0 rfl (by decide) (.run rfl (stp_slvL rfl sl_S_api_Bind rfl rfl (by omega) (by omega) (by omega))) ?_; refine MGo_c0 rfl (by decide) (.run rfl (stp_move (.inl rfl) rfl)) ?_; refine MGo_c0 rfl (by decide) (.run rfl (stp_move (.inl rfl) rfl)) ?_
    refine MGo_c0 rfl (by decide) (.run rfl (stp_slvL rfl sl_S_api_Bind rfl rfl (by omega) (by omega) (by omega))) ?_; refine MGo_nil ⟨rfl, rfl, ?_⟩; refine awps_copy (i + 1) (es.drop i) rfl rfl (by decide) sl_S_api_Bind rfl rfl rfl (hoff2 _ (by simp at hc1; omega)) (src_vw (i := i) rfl rfl (hoff1 _ (by omega)) (fun j x hx => some_get (hdr j x hx)) (by simp)) (by simp; omega) (by rw [splice_length (by simp; omega)]; simp; omega) ?_; refine awps_nil ?_; refine thenQ_nil ?_; refine awp_seq ?_
    refine awp_region ?_; refine awps_stp0 rfl rfl (by decide) (stp_move (.inl rfl) rfl) ?_; refine awps_stp0 rfl rfl (by decide) (stp_move (.inr rfl) rfl) ?_; refine awps_nil ?_; refine thenQ_nil ?_; refine awp_ret ?_; refine thenQ_ret (?_)
    change retQ _ _ _ _ _ _ _
    refine retO (O' := [(200, _), (9, _), (59, _)]) (.inl rfl) (resAs_tmp rfl resAs_nil) (SubO.cons rfl (SubO.cons rfl (SubO.cons rfl SubO.nil))) ?_ ?_ (fun l hl => ?_) ?_
    · rfl
    · rfl
    · have := (hL l).1 hl
      simp only [inD, ok_cons] at this ⊢
      split
      · rfl
      · exact this
    have hc3 : es.length + 1 ≤ cap' := by omega
    refine ⟨List.replicate (cap' - (es.length + 1)) none, .inr ⟨cap', ?_, by rw [hil, List.length_replicate]; omega, ?_⟩⟩
    · rw [show (i : Int).toNat + ((es.length : Int) + ([d].length : Int) - (i : Int)).toNat = es.length + 1 by omega]; rfl
    · have hf := ins_fresh (es.map some) i cap' (some d) none (by simpa using hi) (by simpa using hc3)
      simp only [← List.map_take, ← List.map_drop, List.length_map] at hf
      rw [ins_map, List.map_cons, List.map_nil, hf]
  try simp only [↓cqA, cqB] at c2
  refine awp_skip ?_; refine thenQ_nil ?_; refine awp_seq ?_; refine awp_region ?_; refine awps_stp0 rfl rfl (by decide) (stp_move (.inl rfl) rfl) ?_; refine awps_stp0 rfl rfl (by decide) (stp_move (.inl rfl) rfl) ?_; refine awps_stp0 rfl rfl (by decide) (stp_move (.inl rfl) rfl) ?_; refine awps_stp0 rfl rfl (by decide) (stp_add rfl rfl rfl (by omega)) ?_; refine awps_stp0 rfl rfl (by decide) (stp_slvH rfl sl_S_api_Bind rfl rfl (by omega) (by omega) (by omega)) ?_
  refine awps_stp0 rfl rfl (by decide) (stp_move (.inr rfl) rfl) ?_; refine awps_nil ?_; refine thenQ_nil ?_; refine awp_seq ?_; refine awp_seq ?_; refine awp_region ?_; refine awps_stp0 rfl rfl (by decide) (stp_move (.inl rfl) rfl) ?_; refine awps_stp0 rfl rfl (by decide) (stp_move (.inl rfl) rfl) ?_; refine awps_stp0 rfl rfl (by decide) (stp_move (.inl rfl) rfl) ?_; refine awps_stp0 rfl rfl (by decide) (stp_move (.inl rfl) rfl) ?_; refine awps_stp0 rfl rfl (by decide) (stp_add rfl rfl rfl (by omega)) ?_
  refine awps_stp0 rfl rfl (by decide) (stp_slvL rfl sl_S_api_Bind rfl rfl (by omega) (by omega) (by omega)) ?_; refine awps_stp0 rfl rfl (by decide) (stp_overlaps Tryz.func213 (by kernel_rfl) (by kernel_rfl) (by kernel_rfl) (by kernel_rfl) rfl rfl rfl sl_S_api_Bind rfl rfl rfl rfl rfl (by decide) (by simp; omega) (by simp)) ?_; refine awps_stp0 rfl rfl (by decide) (stp_not rfl rfl) ?_; refine awps_nil ?_; refine thenQ_nil ?_; refine awp_cond rfl (fun c3 => ?_) (fun c3 => ?_)
  · try simp only [↓cqA, cqB] at c3
    refine awp_seq ?_; refine awp_drawG 8 mixed rfl rfl rfl rfl ?_; refine MGo_c0 rfl (by decide) (.run rfl (stp_move (.inl rfl) rfl)) ?_; refine MGo_c0 rfl (by decide) (.run rfl (stp_move (.inl rfl) rfl)) ?_; refine MGo_c0 rfl (by decide) (.run rfl (stp_move (.inl rfl) rfl)) ?_; refine MGo_c0 rfl (by decide) (.run rfl (stp_add rfl rfl rfl (by omega))) ?_; refine MGo_c0 rfl (by decide) (.run rfl (stp_slvL rfl sl_S_api_Bind rfl rfl (by omega) (by omega) (by omega))) ?_
    refine MGo_c0 rfl (by decide) (.run rfl (stp_move (.inl rfl) rfl)) ?_; refine MGo_c0 rfl (by decide) (.run rfl (stp_move (.inl rfl) rfl)) ?_; refine MGo_c0 rfl (by decide) (.run rfl (stp_slvL rfl sl_S_api_Bind rfl rfl (by omega) (by omega) (by omega))) ?_
    refine MGo_nil ⟨rfl, rfl, ?_⟩; refine awps_copy (i + 1) (es.drop i) rfl rfl (by decide) sl_S_api_Bind rfl rfl rfl (hoff2 _ (by simp at c2; omega)) (src_vw (i := i) rfl rfl (hoff1 _ (by omega)) (fun j x hx => some_get (hdr j x hx)) (by simp; omega)) (by simp; omega) (by simp at c2; simp; omega) ?_; refine awps_nil ?_; refine thenQ_nil ?_; refine awp_seq ?_; refine awp_region ?_; refine awps_stp0 rfl rfl (by decide) (stp_move (.inl rfl) rfl) ?_; refine awps_stp0 rfl rfl (by decide) (stp_move (.inl rfl) rfl) ?_
    refine awps_stp0 rfl rfl (by decide) (stp_slvL rfl sl_S_api_Bind rfl rfl (by omega) (by omega) (by omega)) ?_; refine awps_stp0 rfl rfl (by decide) (stp_move (.inl rfl) rfl) ?_; refine awps_copy i [d] rfl rfl (by decide) sl_S_api_Bind rfl rfl rfl (hoff1 _ (by simp at c2; omega)) (src_rowd rfl rfl) (by simp; omega) (by rw [splice_length (by simp; omega)]; simp; omega) ?_; refine awps_nil ?_; refine thenQ_nil ?_; refine awp_seq ?_; refine awp_region ?_
    refine awps_stp0 rfl rfl (by decide) (stp_move (.inl rfl) rfl) ?_; refine awps_stp0 rfl rfl (by decide) (stp_move (.inr rfl) rfl) ?_; refine awps_nil ?_; refine thenQ_nil ?_; refine awp_ret ?_; refine thenQ_ret (?_)
    change retQ _ _ _ _ _ _ _
    refine retO (O' := [(9, _), (59, _)]) (.inl rfl) (resAs_tmp rfl resAs_nil) (SubO.cons rfl (SubO.cons rfl SubO.nil)) ?_ ?_ (LO hL rfl) ?_
    · rfl
    · rfl
    have hc3 : es.length + 1 ≤ cap := by omega
    refine ⟨(List.replicate (cap - es.length) none).drop 1, .inl ⟨?_, by rw [hil]; simp; omega, ?_⟩⟩
    · rw [show ((es.length : Int) + ([d].length : Int)).toNat = es.length + 1 by omega]; rfl
    · have hf := ins_splice (es.map some) (List.replicate (cap - es.length) none) i (some d) (by simp; omega) (by simp; omega)
      simp only [← List.map_drop] at hf
      rw [ins_map, List.map_cons, List.map_nil, hf]
  try simp only [↓cqA, cqB] at c3
  exfalso; simp at c3
end Go.Proofs.YtdecgkhdbfgldaaGreat

set_option linter.unusedVariables false
set_option linter.unusedSimpArgs false
set_option maxRecDepth 8000
namespace Go.Proofs.YtdecgkhdbfgldaaGreat
open Go
def zeroTm : Tm := ⟨0, ⟨#[]⟩, 0, []⟩
def lookT (l : List Bd) (s : ByteArray) : Tm := (lookB l s).getD zeroTm
theorem zero_le (f : Bool) : Le (.agg [iv 0, sv ⟨#[]⟩, iv 0, .imm (.slice none 0 0)]) (.agg (lift f (tmD zeroTm))) := .agg (.cons .refl (.cons .refl (.cons .refl (.cons .nil .nil))))
theorem find_ok (l : List Bd) (s : ByteArray) (hr : RisB l) (hl : l.length ≤ 1000000) : PF 90 [.dat false 5 (bdDs l), sv s] (.tup [iv (posB l s), bv (hasB l s)]) := by
  refine AC_intro Tryz.func90 rfl Tryz.ntmps90 (Nat.le_of_ble_eq_true rfl) fun c hL hQ hDD => ?_; refine awp_seq ?_; refine awp_region ?_; refine awps_stp0 rfl rfl (by decide) (stp_move (.inr rfl) rfl) ?_; refine awps_stp0 rfl rfl (by decide) (stp_move (.inr rfl) rfl) ?_; refine awps_nil ?_; refine thenQ_nil ?_; refine awp_seq ?_; refine awp_region ?_
  refine awps_stp0 rfl rfl (by decide) (stp_move (.inl rfl) rfl) ?_; refine awps_stp0 rfl rfl (by decide) (stp_move (.inl rfl) rfl) ?_; refine awps_call (avs := [_, _, _]) false rfl rfl rfl (by decide) en_slices_BinarySearchFunc_api_Bind_api_Bind_string rfl rfl (find_bs l s hr hl) rfl rfl ?_; refine awps_stp0 rfl rfl (by decide) (stp_extract rfl rfl rfl) ?_
  refine awps_stp0 rfl rfl (by decide) (stp_extract rfl rfl rfl) ?_; refine awps_stp0 rfl rfl (by decide) (stp_move (.inr rfl) rfl) ?_; refine awps_stp0 rfl rfl (by decide) (stp_move (.inr rfl) rfl) ?_; refine awps_nil ?_; refine thenQ_nil ?_; refine awp_ret ?_
  -- leaf 
  refine ret0 (noL hL) (.inl rfl) (resAs_tmp rfl (resAs_tmp rfl (resAs_nil))) ?_ ?_
  · rfl
  exact ⟨rfl, rfl⟩
theorem lookB_has (l : List Bd) (s : ByteArray) (hr : RisB l) : hasB l s = (lookB l s).isSome ∧ (hasB l s = true → ∃ b, l[posB l s]? = some b ∧ b.name = s ∧ lookB l s = some b.t) := by
  have key : ∀ l : List Bd, hasB l s = (lookB l s).isSome := fun l => by
    induction l with
    | nil => rfl
    | cons a l ih =>
      by_cases h : a.name = s
      · simp [hasB, lookB, List.find?_cons, h]
      · simp only [hasB, lookB, List.any_cons, List.find?_cons, h, decide_false, Bool.false_or]
        exact ih
  refine ⟨key l, fun h => ?_⟩
  have h2 := hasB_pos hr s
  rw [h] at h2
  cases hb : l[posB l s]? with
  | none => rw [hb] at h2; cases h2
  | some b =>
    rw [hb] at h2
    have hn : b.name = s := of_decide_eq_true h2.symm
    refine ⟨b, rfl, hn, ?_⟩
    have huniq : ∀ x ∈ l, x.name = s → x = b := fun x hx hxs => by
      obtain ⟨j, hj⟩ := List.getElem?_of_mem hx
      rcases Nat.lt_trichotomy j (posB l s) with h1 | h1 | h1
      · have := hr.lt h1 hj hb; rw [hxs, hn, ltS_irrefl] at this; cases this
      · rw [h1, hb] at hj; cases hj; rfl
      · have := hr.lt h1 hb hj; rw [hxs, hn, ltS_irrefl] at this; cases this
    cases hf : l.find? (fun b => decide (b.name = s)) with
    | none =>
      have := List.find?_eq_none.1 hf b (List.mem_of_getElem? hb)
      simp [hn] at this
    | some x =>
      have h3 := List.find?_some hf
      have h4 := List.mem_of_find?_eq_some hf
      simp only [decide_eq_true_eq] at h3
      rw [huniq x h4 h3] at hf
      simp [lookB, hf]
theorem lookB_none {l : List Bd} {s : ByteArray} (hr : RisB l) (h : hasB l s = false) : lookB l s = none := by
  have h2 := (lookB_has l s hr).1
  rw [h] at h2
  cases h3 : lookB l s with
  | none => rfl
  | some t => rw [h3] at h2; cases h2
theorem Look_raw (l : List Bd) (s : ByteArray) (hr : RisB l) (hl : l.length ≤ 1000000) : AC Tryz.prog 85 [.dat false 5 (bdDs l), sv s] [] (fun r O => (hasB l s = true ∧ r = .tup [tmA false (lookT l s), bv true] ∨ hasB l s = false ∧ r = .tup [.agg [iv 0, sv ⟨#[]⟩, iv 0, .imm (.slice none 0 0)], bv false]) ∧ O = []) := by
  have hlen := bdDs_length l
  have hpl := posB_le l s
  refine AC_intro Tryz.func85 rfl Tryz.ntmps85 (Nat.le_of_ble_eq_true rfl) fun c hL hQ hDD => ?_; refine awp_seq ?_; refine awp_region ?_; refine awps_stp1 rfl rfl (by decide) (stp_alloc 4 rfl zv_api_Term rfl) rfl ?_; refine awps_stp0 rfl rfl (by decide) (stp_move (.inr rfl) rfl) ?_; refine awps_nil ?_; refine thenQ_nil ?_; refine awp_seq ?_; refine awp_region ?_
  refine awps_stp0 rfl rfl (by decide) (stp_move (.inl rfl) rfl) ?_; refine awps_stp0 rfl rfl (by decide) (stp_move (.inl rfl) rfl) ?_; refine awps_call (avs := [_, _]) false rfl rfl rfl (by decide) en_bind_find rfl rfl (find_ok l s hr hl) rfl rfl ?_; refine awps_stp0 rfl rfl (by decide) (stp_move (.inl rfl) rfl) ?_; refine awps_stp0 rfl rfl (by decide) (stp_extract rfl rfl rfl) ?_
  refine awps_stp0 rfl rfl (by decide) (stp_extract rfl rfl rfl) ?_; refine awps_stp0 rfl rfl (by decide) (stp_move (.inr rfl) rfl) ?_; refine awps_stp0 rfl rfl (by decide) (stp_move (.inr rfl) rfl) ?_; refine awps_nil ?_; refine thenQ_nil ?_; refine awp_seq ?_; refine awp_seq ?_; refine awp_region ?_; refine awps_stp0 rfl rfl (by decide) (stp_move (.inl rfl) rfl) ?_; refine awps_stp0 rfl rfl (by decide) (stp_not rfl rfl) ?_; refine awps_nil ?_; refine thenQ_nil ?_; refine awp_cond rfl (fun c0 => ?_) (fun c0 => ?_)
  · try simp only [↓cqA, cqB] at c0
    refine awp_seq ?_; refine awp_region ?_; refine awps_stp0 rfl rfl (by decide) (stp_build rfl zv_api_Term rfl pl_api_Term rfl rfl) ?_; refine awps_store rfl rfl rfl tf_api_Term rfl rfl rfl rfl rfl rfl rfl rfl rfl ?_; refine awps_stp0 rfl rfl (by decide) (stp_move (.inr rfl) rfl) ?_; refine awps_nil ?_; refine thenQ_nil ?_; refine awp_ret ?_; refine thenQ_ret (?_)
    -- leaf 0T
    refine ret0 (noL hL) (.inl rfl) (resAs_cell tf_api_Term rfl rfl rfl (resAs_tmp rfl (resAs_nil))) ?_ ?_
    · rfl
    exact ⟨.inr ⟨c0, rfl⟩, rfl⟩
  try simp only [↓cqA, cqB] at c0
  obtain ⟨b, hb, hn, hlk⟩ := (lookB_has l s hr).2 c0
  have hlt := (List.getElem?_eq_some_iff.1 hb).1
  refine awp_skip ?_; refine thenQ_nil ?_; refine awp_seq ?_; refine awp_region ?_; refine awps_stp0 rfl rfl (by decide) (stp_move (.inl rfl) rfl) ?_; refine awps_stp0 rfl rfl (by decide) (stp_move (.inl rfl) rfl) ?_; refine awps_stp0 rfl rfl (by decide) (stp_indexAddr rfl sl_S_api_Bind rfl rfl (by omega) (bdDs_get hb)) ?_; refine awps_stp0 rfl rfl (by decide) (stp_fieldAddr_elp rfl fo_api_Bind_1 rfl) ?_; refine awps_stp0 rfl rfl (by decide) (stp_load_elpa rfl tf_api_Term rfl rfl) ?_
  refine awps_store rfl rfl rfl tf_api_Term rfl rfl rfl rfl rfl rfl rfl rfl rfl ?_; refine awps_stp0 rfl rfl (by decide) (stp_move (.inr rfl) rfl) ?_; refine awps_nil ?_; refine thenQ_nil ?_; refine awp_ret ?_
  -- leaf 0F
  refine ret0 (noL hL) (.inl rfl) (resAs_cell tf_api_Term rfl rfl rfl (resAs_tmp rfl (resAs_nil))) ?_ ?_
  · rfl
  refine ⟨.inl ⟨c0, ?_⟩, rfl⟩
  rw [lookT, hlk]; rfl
theorem Look_ok (l : List Bd) (s : ByteArray) (hr : RisB l) (hl : l.length ≤ 1000000) : PF 85 [.dat false 5 (bdDs l), sv s] (.tup [tmA false (lookT l s), bv (hasB l s)]) :=
  AC_leP (Look_raw l s hr hl) (fun r O' h => by
    obtain ⟨h | h, rfl⟩ := h
    · obtain ⟨h1, rfl⟩ := h; exact ⟨_, .refl, by rw [h1], rfl⟩
    · obtain ⟨h1, rfl⟩ := h
      refine ⟨_, .tup (.cons (zero_le false) (.cons .refl .nil)), ?_, rfl⟩
      rw [h1, lookT, lookB_none hr h1]; rfl)
structure BOk (l : List Bd) : Prop where
  ris : RisB l
  len : l.length ≤ 1000
  el : ∀ b ∈ l, b.wf ∧ mayT b.t = true
def gB (l : List Bd) (s : ByteArray) : Tm := (lookB l s).getD ⟨1, s, 0, []⟩
theorem lookB_mem {l : List Bd} {s : ByteArray} {t : Tm} (h : lookB l s = some t) : ∃ b ∈ l, b.name = s ∧ b.t = t := by
  simp only [lookB, Option.map_eq_some_iff] at h
  obtain ⟨b, h1, h2⟩ := h
  have h3 := List.find?_some h1
  simp only [decide_eq_true_eq] at h3
  exact ⟨b, List.mem_of_find?_eq_some h1, h3, h2⟩
theorem BOk.look {l : List Bd} (h : BOk l) {s : ByteArray} {t : Tm} (ht : lookB l s = some t) : t.wf ∧ mayT t = true := by
  obtain ⟨b, h1, _, rfl⟩ := lookB_mem ht
  exact ⟨(h.el b h1).1.2, (h.el b h1).2⟩
theorem Put1_ok (l : List Bd) (hl : BOk l) (s : ByteArray) : AC Tryz.prog 215 [sv s, .ptr 99 0] [(99, .box [.dat false 5 (bdDs l)])] (fun r O => r = .agg (lift true (tmD (gB l s))) ∧ O = [(99, .box [.dat false 5 (bdDs l)])]) := by
  have hln := hl.len
  have hls := (lookB_has l s hl.ris).1
  refine AC_leP (Post := fun r O => (r = .agg (lift true (tmD (gB l s))) ∨ hasB l s = false ∧ r = .agg [iv 1, sv s, iv 0, .imm (.slice none 0 0)]) ∧ O = [(99, .box [.dat false 5 (bdDs l)])]) ?_ (fun r O' h => by
    obtain ⟨rfl | ⟨h1, rfl⟩, rfl⟩ := h
    · exact ⟨_, .refl, rfl, rfl⟩
    · refine ⟨.agg (lift true (tmD ⟨1, s, 0, []⟩)), .agg (.cons .refl (.cons .refl (.cons .refl (.cons .nil .nil)))), ?_, rfl⟩
      rw [gB, lookB_none hl.ris h1]; rfl)
  refine AC_intro Tryz.func215 rfl Tryz.ntmps215 (Nat.le_of_ble_eq_true rfl) fun c hL hQ hDD => ?_; refine awp_seq ?_; refine awp_region ?_; refine awps_stp1 rfl rfl (by decide) (stp_alloc 3 rfl zv_api_Term rfl) rfl ?_; refine awps_nil ?_; refine thenQ_nil ?_; refine awp_seq ?_; refine awp_seq ?_; refine awp_region ?_; refine awps_stp0 rfl rfl (by decide) (stp_load rfl tf_S_api_Bind rfl rfl rfl rfl rfl) ?_
  refine awps_stp0 rfl rfl (by decide) (stp_move (.inl rfl) rfl) ?_; refine awps_call (avs := [_, _]) false rfl rfl rfl (by decide) en_bind_Look rfl rfl (Look_ok l s hl.ris (by omega)) rfl rfl ?_; refine awps_stp0 rfl rfl (by decide) (stp_move (.inl rfl) rfl) ?_; refine awps_stp0 rfl rfl (by decide) (stp_extract rfl rfl rfl) ?_; refine awps_stp0 rfl rfl (by decide) (stp_extract rfl rfl rfl) ?_
  refine awps_stp1 rfl rfl (by decide) (stp_alloc 4 rfl zv_api_Term rfl) rfl ?_; refine awps_store rfl rfl rfl tf_api_Term rfl rfl rfl rfl rfl rfl rfl rfl rfl ?_; refine awps_stp0 rfl rfl (by decide) (stp_move (.inr rfl) rfl) ?_; refine awps_nil ?_; refine thenQ_nil ?_; refine awp_seq ?_; refine awp_region ?_; refine awps_stp0 rfl rfl (by decide) (stp_move (.inl rfl) rfl) ?_; refine awps_nil ?_; refine thenQ_nil ?_; refine awp_cond rfl (fun c0 => ?_) (fun c0 => ?_)
  · try simp only [↓cqA, cqB] at c0
    obtain ⟨t, ht⟩ : ∃ t, lookB l s = some t := by
      cases h : lookB l s with
      | none => rw [h, c0] at hls; cases hls
      | some t => exact ⟨t, rfl⟩
    obtain ⟨hw, hm⟩ := hl.look ht
    have hlt : lookT l s = t := by rw [lookT, ht]; rfl
    rw [hlt]
    have key := Own_ok 5 t (mayT_dle hm).1 hw
    rw [own_may 5 t 24 hm] at key
    refine awp_seq ?_; refine awp_region ?_; refine awps_stp0 rfl rfl (by decide) (stp_load_all rfl tf_api_Term rfl rfl rfl rfl) ?_; refine awps_call (avs := [_]) true rfl rfl rfl (by decide) en_term_Own rfl rfl (key) rfl rfl ?_; refine awps_store rfl rfl rfl tf_api_Term rfl rfl rfl rfl rfl rfl rfl rfl rfl ?_; refine awps_nil ?_; refine thenQ_nil ?_; refine awp_ret ?_; refine thenQ_ret (?_)
    change retQ _ _ _ _ _ _ _
    refine retO (O' := [(99, _)]) (.inl rfl) (resAs_cell tf_api_Term rfl rfl rfl resAs_nil) (SubO.cons rfl SubO.nil) ?_ ?_ (LO hL rfl) ?_
    · rfl
    · rfl
    refine ⟨.inl ?_, rfl⟩
    rw [gB, ht]; rfl
  try simp only [↓cqA, cqB] at c0
  refine awp_skip ?_; refine thenQ_nil ?_; refine awp_seq ?_; refine awp_region ?_; refine awps_stp0 rfl rfl (by decide) (stp_move (.inl rfl) rfl) ?_; refine awps_stp0 rfl rfl (by decide) (stp_build rfl zv_api_Term rfl pl_api_Term rfl rfl) ?_; refine awps_store rfl rfl rfl tf_api_Term rfl rfl rfl rfl rfl rfl rfl rfl rfl ?_; refine awps_nil ?_; refine thenQ_nil ?_; refine awp_ret ?_
  change retQ _ _ _ _ _ _ _
  refine retO (O' := [(99, _)]) (.inl rfl) (resAs_cell tf_api_Term rfl rfl rfl resAs_nil) (SubO.cons rfl SubO.nil) ?_ ?_ (LO hL rfl) ?_
  · rfl
  · rfl
  exact ⟨.inr ⟨c0, rfl⟩, rfl⟩
end Go.Proofs.YtdecgkhdbfgldaaGreat
