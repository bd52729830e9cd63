/- Plain laws about the pure functions, joined. -/
import Derived.Test.YtmhalmnbgkpmnaaGreatPAll1
namespace Go.Proofs.YtmhalmnbgkpmnaaGreat
open Go.RowKit K
theorem zero_img : spec_PlaneImage zeroP = some (ImageT.mk 0 0 [], false) := by
  have h : zeroP.On = false := rfl
  simp only [spec_PlaneImage, spec_l19Loaded, h, Bool.not_false, ifO_true, bnd_s, orO_some]
  rfl
theorem out_zero (q : PlaneT) (w h : Int) {j : ImageT} (s1 : spec_PlaneImage q = some (j, true)) : spec_l20Out [q, zeroP, zeroP, zeroP] w h = some (ImageT.mk j.W j.H j.Data) := by
  have st : ∀ (v v' : Int) (o : List Int), idx [q, zeroP, zeroP, zeroP] v = some zeroP → wr (v + 1) = v' → spec_l20Out_L0 [q, zeroP, zeroP, zeroP] w h o v = some (.inl (o, v')) := fun v v' o hv e => by
    unfold spec_l20Out_L0
    rw [ifO_pos (by simpa using (idx_some hv).2.1), hv, e]
    simp only [bnd_s, zero_img, Bool.not_false, ifO_true]
  have rs : loopO (fun x => spec_l20Out_L0 [q, zeroP, zeroP, zeroP] w h x.1 x.2) (j.Data, 1) = some j.Data := by
    rw [loopO_inl (f := fun x => spec_l20Out_L0 [q, zeroP, zeroP, zeroP] w h x.1 x.2) (s := (j.Data, 1)) (st 1 2 j.Data rfl (by rw [wr_in (by omega) (by omega)]; rfl))]
    rw [loopO_inl (f := fun x => spec_l20Out_L0 [q, zeroP, zeroP, zeroP] w h x.1 x.2) (s := (j.Data, 2)) (st 2 3 j.Data rfl (by rw [wr_in (by omega) (by omega)]; rfl))]
    rw [loopO_inl (f := fun x => spec_l20Out_L0 [q, zeroP, zeroP, zeroP] w h x.1 x.2) (s := (j.Data, 3)) (st 3 4 j.Data rfl (by rw [wr_in (by omega) (by omega)]; rfl))]
    exact loopO_inr rfl
  have ip : idx [q, zeroP, zeroP, zeroP] 0 = some q := rfl
  unfold spec_l20Out
  simp only [ip, bnd_s, s1]
  rw [rs, bnd_s]
theorem blank_ok (p : Int) (h0 : 4278190080 ≤ p) (h1 : p ≤ 4294967295) : ∃ c, spec_BlankCrtc 2 2 p = some (c, true) ∧ smCrtc c ∧ crtcB c = true ∧ spec_ScanPixel c.Planes 2 2 0 0 = some p := by
  obtain ⟨i, n1, _, n3, n4⟩ := s_NewImage 2 2 p
  obtain ⟨m1, m2, m3⟩ := n3 rfl rfl (inR_t.2 (by omega))
  have hq : ∀ v ∈ i.Data, opq v = true := fun v hv => by rw [n4 v hv]; exact opq_ge h0 h1
  obtain ⟨w, p1, p2, p3⟩ := PlaneOf_ok (x := 0) (y := 0) (lay := 0) m1 rfl
  obtain ⟨j, s1, s2⟩ := show_ok (p := PlaneT.mk true 0 0 i.W i.H 0 w 255 0 0 0) rfl m1 p3 rfl rfl (.inl ⟨rfl, rfl⟩)
  have hj := s2 rfl rfl rfl rfl
  subst hj
  have hle := imgOk_le m1
  have c0 : spec_PlaneOk 0 (PlaneT.mk true 0 0 j.W j.H 0 w 255 0 0 0) 2 2 = some true := ok_primary rfl rfl rfl s1 (by omega) hq rfl rfl rfl rfl rfl rfl m2 m3
  generalize hq0 : PlaneT.mk true 0 0 j.W j.H 0 w 255 0 0 0 = q at *
  have hqw : q.Words.length ≤ 512 := by rw [← hq0]; exact p2
  have kok : spec_PlanesOk [q, zeroP, zeroP, zeroP] 2 2 = some true := planesOk_mk c0 (ok_zero (by omega) rfl rfl) (ok_zero (by omega) rfl rfl) (ok_zero (by omega) rfl rfl) (.inl rfl)
  have ksm : smPlaneS [q, zeroP, zeroP, zeroP] := ⟨by simp, fun x hx => by
    show x.Words.length ≤ 1048576
    simp only [List.mem_cons, List.not_mem_nil, or_false] at hx
    rcases hx with rfl | rfl | rfl | rfl
    · omega
    all_goals simp [zeroP]⟩
  have hcs : smCrtc (CrtcT.mk 2 2 [q, zeroP, zeroP, zeroP] (ColorMapT.mk idMat idCurve)) := ⟨ksm, by show idMat.length ≤ 1048576; simp [idMat], by show idCurve.length ≤ 1048576; simp [idCurve]⟩
  have hcb : crtcB (CrtcT.mk 2 2 [q, zeroP, zeroP, zeroP] (ColorMapT.mk idMat idCurve)) = true := crtcB_of hcs kok (show colOk (ColorMapT.mk idMat idCurve) = true by decide)
  refine ⟨CrtcT.mk 2 2 [q, zeroP, zeroP, zeroP] (ColorMapT.mk idMat idCurve), ?_, hcs, hcb, ?_⟩
  · have ec := s_CrtcOk _ hcs
    rw [hcb] at ec
    unfold zeroP at ec
    unfold spec_BlankCrtc
    rw [n1, bnd_s, p1, bnd_s, s_IdentityC, bnd_s, ec, bnd_s]; rfl
  · have z4 := out_zero q 2 2 s1
    have hlen : j.Data.length = 4 := by
      have := (imgOk_in m1).2.2.1
      rw [m2, m3] at this
      omega
    have hd0 : idx j.Data 0 = some p := by
      have := idx_lt (xs := j.Data) (k := 0) (by omega)
      rw [n4 _ (List.getElem_mem (by omega))] at this
      exact this
    unfold spec_ScanPixel
    rw [kok, bnd_s, Bool.not_true, ifO_false, z4, bnd_s]
    have e : wr (wr (0 * j.W) + 0) = 0 := by rw [m2, wr_in (n := 0 * 2) (by omega) (by omega), wr_in (by omega) (by omega)]; rfl
    unfold spec_l05At
    rw [ifO_neg (by simp [m2, m3])]
    simp only []
    rw [e, hd0]; rfl
noncomputable def bl (n : Nat) : CrtcT := match spec_BlankCrtc 2 2 (4278190081 + (n : Int)) with
  | some (c, _) => c
  | .none => CrtcT.mk 0 0 [] (ColorMapT.mk [] [])
theorem bl_ok {n : Nat} (h : n ≤ 1000) : spec_BlankCrtc 2 2 (wr (4278190081 + (n : Int))) = some (bl n, true) ∧ smCrtc (bl n) ∧ crtcB (bl n) = true ∧ spec_ScanPixel (bl n).Planes 2 2 0 0 = some (wr (4278190081 + (n : Int))) := by
  have e : wr (4278190081 + (n : Int)) = 4278190081 + n := wr_in (by omega) (by omega)
  obtain ⟨c, h1, h2, h3, h4⟩ := blank_ok (4278190081 + (n : Int)) (by omega) (by omega)
  have hb : bl n = c := by unfold bl; rw [h1]
  rw [e, hb]
  exact ⟨h1, h2, h3, h4⟩
noncomputable def pend (fs : List Int) (s : Nat) : List FlipT := (List.range (fs.length - s)).map fun i => FlipT.mk ((s + i : Nat) : Int) (fs.getD (s + i) 0) (bl (s + i))
def evs (s : Nat) : List Int := (List.range s).map fun k : Nat => (k : Int)
noncomputable def stF (fs : List Int) (s : Nat) (sig : List Int) : FlipsT := FlipsT.mk (pend fs s) sig (fs.length : Int) (evs s)
structure Good (fs : List Int) (s : Nat) (sig : List Int) : Prop where
  le : s ≤ fs.length
  two : fs.length - s ≤ 2
  len : fs.length ≤ 24
  asc : asc sig 1 8 = true
  fen : ∀ x ∈ fs, 0 ≤ x ∧ x ≤ 3
theorem pend_len (fs : List Int) (s : Nat) : (pend fs s).length = fs.length - s := by simp [pend]
theorem pend_at {fs : List Int} {s k : Nat} (h : k < fs.length - s) : (pend fs s)[k]? = some (FlipT.mk ((s + k : Nat) : Int) (fs.getD (s + k) 0) (bl (s + k))) := by
  unfold pend
  rw [List.getElem?_map, List.getElem?_range h]; rfl
theorem st_sm {fs : List Int} {s : Nat} {sig : List Int} (h : Good fs s sig) : smFlips (stF fs s sig) := by
  have h1 := asc_len h.asc
  have := h.two
  have := h.len
  have := h.le
  refine ⟨⟨by show (pend fs s).length ≤ 1048576; rw [pend_len]; omega, fun x hx => ?_⟩, by show sig.length ≤ 1048576; omega, by show (evs s).length ≤ 1048576; simp [evs]; omega⟩
  obtain ⟨i, hi, rfl⟩ := List.mem_map.1 (show x ∈ (List.range (fs.length - s)).map _ from hx)
  have := List.mem_range.1 hi
  exact (bl_ok (n := s + i) (by omega)).2.1
theorem evs_asc (s : Nat) : asc (evs s) 0 ((s : Int) - 1) = true := by
  refine List.all_eq_true.2 fun k hk => ?_
  have hk' : k < s := by have := List.mem_range.1 hk; simpa [evs] using this
  have g : ∀ k, k < s → (evs s).getD k 0 = (k : Int) := fun k hk => by
    rw [List.getD_eq_getElem?_getD]
    unfold evs
    rw [List.getElem?_map, List.getElem?_range hk]; rfl
  unfold ascAt
  rw [g k hk', inR_t.2 (by omega), Bool.true_and]
  by_cases h0 : 0 < k
  · rw [g (k - 1) (by omega), decide_eq_false (show ¬ ((k : Int) ≤ ((k - 1 : Nat) : Int)) by omega), Bool.and_false]; rfl
  · rw [decide_eq_false h0, Bool.false_and]; rfl
theorem st_ok {fs : List Int} {s : Nat} {sig : List Int} (h : Good fs s sig) : flipsB (stF fs s sig) = true := by
  have h1 := h.two
  have h2 := h.len
  have h3 := h.le
  have hl : (stF fs s sig).Pending.length = fs.length - s := pend_len fs s
  have hn : (stF fs s sig).Next = (fs.length : Int) := rfl
  unfold flipsB
  rw [hl, hn]
  have e1 : (fs.length : Int) - ((fs.length - s : Nat) : Int) - 1 = (s : Int) - 1 := by omega
  have e2 : asc (stF fs s sig).Events 0 ((fs.length : Int) - ((fs.length - s : Nat) : Int) - 1) = true := by rw [e1]; exact evs_asc s
  have e3 : asc (stF fs s sig).Signalled 1 8 = true := h.asc
  have e4 : (List.range (fs.length - s)).all (pendB (stF fs s sig)) = true := List.all_eq_true.2 fun k hk => by
    have hk' := List.mem_range.1 hk
    unfold pendB
    rw [show (stF fs s sig).Pending[k]? = _ from pend_at hk', hl, hn]
    simp only []
    rw [(bl_ok (n := s + k) (by omega)).2.2.1, decide_eq_true (show ((s + k : Nat) : Int) = (fs.length : Int) - ((fs.length - s : Nat) : Int) + (k : Int) by omega)]
    have hx : fs.getD (s + k) 0 ∈ fs := by
      rw [List.getD_eq_getElem?_getD, List.getElem?_eq_getElem (by omega)]
      exact List.getElem_mem _
    have := h.fen _ hx
    rw [inR_t.2 (by omega)]; rfl
  rw [e2, e3, e4, decide_eq_true h1, inR_t.2 (by omega), decide_eq_true (show ((fs.length - s : Nat) : Int) ≤ (fs.length : Int) by omega)]; rfl
theorem asc_iff {xs : List Int} {lo hi : Int} : asc xs lo hi = true ↔ (∀ x ∈ xs, lo ≤ x ∧ x ≤ hi) ∧ xs.Pairwise (· < ·) := by
  have g : ∀ k (hk : k < xs.length), xs.getD k 0 = xs[k] := fun k hk => by rw [List.getD_eq_getElem?_getD, List.getElem?_eq_getElem hk]; rfl
  constructor
  · intro h
    refine ⟨fun x hx => ?_, List.pairwise_iff_getElem.2 fun i j hi hj hij => ?_⟩
    · obtain ⟨k, hk, rfl⟩ := List.mem_iff_getElem.1 hx
      have := (asc_step h hk).1
      rwa [g k hk] at this
    · have := asc_lt h (a := i) (j - i - 1) j (by omega) hj
      rwa [g i hi, g j hj] at this
  · rintro ⟨h1, h2⟩
    refine List.all_eq_true.2 fun k hk => ?_
    have hk' := List.mem_range.1 hk
    unfold ascAt
    rw [g k hk', inR_t.2 (h1 _ (List.getElem_mem hk')), Bool.true_and]
    by_cases h0 : 0 < k
    · have := List.pairwise_iff_getElem.1 h2 (k - 1) k (by omega) hk' (by omega)
      rw [g (k - 1) (by omega), decide_eq_false (show ¬ (xs[k] ≤ xs[k - 1]) by omega), Bool.and_false]; rfl
    · rw [decide_eq_false h0, Bool.false_and]; rfl
theorem asc_ins {xs : List Int} {lo hi t : Int} {p : Nat} (h : asc xs lo hi = true) (h0 : lo ≤ t) (h1 : t ≤ hi) (h2 : ∀ m, m < p → xs.getD m 0 < t) (h3 : ∀ m, p ≤ m → m < xs.length → t < xs.getD m 0) : asc (xs.take p ++ t :: xs.drop p) lo hi = true := by
  obtain ⟨a1, a2⟩ := asc_iff.1 h
  have g : ∀ k (hk : k < xs.length), xs.getD k 0 = xs[k] := fun k hk => by rw [List.getD_eq_getElem?_getD, List.getElem?_eq_getElem hk]; rfl
  have ht : ∀ a ∈ xs.take p, a < t := fun a ha => by
    obtain ⟨m, hm, rfl⟩ := List.mem_take_iff_getElem.1 ha
    have := h2 m (by omega)
    rwa [g m (by omega)] at this
  have hd : ∀ a ∈ xs.drop p, t < a := fun a ha => by
    obtain ⟨m, hm, rfl⟩ := List.mem_iff_getElem.1 ha
    rw [List.getElem_drop]
    rw [List.length_drop] at hm
    have := h3 (p + m) (by omega) (by omega)
    rwa [g (p + m) (by omega)] at this
  refine asc_iff.2 ⟨fun x hx => ?_, List.pairwise_append.2 ⟨a2.sublist (List.take_sublist _ _), List.pairwise_cons.2 ⟨hd, a2.sublist (List.drop_sublist _ _)⟩, fun a ha b hb => ?_⟩⟩
  · rcases List.mem_append.1 hx with hx | hx
    · exact a1 x (List.mem_of_mem_take hx)
    · rcases List.mem_cons.1 hx with rfl | hx
      · exact ⟨h0, h1⟩
      · exact a1 x (List.mem_of_mem_drop hx)
  · have := ht a ha
    rcases List.mem_cons.1 hb with rfl | hb
    · exact this
    · have := hd b hb
      omega
theorem signal_st {fs : List Int} {s : Nat} {sig : List Int} (h : Good fs s sig) (t : Int) : ∃ sig', impl_SignalFence (stF fs s sig) t = some (stF fs s sig') ∧ Good fs s sig' := by
  obtain ⟨g, _, e2, _, e4⟩ := Signal_eq (stF fs s sig) t (st_sm h)
  rcases e4 with rfl | ⟨p, _, _, ⟨t0, t1⟩, rfl, q1, q2⟩
  · exact ⟨sig, e2, h⟩
  · exact ⟨_, e2, h.le, h.two, h.len, asc_ins h.asc t0 t1 q1 q2, h.fen⟩
theorem queue_st {fs : List Int} {s : Nat} {sig : List Int} (h : Good fs s sig) (hl : fs.length < 24) {x : Int} (x0 : 0 ≤ x) (x1 : x ≤ 3) : (fs.length - s < 2 → impl_QueueFlip (stF fs s sig) (bl fs.length) x = some (stF (fs ++ [x]) s sig, true) ∧ Good (fs ++ [x]) s sig) ∧ (¬ fs.length - s < 2 → impl_QueueFlip (stF fs s sig) (bl fs.length) x = some (stF fs s sig, false)) := by
  have hsm := st_sm h
  have hok := st_ok h
  have hle := h.le
  have h2 := h.two
  obtain ⟨_, b2, _, _⟩ := bl_ok (n := fs.length) (by omega)
  have ha : app (stF fs s sig).Pending [FlipT.mk (stF fs s sig).Next x (bl fs.length)] = some (pend fs s ++ [FlipT.mk (fs.length : Int) x (bl fs.length)]) := app_le (by show (pend fs s).length + 1 ≤ 1073741824; rw [pend_len]; omega)
  have hwn : wr ((stF fs s sig).Next + 1) = ((fs.length + 1 : Nat) : Int) := wr_succ (by omega)
  have hsm2 : smFlips (FlipsT.mk (pend fs s ++ [FlipT.mk (fs.length : Int) x (bl fs.length)]) sig ((fs.length + 1 : Nat) : Int) (evs s)) := by
    refine ⟨⟨by show (pend fs s ++ [_]).length ≤ 1048576; rw [List.length_append, pend_len]; simp; omega, fun y hy => ?_⟩, hsm.2⟩
    rcases List.mem_append.1 hy with hy | hy
    · exact hsm.1.2 y hy
    · rw [List.mem_singleton.1 hy]; exact b2
  have hp : fs.length - s < 2 → pend fs s ++ [FlipT.mk (fs.length : Int) x (bl fs.length)] = pend (fs ++ [x]) s := fun _ => by
    unfold pend
    have e : (fs ++ [x]).length - s = (fs.length - s) + 1 := by simp; omega
    rw [e, List.range_succ, List.map_append, List.map_cons, List.map_nil]
    have e2 : s + (fs.length - s) = fs.length := by omega
    have e3 : (fs ++ [x]).getD fs.length 0 = x := by rw [List.getD_eq_getElem?_getD]; simp
    rw [e2, e3]
    congr 1
    refine List.map_congr_left fun i hi => ?_
    have := List.mem_range.1 hi
    have : (fs ++ [x]).getD (s + i) 0 = fs.getD (s + i) 0 := by rw [List.getD_eq_getElem?_getD, List.getElem?_append_left (by omega), ← List.getD_eq_getElem?_getD]
    rw [this]
  constructor
  · intro hr
    have hg : Good (fs ++ [x]) s sig := ⟨by simp; omega, by simp; omega, by simp; omega, h.asc, fun y hy => by
      rcases List.mem_append.1 hy with hy | hy
      · exact h.fen y hy
      · rw [List.mem_singleton.1 hy]; exact ⟨x0, x1⟩⟩
    refine ⟨?_, hg⟩
    have e : FlipsT.mk (pend fs s ++ [FlipT.mk (fs.length : Int) x (bl fs.length)]) sig ((fs.length + 1 : Nat) : Int) (evs s) = stF (fs ++ [x]) s sig := by
      unfold stF
      rw [hp hr, List.length_append]; rfl
    unfold impl_QueueFlip
    rw [i_copyFlips _ hsm, bnd_s, i_FlipsOk _ hsm, bnd_s, hok, Bool.not_true, ifO_false, i_copyCrtc _ b2, bnd_s, ha, bnd_s, hwn]
    rw [show FlipsT.mk (pend fs s ++ [FlipT.mk (fs.length : Int) x (bl fs.length)]) (stF fs s sig).Signalled ((fs.length + 1 : Nat) : Int) (stF fs s sig).Events = stF (fs ++ [x]) s sig from e, i_FlipsOk _ (st_sm hg), bnd_s, st_ok hg]; rfl
  · intro hr
    have hf : flipsB (FlipsT.mk (pend fs s ++ [FlipT.mk (fs.length : Int) x (bl fs.length)]) sig ((fs.length + 1 : Nat) : Int) (evs s)) = false := by
      unfold flipsB
      rw [decide_eq_false (show ¬ (pend fs s ++ [FlipT.mk (fs.length : Int) x (bl fs.length)]).length ≤ 2 by rw [List.length_append, pend_len]; simp; omega)]; rfl
    unfold impl_QueueFlip
    rw [i_copyFlips _ hsm, bnd_s, i_FlipsOk _ hsm, bnd_s, hok, Bool.not_true, ifO_false, i_copyCrtc _ b2, bnd_s, ha, bnd_s, hwn]
    rw [show FlipsT.mk (pend fs s ++ [FlipT.mk (fs.length : Int) x (bl fs.length)]) (stF fs s sig).Signalled ((fs.length + 1 : Nat) : Int) (stF fs s sig).Events = FlipsT.mk (pend fs s ++ [FlipT.mk (fs.length : Int) x (bl fs.length)]) sig ((fs.length + 1 : Nat) : Int) (evs s) from rfl, i_FlipsOk _ hsm2, bnd_s, hf]; rfl
theorem has2 (xs : List Int) (k : Int) (h : xs.length ≤ 1048576) : ∃ b, laws_has xs k = some b ∧ slices_Contains_S_int_int xs k = some b := by
  have e1 := findLoop (L := fun i => slices_Index_S_int_int_L0 xs k i) xs (by omega) (fun y => decide (k = y)) (fun i hi => by
    simp only [slices_Index_S_int_int_L0, idx_lt hi, bnd_s]
    rw [ifO_pos (by simp only [decide_eq_true_eq]; omega), ifO_if]) (by simp [slices_Index_S_int_int_L0])
  have e2 := allList (L := fun i => laws_has_L0 xs k i) xs (by omega) (fun y => !decide (k = y)) true (fun i hi => by
    simp only [laws_has_L0, idx_lt hi, bnd_s]
    have : decide (xs[i] = k) = decide (k = xs[i]) := by rw [decide_eq_decide]; exact eq_comm
    rw [ifO_pos (by simp only [decide_eq_true_eq]; omega), this]
    cases decide (k = xs[i]) <;> rfl) (by simp [laws_has_L0])
  have hf : (xs.all fun y => !decide (k = y)) = (xs.findIdx? fun y => decide (k = y)).isNone := by
    rw [Bool.eq_iff_iff, List.all_eq_true, Option.isNone_iff_eq_none, List.findIdx?_eq_none_iff]
    simp
  simp only [laws_has, slices_Contains_S_int_int, slices_Index_S_int_int, e1, e2, bnd_s, hf]
  cases xs.findIdx? fun y => decide (k = y) with
  | none => exact ⟨false, rfl, rfl⟩
  | some i => exact ⟨true, rfl, by show some (decide (0 ≤ (i : Int))) = _; simp⟩
theorem take_st {fs : List Int} {s : Nat} {sig : List Int} (h : Good fs s sig) (now : CrtcT) (hn : smCrtc now) : ∃ due : Bool, (andO (decide ((s : Int) < (fs.length : Int))) (Option.bind (idx fs (s : Int)) fun x => Option.bind (orO (decide (x = 0)) (Option.bind (idx fs (s : Int)) fun y => Option.bind (laws_has sig y) fun z => some z)) fun q => some q)) = some due ∧ impl_FlipReady (stF fs s sig) = some due
    ∧ ((due = true ∧ s < fs.length ∧ impl_TakeFlip (stF fs s sig) now = some (stF fs (s + 1) sig, bl s, true) ∧ Good fs (s + 1) sig) ∨ (due = false ∧ impl_TakeFlip (stF fs s sig) now = some (stF fs s sig, now, false))) := by
  have hsm := st_sm h
  have hok := st_ok h
  have hle := h.le
  have h2 := h.two
  have h3 := h.len
  have hs1 := asc_len h.asc
  by_cases hlt : s < fs.length
  · obtain ⟨b, b1, b2⟩ := has2 sig (fs.getD s 0) (by omega)
    have hix : idx fs (s : Int) = some (fs.getD s 0) := idx_g hlt
    have hp0 : idx (stF fs s sig).Pending 0 = some (FlipT.mk (s : Int) (fs.getD s 0) (bl s)) := by
      have := pend_at (fs := fs) (s := s) (k := 0) (by omega)
      show idx (pend fs s) ((0 : Nat) : Int) = _
      rw [idx_nat, this]; rfl
    have hpl : decide (0 < ((stF fs s sig).Pending.length : Int)) = true := by
      have : (stF fs s sig).Pending.length = fs.length - s := pend_len fs s
      rw [this]; simp; omega
    have hrd : impl_FlipReady (stF fs s sig) = some (decide (fs.getD s 0 = 0) || b) := by
      unfold impl_FlipReady
      rw [i_FlipsOk _ hsm, bnd_s, hok, hpl, hp0]
      simp only [bnd_s]
      rw [show (stF fs s sig).Signalled = sig from rfl, b2]
      simp only [bnd_s, orO_some, andO_some, Bool.and_self, Bool.true_and]
    refine ⟨decide (fs.getD s 0 = 0) || b, ?_, hrd, ?_⟩
    · rw [hix]
      simp only [bnd_s, b1, orO_some]
      rw [decide_eq_true (show (s : Int) < (fs.length : Int) by omega), andO_some, Bool.true_and]
    · cases hd : (decide (fs.getD s 0 = 0) || b) with
      | false =>
        refine .inr ⟨rfl, ?_⟩
        unfold impl_TakeFlip
        rw [i_copyFlips _ hsm, bnd_s, hrd, hd, bnd_s, Bool.not_false, ifO_true, i_copyCrtc _ hn, bnd_s]
      | true =>
        refine .inl ⟨rfl, hlt, ?_, by omega, by omega, h3, h.asc, h.fen⟩
        have hdr : (pend fs s).drop 1 = pend fs (s + 1) := by
          refine List.ext_getElem? fun k => ?_
          rw [List.getElem?_drop]
          rcases Nat.lt_or_ge k (fs.length - (s + 1)) with hk | hk
          · rw [pend_at (by omega), pend_at hk]
            have e : s + (1 + k) = s + 1 + k := by omega
            rw [e]
          · rw [List.getElem?_eq_none (by rw [pend_len]; omega), List.getElem?_eq_none (by rw [pend_len]; omega)]
        have hsub : subO (stF fs s sig).Pending 1 (stF fs s sig).Pending.length = some (pend fs (s + 1)) := by
          have hl : (stF fs s sig).Pending.length = fs.length - s := pend_len fs s
          rw [subO, if_pos ⟨by omega, by omega, by omega⟩]
          have : List.take ((stF fs s sig).Pending.length : Int).toNat (stF fs s sig).Pending = pend fs s := by
            rw [Int.toNat_natCast]; exact List.take_length
          rw [this]
          exact congrArg some hdr
        have hev : app (stF fs s sig).Events [(s : Int)] = some (evs (s + 1)) := by
          have e : evs (s + 1) = evs s ++ [(s : Int)] := by unfold evs; rw [List.range_succ, List.map_append]; rfl
          rw [e]
          exact app_le (by show (evs s).length + 1 ≤ 1073741824; simp [evs]; omega)
        unfold impl_TakeFlip
        rw [i_copyFlips _ hsm, bnd_s, hrd, hd, bnd_s, Bool.not_true, ifO_false, hp0, bnd_s, hsub, bnd_s, hev, bnd_s]; rfl
  · have hp : (stF fs s sig).Pending = [] := List.eq_nil_of_length_eq_zero (by have : (stF fs s sig).Pending.length = fs.length - s := pend_len fs s; omega)
    have hrd : impl_FlipReady (stF fs s sig) = some false := by
      unfold impl_FlipReady
      rw [i_FlipsOk _ hsm, bnd_s, hok, hp]
      rfl
    refine ⟨false, ?_, hrd, .inr ⟨rfl, ?_⟩⟩
    · rw [decide_eq_false (show ¬ ((s : Int) < (fs.length : Int)) by omega)]; rfl
    · unfold impl_TakeFlip
      rw [i_copyFlips _ hsm, bnd_s, hrd, bnd_s, Bool.not_false, ifO_true, i_copyCrtc _ hn, bnd_s]
theorem samePl_slf (p : PlaneT) : samePl p p = true := by simp [samePl, eqInts]
theorem s_same_self (c : CrtcT) (h : smCrtc c) : spec_SameCrtc c c = some true := by
  have hl : c.Planes.length ≤ 1048576 := h.1.1
  have h2 := allLoop (L := fun k => spec_SameCrtc_L0 c c k) c.Planes.length (by omega) (fun _ => true) false (fun k hk _ => by
    show spec_SameCrtc_L0 c c k = _
    simp only [spec_SameCrtc_L0, idx_lt hk, bnd_s, s_SamePlane _ _ (h.1.2 _ (List.getElem_mem hk)), samePl_slf]
    rw [ifO_pos (by simpa using hk)]; rfl) (fun k hk h => by cases h) (by simp [spec_SameCrtc_L0])
  have hcol : sameCol c.Color c.Color = true := by simp [sameCol, eqInts]
  unfold spec_SameCrtc
  rw [s_SameColor _ _ h.2, hcol, bnd_s, orO_some, bnd_s, ifO_neg (by simp), h2, if_pos (by simp), bnd_s, fork_inl]
theorem onceLoop (code : List Int) (hbig : code.length ≤ 1048576) (ho : ∀ y ∈ code, 0 ≤ y ∧ y ≤ 255) : ∀ (j k : Nat) (fs : List Int) (s : Nat) (sig : List Int) (now : CrtcT), k + j = 24 → fs.length ≤ k → Good fs s sig → smCrtc now →
    ∃ fs' s' sig', loopO (fun x => laws_FnFlipsOnce_L0 code x.1 x.2.1 x.2.2.1 x.2.2.2.1 x.2.2.2.2.1 x.2.2.2.2.2.1 x.2.2.2.2.2.2.1 x.2.2.2.2.2.2.2.1 x.2.2.2.2.2.2.2.2.1 x.2.2.2.2.2.2.2.2.2.1 x.2.2.2.2.2.2.2.2.2.2.1 x.2.2.2.2.2.2.2.2.2.2.2) (pend fs s, sig, (fs.length : Int), evs s, now.W, now.H, now.Planes, now.Color.Matrix, now.Color.Curve, fs, (s : Int), (k : Int)) = some (.inl (pend fs' s', sig', (fs'.length : Int), evs s', fs', (s' : Int))) ∧ Good fs' s' sig' := by
  intro j
  induction j with
  | zero =>
    intro k fs s sig now hk _ hg _
    obtain rfl : k = 24 := by omega
    exact ⟨fs, s, sig, loopO_inr rfl, hg⟩
  | succ j ih =>
    intro k fs s sig now hk hf hg hn
    obtain ⟨v, hv, v0, v1⟩ := at_ok code hbig ho (k : Int) (by omega) (by omega)
    have hm : Int.tmod v 4 = v % 4 := Int.tmod_eq_emod_of_nonneg v0
    have hle := hg.le
    have hl24 := hg.len
    have hkd : decide ((k : Int) < 24) = true := by simp; omega
    have hst : FlipsT.mk (pend fs s) sig (fs.length : Int) (evs s) = stF fs s sig := rfl
    have hnow : CrtcT.mk now.W now.H now.Planes (ColorMapT.mk now.Color.Matrix now.Color.Curve) = now := rfl
    have hwk : wr ((k : Int) + 1) = ((k + 1 : Nat) : Int) := wr_succ (by omega)
    have go : ∀ (fs' : List Int) (s' : Nat) (sig' : List Int) (now' : CrtcT), fs'.length ≤ k + 1 → Good fs' s' sig' → smCrtc now' → laws_FnFlipsOnce_L0 code (pend fs s) sig (fs.length : Int) (evs s) now.W now.H now.Planes now.Color.Matrix now.Color.Curve fs (s : Int) (k : Int) = some (.inl (pend fs' s', sig', (fs'.length : Int), evs s', now'.W, now'.H, now'.Planes, now'.Color.Matrix, now'.Color.Curve, fs', (s' : Int), ((k + 1 : Nat) : Int))) → ∃ fs' s' sig', loopO (fun x => laws_FnFlipsOnce_L0 code x.1 x.2.1 x.2.2.1 x.2.2.2.1 x.2.2.2.2.1 x.2.2.2.2.2.1 x.2.2.2.2.2.2.1 x.2.2.2.2.2.2.2.1 x.2.2.2.2.2.2.2.2.1 x.2.2.2.2.2.2.2.2.2.1 x.2.2.2.2.2.2.2.2.2.2.1 x.2.2.2.2.2.2.2.2.2.2.2) (pend fs s, sig, (fs.length : Int), evs s, now.W, now.H, now.Planes, now.Color.Matrix, now.Color.Curve, fs, (s : Int), (k : Int)) = some (.inl (pend fs' s', sig', (fs'.length : Int), evs s', fs', (s' : Int))) ∧ Good fs' s' sig' := fun fs' s' sig' now' h1 h2 h3 h4 => by
      rw [loopO_inl (f := fun x => laws_FnFlipsOnce_L0 code x.1 x.2.1 x.2.2.1 x.2.2.2.1 x.2.2.2.2.1 x.2.2.2.2.2.1 x.2.2.2.2.2.2.1 x.2.2.2.2.2.2.2.1 x.2.2.2.2.2.2.2.2.1 x.2.2.2.2.2.2.2.2.2.1 x.2.2.2.2.2.2.2.2.2.2.1 x.2.2.2.2.2.2.2.2.2.2.2) (s := (pend fs s, sig, (fs.length : Int), evs s, now.W, now.H, now.Planes, now.Color.Matrix, now.Color.Curve, fs, (s : Int), (k : Int))) h4]
      exact ih (k + 1) fs' s' sig' now' (by omega) h1 h2 h3
    obtain ⟨hb1, hb2, hb3, hb4⟩ := bl_ok (n := fs.length) (by omega)
    have hq : wr (Int.tdiv v 4) = v / 4 := by rw [Int.tdiv_eq_ediv_of_nonneg v0, wr_in (by omega) (by omega)]
    have hq4 : Int.tmod (v / 4) 4 = (v / 4) % 4 := Int.tmod_eq_emod_of_nonneg (by omega)
    by_cases c0 : v % 4 = 0
    · obtain ⟨sig', g1, g2⟩ := signal_st hg (wr (1 + Int.tmod (wr (Int.tdiv v 4)) 3))
      refine go fs s sig' now (by omega) g2 hn ?_
      unfold laws_FnFlipsOnce_L0
      rw [hkd, ifO_true, hv, bnd_s, hm, ifO_pos (by simpa using c0), hst, g1, bnd_s, hwk]; rfl
    obtain ⟨due, d1, d2, d3⟩ := take_st hg now hn
    obtain ⟨q1, q2⟩ := queue_st hg (show fs.length < 24 by omega) (x := v / 4 % 4) (by omega) (by omega)
    have hwl : wr ((fs.length : Int) - (s : Int)) = ((fs.length - s : Nat) : Int) := by rw [wr_in (by omega) (by omega)]; omega
    have ha : app fs [v / 4 % 4] = some (fs ++ [v / 4 % 4]) := app_le (by simp; omega)
    have hsame := s_same_self now hn
    by_cases c3 : v % 4 = 3
    · rcases d3 with ⟨rfl, hlt, t1, t2⟩ | ⟨rfl, t1⟩
      · obtain ⟨e1, e2, e3, e4⟩ := bl_ok (n := s) (by omega)
        have hw1 : wr ((s : Int) + 1) = ((s + 1 : Nat) : Int) := wr_succ (by omega)
        have hbt : laws_btoi true = some 1 := rfl
        refine go fs (s + 1) sig (bl s) (by omega) t2 e2 ?_
        unfold laws_FnFlipsOnce_L0
        rw [hkd, ifO_true, hv, bnd_s, hm, ifO_neg (by simpa using c0), ifO_neg (by simp; omega), ifO_neg (by simp; omega), d1, bnd_s, hst, d2, bnd_s, hnow, t1, bnd_s]
        simp only [e4, bnd_s, hbt, hw1, hwk, andO_some, orO_some, decide_true, Bool.not_true, Bool.and_false, Bool.false_and, beq_self_eq_true, Bool.or_self, ifO_false]
        rfl
      · have hbt : laws_btoi false = some 0 := rfl
        have hw0 : wr ((s : Int) + 0) = (s : Int) := by rw [wr_in (by omega) (by omega)]; omega
        refine go fs s sig now (by omega) hg hn ?_
        unfold laws_FnFlipsOnce_L0
        rw [hkd, ifO_true, hv, bnd_s, hm, ifO_neg (by simpa using c0), ifO_neg (by simp; omega), ifO_neg (by simp; omega), d1, bnd_s, hst, d2, bnd_s, hnow, t1, bnd_s]
        simp only [hnow, hsame, bnd_s, hbt, hw0, hwk, andO, orO_some, Bool.false_eq_true, if_false, if_true, Bool.not_false, Bool.not_true, beq_self_eq_true, Bool.or_self, ifO_false]
        rfl
    · by_cases hr : fs.length - s < 2
      · obtain ⟨r1, r2⟩ := q1 hr
        have hdt : decide (((fs.length - s : Nat) : Int) < 2) = true := by simp; omega
        refine go (fs ++ [v / 4 % 4]) s sig now (by simp; omega) r2 hn ?_
        unfold laws_FnFlipsOnce_L0
        rw [hkd, ifO_true, hv, bnd_s, hm, ifO_neg (by simpa using c0)]
        by_cases c1 : v % 4 = 1
        · rw [ifO_pos (by simpa using c1), ifO_pos (by simpa using c1), hb1, bnd_s]
          simp only [hq, hq4, hst, r1, bnd_s, hwl, hdt, ha, hwk, beq_self_eq_true, Bool.not_true, ifO_false, ifO_true]
          rfl
        · have c2 : v % 4 = 2 := by omega
          rw [ifO_neg (by simpa using c1), ifO_pos (by simpa using c2), hb1, bnd_s]
          simp only [hq, hq4, hst, r1, bnd_s, hwl, hdt, ha, hwk, beq_self_eq_true, Bool.not_true, ifO_false, ifO_true]
          rfl
      · have r1 := q2 hr
        have hdt : decide (((fs.length - s : Nat) : Int) < 2) = false := by simp; omega
        refine go fs s sig now (by omega) hg hn ?_
        unfold laws_FnFlipsOnce_L0
        rw [hkd, ifO_true, hv, bnd_s, hm, ifO_neg (by simpa using c0)]
        by_cases c1 : v % 4 = 1
        · rw [ifO_pos (by simpa using c1), ifO_pos (by simpa using c1), hb1, bnd_s]
          simp only [hq, hq4, hst, r1, bnd_s, hwl, hdt, hwk, beq_self_eq_true, Bool.not_true, ifO_false]
          rfl
        · have c2 : v % 4 = 2 := by omega
          rw [ifO_neg (by simpa using c1), ifO_pos (by simpa using c2), hb1, bnd_s]
          simp only [hq, hq4, hst, r1, bnd_s, hwl, hdt, hwk, beq_self_eq_true, Bool.not_true, ifO_false]
          rfl
theorem FnFlipsOnce_true (code : List Int) (o : code.length ≤ 9223372036854775807 ∧ ∀ y ∈ code, 0 ≤ y ∧ y ≤ 255) : laws_FnFlipsOnce code = some true := by
  unfold laws_FnFlipsOnce laws_big
  rw [bnd_s]
  by_cases hbig' : 1048576 < code.length
  · rw [ifO_pos (by simp; omega)]
  have hbig : code.length ≤ 1048576 := by omega
  rw [ifO_neg (by simp; omega)]
  obtain ⟨c, h1, h2, _, _⟩ := blank_ok 4278190080 (by omega) (by omega)
  obtain ⟨fs, s, sig, e1, g⟩ := onceLoop code hbig o.2 24 0 [] 0 [] c (by omega) (by simp) ⟨by simp, by simp, by simp, rfl, by simp⟩ h2
  have e1' : loopO (fun x => laws_FnFlipsOnce_L0 code x.1 x.2.1 x.2.2.1 x.2.2.2.1 x.2.2.2.2.1 x.2.2.2.2.2.1 x.2.2.2.2.2.2.1 x.2.2.2.2.2.2.2.1 x.2.2.2.2.2.2.2.2.1 x.2.2.2.2.2.2.2.2.2.1 x.2.2.2.2.2.2.2.2.2.2.1 x.2.2.2.2.2.2.2.2.2.2.2) (([] : List FlipT), ([] : List Int), (0 : Int), ([] : List Int), c.W, c.H, c.Planes, c.Color.Matrix, c.Color.Curve, ([] : List Int), (0 : Int), (0 : Int)) = some (.inl (pend fs s, sig, (fs.length : Int), evs s, fs, (s : Int))) := e1
  have hle := g.le
  have hl24 := g.len
  have hel : (evs s).length = s := by simp [evs]
  have hl := allLoop (L := fun v => laws_FnFlipsOnce_L1 (evs s) (s : Int) v) s (by omega) (fun _ => true) false (fun k hk _ => by
    show laws_FnFlipsOnce_L1 (evs s) (s : Int) (k : Int) = _
    have hg : laws_get (evs s) (k : Int) = some (k : Int) := by
      unfold laws_get
      have hk' : k < (evs s).length := by rw [hel]; exact hk
      rw [ifO_neg (by rw [hel]; simp; omega), idx_lt hk', bnd_s]
      simp [evs]
    unfold laws_FnFlipsOnce_L1
    rw [ifO_pos (by simpa using hk), hg, bnd_s, ifO_neg (by simp)]) (fun k hk h => by cases h) (by
    show laws_FnFlipsOnce_L1 (evs s) (s : Int) (s : Int) = _
    unfold laws_FnFlipsOnce_L1
    rw [ifO_neg (by simp)])
  have hok := i_FlipsOk _ (st_sm g)
  rw [st_ok g] at hok
  have hok' : impl_FlipsOk (FlipsT.mk (pend fs s) sig (fs.length : Int) (evs s)) = some true := hok
  rw [h1, bnd_s]
  simp only []
  rw [e1', bnd_s, fork_inl]
  simp only []
  rw [hl, if_pos (by simp), bnd_s, fork_inl, hok', hel]
  simp [andO]
end Go.Proofs.YtmhalmnbgkpmnaaGreat
