/- Links: an end of the program and one of the reference go the same way. -/
import Derived.Test.YtdmlhpojmpiigaaAmLink8
set_option linter.unusedVariables false
set_option linter.unusedSimpArgs false
namespace Go.Am
open Go
namespace Lk
def hm (h : List (List (List Int))) : List (List Int × List Int) := h.map fun x => (x.getD 0 [], x.getD 1 [])
structure HOk (g : Int) (h : List (List (List Int))) : Prop where
  key : ∀ x ∈ h, ∃ s : Int, x.getD 0 [] = [s] ∧ g < s
  nd : (h.map fun x => x.getD 0 []).Nodup
theorem hm_has {g : Int} {h : List (List (List Int))} (hh : HOk g h) (s : Int) : mhas (hm h) [s] = decide (0 ≤ rfind h s) := by
  unfold rfind
  rw [Bool.eq_iff_iff, decide_eq_true_eq]
  unfold mhas hm
  rw [List.any_eq_true]
  rcases findN_spec h s 0 with ⟨h1, h2⟩ | ⟨q, h1, h2, h3, h4⟩
  · rw [h1]
    refine ⟨fun ⟨x, hx, hk⟩ => ?_, fun h => by omega⟩
    obtain ⟨y, hy, rfl⟩ := List.mem_map.1 hx
    simp only [beq_iff_eq] at hk
    exact absurd (by rw [hk]; rfl) (h2 y hy)
  · rw [h1]
    refine ⟨fun _ => by omega, fun _ => ?_⟩
    have hm : h.getD q [] ∈ h := by rw [List.getD_eq_getElem?_getD, List.getElem?_eq_getElem h2]; exact List.getElem_mem _
    refine ⟨_, List.mem_map.2 ⟨h.getD q [], hm, rfl⟩, ?_⟩
    obtain ⟨s', hs, _⟩ := hh.key _ hm
    rw [hs] at h3
    simp only [beq_iff_eq]
    rw [hs]
    simpa using h3
theorem hm_at {g : Int} : ∀ {h : List (List (List Int))} (hh : HOk g h) {s : Int} {q : Nat}, q < h.length → ((h.getD q []).getD 0 []).getD 0 0 = s →
    mget [] (hm h) [s] = (h.getD q []).getD 1 [] ∧ mdel (hm h) [s] = hm (h.take q ++ h.drop (q + 1))
  | [], hh, s, q, hq, _ => by simp at hq
  | x :: h, hh, s, 0, _, hx => by
    obtain ⟨s', hs, _⟩ := hh.key x (.head _)
    simp only [List.getD_cons_zero] at hx ⊢
    rw [hs] at hx
    simp only [List.getD_cons_zero] at hx
    subst hx
    have hn := hh.nd
    rw [List.map_cons, List.nodup_cons] at hn
    refine ⟨by simp only [hm, List.map_cons, mget, hs, beq_self_eq_true, cond_true], ?_⟩
    simp only [hm, mdel, List.map_cons, List.take_zero, List.nil_append, List.drop_succ_cons, List.drop_zero]
    rw [List.filter_cons_of_neg (by show ¬ (!(x.getD 0 [] == [s'])) = true; rw [hs]; simp), List.filter_eq_self.2]
    intro y hy
    obtain ⟨z, hz, rfl⟩ := List.mem_map.1 hy
    simp only [Bool.not_eq_true', beq_eq_false_iff_ne]
    intro hk
    exact hn.1 (List.mem_map.2 ⟨z, hz, by rw [hs]; exact hk⟩)
  | x :: h, hh, s, q + 1, hq, hx => by
    have hn := hh.nd
    rw [List.map_cons, List.nodup_cons] at hn
    have hh' : HOk g h := ⟨fun y hy => hh.key y (.tail _ hy), hn.2⟩
    simp only [List.getD_cons_succ, List.length_cons] at hx hq ⊢
    obtain ⟨h1, h2⟩ := hm_at hh' (s := s) (q := q) (by omega) hx
    have hmem : h.getD q [] ∈ h := by rw [List.getD_eq_getElem?_getD, List.getElem?_eq_getElem (by omega)]; exact List.getElem_mem _
    obtain ⟨s', hs, _⟩ := hh'.key _ hmem
    have hne : x.getD 0 [] ≠ [s] := by
      intro hk
      refine hn.1 (List.mem_map.2 ⟨h.getD q [], hmem, ?_⟩)
      rw [hk, hs]; rw [hs] at hx; simpa using hx
    refine ⟨?_, ?_⟩
    · simp only [hm, List.map_cons, mget]
      rw [show (x.getD 0 [] == [s]) = false by simpa using hne, cond_false]
      exact h1
    · simp only [hm, List.map_cons, mdel, List.take_succ_cons, List.cons_append, List.drop_succ_cons]
      rw [List.filter_cons_of_pos (by simpa using hne)]
      exact congrArg _ h2
theorem hm_put {k v : List Int} : ∀ {h : List (List (List Int))}, mhas (hm h) k = false → mput (hm h) k v = hm (h ++ [[k, v]])
  | [], _ => rfl
  | x :: h, hh => by
    simp only [hm, mhas, List.map_cons, List.any_cons, Bool.or_eq_false_iff] at hh
    simp only [hm, List.map_cons, mput, List.cons_append]
    rw [hh.1, cond_false]
    exact congrArg _ (hm_put (h := h) hh.2)
structure Rel (g : Int) (e : E) (r : R) : Prop where
  win : e.win = r.win ∧ 0 < r.win ∧ r.win < 17
  key : e.key = r.key
  wait : e.wait = r.sent.drop r.ack.toNat
  ack : e.ack = r.ack ∧ 0 ≤ r.ack ∧ r.ack ≤ r.sent.length
  del : e.del = r.got ∧ 0 ≤ r.got
  owes : e.owes = r.owes
  forged : e.forged = r.forged ∧ 0 ≤ r.forged
  held : e.held = hm r.held
  hok : HOk g r.held
structure Bd (i : Nat) (r : R) : Prop where
  sent : r.sent.length ≤ i ∧ ∀ b ∈ r.sent, b.length ≤ 2
  got : r.got + r.held.length ≤ i
  forged : r.forged ≤ i
theorem Rel.rooms {g : Int} {e : E} {r : R} {i : Nat} (h : Rel g e r) (hb : Bd i r) (hi : i < 900) : room e = true ∧ rfine r.held.length r = true := by
  have h1 := h.win
  have h2 := h.ack
  have h3 := h.del
  have h4 := h.forged
  have b1 := hb.sent
  have b2 := hb.got
  have b3 := hb.forged
  refine ⟨fineN_iff.2 ⟨by rw [h1.1]; exact h1.2, ⟨by omega, by omega⟩, ⟨by omega, by omega⟩, ⟨by omega, by omega⟩, by rw [h.wait, List.length_drop]; omega, fun b hb' => ?_, by rw [h.held]; unfold hm; rw [List.length_map]; omega⟩, rfineN_iff.2 ⟨rfl, h1.2, h2.2, ⟨h3.2, by omega⟩, ⟨h4.2, by omega⟩, by omega, fun b hb' => ?_, by omega⟩⟩
  · rw [h.wait] at hb'
    have := b1.2 b (List.mem_of_mem_drop hb'); omega
  · have := b1.2 b hb'; omega
theorem rel_send {g : Int} {e : E} {r : R} {i : Nat} (h : Rel g e r) (hb : Bd i r) (hi : i < 900) {b : List Int} (hl : b.length ≤ 2) : (send e b).2 = 0 ∧ (rsend r b).2 = 0 ∧ Rel g (send e b).1 (rsend r b).1 ∧ Bd (i + 1) (rsend r b).1 := by
  have h2 := h.ack
  have b1 := hb.sent
  have hw : e.wait.length = r.sent.length - r.ack.toNat := by rw [h.wait, List.length_drop]
  have e1 : send e b = ({ e with wait := e.wait ++ [b] }, 0) := send_ok (by omega) (by omega)
  have e2 : rsend r b = ({ r with sent := r.sent ++ [b] }, 0) := by unfold rsend; rw [if_neg (by omega)]
  rw [e1, e2]
  refine ⟨rfl, rfl, ⟨h.win, h.key, ?_, ⟨h2.1, h2.2.1, by show r.ack ≤ ((r.sent ++ [b]).length : Int); rw [List.length_append]; push_cast; omega⟩, h.del, h.owes, h.forged, h.held, h.hok⟩, ⟨⟨by show (r.sent ++ [b]).length ≤ _; rw [List.length_append]; simp only [List.length_cons, List.length_nil]; omega, fun x hx => ?_⟩, by have := hb.got; show r.got + r.held.length ≤ _; push_cast; omega, by have := hb.forged; show r.forged ≤ _; push_cast; omega⟩⟩
  · show e.wait ++ [b] = (r.sent ++ [b]).drop r.ack.toNat
    rw [h.wait, List.drop_append_of_le_length (by omega)]
  · rcases List.mem_append.1 hx with hx | hx
    · exact b1.2 x hx
    · rw [List.mem_singleton.1 hx]; exact hl
theorem Bd.next {i : Nat} {r : R} (h : Bd i r) : Bd (i + 1) r := ⟨⟨by have := h.sent.1; omega, h.sent.2⟩, by have := h.got; push_cast; omega, by have := h.forged; push_cast; omega⟩
theorem rel_out {g : Int} {e : E} {r : R} {i : Nat} (h : Rel g e r) (hb : Bd i r) : outs e = routs r ∧ Rel g (out e).1 (rout r) ∧ Bd (i + 1) (rout r) := by
  refine ⟨?_, ⟨h.win, h.key, h.wait, h.ack, h.del, rfl, h.forged, h.held, h.hok⟩, ⟨hb.next.sent, hb.next.got, hb.next.forged⟩⟩
  unfold outs routs
  rw [h.key, h.ack.1, h.del.1, h.wait, h.win.1, h.owes]
theorem rel_del : ∀ (n : Nat) {e : E} {r : R} (l : List (List Int)), Rel r.got e r → r.held.length ≤ n → (delv n e l).2 = (rdel (n + 1) r l).2 ∧ Rel ((rdel (n + 1) r l).1.got + 1) (delv n e l).1 (rdel (n + 1) r l).1 ∧
    (rdel (n + 1) r l).1.sent = r.sent ∧ (rdel (n + 1) r l).1.forged = r.forged ∧ (rdel (n + 1) r l).1.got + (rdel (n + 1) r l).1.held.length = r.got + r.held.length
  | n, e, r, l, h, hn => by
    have hd := h.del
    rw [rdel]
    by_cases hq : 0 ≤ rfind r.held (r.got + 1)
    · rw [if_pos hq]
      obtain ⟨q, hqq⟩ : ∃ q : Nat, rfind r.held (r.got + 1) = q := ⟨(rfind r.held (r.got + 1)).toNat, by omega⟩
      have hmh : mhas e.held [e.del + 1] = true := by rw [h.held, hd.1, hm_has h.hok]; simpa using hq
      rw [hqq, Int.toNat_natCast]
      have hsp := findN_spec r.held (r.got + 1) 0
      unfold rfind at hqq
      rcases hsp with ⟨h1, _⟩ | ⟨q', h1, h2, h3, _⟩
      · rw [h1] at hqq; omega
      obtain rfl : q = q' := by rw [h1] at hqq; omega
      obtain ⟨g1, g2⟩ := hm_at h.hok h2 h3
      have hlen : (r.held.take q ++ r.held.drop (q + 1)).length + 1 = r.held.length := by rw [List.length_append, List.length_take, List.length_drop]; omega
      cases n with
      | zero => omega
      | succ n =>
        simp only [delv]
        rw [hmh, cond_true]
        have hR : Rel (r.got + 1) { e with del := e.del + 1, held := mdel e.held [e.del + 1] } { r with got := r.got + 1, held := r.held.take q ++ r.held.drop (q + 1) } := by
          refine ⟨h.win, h.key, h.wait, h.ack, ⟨by show e.del + 1 = r.got + 1; omega, by show 0 ≤ r.got + 1; omega⟩, h.owes, h.forged, by show mdel e.held [e.del + 1] = _; rw [h.held, hd.1]; exact g2, ⟨fun x hx => ?_, ?_⟩⟩
          · have hx' : x ∈ r.held := by
              rcases List.mem_append.1 hx with hx | hx
              · exact List.mem_of_mem_take hx
              · exact List.mem_of_mem_drop hx
            obtain ⟨s, s1, s2⟩ := h.hok.key x hx'
            refine ⟨s, s1, ?_⟩
            by_cases hs : s = r.got + 1
            · exfalso
              have : ((x.getD 0 [], x.getD 1 []) : List Int × List Int) ∈ mdel (hm r.held) [r.got + 1] := by rw [g2]; exact List.mem_map.2 ⟨x, hx, rfl⟩
              exact (mem_mdel.1 this).2 (by rw [s1, hs])
            · omega
          · refine List.Nodup.sublist ?_ h.hok.nd
            refine List.Sublist.map _ ?_
            have e1 := (List.take_append_drop q r.held).symm
            conv => rhs; rw [e1]
            refine List.Sublist.append (List.Sublist.refl _) ?_
            rw [show r.held.drop (q + 1) = (r.held.drop q).drop 1 by rw [List.drop_drop]]
            exact List.drop_sublist 1 _
        have ih := rel_del n (r := { r with got := r.got + 1, held := r.held.take q ++ r.held.drop (q + 1) }) (l ++ [mget [] e.held [e.del + 1]]) hR (by show (r.held.take q ++ r.held.drop (q + 1)).length ≤ n; omega)
        have hv : mget [] e.held [e.del + 1] = (r.held.getD q []).getD 1 [] := by rw [h.held, hd.1]; exact g1
        rw [hv] at ih ⊢
        obtain ⟨i1, i2, i3, i4, i5⟩ := ih
        exact ⟨i1, i2, i3, i4, by simp only at i5; omega⟩
    · rw [if_neg hq]
      have hmh : mhas e.held [e.del + 1] = false := by rw [h.held, hd.1, hm_has h.hok]; simpa using hq
      rw [delv_spec n e l (by rw [h.held]; unfold hm; rw [List.length_map]; exact hn) hmh]
      refine ⟨rfl, ⟨h.win, h.key, h.wait, h.ack, h.del, h.owes, h.forged, h.held, ⟨fun x hx => ?_, h.hok.nd⟩⟩, rfl, rfl, rfl⟩
      obtain ⟨s, s1, s2⟩ := h.hok.key x hx
      refine ⟨s, s1, ?_⟩
      by_cases hs : s = r.got + 1
      · exfalso
        refine hq ?_
        unfold rfind
        rcases findN_spec r.held (r.got + 1) 0 with ⟨_, h2⟩ | ⟨q', h1, _⟩
        · exact absurd (by rw [s1, hs]; rfl) (h2 x hx)
        · rw [h1]; omega
      · show r.got + 1 < s; omega
theorem rel_take {e : E} {r : R} {i : Nat} (h : Rel (r.got + 1) e r) (hb : Bd i r) (s a : Int) (b : List Int) :
    (take e s a b).2 = (rtake r s a b).2 ∧ Rel ((rtake r s a b).1.got + 1) (take e s a b).1 (rtake r s a b).1 ∧ Bd (i + 1) (rtake r s a b).1 := by
  have h2 := h.ack
  have hd := h.del
  have hw : e.ack + (e.wait.length : Int) = r.sent.length := by rw [h.wait, List.length_drop]; omega
  unfold take rtake
  by_cases hf : (r.sent.length : Int) < a ∨ r.got + 16 < s
  · rw [if_pos (by omega), if_pos hf]
    exact ⟨rfl, h, hb.next⟩
  rw [if_neg (by omega), if_neg hf]
  have hA : Rel (r.got + 1) (acked e a) (racked r a) := by
    unfold acked racked
    by_cases ha : 0 < a - e.ack
    · rw [if_pos ha]
      simp only [if_pos (show a > r.ack by omega)]
      refine ⟨h.win, h.key, ?_, ⟨rfl, by show 0 ≤ a; omega, by show a ≤ (r.sent.length : Int); omega⟩, h.del, h.owes, h.forged, h.held, h.hok⟩
      show e.wait.drop (a - e.ack).toNat = r.sent.drop a.toNat
      rw [h.wait, List.drop_drop, show r.ack.toNat + (a - e.ack).toNat = a.toNat by omega]
    · rw [if_neg ha]
      simp only [if_neg (show ¬ a > r.ack by omega)]
      exact h
  by_cases hs : s = 0
  · rw [if_pos hs, if_pos hs]
    exact ⟨rfl, hA, ⟨hb.next.sent, hb.next.got, hb.next.forged⟩⟩
  rw [if_neg hs, if_neg hs]
  have hO : Rel (r.got + 1) { acked e a with owes := true } { racked r a with owes := true } := ⟨hA.win, hA.key, hA.wait, hA.ack, hA.del, rfl, hA.forged, hA.held, hA.hok⟩
  have ed : (acked e a).del = e.del := by unfold acked; split <;> rfl
  have eh : (acked e a).held = e.held := by unfold acked; split <;> rfl
  unfold rhold
  by_cases hn : s ≤ r.got ∨ 0 ≤ rfind r.held s
  · rw [if_pos (by exact hn)]
    have hh : hold { acked e a with owes := true } s b = { acked e a with owes := true } := by
      unfold hold
      rw [if_neg]
      rintro ⟨h3, h4⟩
      simp only at h3 h4
      rw [ed] at h3
      rw [eh, h.held, hm_has h.hok] at h4
      simp only [decide_eq_false_iff_not] at h4
      rcases hn with hn | hn <;> omega
    rw [hh]
    have hmh : mhas (acked e a).held [(acked e a).del + 1] = false := by
      rw [eh, ed, h.held, hd.1, hm_has h.hok]
      simp only [decide_eq_false_iff_not]
      unfold rfind
      rcases findN_spec r.held (r.got + 1) 0 with ⟨h1, _⟩ | ⟨q, h1, h3, h4, _⟩
      · rw [h1]; omega
      · exfalso
        have hmem : r.held.getD q [] ∈ r.held := by rw [List.getD_eq_getElem?_getD, List.getElem?_eq_getElem h3]; exact List.getElem_mem _
        obtain ⟨s', s1, s2⟩ := h.hok.key _ hmem
        rw [s1] at h4
        simp only [List.getD_cons_zero] at h4
        omega
    unfold deliver
    have hdl := delv_spec (acked e a).held.length { acked e a with owes := true } [] (Nat.le_refl _) hmh
    refine ⟨congrArg Prod.snd hdl, ?_, ⟨hb.next.sent, hb.next.got, hb.next.forged⟩⟩
    have h1 := congrArg Prod.fst hdl
    show Rel (r.got + 1) (delv (acked e a).held.length { acked e a with owes := true } []).1 _
    rw [h1]
    exact hO
  · rw [if_neg (by exact hn)]
    have hno : mhas e.held [s] = false := by
      rw [h.held, hm_has h.hok]; simp only [decide_eq_false_iff_not]; omega
    have hh : hold { acked e a with owes := true } s b = { acked e a with owes := true, held := mput e.held [s] b } := by
      unfold hold
      rw [if_pos ⟨by show (acked e a).del < s; rw [ed]; omega, by show mhas (acked e a).held [s] = false; rw [eh]; exact hno⟩]
      simp only [eh]
    rw [hh]
    have hput : mput e.held [s] b = hm (r.held ++ [[[s], b]]) := by rw [h.held] at hno ⊢; exact hm_put hno
    have hlen : (mput e.held [s] b).length = r.held.length + 1 := by rw [hput]; unfold hm; simp
    have hR : Rel r.got { acked e a with owes := true, held := mput e.held [s] b } { racked r a with owes := true, held := r.held ++ [[[s], b]] } := by
      refine ⟨hA.win, hA.key, hA.wait, hA.ack, hA.del, rfl, hA.forged, hput, ⟨fun x hx => ?_, ?_⟩⟩
      · rcases List.mem_append.1 hx with hx | hx
        · obtain ⟨s', s1, s2⟩ := h.hok.key x hx
          exact ⟨s', s1, by omega⟩
        · rw [List.mem_singleton.1 hx]; exact ⟨s, rfl, by omega⟩
      · rw [List.map_append, List.nodup_append]
        refine ⟨h.hok.nd, by simp, fun x hx y hy => ?_⟩
        obtain ⟨z, hz, rfl⟩ := List.mem_map.1 hx
        simp only [List.map_cons, List.map_nil, List.mem_singleton] at hy
        subst hy
        intro he
        have : mhas e.held [s] = true := by
          rw [h.held]
          exact mhas_of (p := (z.getD 0 [], z.getD 1 [])) (List.mem_map.2 ⟨z, hz, rfl⟩) (by simpa using he)
        rw [hno] at this; cases this
    have key := rel_del (r.held.length + 1) (r := { racked r a with owes := true, held := r.held ++ [[[s], b]] }) [] hR (by show (r.held ++ [[[s], b]]).length ≤ _; simp)
    unfold deliver
    rw [show ({ acked e a with owes := true, held := mput e.held [s] b } : E).held.length = r.held.length + 1 from hlen]
    obtain ⟨k1, k2, k3, k4, k5⟩ := key
    have hB : Bd (i + 1) (rdel (r.held.length + 1 + 1) { racked r a with owes := true, held := r.held ++ [[[s], b]] } []).1 := by
      refine ⟨?_, ?_, ?_⟩
      · rw [k3]; exact hb.next.sent
      · rw [k5]
        have := hb.got
        show r.got + ((r.held ++ [[[s], b]]).length : Int) ≤ _
        rw [List.length_append]
        simp only [List.length_cons, List.length_nil]
        push_cast; omega
      · rw [k4]; exact hb.next.forged
    exact ⟨k1, k2, hB⟩
theorem rel_recv {e : E} {r : R} {i : Nat} (h : Rel (r.got + 1) e r) (hb : Bd i r) (b : List Int) :
    (recv e b).2 = (rrecv r b).2 ∧ Rel ((rrecv r b).1.got + 1) (recv e b).1 (rrecv r b).1 ∧ Bd (i + 1) (rrecv r b).1 := by
  have hkey := h.key
  unfold recv rrecv
  rw [h.key]
  by_cases h0 : (openB r.key b).2 = 0
  · rw [if_pos h0, if_pos h0]
    by_cases hv : (rd (openB r.key b).1).2.2.2 = true
    · rw [if_pos hv, if_pos hv]
      obtain ⟨k1, k2, k3⟩ := rel_take h hb (rd (openB r.key b).1).1 (rd (openB r.key b).1).2.1 (rd (openB r.key b).1).2.2.1
      exact ⟨by rw [k1], k2, k3⟩
    · rw [if_neg hv, if_neg hv]
      exact ⟨rfl, h, hb.next⟩
  · rw [if_neg h0, if_neg h0]
    refine ⟨rfl, ?_, ?_⟩
    · by_cases h9 : (openB r.key b).2 = 9
      · rw [if_pos h9, if_pos h9]
        exact ⟨h.win, rfl, h.wait, h.ack, h.del, h.owes, ⟨by show e.forged + 1 = r.forged + 1; rw [h.forged.1], by show 0 ≤ r.forged + 1; have := h.forged.2; omega⟩, h.held, h.hok⟩
      · rw [if_neg h9, if_neg h9]; exact h
    · by_cases h9 : (openB r.key b).2 = 9
      · rw [if_pos h9]
        exact ⟨hb.next.sent, hb.next.got, by have := hb.forged; show r.forged + 1 ≤ _; push_cast; omega⟩
      · rw [if_neg h9]; exact hb.next
theorem rel_start {w key : Int} (hw : 0 < w ∧ w < 17) : Rel 1 (E.mk w key [] 0 0 [] false 0) (R.mk w key [] 0 0 [] false 0) ∧ Bd 0 (R.mk w key [] 0 0 [] false 0) :=
  ⟨⟨⟨rfl, hw⟩, rfl, rfl, ⟨rfl, Int.le_refl _, Int.le_refl _⟩, ⟨rfl, Int.le_refl _⟩, rfl, ⟨rfl, Int.le_refl _⟩, rfl, ⟨(fun x hx => by simp at hx), List.nodup_nil⟩⟩, ⟨⟨Nat.le_refl _, (fun b hb => by simp at hb)⟩, Int.le_refl _, Int.le_refl _⟩⟩
end Lk
end Go.Am
