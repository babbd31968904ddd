/- Part of a proof about the functions of the given program. -/
import Derived.Test.YtgdibbphgdkllaaAmReg
set_option linter.unusedVariables false
set_option linter.unusedSimpArgs false
namespace Go.Am
open Go
namespace Reg
theorem groups_len (l : List Int) (n many : Nat) : (groups l n many).length ≤ many := by
  unfold groups
  refine Nat.le_trans (List.length_filter_le _ _) ?_
  rw [List.length_map, List.length_range]; exact Nat.le_refl _
theorem groups_mem {l : List Int} {n many : Nat} {x : List Int} (h : x ∈ groups l n many) : 0 < x.length ∧ x.length ≤ n ∧ ∃ q : Nat, q < many ∧ x = cls l ((many : Int) + 1) n n (q : Int) := by
  unfold groups at h
  rw [List.mem_filter, List.mem_map] at h
  obtain ⟨⟨q, hq, rfl⟩, h2⟩ := h
  rw [List.mem_range] at hq
  exact ⟨of_decide_eq_true h2, cls_len _ _ _ _ _, q, hq, rfl⟩
theorem groups_nonempty {l : List Int} {n many : Nat} (hn : n < 1073741000) : nonempty (groups l n many) = true := by
  unfold nonempty
  rw [List.all_eq_true]
  intro x hx
  obtain ⟨h1, h2, _⟩ := groups_mem hx
  simp only [Bool.and_eq_true, decide_eq_true_eq]
  omega
theorem owners_len (l : List Int) (n : Nat) (h : Int) : (owners l n h).length = n := by
  unfold owners; rw [List.length_map, List.length_range]
theorem ups_len (n : Int) (h : Nat) : (ups n h).length = h := by
  unfold ups; rw [List.length_map, List.length_range]
theorem mark_get {n : Nat} : ∀ {g : List Int} {met : List Bool}, inr n g = true → met.length = n → ∀ d : Int, 0 ≤ d → d < (n : Int) → (mark g met).getD d.toNat false = (decide (d ∈ g) || met.getD d.toNat false)
  | [], met, _, _, d, _, _ => by simp [mark]
  | e :: g, met, hi, hn, d, h0, h1 => by
    have hi' := inr_iff.1 hi
    have he := hi' e (List.mem_cons_self ..)
    have ih := mark_get (g := g) (met := met.set e.toNat true) (inr_iff.2 fun x hx => hi' x (List.mem_cons_of_mem _ hx)) (by rw [List.length_set]; exact hn) d h0 h1
    simp only [mark, List.foldl_cons] at ih ⊢
    rw [ih]
    by_cases hd : d = e
    · subst hd
      have : (met.set d.toNat true).getD d.toNat false = true := by
        rw [List.getD_eq_getElem?_getD, List.getElem?_set]; simp [show d.toNat < met.length by omega]
      rw [this]; simp
    · have : (met.set e.toNat true).getD d.toNat false = met.getD d.toNat false := by
        rw [List.getD_eq_getElem?_getD, List.getElem?_set, if_neg (by omega), List.getD_eq_getElem?_getD]
      rw [this]
      simp [hd]
theorem vg_facts {n : Nat} : ∀ {g : List Int} {met m : List Bool}, vg n g met = some m → met.length = n → (∀ d ∈ g, (0 ≤ d ∧ d < (n : Int)) ∧ met.getD d.toNat false = false) ∧ g.Nodup
  | [], _, _, _, _ => ⟨fun d h => by simp at h, List.nodup_nil⟩
  | e :: g, met, m, h, hn => by
    simp only [vg] at h
    split at h
    · contradiction
    · rename_i hd
      unfold bad at hd
      have hf : met.getD e.toNat false = false := by
        cases hc : met.getD e.toNat false with
        | false => rfl
        | true => exact absurd (.inr (.inr hc)) hd
      obtain ⟨h1, h2⟩ := vg_facts h (by rw [List.length_set]; exact hn)
      have hne : ∀ d ∈ g, d ≠ e ∧ met.getD d.toNat false = false := fun d hd' => by
        have h3 := h1 d hd'
        have : d ≠ e := by
          rintro rfl
          have h4 := h3.2
          rw [List.getD_eq_getElem?_getD, List.getElem?_set] at h4
          simp [show d.toNat < met.length by omega] at h4
        refine ⟨this, ?_⟩
        have h4 := h3.2
        rw [List.getD_eq_getElem?_getD, List.getElem?_set, if_neg (by omega), ← List.getD_eq_getElem?_getD] at h4
        exact h4
      refine ⟨fun d hd' => ?_, List.nodup_cons.2 ⟨fun hm => (hne e hm).1 rfl, h2⟩⟩
      rcases List.mem_cons.1 hd' with rfl | hd'
      · exact ⟨by omega, hf⟩
      · exact ⟨(h1 d hd').1, (hne d hd').2⟩
theorem vgs_facts {n : Nat} : ∀ {gs : List (List Int)} {met m : List Bool}, vgs n gs met = some m → met.length = n → (∀ d ∈ gs.flatten, (0 ≤ d ∧ d < (n : Int)) ∧ met.getD d.toNat false = false) ∧ gs.flatten.Nodup
  | [], _, _, _, _ => ⟨fun d h => by simp at h, List.nodup_nil⟩
  | g :: gs, met, m, h, hn => by
    simp only [vgs] at h
    split at h
    · contradiction
    · split at h <;> try contradiction
      rename_i m1 hm1
      obtain ⟨h1, h2⟩ := vg_facts hm1 hn
      have hm := vg_mark hm1
      have hl := (vg_count hm1 hn).2
      obtain ⟨h3, h4⟩ := vgs_facts h hl
      have hi : inr n g = true := inr_iff.2 fun d hd => (h1 d hd).1
      have hk : ∀ d ∈ gs.flatten, d ∉ g ∧ met.getD d.toNat false = false := fun d hd => by
        have h5 := h3 d hd
        have h6 := mark_get hi hn d h5.1.1 h5.1.2
        rw [← hm, h5.2] at h6
        have h7 := h6.symm
        rw [Bool.or_eq_false_iff, decide_eq_false_iff_not] at h7
        exact h7
      rw [List.flatten_cons]
      refine ⟨fun d hd => ?_, List.nodup_append.2 ⟨h2, h4, fun a ha b hb hab => ?_⟩⟩
      · rcases List.mem_append.1 hd with hd | hd
        · exact h1 d hd
        · exact ⟨(h3 d hd).1, (hk d hd).2⟩
      · subst hab; exact (hk a hb).1 ha
theorem vg_some {n : Nat} : ∀ {g : List Int} {met : List Bool}, met.length = n → (∀ d ∈ g, (0 ≤ d ∧ d < (n : Int)) ∧ met.getD d.toNat false = false) → g.Nodup → ∃ m, vg n g met = some m
  | [], met, _, _, _ => ⟨met, rfl⟩
  | e :: g, met, hn, h, hd => by
    obtain ⟨h1, h2⟩ := List.nodup_cons.1 hd
    have he := h e (List.mem_cons_self ..)
    simp only [vg]
    rw [if_neg (by
      unfold bad
      rintro (h3 | h3 | h3)
      · omega
      · omega
      · rw [he.2] at h3; cases h3)]
    refine vg_some (by rw [List.length_set]; exact hn) (fun d hd' => ?_) h2
    have h3 := h d (List.mem_cons_of_mem _ hd')
    refine ⟨h3.1, ?_⟩
    have hne : d ≠ e := by rintro rfl; exact h1 hd'
    rw [List.getD_eq_getElem?_getD, List.getElem?_set, if_neg (by omega), ← List.getD_eq_getElem?_getD]
    exact h3.2
theorem vgs_some {n : Nat} : ∀ {gs : List (List Int)} {met : List Bool}, met.length = n → (∀ d ∈ gs.flatten, (0 ≤ d ∧ d < (n : Int)) ∧ met.getD d.toNat false = false) → gs.flatten.Nodup → (∀ x ∈ gs, 0 < x.length) → ∃ m, vgs n gs met = some m
  | [], met, _, _, _, _ => ⟨met, rfl⟩
  | g :: gs, met, hn, h, hd, hx => by
    rw [List.flatten_cons] at h hd
    obtain ⟨h1, h2, h3⟩ := List.nodup_append.1 hd
    obtain ⟨m1, hm1⟩ := vg_some (g := g) hn (fun d hd' => h d (List.mem_append_left _ hd')) h1
    have hg := hx g (List.mem_cons_self ..)
    simp only [vgs]
    rw [if_neg (by omega), hm1]
    have hi : inr n g = true := inr_iff.2 fun d hd => (h d (List.mem_append_left _ hd)).1
    refine vgs_some (vg_count hm1 hn).2 (fun d hd' => ?_) h2 fun x hx' => hx x (List.mem_cons_of_mem _ hx')
    have h4 := h d (List.mem_append_right _ hd')
    refine ⟨h4.1, ?_⟩
    rw [vg_mark hm1, mark_get hi hn d h4.1.1 h4.1.2, h4.2]
    have : d ∉ g := fun hm => h3 d hm d hd' rfl
    simp [this]
theorem cls_mem {l : List Int} {m : Int} {n : Nat} {q d : Int} (h : d ∈ cls l m n n q) : (0 ≤ d ∧ d < (n : Int)) ∧ at_ l d m = q := by
  unfold cls at h
  rw [List.mem_filter, List.mem_map] at h
  obtain ⟨⟨t, ht, rfl⟩, h2⟩ := h
  rw [List.mem_range] at ht
  exact ⟨by omega, of_decide_eq_true h2⟩
theorem cls_nodup (l : List Int) (m : Int) (n : Nat) (q : Int) : (cls l m n n q).Nodup := by
  unfold cls
  refine List.Pairwise.filter _ (List.pairwise_map.2 (List.pairwise_lt_range.imp fun h => ?_))
  omega
theorem groups_disj (l : List Int) (n many : Nat) : (groups l n many).flatten.Nodup := by
  refine List.pairwise_flatten.2 ⟨fun x hx => ?_, ?_⟩
  · obtain ⟨_, _, q, _, rfl⟩ := groups_mem hx
    exact cls_nodup _ _ _ _
  · unfold groups
    refine List.Pairwise.filter _ (List.pairwise_map.2 (List.pairwise_lt_range.imp fun {a b} h x hx y hy hxy => ?_))
    have h1 := (cls_mem hx).2
    have h2 := (cls_mem hy).2
    subst hxy
    omega
theorem groups_vgs (l : List Int) (n many : Nat) : ∃ m, vgs n (groups l n many) (List.replicate n false) = some m := by
  refine vgs_some List.length_replicate (fun d hd => ?_) (groups_disj l n many) fun x hx => (groups_mem hx).1
  obtain ⟨x, hx, hd⟩ := List.mem_flatten.1 hd
  obtain ⟨_, _, q, _, rfl⟩ := groups_mem hx
  refine ⟨(cls_mem hd).1, ?_⟩
  rw [List.getD_eq_getElem?_getD, List.getElem?_replicate]; split <;> rfl
theorem owners_mem {l : List Int} {n : Nat} {h : Int} (hh : 0 ≤ h) {x : Int} (hx : x ∈ owners l n h) : -1 ≤ x ∧ x < h := by
  unfold owners at hx
  obtain ⟨d, _, rfl⟩ := List.mem_map.1 hx
  have := at_lt (l := l) (i := (d : Int)) (show (0 : Int) < h + 1 by omega)
  omega
theorem valid_of {g : List (List Int)} {n : Nat} {o : List Int} {u : List Bool} (h1 : 1 ≤ u.length) (h2 : u.length ≤ 6) (h3 : ∃ m, vgs n g (List.replicate n false) = some m) (h4 : ∀ x ∈ o, -1 ≤ x ∧ x < (u.length : Int)) : valid g n o u = true := by
  obtain ⟨m, hm⟩ := h3
  simp only [valid, Bool.and_eq_true, decide_eq_true_eq, hm, Option.isSome_some, List.all_eq_true, okO]
  refine ⟨⟨h1, h2⟩, trivial, fun x hx => ?_⟩
  have := h4 x hx
  omega
theorem valid_vgs {g : List (List Int)} {n : Nat} {o : List Int} {u : List Bool} (h : valid g n o u = true) : ∃ m, vgs n g (List.replicate n false) = some m := by
  simp only [valid, Bool.and_eq_true, Option.isSome_iff_exists] at h
  exact h.2.1
theorem valid_disj {g : List (List Int)} {n : Nat} {o : List Int} {u : List Bool} (h : valid g n o u = true) : g.flatten.Nodup := by
  obtain ⟨m, hm⟩ := valid_vgs h
  exact (vgs_facts hm List.length_replicate).2
theorem uniq : ∀ {gs : List (List Int)}, gs.flatten.Nodup → ∀ {x y : List Int} {d : Int}, x ∈ gs → y ∈ gs → d ∈ x → d ∈ y → x = y
  | [], _, x, y, d, hx, _, _, _ => by simp at hx
  | g :: gs, hd, x, y, d, hx, hy, dx, dy => by
    rw [List.flatten_cons] at hd
    obtain ⟨h1, h2, h3⟩ := List.nodup_append.1 hd
    rcases List.mem_cons.1 hx with e1 | hx' <;> rcases List.mem_cons.1 hy with e2 | hy'
    · rw [e1, e2]
    · rw [e1] at dx; exact absurd rfl (h3 d dx d (List.mem_flatten.2 ⟨y, hy', dy⟩))
    · rw [e2] at dy; exact absurd rfl (h3 d dy d (List.mem_flatten.2 ⟨x, hx', dx⟩))
    · exact uniq h2 hx' hy' dx dy
theorem put_get (h : Int) : ∀ (g out : List Int), inr out.length g = true → ∀ d : Int, 0 ≤ d → d < (out.length : Int) → (put h g out).getD d.toNat 0 = if d ∈ g then h else out.getD d.toNat 0
  | [], out, _, d, _, _ => by simp [put]
  | e :: g, out, hi, d, h0, h1 => by
    have hi' := inr_iff.1 hi
    have he := hi' e (List.mem_cons_self ..)
    have ih := put_get h g (out.set e.toNat h) (by rw [List.length_set]; exact inr_iff.2 fun x hx => hi' x (List.mem_cons_of_mem _ hx)) d h0 (by rw [List.length_set]; exact h1)
    simp only [put, List.foldl_cons] at ih ⊢
    rw [ih]
    by_cases hd : d = e
    · subst hd
      have : (out.set d.toNat h).getD d.toNat 0 = h := by
        rw [List.getD_eq_getElem?_getD, List.getElem?_set]; simp [show d.toNat < out.length by omega]
      rw [this]; simp
    · have : (out.set e.toNat h).getD d.toNat 0 = out.getD d.toNat 0 := by
        rw [List.getD_eq_getElem?_getD, List.getElem?_set, if_neg (by omega), List.getD_eq_getElem?_getD]
      rw [this]
      simp [hd]
/-- All groups are given away. -/
def putAll (f : List Int → Int) (gs : List (List Int)) (out : List Int) : List Int := gs.foldl (fun o x => put (f x) x o) out
theorem putAll_len (f : List Int → Int) : ∀ (gs : List (List Int)) (out : List Int), (putAll f gs out).length = out.length
  | [], _ => rfl
  | x :: gs, out => by
    have := putAll_len f gs (put (f x) x out)
    rw [put_len] at this
    exact this
theorem putAll_get (f : List Int → Int) : ∀ (gs : List (List Int)) (out : List Int), (∀ x ∈ gs, inr out.length x = true) → gs.flatten.Nodup → ∀ d : Int, 0 ≤ d → d < (out.length : Int) →
    (∀ x ∈ gs, d ∈ x → (putAll f gs out).getD d.toNat 0 = f x) ∧ ((∀ x ∈ gs, d ∉ x) → (putAll f gs out).getD d.toNat 0 = out.getD d.toNat 0)
  | [], out, _, _, d, _, _ => ⟨fun x hx => by simp at hx, fun _ => rfl⟩
  | y :: gs, out, hi, hn, d, h0, h1 => by
    rw [List.flatten_cons] at hn
    obtain ⟨n1, n2, n3⟩ := List.nodup_append.1 hn
    have hl := put_len (f y) y out
    have ih := putAll_get f gs (put (f y) y out) (fun x hx => by rw [hl]; exact hi x (List.mem_cons_of_mem _ hx)) n2 d h0 (by omega)
    have hp := put_get (f y) y out (hi y (List.mem_cons_self ..)) d h0 h1
    refine ⟨fun x hx hd => ?_, fun hd => ?_⟩
    · rcases List.mem_cons.1 hx with rfl | hx
      · have h5 : ∀ z ∈ gs, d ∉ z := fun z hz hdz => n3 d hd d (List.mem_flatten.2 ⟨z, hz, hdz⟩) rfl
        show (putAll f gs (put (f x) x out)).getD d.toNat 0 = f x
        rw [ih.2 h5, hp, if_pos hd]
      · exact ih.1 x hx hd
    · show (putAll f gs (put (f y) y out)).getD d.toNat 0 = _
      rw [ih.2 (fun x hx => hd x (List.mem_cons_of_mem _ hx)), hp, if_neg (hd y (List.mem_cons_self ..))]
theorem ownTo_all (g : List (List Int)) (old : List Int) (u : List Bool) : ownTo g old u g.length = putAll (fun x => best x old u) g old := by
  unfold ownTo putAll; rw [List.take_length]
theorem tkTo_all (o : List Int) (g : List (List Int)) (h : Int) (left : List Bool) (out : List Int) : tkTo o g h left out g.length = putAll (fun x => best x o left) (g.filter fun x => x.any fun d => o.getD d.toNat 0 == h) out := by
  unfold tkTo putAll; rw [List.take_length, List.foldl_filter]; rfl
theorem filter_disj {p : List Int → Bool} : ∀ {gs : List (List Int)}, gs.flatten.Nodup → (gs.filter p).flatten.Nodup := by
  intro gs h
  obtain ⟨h1, h2⟩ := List.pairwise_flatten.1 h
  exact List.pairwise_flatten.2 ⟨fun x hx => h1 x (List.mem_filter.1 hx).1, h2.filter _⟩
theorem first_left (u : List Bool) {h : Int} (h0 : 0 ≤ h) : first (u.set h.toNat false) ≠ h := by
  intro hb
  have := first_true (u := u.set h.toNat false) (by omega)
  rw [hb, List.getD_eq_getElem?_getD, List.getElem?_set] at this
  simp only [if_true] at this
  split at this <;> simp at this
/-- What Take leaves: nothing is the host's, and groups without a part of it are as before. -/
theorem take_facts {o : List Int} {g : List (List Int)} {h : Int} {u : List Bool} (he : (take o g h u).2 = 0) :
    valid g o.length o u = true ∧ 0 ≤ h ∧ (take o g h u).1.length = o.length ∧ (∀ i, i < o.length → (take o g h u).1.getD i 0 ≠ h) ∧
    ∀ x ∈ g, ¬ has x o h > 0 → ∀ d ∈ x, (take o g h u).1.getD d.toNat 0 = o.getD d.toNat 0 := by
  unfold take at he ⊢
  split at he
  · simp at he
  rename_i hb
  split at he
  · simp at he
  rename_i hc
  rw [if_neg hb, if_neg hc]
  have hv : valid g o.length o u = true := by
    cases hv : valid g o.length o u with
    | true => rfl
    | false => exact absurd (.inl hv) hb
  have h0 : 0 ≤ h := by omega
  have hl : (tkTo o g h (u.set h.toNat false) o g.length).length = o.length := tkTo_len ..
  have hm : ∀ i, i < o.length → ((tkTo o g h (u.set h.toNat false) o g.length).map (swp h (first (u.set h.toNat false)))).getD i 0 = swp h (first (u.set h.toNat false)) ((tkTo o g h (u.set h.toNat false) o g.length).getD i 0) := fun i hi => by
    rw [List.getD_eq_getElem?_getD, List.getD_eq_getElem?_getD, List.getElem?_map, List.getElem?_eq_getElem (by omega)]; rfl
  refine ⟨hv, h0, by rw [List.length_map, hl], fun i hi => ?_, fun x hx hz d hd => ?_⟩
  · show ((tkTo o g h (u.set h.toNat false) o g.length).map (swp h (first (u.set h.toNat false)))).getD i 0 ≠ h
    rw [hm i hi]
    unfold swp
    split
    · exact first_left u h0
    · assumption
  · obtain ⟨_, hg, _⟩ := valid_iff hv
    have hdr := inr_iff.1 (hg x hx).1 d hd
    have hnh : ∀ e ∈ x, o.getD e.toNat 0 ≠ h := by
      intro e he hh
      apply hz
      unfold has
      have : e ∈ x.filter (fun d => decide (o.getD d.toNat 0 = h)) := List.mem_filter.2 ⟨he, by simpa using hh⟩
      have := List.length_pos_of_mem this
      omega
    show ((tkTo o g h (u.set h.toNat false) o g.length).map (swp h (first (u.set h.toNat false)))).getD d.toNat 0 = _
    rw [hm _ (by omega), tkTo_all]
    rw [(putAll_get _ _ o (fun y hy => (hg y (List.mem_filter.1 hy).1).1) (filter_disj (valid_disj hv)) d hdr.1 hdr.2).2 (fun y hy hdy => ?_)]
    · unfold swp; rw [if_neg (hnh d hd)]
    · obtain ⟨hy1, hy2⟩ := List.mem_filter.1 hy
      have := uniq (valid_disj hv) hx hy1 hd hdy
      subst this
      obtain ⟨e, he, hh⟩ := List.any_eq_true.1 hy2
      exact hnh e he (by simpa using hh)
theorem bestTo_max (g o : List Int) (u : List Bool) : ∀ i, ∀ c, c < i → u.getD c false = true → has g o (c : Int) ≤ has g o (bestTo g o u i)
  | 0, c, h, _ => by omega
  | i + 1, c, h, hu => by
    rw [bestTo_succ]
    have ih := bestTo_max g o u i c
    by_cases hb : u.getD i false = true ∧ has g o (i : Int) > has g o (bestTo g o u i)
    · rw [if_pos hb]
      rcases Nat.lt_or_ge c i with hc | hc
      · have := ih hc hu; omega
      · have : c = i := by omega
        subst this; exact Int.le_refl _
    · rw [if_neg hb]
      rcases Nat.lt_or_ge c i with hc | hc
      · exact ih hc hu
      · have : c = i := by omega
        subst this
        have : ¬ (has g o (c : Int) > has g o (bestTo g o u c)) := fun h => hb ⟨hu, h⟩
        omega
theorem best_max (g o : List Int) (u : List Bool) (c : Nat) (hc : c < u.length) (hu : u.getD c false = true) : has g o (c : Int) ≤ has g o (best g o u) := bestTo_max g o u u.length c hc hu
theorem has_all {x a : List Int} {v : Int} (h : ∀ d ∈ x, a.getD d.toNat 0 = v) (c : Int) : has x a c = if c = v then (x.length : Int) else 0 := by
  unfold has
  by_cases hc : c = v
  · subst hc
    rw [if_pos rfl, List.filter_eq_self.2 (fun d hd => decide_eq_true (h d hd))]
  · rw [if_neg hc, List.filter_eq_nil_iff.2 (fun d hd => by rw [h d hd]; simp; exact fun e => hc e.symm)]; rfl
theorem bestTo_all {x a : List Int} {u : List Bool} {v : Nat} (h : ∀ d ∈ x, a.getD d.toNat 0 = (v : Int)) (hx : 0 < x.length) (hu : u.getD v false = true) : ∀ i, bestTo x a u i = (v : Int) ∨ (bestTo x a u i = first u ∧ i ≤ v)
  | 0 => .inr ⟨rfl, Nat.zero_le _⟩
  | i + 1 => by
    have ih := bestTo_all h hx hu i
    rw [bestTo_succ, has_all h, has_all h]
    by_cases hi : (i : Int) = (v : Int)
    · have : i = v := by omega
      subst this
      rcases ih with h1 | ⟨h1, _⟩
      · rw [h1]; left; exact ite_self _
      · rw [h1, if_pos rfl]
        by_cases hf : first u = (i : Int)
        · rw [if_pos hf, hf]; left; exact ite_self _
        · rw [if_neg hf, if_pos ⟨hu, by omega⟩]; left; rfl
    · rw [if_neg hi, if_neg (by split <;> omega)]
      rcases ih with h1 | ⟨h1, h2⟩
      · exact .inl h1
      · exact .inr ⟨h1, by omega⟩
theorem best_all {x a : List Int} {u : List Bool} {v : Nat} (h : ∀ d ∈ x, a.getD d.toNat 0 = (v : Int)) (hx : 0 < x.length) (hv : v < u.length) (hu : u.getD v false = true) : best x a u = (v : Int) := by
  rcases bestTo_all h hx hu u.length with h1 | ⟨_, h2⟩
  · exact h1
  · omega
theorem put_same (h : Int) : ∀ (g out : List Int), (∀ d ∈ g, out.getD d.toNat 0 = h ∧ d.toNat < out.length) → put h g out = out
  | [], _, _ => rfl
  | e :: g, out, hi => by
    have he := hi e (List.mem_cons_self ..)
    have hs : out.set e.toNat h = out := by
      rw [← he.1, List.getD_eq_getElem?_getD, List.getElem?_eq_getElem he.2]; simp
    have ih := put_same h g out fun d hd => hi d (List.mem_cons_of_mem _ hd)
    simp only [put, List.foldl_cons] at ih ⊢
    rw [hs, ih]
theorem put_mem (h v : Int) : ∀ (g out : List Int), v ∈ put h g out → v = h ∨ v ∈ out
  | [], _, hv => .inr hv
  | e :: g, out, hv => by
    rcases put_mem h v g (out.set e.toNat h) hv with h1 | h1
    · exact .inl h1
    · rcases List.mem_or_eq_of_mem_set h1 with h2 | h2
      · exact .inr h2
      · exact .inl h2
theorem putAll_mem (f : List Int → Int) (v : Int) : ∀ (gs : List (List Int)) (out : List Int), v ∈ putAll f gs out → (∃ x ∈ gs, v = f x) ∨ v ∈ out
  | [], _, hv => .inr hv
  | x :: gs, out, hv => by
    rcases putAll_mem f v gs (put (f x) x out) hv with ⟨y, h1, h2⟩ | h1
    · exact .inl ⟨y, List.mem_cons_of_mem _ h1, h2⟩
    · rcases put_mem _ _ _ _ h1 with h2 | h2
      · exact .inl ⟨x, List.mem_cons_self .., h2⟩
      · exact .inr h2
theorem getD_up {u : List Bool} {i : Nat} (h : u.getD i false = true) : i < u.length := by
  rcases Nat.lt_or_ge i u.length with h' | h'
  · exact h'
  · rw [List.getD_eq_getElem?_getD, List.getElem?_eq_none h'] at h; cases h
theorem putAll_same (f : List Int → Int) : ∀ (gs : List (List Int)) (out : List Int), (∀ x ∈ gs, ∀ d ∈ x, out.getD d.toNat 0 = f x ∧ d.toNat < out.length) → putAll f gs out = out
  | [], _, _ => rfl
  | x :: gs, out, h => by
    show putAll f gs (put (f x) x out) = out
    rw [put_same _ _ _ (h x (List.mem_cons_self ..))]
    exact putAll_same f gs out fun y hy => h y (List.mem_cons_of_mem _ hy)
/-- What Own gives: each group is its best host's, and doing it again changes nothing. -/
theorem own_facts {g : List (List Int)} {old : List Int} {u : List Bool} (he : (own g old u).2 = 0) :
    valid g old.length old u = true ∧ (own g old u).1.length = old.length ∧ own g (own g old u).1 u = ((own g old u).1, 0) ∧
    ∀ x ∈ g, (0 ≤ best x old u ∧ u.getD (best x old u).toNat false = true) ∧ ∀ d ∈ x, (own g old u).1.getD d.toNat 0 = best x old u := by
  have hv : valid g old.length old u = true := by
    cases hv : valid g old.length old u with
    | true => rfl
    | false => unfold own at he; rw [if_pos hv] at he; simp at he
  have hq : ¬ (0 < g.length ∧ first u < 0) := by
    intro hq; unfold own at he; rw [if_neg (by simp [hv]), if_pos hq] at he; simp at he
  obtain ⟨hu, hg, ho⟩ := valid_iff hv
  have hd := valid_disj hv
  rw [own_eq hv hq, ownTo_all]
  have hb : ∀ x ∈ g, 0 ≤ best x old u ∧ u.getD (best x old u).toNat false = true := fun x hx => by
    rcases best_up x old u with h1 | h1
    · exact absurd ⟨List.length_pos_of_mem hx, by omega⟩ hq
    · exact h1
  have hget : ∀ x ∈ g, ∀ d ∈ x, (putAll (fun x => best x old u) g old).getD d.toNat 0 = best x old u := fun x hx d hdx => by
    have hr := inr_iff.1 (hg x hx).1 d hdx
    exact (putAll_get _ g old (fun y hy => (hg y hy).1) hd d hr.1 hr.2).1 x hx hdx
  have hl := putAll_len (fun x => best x old u) g old
  have hv2 : valid g (putAll (fun x => best x old u) g old).length (putAll (fun x => best x old u) g old) u = true := by
    rw [hl]
    refine valid_of hu.1 hu.2 (valid_vgs hv) fun v hvm => ?_
    rcases putAll_mem _ v g old hvm with ⟨x, hx, rfl⟩ | hvm
    · have := hb x hx
      have := getD_up this.2
      show -1 ≤ best x old u ∧ best x old u < (u.length : Int)
      omega
    · exact ho v hvm
  refine ⟨hv, hl, ?_, fun x hx => ⟨hb x hx, hget x hx⟩⟩
  rw [own_eq hv2 hq, ownTo_all]
  congr 1
  refine putAll_same _ _ _ fun x hx d hdx => ?_
  have hr := inr_iff.1 (hg x hx).1 d hdx
  refine ⟨?_, by rw [hl]; omega⟩
  rw [hget x hx d hdx]
  have h1 := hb x hx
  obtain ⟨v, hv⟩ : ∃ v : Nat, best x old u = (v : Int) := ⟨(best x old u).toNat, by omega⟩
  show best x old u = best x (putAll (fun x => best x old u) g old) u
  rw [hv] at h1 ⊢
  rw [best_all (v := v) (fun e he => by rw [hget x hx e he, hv]) (hg x hx).2 (by have := getD_up h1.2; omega) (by simpa using h1.2)]
end Reg
end Go.Am
namespace Go.Am.Reg
theorem own_err {g : List (List Int)} {old : List Int} {u : List Bool} (hv : valid g old.length old u = true) : (own g old u).2 = 0 ∨ ((own g old u).2 = 6 ∧ 0 < g.length ∧ first u < 0) := by
  unfold own; rw [if_neg (by simp [hv])]
  split
  · rename_i h; exact .inr ⟨rfl, h⟩
  · exact .inl rfl
theorem gen_valid (l m : List Int) (up : Int) (k h : Nat) (many : Nat) (h1 : 1 ≤ h) (h2 : h ≤ 6) : valid (groups l k many) (owners m k h).length (owners m k h) (ups up h) = true := by
  rw [owners_len]
  exact valid_of (by rw [ups_len]; exact h1) (by rw [ups_len]; exact h2) (groups_vgs l k many) fun x hx => by rw [ups_len]; exact owners_mem (by omega) hx
theorem getD_mem' {x : List Int} {i : Nat} (h : i < x.length) : x.getD i 0 ∈ x := by
  rw [List.getD_eq_getElem?_getD, List.getElem?_eq_getElem h]
  exact List.getElem_mem h
end Go.Am.Reg
namespace Go.Am.Reg
theorem spoilt_len (g : List (List Int)) (how b : Int) : (spoilt g how b).length ≤ g.length + 1 := by
  unfold spoilt
  repeat' split
  all_goals simp
theorem even_neg {v : Int} (h : v < 0) (g : List (List Int)) (u : List Bool) : even g v u = ([], 1) := by
  unfold even; rw [if_pos (.inl h)]
end Go.Am.Reg
