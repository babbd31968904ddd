/- The finite check, and what it says of Even. -/
import Derived.Test.YtgdibbphgdkllaaAmReg3
set_option linter.unusedVariables false
set_option linter.unusedSimpArgs false
namespace Go.Am
open Go
namespace Reg
theorem all19 : allP chk 6 [] 19 19 = true := by decide +kernel
theorem chk_ok {ps : List Nat} (hl : ps.length ≤ 6) (hd : ps.Pairwise (fun a b => b ≤ a)) (hm : ∀ p ∈ ps, 1 ≤ p) (hs : sumN ps ≤ 19) : chk ps = true := by
  refine allP_ok 6 [] 19 19 all19 ps hl hd (fun p hp => ⟨hm p hp, ?_⟩) hs
  have : ∀ (l : List Nat), p ∈ l → p ≤ sumN l := by
    intro l
    induction l with
    | nil => intro h; simp at h
    | cons x l ih =>
      intro h
      rw [sumN]
      rcases List.mem_cons.1 h with rfl | h
      · omega
      · have := ih h; omega
  have := this ps hp
  omega
theorem up_len (g : List (List Int)) : sizes g = up (g.map List.length) := by
  unfold sizes up; rw [List.map_map]; rfl
theorem sumN_len : ∀ g : List (List Int), sumN (g.map List.length) = g.flatten.length
  | [] => rfl
  | x :: g => by rw [List.map_cons, sumN, sumN_len g, List.flatten_cons, List.length_append]
theorem mark_all {n : Nat} : ∀ {gs : List (List Int)} {met m : List Bool}, vgs n gs met = some m → met.length = n → m.count true = met.count true + gs.flatten.length ∧ m.length = n
  | [], met, m, h, hn => by simp only [vgs, Option.some.injEq] at h; rw [← h]; exact ⟨rfl, hn⟩
  | g :: gs, met, m, h, hn => by
    simp only [vgs] at h
    split at h
    · contradiction
    · split at h <;> try contradiction
      rename_i m1 hm1
      have h1 := vg_count hm1 hn
      have h2 := mark_all h h1.2
      rw [List.flatten_cons, List.length_append]
      exact ⟨by omega, h2.2⟩
theorem valid_total {g : List (List Int)} {n : Nat} {o : List Int} {u : List Bool} (h : valid g n o u = true) : g.flatten.length ≤ n := by
  obtain ⟨m, hm⟩ := valid_vgs h
  have h1 := mark_all hm List.length_replicate
  have := List.count_le_length (a := true) (l := m)
  omega
/-- The greatest of the first i shares. -/
def gtTo (a : List Int) : Nat → Int
  | 0 => 0
  | i + 1 => if ((ofHost a (i : Int)).length : Int) > gtTo a i then ((ofHost a (i : Int)).length : Int) else gtTo a i
theorem gtTo_le {a : List Int} {r : Int} (h0 : 0 ≤ r) : ∀ i, (∀ j : Nat, j < i → ((ofHost a (j : Int)).length : Int) ≤ r) → gtTo a i ≤ r
  | 0, _ => h0
  | i + 1, h => by
    have := gtTo_le h0 i fun j hj => h j (by omega)
    have := h i (by omega)
    rw [gtTo]; split <;> omega
theorem chk1_ok {u : List Bool} {ps : List Nat} {l : Nat} (h : chk1 u ps l = true) (i : Nat) (hi : i < 3) : 3 * (lpt u (up ps) (List.replicate 6 0)).getD i 0 ≤ 4 * (l : Int) := by
  unfold chk1 at h
  rw [List.all_eq_true] at h
  exact of_decide_eq_true (h i (List.mem_range.2 hi))
theorem fair_even {g : List (List Int)} {n : Nat} {u : List Bool} (hu3 : u.length = 3) (hn : n ≤ 19) (hg6 : g.length ≤ 6) (hv : valid g n [] u = true) (he : (even g n u).2 = 0) (hm : 0 < u.count true) :
    3 * gtTo (even g n u).1 3 ≤ 4 * least g (List.replicate (u.count true) 0) := by
  have hp : (sortD g).map List.length = (sortD g).map List.length := rfl
  generalize hps : (sortD g).map List.length = ps at hp
  have hl : ps.length ≤ 6 := by rw [← hps, List.length_map, sortD_len]; exact hg6
  have hd : ps.Pairwise (fun a b => b ≤ a) := by rw [← hps]; exact List.pairwise_map.2 (sortD_sorted g)
  obtain ⟨_, hgv, _⟩ := valid_iff hv
  have h1 : ∀ p ∈ ps, 1 ≤ p := by
    intro p hp
    rw [← hps] at hp
    obtain ⟨x, hx, rfl⟩ := List.mem_map.1 hp
    rw [sortD_mem] at hx
    exact (hgv x hx).2
  have hs : sumN ps ≤ 19 := by
    rw [← hps, sumN_len, ((sortD_perm g).flatten).length_eq]
    have := valid_total hv
    omega
  have hc := chk_ok hl hd h1 hs
  simp only [chk, Bool.and_eq_true] at hc
  obtain ⟨⟨c111, c110, c101, c011⟩, c100, c010, c001⟩ := hc
  have hz : ∀ i : Nat, i < 3 → ((ofHost (even g n u).1 (i : Int)).length : Int) = (lpt u (up ps) (List.replicate 6 0)).getD i 0 := fun i hi => by
    rw [ofHost_len, even_cnt' he i (by omega), up_len, hps]
  rw [least_sort, up_len, hps]
  have h3 := n3_eq ps 0 0 0
  have h2 := n2_eq ps 0 0
  have h1' := n1_eq ps 0
  have main : ∀ l : Nat, chk1 u ps l = true → 3 * gtTo (even g n u).1 3 ≤ 4 * (l : Int) := fun l hl => by
    have hr : ∀ j : Nat, j < 3 → ((ofHost (even g n u).1 (j : Int)).length : Int) ≤ 4 * (l : Int) / 3 := fun j hj => by
      have := chk1_ok hl j hj
      rw [hz j hj]; omega
    have := gtTo_le (a := (even g n u).1) (r := 4 * (l : Int) / 3) (by omega) 3 hr
    omega
  match u, hu3 with
  | [u0, u1, u2], _ =>
    cases u0 <;> cases u1 <;> cases u2
    · simp at hm
    · rw [show leastN (up ps) (List.replicate ([false, false, true].count true) 0) = leastN (up ps) (up [0]) from rfl, h1']; exact main _ c001
    · rw [show leastN (up ps) (List.replicate ([false, true, false].count true) 0) = leastN (up ps) (up [0]) from rfl, h1']; exact main _ c010
    · rw [show leastN (up ps) (List.replicate ([false, true, true].count true) 0) = leastN (up ps) (up [0, 0]) from rfl, h2]; exact main _ c011
    · rw [show leastN (up ps) (List.replicate ([true, false, false].count true) 0) = leastN (up ps) (up [0]) from rfl, h1']; exact main _ c100
    · rw [show leastN (up ps) (List.replicate ([true, false, true].count true) 0) = leastN (up ps) (up [0, 0]) from rfl, h2]; exact main _ c101
    · rw [show leastN (up ps) (List.replicate ([true, true, false].count true) 0) = leastN (up ps) (up [0, 0]) from rfl, h2]; exact main _ c110
    · rw [show leastN (up ps) (List.replicate ([true, true, true].count true) 0) = leastN (up ps) (up [0, 0, 0]) from rfl, h3]; exact main _ c111
theorem count_first {u : List Bool} (h : 0 < u.count true) : 0 ≤ first u := by
  have h1 := List.count_pos_iff.1 h
  obtain ⟨i, hi, e⟩ := List.getElem_of_mem h1
  exact first_up (i := i) (by rw [List.getD_eq_getElem?_getD, List.getElem?_eq_getElem hi, e]; rfl)
theorem count_zero {u : List Bool} (h : u.count true = 0) : first u < 0 := by
  have h1 : true ∉ u := List.count_eq_zero.1 h
  have h2 := idx_neg (fun x => x == true) u
  have : u.any (fun x => x == true) = false := by
    rw [List.any_eq_false]
    intro x hx hc
    have : x = true := by simpa using hc
    rw [this] at hx; exact h1 hx
  rw [this, decide_eq_false_iff_not] at h2
  unfold first; omega
/-- Without a host that is up nothing is anybody's. -/
theorem even_none {g : List (List Int)} {n : Nat} {u : List Bool} (he : (even g n u).2 = 0) (hm : u.count true = 0) (c : Nat) (hc : c < 6) : (ofHost (even g n u).1 (c : Int)).length = 0 := by
  have hf := count_zero hm
  have hg : ¬ 0 < g.length := fun hg => by
    unfold even at he
    split at he
    · simp at he
    rw [if_pos ⟨hg, hf⟩] at he; simp at he
  have hg' : g = [] := List.length_eq_zero_iff.1 (by omega)
  have := even_cnt' he c hc
  subst hg'
  rw [ofHost_len]
  have e : (lpt u (sizes (sortD [])) (List.replicate 6 0)).getD c 0 = 0 := by
    show (List.replicate 6 (0 : Int)).getD c 0 = 0
    rw [List.getD_eq_getElem?_getD, List.getElem?_replicate, if_pos hc]; rfl
  rw [e] at this; omega
/-- A host with a part is up. -/
theorem even_up {g : List (List Int)} {n : Nat} {u : List Bool} (he : (even g n u).2 = 0) (c : Nat) (hc : c < 6) (h : (ofHost (even g n u).1 (c : Int)).length > 0) : u.getD c false = true := by
  cases hu : u.getD c false with
  | true => rfl
  | false =>
    exfalso
    by_cases hm : u.count true = 0
    · rw [even_none he hm c hc] at h; omega
    · have := even_cnt' he c hc
      rw [lpt_down (count_first (by omega)) hu, List.getD_eq_getElem?_getD, List.getElem?_replicate, if_pos hc] at this
      rw [ofHost_len] at h
      simp at this; omega
end Reg
end Go.Am
