/- Part of a proof about the functions of the given program. -/
import Derived.Test.YtcafjaenmbhlnaaAm22A
import Derived.Test.YtcafjaenmbhlnaaAmOpenL
import Derived.Test.YtcafjaenmbhlnaaRows
import Derived.WalkKit
import Derived.ProofKit
import Derived.OpenShut
import Derived.LaidMore
import Derived.LaidLaws
import Derived.Deep.DeepHandedRow
import Derived.Test.YtcafjaenmbhlnaaAmIsl
set_option linter.unusedSimpArgs false
set_option linter.unusedVariables false
section
/- What the claims of this seat share. -/
namespace Go.Proofs.Ytcafjaenmbhlnaa
open Go Go.Am
theorem own : ownKnob Try.prog.godebug = none := by kernel_rfl
theorem laidOut : laidOutB Try.prog = true := by kernel_rfl
theorem gok0 {W : World} : GOk G22 W W0 := fun g r h => by cases h
end Go.Proofs.Ytcafjaenmbhlnaa
end
section
/- Package island: classes of numbers that links connect. -/
namespace Go.Am.Isl
open Go Go.Am
abbrev Lt (l : List Int) : Prop := l.Pairwise (· < ·)
theorem Lt.nodup {l : List Int} (h : Lt l) : l.Nodup := h.imp fun h e => by omega
theorem nodup_len : ∀ {l m : List Int}, l.Nodup → (∀ x ∈ l, x ∈ m) → l.length ≤ m.length
  | [], _, _, _ => Nat.zero_le _
  | x :: l, m, h, hm => by
    rw [List.nodup_cons] at h
    have hx := hm x (List.mem_cons_self ..)
    have ih := nodup_len (m := m.erase x) h.2 fun y hy => (List.mem_erase_of_ne (fun (e : y = x) => h.1 (e ▸ hy))).2 (hm y (List.mem_cons_of_mem _ hy))
    rw [List.length_erase_of_mem hx] at ih
    have := List.length_pos_of_mem hx
    simp only [List.length_cons]; omega
theorem inc_iff : ∀ {l : List Int}, inc l = true ↔ Lt l
  | [] => by simp [inc]
  | [x] => by simp [inc]
  | x :: y :: l => by
    rw [inc, Bool.and_eq_true, decide_eq_true_eq, inc_iff]
    show _ ↔ List.Pairwise (· < ·) (x :: y :: l)
    rw [List.pairwise_cons (a := x)]
    constructor
    · rintro ⟨h1, h2⟩
      refine ⟨fun z hz => ?_, h2⟩
      rcases List.mem_cons.1 hz with rfl | hz
      · exact h1
      · have := (List.pairwise_cons.1 h2).1 z hz; omega
    · rintro ⟨h1, h2⟩
      exact ⟨h1 y (List.mem_cons_self ..), h2⟩
theorem getD_mem {l : List Int} {j : Nat} (h : j < l.length) : l.getD j 0 ∈ l := by
  rw [List.getD_eq_getElem?_getD, List.getElem?_eq_getElem h]; exact List.getElem_mem h
theorem Lt.get {l : List Int} (h : Lt l) {i j : Nat} (hij : i < j) (hj : j < l.length) : l.getD i 0 < l.getD j 0 := by
  rw [List.getD_eq_getElem?_getD, List.getElem?_eq_getElem (by omega), List.getD_eq_getElem?_getD, List.getElem?_eq_getElem hj]
  exact List.pairwise_iff_getElem.1 h i j (by omega) hj hij
theorem pos_ok {l : List Int} {n : Int} (hl : Lt l) (hn : n ∉ l) : ∀ k, k ≤ l.length → (∀ j, k ≤ j → j < l.length → n < l.getD j 0) → (∀ j, j < pos l n k → l.getD j 0 < n) ∧ (pos l n k < l.length → n < l.getD (pos l n k) 0)
  | 0, _, h => ⟨fun j hj => by simp [pos] at hj, fun h0 => h 0 (Nat.le_refl _) h0⟩
  | k + 1, hk, h => by
    unfold pos
    by_cases hg : l.getD k 0 > n
    · rw [if_pos hg]
      exact pos_ok hl hn k (by omega) fun j h1 h2 => by
        rcases Nat.lt_or_ge k j with h3 | h3
        · exact h j h3 h2
        · obtain rfl : j = k := by omega
          exact hg
    · rw [if_neg hg]
      refine ⟨fun j hj => ?_, fun hlt => h _ (Nat.le_refl _) hlt⟩
      have hne : l.getD k 0 ≠ n := fun e => hn (e ▸ getD_mem (by omega))
      rcases Nat.lt_or_ge j k with h3 | h3
      · have := hl.get h3 (by omega); omega
      · obtain rfl : j = k := by omega
        omega
theorem any_iff {l : List Int} {n : Int} : l.any (fun y => y == n) = true ↔ n ∈ l := by
  rw [List.any_eq_true]
  constructor
  · rintro ⟨x, hx, h⟩; rw [beq_iff_eq] at h; exact h ▸ hx
  · intro h; exact ⟨n, h, by simp⟩
theorem any_false {l : List Int} {n : Int} : l.any (fun y => y == n) = false ↔ n ∉ l := by
  cases h : l.any fun y => y == n with
  | true => simp [any_iff.1 h]
  | false => simp only [true_iff]; intro h'; rw [any_iff.2 h'] at h; cases h
theorem ins_lt {l : List Int} (hl : Lt l) (n : Int) : Lt (ins l n) := by
  unfold ins
  split
  · exact hl
  · rename_i h
    have hn : n ∉ l := fun h' => h (any_iff.2 h')
    obtain ⟨h1, h2⟩ := pos_ok hl hn l.length (Nat.le_refl _) (fun j h1 h2 => by omega)
    exact Reg.ins_at hl (pos_le _ _ _) h1 h2
theorem mem_ins {l : List Int} {n x : Int} : x ∈ ins l n ↔ x = n ∨ x ∈ l := by
  unfold ins
  split
  · rename_i h
    have := any_iff.1 h
    constructor
    · exact .inr
    · rintro (rfl | h)
      · exact this
      · exact h
  · have e : x ∈ l ↔ x ∈ l.take (pos l n l.length) ∨ x ∈ l.drop (pos l n l.length) := by
      rw [← List.mem_append, List.take_append_drop]
    simp only [List.mem_append, List.mem_singleton, e]
    constructor
    · rintro ((h | h) | h)
      · exact .inr (.inl h)
      · exact .inl h
      · exact .inr (.inr h)
    · rintro (h | h | h)
      · exact .inl (.inr h)
      · exact .inl (.inl h)
      · exact .inr h
theorem foldl_ins_lt (l : List Int) : ∀ {o : List Int}, Lt o → Lt (l.foldl ins o) := by
  induction l with
  | nil => exact fun h => h
  | cons x l ih => exact fun h => ih (ins_lt h x)
theorem mem_foldl_ins (l : List Int) : ∀ {o : List Int} {x : Int}, x ∈ l.foldl ins o ↔ x ∈ o ∨ x ∈ l := by
  induction l with
  | nil => intro o x; simp
  | cons y l ih =>
    intro o x
    rw [List.foldl_cons, ih, mem_ins, List.mem_cons]
    constructor
    · rintro ((h | h) | h)
      · exact .inr (.inl h)
      · exact .inl h
      · exact .inr (.inr h)
    · rintro (h | h | h)
      · exact .inl (.inr h)
      · exact .inl (.inl h)
      · exact .inr h
theorem set_lt (l : List Int) : Lt (set l) := foldl_ins_lt l .nil
theorem mem_set {l : List Int} {x : Int} : x ∈ set l ↔ x ∈ l := by unfold set; rw [mem_foldl_ins]; simp
theorem set_len (l : List Int) : (set l).length ≤ l.length := nodup_len (set_lt l).nodup fun x hx => mem_set.1 hx
theorem set_eq (l : List Int) : Reg.compact (sortI l) = set l :=
  Reg.lt_unique (Reg.compact_lt (Reg.sortI_le l)) (set_lt l) fun x => by rw [Reg.mem_compact, (sortI_perm l).mem_iff, mem_set]
theorem nums_lt (n : Nat) : Lt (nums n) := by
  unfold nums
  rw [Lt, List.pairwise_map]
  exact (List.pairwise_lt_range (n := n)).imp fun h => by omega
theorem mem_nums {n : Nat} {x : Int} : x ∈ nums n ↔ 0 ≤ x ∧ x < (n : Int) := by
  unfold nums
  rw [List.mem_map]
  constructor
  · rintro ⟨i, hi, rfl⟩; have := List.mem_range.1 hi; omega
  · rintro ⟨h1, h2⟩; exact ⟨x.toNat, List.mem_range.2 (by omega), by omega⟩
inductive Conn (s : List Int) (links : List (List Int)) (x : Int) : Int → Prop
  | refl : Conn s links x x
  | step (y z : Int) (l : List Int) (h : Conn s links x y) (hl : l ∈ links) (hy : y ∈ l) (hz : z ∈ l) (hs : z ∈ s) : Conn s links x z
variable {s : List Int} {links : List (List Int)} {x y z : Int}
theorem Conn.mem (h : Conn s links x y) (hx : x ∈ s) : y ∈ s := by
  cases h with
  | refl => exact hx
  | step _ _ _ _ _ _ _ hs => exact hs
theorem Conn.trans (h1 : Conn s links x y) (h2 : Conn s links y z) : Conn s links x z := by
  induction h2 with
  | refl => exact h1
  | step y z l _ hl hy hz hs ih => exact .step y z l ih hl hy hz hs
theorem Conn.symm (h : Conn s links x y) (hx : x ∈ s) : Conn s links y x := by
  induction h with
  | refl => exact .refl
  | step y z l h hl hy hz hs ih => exact (Conn.step z y l .refl hl hz hy (h.mem hx)).trans ih
theorem Conn.mono {s' : List Int} {links' : List (List Int)} (h : Conn s links x y) (hs : ∀ z ∈ s, z ∈ s') (hl : ∀ l ∈ links, ∀ y ∈ l, ∀ z ∈ l, y ∈ s' → z ∈ s → Conn s' links' y z) (hx : x ∈ s') : Conn s' links' x y := by
  induction h with
  | refl => exact .refl
  | step y z l h hl' hy hz hs' ih =>
    refine ih.trans (hl l hl' y hy z hz ?_ hs')
    cases h with
    | refl => exact hx
    | step _ _ _ _ _ _ _ h => exact hs _ h
theorem meets_iff {o l : List Int} : meets o l = true ↔ ∃ y ∈ l, y ∈ o := by
  unfold meets
  rw [List.any_eq_true]
  constructor
  · rintro ⟨y, h1, h2⟩; exact ⟨y, h1, any_iff.1 h2⟩
  · rintro ⟨y, h1, h2⟩; exact ⟨y, h1, any_iff.2 h2⟩
theorem meets_mono {o o' l : List Int} (h : meets o l = true) (hs : ∀ x ∈ o, x ∈ o') : meets o' l = true := by
  obtain ⟨y, h1, h2⟩ := meets_iff.1 h
  exact meets_iff.2 ⟨y, h1, hs y h2⟩
structure Grows (s : List Int) (links : List (List Int)) (x : Int) (o o' : List Int) : Prop where
  lt : Lt o'
  sub : ∀ y ∈ o, y ∈ o'
  conn : ∀ y ∈ o', Conn s links x y
theorem step1_part (l : List Int) (hl : l ∈ links) : ∀ (m : List Int) {o : List Int}, (∀ z ∈ m, z ∈ l) → Lt o → (∀ y ∈ o, Conn s links x y) →
    Grows s links x o (m.foldl (fun out z => if meets out l = true ∧ s.any (fun y => y == z) = true then ins out z else out) o) ∧
    (meets o l = true → ∀ z ∈ m, z ∈ s → z ∈ m.foldl (fun out z => if meets out l = true ∧ s.any (fun y => y == z) = true then ins out z else out) o)
  | [], o, _, h1, h2 => ⟨⟨h1, fun _ h => h, h2⟩, fun _ _ h => by simp at h⟩
  | z :: m, o, hm, h1, h2 => by
    rw [List.foldl_cons]
    by_cases hc : meets o l = true ∧ s.any (fun y => y == z) = true
    · rw [if_pos hc]
      obtain ⟨y, hy1, hy2⟩ := meets_iff.1 hc.1
      have hz := any_iff.1 hc.2
      have h2' : ∀ w ∈ ins o z, Conn s links x w := fun w hw => by
        rcases mem_ins.1 hw with rfl | hw
        · exact .step y w l (h2 y hy2) hl hy1 (hm w (List.mem_cons_self ..)) hz
        · exact h2 w hw
      obtain ⟨g, g2⟩ := step1_part l hl m (fun w hw => hm w (List.mem_cons_of_mem _ hw)) (ins_lt h1 z) h2'
      refine ⟨⟨g.lt, fun w hw => g.sub w (mem_ins.2 (.inr hw)), g.conn⟩, fun hmt w hw hws => ?_⟩
      rcases List.mem_cons.1 hw with rfl | hw
      · exact g.sub _ (mem_ins.2 (.inl rfl))
      · exact g2 (meets_mono hmt fun v hv => mem_ins.2 (.inr hv)) w hw hws
    · rw [if_neg hc]
      obtain ⟨g, g2⟩ := step1_part l hl m (fun w hw => hm w (List.mem_cons_of_mem _ hw)) h1 h2
      refine ⟨g, fun hmt w hw hws => ?_⟩
      rcases List.mem_cons.1 hw with rfl | hw
      · exact absurd ⟨hmt, any_iff.2 hws⟩ hc
      · exact g2 hmt w hw hws
theorem step1_ok {l o : List Int} (hl : l ∈ links) (h1 : Lt o) (h2 : ∀ y ∈ o, Conn s links x y) : Grows s links x o (step1 s l o) ∧ (meets o l = true → ∀ z ∈ l, z ∈ s → z ∈ step1 s l o) :=
  step1_part l hl l (fun _ h => h) h1 h2
theorem round_part : ∀ (ls : List (List Int)) {o : List Int}, (∀ l ∈ ls, l ∈ links) → Lt o → (∀ y ∈ o, Conn s links x y) →
    Grows s links x o (ls.foldl (fun out l => step1 s l out) o) ∧ ∀ l ∈ ls, meets o l = true → ∀ z ∈ l, z ∈ s → z ∈ ls.foldl (fun out l => step1 s l out) o
  | [], o, _, h1, h2 => ⟨⟨h1, fun _ h => h, h2⟩, fun _ h => by simp at h⟩
  | l :: ls, o, hl, h1, h2 => by
    rw [List.foldl_cons]
    obtain ⟨g, g2⟩ := step1_ok (hl l (List.mem_cons_self ..)) h1 h2
    obtain ⟨k, k2⟩ := round_part ls (fun w hw => hl w (List.mem_cons_of_mem _ hw)) g.lt g.conn
    refine ⟨⟨k.lt, fun w hw => k.sub w (g.sub w hw), k.conn⟩, fun w hw hmt z hz hs => ?_⟩
    rcases List.mem_cons.1 hw with rfl | hw
    · exact k.sub z (g2 hmt z hz hs)
    · exact k2 w hw (meets_mono hmt g.sub) z hz hs
theorem round_ok {o : List Int} (h1 : Lt o) (h2 : ∀ y ∈ o, Conn s links x y) : Grows s links x o (round s links o) ∧ ∀ l ∈ links, meets o l = true → ∀ z ∈ l, z ∈ s → z ∈ round s links o :=
  round_part links (fun _ h => h) h1 h2
theorem lt_same {a b : List Int} (ha : Lt a) (hb : Lt b) (hs : ∀ x ∈ a, x ∈ b) (hl : b.length ≤ a.length) : a = b := by
  refine Reg.lt_unique ha hb fun z => ⟨hs z, fun hz => ?_⟩
  refine Classical.byContradiction fun hn => ?_
  have := nodup_len (l := z :: a) (m := b) (List.nodup_cons.2 ⟨hn, ha.nodup⟩) fun w hw => by
    rcases List.mem_cons.1 hw with rfl | hw
    · exact hz
    · exact hs w hw
  simp only [List.length_cons] at this; omega
theorem clsN_ok : ∀ (n : Nat) {o : List Int}, Lt o → (∀ y ∈ o, Conn s links x y) → Grows s links x o (clsN s links n o) ∧
    ((∀ l ∈ links, meets (clsN s links n o) l = true → ∀ z ∈ l, z ∈ s → z ∈ clsN s links n o) ∨ o.length + n ≤ (clsN s links n o).length)
  | 0, o, h1, h2 => ⟨⟨h1, fun _ h => h, h2⟩, .inr (by simp [clsN])⟩
  | n + 1, o, h1, h2 => by
    obtain ⟨g, g2⟩ := round_ok (links := links) h1 h2
    unfold clsN
    by_cases he : (round s links o).length = o.length
    · rw [if_pos he]
      have e := lt_same h1 g.lt g.sub (by omega)
      refine ⟨g, .inl ?_⟩
      rw [← e] at g2 ⊢
      exact g2
    · rw [if_neg he]
      obtain ⟨k, k2⟩ := clsN_ok n g.lt g.conn
      refine ⟨⟨k.lt, fun w hw => k.sub w (g.sub w hw), k.conn⟩, ?_⟩
      rcases k2 with k2 | k2
      · exact .inl k2
      · have := nodup_len h1.nodup g.sub
        exact .inr (by omega)
theorem cls_ok (hx : x ∈ s) : Lt (cls s links x) ∧ ∀ y, y ∈ cls s links x ↔ Conn s links x y := by
  obtain ⟨g, g2⟩ := clsN_ok (s := s) (links := links) (x := x) s.length (o := [x]) (List.pairwise_singleton _ _) (fun y hy => by rw [List.mem_singleton.1 hy]; exact .refl)
  have hc : ∀ l ∈ links, meets (cls s links x) l = true → ∀ z ∈ l, z ∈ s → z ∈ cls s links x := by
    rcases g2 with g2 | g2
    · exact g2
    · have := nodup_len (m := s) g.lt.nodup fun y hy => (g.conn y hy).mem hx
      simp only [List.length_singleton] at g2; omega
  refine ⟨g.lt, fun y => ⟨g.conn y, fun h => ?_⟩⟩
  induction h with
  | refl => exact g.sub x (by simp)
  | step y z l h hl hy hz hs ih => exact hc l hl (meets_iff.2 ⟨y, hy, ih⟩) z hz hs
theorem drop_get {l : List Int} {i : Nat} (h : i < l.length) : l.drop i = l.getD i 0 :: l.drop (i + 1) := by
  rw [List.drop_eq_getElem_cons h, List.getD_eq_getElem?_getD, List.getElem?_eq_getElem h]; rfl
open Classical in
noncomputable def part (s : List Int) (links : List (List Int)) (x : Int) : List Int := s.filter fun y => decide (Conn s links x y)
open Classical in
noncomputable def isRep (s : List Int) (links : List (List Int)) (x : Int) : Bool := decide (∀ y ∈ s, y < x → ¬ Conn s links y x)
theorem cls_part (hs : Lt s) (hx : x ∈ s) : cls s links x = part s links x := by
  obtain ⟨h1, h2⟩ := cls_ok (links := links) hx
  refine Reg.lt_unique h1 (hs.filter _) fun y => ?_
  unfold part
  rw [h2, List.mem_filter]
  simp only [decide_eq_true_eq]
  exact ⟨fun h => ⟨h.mem hx, h⟩, fun h => h.2⟩
theorem clssF_ok (hs : Lt s) : ∀ (rest p : List Int) (st : List (List Int) × List Int), s = p ++ rest → st.1 = (p.filter (isRep s links)).map (part s links) → (∀ z, z ∈ st.2 ↔ ∃ y ∈ p, Conn s links y z) →
    (rest.foldl (clssF s links) st).1 = (s.filter (isRep s links)).map (part s links)
  | [], p, st, hp, h1, _ => by rw [List.append_nil] at hp; rw [hp]; rw [hp] at h1; exact h1
  | x :: rest, p, st, hp, h1, h2 => by
    have hx : x ∈ s := by rw [hp]; simp
    have hlt : ∀ y ∈ s, y < x ↔ y ∈ p := fun y hy => by
      rw [hp] at hs hy
      obtain ⟨a1, a2, a3⟩ := List.pairwise_append.1 hs
      constructor
      · intro h
        rcases List.mem_append.1 hy with hy | hy
        · exact hy
        · rcases List.mem_cons.1 hy with rfl | hy
          · omega
          · have := (List.pairwise_cons.1 a2).1 y hy; omega
      · intro h; exact a3 y h x (List.mem_cons_self ..)
    have hps : ∀ y ∈ p, y ∈ s := fun y hy => by rw [hp]; exact List.mem_append_left _ hy
    have hrep : isRep s links x = true ↔ x ∉ st.2 := by
      unfold isRep
      rw [h2]
      simp only [decide_eq_true_eq]
      constructor
      · rintro h ⟨y, hy, hc⟩; exact h y (hps y hy) ((hlt y (hps y hy)).2 hy) hc
      · intro h y hy hyx hc; exact h ⟨y, (hlt y hy).1 hyx, hc⟩
    rw [List.foldl_cons]
    refine clssF_ok hs rest (p ++ [x]) _ (by rw [hp]; simp) ?_ fun z => ?_
    · unfold clssF
      rw [List.filter_append, List.map_append]
      by_cases hd : st.2.any (fun y => y == x) = true
      · rw [if_pos hd]
        have : isRep s links x = false := by
          cases hr : isRep s links x with
          | false => rfl
          | true => exact absurd (any_iff.1 hd) (hrep.1 hr)
        rw [h1, List.filter_cons, this]; simp
      · rw [if_neg hd]
        have : isRep s links x = true := hrep.2 fun h => hd (any_iff.2 h)
        rw [List.filter_cons, this, h1, cls_part hs hx]; simp
    · unfold clssF
      by_cases hd : st.2.any (fun y => y == x) = true
      · rw [if_pos hd, h2]
        obtain ⟨y, hy, hc⟩ := (h2 x).1 (any_iff.1 hd)
        constructor
        · rintro ⟨y, hy, hc⟩; exact ⟨y, List.mem_append_left _ hy, hc⟩
        · rintro ⟨w, hw, hcw⟩
          rcases List.mem_append.1 hw with hw | hw
          · exact ⟨w, hw, hcw⟩
          · rw [List.mem_singleton.1 hw] at hcw; exact ⟨y, hy, hc.trans hcw⟩
      · rw [if_neg hd]
        show z ∈ (cls s links x).foldl ins st.2 ↔ _
        rw [mem_foldl_ins, h2, (cls_ok hx).2]
        constructor
        · rintro (⟨y, hy, hc⟩ | h)
          · exact ⟨y, List.mem_append_left _ hy, hc⟩
          · exact ⟨x, by simp, h⟩
        · rintro ⟨w, hw, hcw⟩
          rcases List.mem_append.1 hw with hw | hw
          · exact .inl ⟨w, hw, hcw⟩
          · rw [List.mem_singleton.1 hw] at hcw; exact .inr hcw
theorem clss_eq (hs : Lt s) (links : List (List Int)) : clss s links = (s.filter (isRep s links)).map (part s links) :=
  clssF_ok hs s [] ([], []) rfl rfl fun z => by simp
def back (i : Int) (l : List (List Int)) : Nat → Int → Int
  | 0, g => g
  | m + 1, g => if (l.getD m []).any (fun y => y == i) = true then back i l m (m : Int) else back i l m g
theorem flatten_take_le (l : List (List Int)) (i : Nat) : (l.take i).flatten.length ≤ l.flatten.length := by
  have : l.flatten = (l.take i).flatten ++ (l.drop i).flatten := by rw [← List.flatten_append, List.take_append_drop]
  rw [this, List.length_append]; omega
theorem idx_del (x : Int) : ∀ l : List Int, (Reg.idx (fun y => y == x) l = -1 ∧ del l x = l) ∨ ∃ j, j < l.length ∧ Reg.idx (fun y => y == x) l = (j : Int) ∧ del (l.take (j + 1)) x = l.take j := by
  have key : ∀ l : List Int, (l.findIdx? (fun y => y == x) = none ∧ del l x = l) ∨ ∃ j, j < l.length ∧ l.findIdx? (fun y => y == x) = Option.some j ∧ del (l.take (j + 1)) x = l.take j := by
    intro l
    induction l with
    | nil => exact .inl ⟨rfl, rfl⟩
    | cons a l ih =>
      rw [List.findIdx?_cons]
      cases h : a == x with
      | true => exact .inr ⟨0, by simp, rfl, by simp [del, h]⟩
      | false =>
        rcases ih with ⟨h1, h2⟩ | ⟨j, h1, h2, h3⟩
        · refine .inl ⟨by rw [h1]; rfl, ?_⟩
          unfold del at h2 ⊢
          rw [List.filter_cons, h, h2]; rfl
        · refine .inr ⟨j + 1, by simp; exact h1, by rw [h2]; rfl, ?_⟩
          unfold del at h3 ⊢
          rw [List.take_succ_cons, List.take_succ_cons, List.filter_cons, h, h3]; rfl
  intro l
  unfold Reg.idx
  rcases key l with ⟨h1, h2⟩ | ⟨j, h1, h2, h3⟩
  · rw [h1]; exact .inl ⟨rfl, h2⟩
  · rw [h2]; exact .inr ⟨j, h1, rfl, h3⟩
theorem del_len (l : List Int) (x : Int) : (del l x).length ≤ l.length := List.length_filter_le _ _
theorem del_succ {l : List Int} {i : Nat} (x : Int) (hi : i < l.length) : del (l.take (i + 1)) x = del (l.take i) x ++ (if l.getD i 0 = x then [] else [l.getD i 0]) := by
  unfold del
  rw [← Reg.take_get l 0 i hi, List.filter_append]
  congr 1
  generalize l.getD i 0 = y
  by_cases h : y = x
  · rw [if_pos h, List.filter_cons, h]; simp
  · rw [if_neg h, List.filter_cons]; simp [h]
theorem take_set {l : List Int} {t : Nat} (h : t < l.length) (v : Int) : (l.set t v).take (t + 1) = l.take t ++ [v] := by
  rw [List.take_set, ← Reg.take_get l 0 t h, List.set_append_right _ _ (by simp; omega)]
  have : t - (l.take t).length = 0 := by rw [List.length_take]; omega
  rw [this]; rfl
theorem drop_set {l : List Int} {t i : Nat} (h : t < i) (v : Int) : (l.set t v).drop i = l.drop i := by
  rw [List.drop_set_of_lt h]
end Go.Am.Isl
end