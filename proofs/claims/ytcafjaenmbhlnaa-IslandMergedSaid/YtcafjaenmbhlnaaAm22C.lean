/- Part of a proof about the functions of the given program. -/
import Derived.Test.YtcafjaenmbhlnaaAm22A
import Derived.Test.YtcafjaenmbhlnaaAmOpenL
import Derived.Test.YtcafjaenmbhlnaaRows
import Derived.WalkKit
import Derived.ProofKit
import Derived.OpenShut
import Derived.LaidMore
import Derived.LaidLaws
import Derived.Deep.DeepHandedRow
import Derived.Test.YtcafjaenmbhlnaaAmIsl
set_option linter.unusedSimpArgs false
set_option linter.unusedVariables false
section
/- What the claims of this seat share. -/
namespace Go.Proofs.Ytcafjaenmbhlnaa
open Go Go.Am
theorem own : ownKnob Try.prog.godebug = none := by kernel_rfl
theorem laidOut : laidOutB Try.prog = true := by kernel_rfl
theorem gok0 {W : World} : GOk G22 W W0 := fun g r h => by cases h
end Go.Proofs.Ytcafjaenmbhlnaa
end
section
/- Package island: classes of numbers that links connect. -/
namespace Go.Am.Isl
open Go Go.Am
abbrev Lt (l : List Int) : Prop := l.Pairwise (· < ·)
theorem Lt.nodup {l : List Int} (h : Lt l) : l.Nodup := h.imp fun h e => by omega
theorem nodup_len : ∀ {l m : List Int}, l.Nodup → (∀ x ∈ l, x ∈ m) → l.length ≤ m.length
  | [], _, _, _ => Nat.zero_le _
  | x :: l, m, h, hm => by
    rw [List.nodup_cons] at h
    have hx := hm x (List.mem_cons_self ..)
    have ih := nodup_len (m := m.erase x) h.2 fun y hy => (List.mem_erase_of_ne (fun (e : y = x) => h.1 (e ▸ hy))).2 (hm y (List.mem_cons_of_mem _ hy))
    rw [List.length_erase_of_mem hx] at ih
    have := List.length_pos_of_mem hx
    simp only [List.length_cons]; omega
theorem inc_iff : ∀ {l : List Int}, inc l = true ↔ Lt l
  | [] => by simp [inc]
  | [x] => by simp [inc]
  | x :: y :: l => by
    rw [inc, Bool.and_eq_true, decide_eq_true_eq, inc_iff]
    show _ ↔ List.Pairwise (· < ·) (x :: y :: l)
    rw [List.pairwise_cons (a := x)]
    constructor
    · rintro ⟨h1, h2⟩
      refine ⟨fun z hz => ?_, h2⟩
      rcases List.mem_cons.1 hz with rfl | hz
      · exact h1
      · have := (List.pairwise_cons.1 h2).1 z hz; omega
    · rintro ⟨h1, h2⟩
      exact ⟨h1 y (List.mem_cons_self ..), h2⟩
theorem getD_mem {l : List Int} {j : Nat} (h : j < l.length) : l.getD j 0 ∈ l := by
  rw [List.getD_eq_getElem?_getD, List.getElem?_eq_getElem h]; exact List.getElem_mem h
theorem Lt.get {l : List Int} (h : Lt l) {i j : Nat} (hij : i < j) (hj : j < l.length) : l.getD i 0 < l.getD j 0 := by
  rw [List.getD_eq_getElem?_getD, List.getElem?_eq_getElem (by omega), List.getD_eq_getElem?_getD, List.getElem?_eq_getElem hj]
  exact List.pairwise_iff_getElem.1 h i j (by omega) hj hij
theorem pos_ok {l : List Int} {n : Int} (hl : Lt l) (hn : n ∉ l) : ∀ k, k ≤ l.length → (∀ j, k ≤ j → j < l.length → n < l.getD j 0) → (∀ j, j < pos l n k → l.getD j 0 < n) ∧ (pos l n k < l.length → n < l.getD (pos l n k) 0)
  | 0, _, h => ⟨fun j hj => by simp [pos] at hj, fun h0 => h 0 (Nat.le_refl _) h0⟩
  | k + 1, hk, h => by
    unfold pos
    by_cases hg : l.getD k 0 > n
    · rw [if_pos hg]
      exact pos_ok hl hn k (by omega) fun j h1 h2 => by
        rcases Nat.lt_or_ge k j with h3 | h3
        · exact h j h3 h2
        · obtain rfl : j = k := by omega
          exact hg
    · rw [if_neg hg]
      refine ⟨fun j hj => ?_, fun hlt => h _ (Nat.le_refl _) hlt⟩
      have hne : l.getD k 0 ≠ n := fun e => hn (e ▸ getD_mem (by omega))
      rcases Nat.lt_or_ge j k with h3 | h3
      · have := hl.get h3 (by omega); omega
      · obtain rfl : j = k := by omega
        omega
theorem any_iff {l : List Int} {n : Int} : l.any (fun y => y == n) = true ↔ n ∈ l := by
  rw [List.any_eq_true]
  constructor
  · rintro ⟨x, hx, h⟩; rw [beq_iff_eq] at h; exact h ▸ hx
  · intro h; exact ⟨n, h, by simp⟩
theorem any_false {l : List Int} {n : Int} : l.any (fun y => y == n) = false ↔ n ∉ l := by
  cases h : l.any fun y => y == n with
  | true => simp [any_iff.1 h]
  | false => simp only [true_iff]; intro h'; rw [any_iff.2 h'] at h; cases h
theorem ins_lt {l : List Int} (hl : Lt l) (n : Int) : Lt (ins l n) := by
  unfold ins
  split
  · exact hl
  · rename_i h
    have hn : n ∉ l := fun h' => h (any_iff.2 h')
    obtain ⟨h1, h2⟩ := pos_ok hl hn l.length (Nat.le_refl _) (fun j h1 h2 => by omega)
    exact Reg.ins_at hl (pos_le _ _ _) h1 h2
theorem mem_ins {l : List Int} {n x : Int} : x ∈ ins l n ↔ x = n ∨ x ∈ l := by
  unfold ins
  split
  · rename_i h
    have := any_iff.1 h
    constructor
    · exact .inr
    · rintro (rfl | h)
      · exact this
      · exact h
  · have e : x ∈ l ↔ x ∈ l.take (pos l n l.length) ∨ x ∈ l.drop (pos l n l.length) := by
      rw [← List.mem_append, List.take_append_drop]
    simp only [List.mem_append, List.mem_singleton, e]
    constructor
    · rintro ((h | h) | h)
      · exact .inr (.inl h)
      · exact .inl h
      · exact .inr (.inr h)
    · rintro (h | h | h)
      · exact .inl (.inr h)
      · exact .inl (.inl h)
      · exact .inr h
theorem foldl_ins_lt (l : List Int) : ∀ {o : List Int}, Lt o → Lt (l.foldl ins o) := by
  induction l with
  | nil => exact fun h => h
  | cons x l ih => exact fun h => ih (ins_lt h x)
theorem mem_foldl_ins (l : List Int) : ∀ {o : List Int} {x : Int}, x ∈ l.foldl ins o ↔ x ∈ o ∨ x ∈ l := by
  induction l with
  | nil => intro o x; simp
  | cons y l ih =>
    intro o x
    rw [List.foldl_cons, ih, mem_ins, List.mem_cons]
    constructor
    · rintro ((h | h) | h)
      · exact .inr (.inl h)
      · exact .inl h
      · exact .inr (.inr h)
    · rintro (h | h | h)
      · exact .inl (.inr h)
      · exact .inl (.inl h)
      · exact .inr h
theorem set_lt (l : List Int) : Lt (set l) := foldl_ins_lt l .nil
theorem mem_set {l : List Int} {x : Int} : x ∈ set l ↔ x ∈ l := by unfold set; rw [mem_foldl_ins]; simp
theorem set_len (l : List Int) : (set l).length ≤ l.length := nodup_len (set_lt l).nodup fun x hx => mem_set.1 hx
theorem set_eq (l : List Int) : Reg.compact (sortI l) = set l :=
  Reg.lt_unique (Reg.compact_lt (Reg.sortI_le l)) (set_lt l) fun x => by rw [Reg.mem_compact, (sortI_perm l).mem_iff, mem_set]
theorem set_self {l : List Int} (h : Lt l) : set l = l := Reg.lt_unique (set_lt l) h fun x => mem_set
theorem nums_lt (n : Nat) : Lt (nums n) := by
  unfold nums
  rw [Lt, List.pairwise_map]
  exact (List.pairwise_lt_range (n := n)).imp fun h => by omega
inductive Conn (s : List Int) (links : List (List Int)) (x : Int) : Int → Prop
  | refl : Conn s links x x
  | step (y z : Int) (l : List Int) (h : Conn s links x y) (hl : l ∈ links) (hy : y ∈ l) (hz : z ∈ l) (hs : z ∈ s) : Conn s links x z
variable {s : List Int} {links : List (List Int)} {x y z : Int}
theorem Conn.mem (h : Conn s links x y) (hx : x ∈ s) : y ∈ s := by
  cases h with
  | refl => exact hx
  | step _ _ _ _ _ _ _ hs => exact hs
theorem Conn.trans (h1 : Conn s links x y) (h2 : Conn s links y z) : Conn s links x z := by
  induction h2 with
  | refl => exact h1
  | step y z l _ hl hy hz hs ih => exact .step y z l ih hl hy hz hs
theorem Conn.symm (h : Conn s links x y) (hx : x ∈ s) : Conn s links y x := by
  induction h with
  | refl => exact .refl
  | step y z l h hl hy hz hs ih => exact (Conn.step z y l .refl hl hz hy (h.mem hx)).trans ih
theorem Conn.mono {s' : List Int} {links' : List (List Int)} (h : Conn s links x y) (hs : ∀ z ∈ s, z ∈ s') (hl : ∀ l ∈ links, ∀ y ∈ l, ∀ z ∈ l, y ∈ s' → z ∈ s → Conn s' links' y z) (hx : x ∈ s') : Conn s' links' x y := by
  induction h with
  | refl => exact .refl
  | step y z l h hl' hy hz hs' ih =>
    refine ih.trans (hl l hl' y hy z hz ?_ hs')
    cases h with
    | refl => exact hx
    | step _ _ _ _ _ _ _ h => exact hs _ h
theorem meets_iff {o l : List Int} : meets o l = true ↔ ∃ y ∈ l, y ∈ o := by
  unfold meets
  rw [List.any_eq_true]
  constructor
  · rintro ⟨y, h1, h2⟩; exact ⟨y, h1, any_iff.1 h2⟩
  · rintro ⟨y, h1, h2⟩; exact ⟨y, h1, any_iff.2 h2⟩
theorem meets_mono {o o' l : List Int} (h : meets o l = true) (hs : ∀ x ∈ o, x ∈ o') : meets o' l = true := by
  obtain ⟨y, h1, h2⟩ := meets_iff.1 h
  exact meets_iff.2 ⟨y, h1, hs y h2⟩
structure Grows (s : List Int) (links : List (List Int)) (x : Int) (o o' : List Int) : Prop where
  lt : Lt o'
  sub : ∀ y ∈ o, y ∈ o'
  conn : ∀ y ∈ o', Conn s links x y
theorem step1_part (l : List Int) (hl : l ∈ links) : ∀ (m : List Int) {o : List Int}, (∀ z ∈ m, z ∈ l) → Lt o → (∀ y ∈ o, Conn s links x y) →
    Grows s links x o (m.foldl (fun out z => if meets out l = true ∧ s.any (fun y => y == z) = true then ins out z else out) o) ∧
    (meets o l = true → ∀ z ∈ m, z ∈ s → z ∈ m.foldl (fun out z => if meets out l = true ∧ s.any (fun y => y == z) = true then ins out z else out) o)
  | [], o, _, h1, h2 => ⟨⟨h1, fun _ h => h, h2⟩, fun _ _ h => by simp at h⟩
  | z :: m, o, hm, h1, h2 => by
    rw [List.foldl_cons]
    by_cases hc : meets o l = true ∧ s.any (fun y => y == z) = true
    · rw [if_pos hc]
      obtain ⟨y, hy1, hy2⟩ := meets_iff.1 hc.1
      have hz := any_iff.1 hc.2
      have h2' : ∀ w ∈ ins o z, Conn s links x w := fun w hw => by
        rcases mem_ins.1 hw with rfl | hw
        · exact .step y w l (h2 y hy2) hl hy1 (hm w (List.mem_cons_self ..)) hz
        · exact h2 w hw
      obtain ⟨g, g2⟩ := step1_part l hl m (fun w hw => hm w (List.mem_cons_of_mem _ hw)) (ins_lt h1 z) h2'
      refine ⟨⟨g.lt, fun w hw => g.sub w (mem_ins.2 (.inr hw)), g.conn⟩, fun hmt w hw hws => ?_⟩
      rcases List.mem_cons.1 hw with rfl | hw
      · exact g.sub _ (mem_ins.2 (.inl rfl))
      · exact g2 (meets_mono hmt fun v hv => mem_ins.2 (.inr hv)) w hw hws
    · rw [if_neg hc]
      obtain ⟨g, g2⟩ := step1_part l hl m (fun w hw => hm w (List.mem_cons_of_mem _ hw)) h1 h2
      refine ⟨g, fun hmt w hw hws => ?_⟩
      rcases List.mem_cons.1 hw with rfl | hw
      · exact absurd ⟨hmt, any_iff.2 hws⟩ hc
      · exact g2 hmt w hw hws
theorem step1_ok {l o : List Int} (hl : l ∈ links) (h1 : Lt o) (h2 : ∀ y ∈ o, Conn s links x y) : Grows s links x o (step1 s l o) ∧ (meets o l = true → ∀ z ∈ l, z ∈ s → z ∈ step1 s l o) :=
  step1_part l hl l (fun _ h => h) h1 h2
theorem round_part : ∀ (ls : List (List Int)) {o : List Int}, (∀ l ∈ ls, l ∈ links) → Lt o → (∀ y ∈ o, Conn s links x y) →
    Grows s links x o (ls.foldl (fun out l => step1 s l out) o) ∧ ∀ l ∈ ls, meets o l = true → ∀ z ∈ l, z ∈ s → z ∈ ls.foldl (fun out l => step1 s l out) o
  | [], o, _, h1, h2 => ⟨⟨h1, fun _ h => h, h2⟩, fun _ h => by simp at h⟩
  | l :: ls, o, hl, h1, h2 => by
    rw [List.foldl_cons]
    obtain ⟨g, g2⟩ := step1_ok (hl l (List.mem_cons_self ..)) h1 h2
    obtain ⟨k, k2⟩ := round_part ls (fun w hw => hl w (List.mem_cons_of_mem _ hw)) g.lt g.conn
    refine ⟨⟨k.lt, fun w hw => k.sub w (g.sub w hw), k.conn⟩, fun w hw hmt z hz hs => ?_⟩
    rcases List.mem_cons.1 hw with rfl | hw
    · exact k.sub z (g2 hmt z hz hs)
    · exact k2 w hw (meets_mono hmt g.sub) z hz hs
theorem round_ok {o : List Int} (h1 : Lt o) (h2 : ∀ y ∈ o, Conn s links x y) : Grows s links x o (round s links o) ∧ ∀ l ∈ links, meets o l = true → ∀ z ∈ l, z ∈ s → z ∈ round s links o :=
  round_part links (fun _ h => h) h1 h2
theorem lt_same {a b : List Int} (ha : Lt a) (hb : Lt b) (hs : ∀ x ∈ a, x ∈ b) (hl : b.length ≤ a.length) : a = b := by
  refine Reg.lt_unique ha hb fun z => ⟨hs z, fun hz => ?_⟩
  refine Classical.byContradiction fun hn => ?_
  have := nodup_len (l := z :: a) (m := b) (List.nodup_cons.2 ⟨hn, ha.nodup⟩) fun w hw => by
    rcases List.mem_cons.1 hw with rfl | hw
    · exact hz
    · exact hs w hw
  simp only [List.length_cons] at this; omega
theorem clsN_ok : ∀ (n : Nat) {o : List Int}, Lt o → (∀ y ∈ o, Conn s links x y) → Grows s links x o (clsN s links n o) ∧
    ((∀ l ∈ links, meets (clsN s links n o) l = true → ∀ z ∈ l, z ∈ s → z ∈ clsN s links n o) ∨ o.length + n ≤ (clsN s links n o).length)
  | 0, o, h1, h2 => ⟨⟨h1, fun _ h => h, h2⟩, .inr (by simp [clsN])⟩
  | n + 1, o, h1, h2 => by
    obtain ⟨g, g2⟩ := round_ok (links := links) h1 h2
    unfold clsN
    by_cases he : (round s links o).length = o.length
    · rw [if_pos he]
      have e := lt_same h1 g.lt g.sub (by omega)
      refine ⟨g, .inl ?_⟩
      rw [← e] at g2 ⊢
      exact g2
    · rw [if_neg he]
      obtain ⟨k, k2⟩ := clsN_ok n g.lt g.conn
      refine ⟨⟨k.lt, fun w hw => k.sub w (g.sub w hw), k.conn⟩, ?_⟩
      rcases k2 with k2 | k2
      · exact .inl k2
      · have := nodup_len h1.nodup g.sub
        exact .inr (by omega)
theorem cls_ok (hx : x ∈ s) : Lt (cls s links x) ∧ ∀ y, y ∈ cls s links x ↔ Conn s links x y := by
  obtain ⟨g, g2⟩ := clsN_ok (s := s) (links := links) (x := x) s.length (o := [x]) (List.pairwise_singleton _ _) (fun y hy => by rw [List.mem_singleton.1 hy]; exact .refl)
  have hc : ∀ l ∈ links, meets (cls s links x) l = true → ∀ z ∈ l, z ∈ s → z ∈ cls s links x := by
    rcases g2 with g2 | g2
    · exact g2
    · have := nodup_len (m := s) g.lt.nodup fun y hy => (g.conn y hy).mem hx
      simp only [List.length_singleton] at g2; omega
  refine ⟨g.lt, fun y => ⟨g.conn y, fun h => ?_⟩⟩
  induction h with
  | refl => exact g.sub x (by simp)
  | step y z l h hl hy hz hs ih => exact hc l hl (meets_iff.2 ⟨y, hy, ih⟩) z hz hs
theorem drop_get {l : List Int} {i : Nat} (h : i < l.length) : l.drop i = l.getD i 0 :: l.drop (i + 1) := by
  rw [List.drop_eq_getElem_cons h, List.getD_eq_getElem?_getD, List.getElem?_eq_getElem h]; rfl
open Classical in
noncomputable def part (s : List Int) (links : List (List Int)) (x : Int) : List Int := s.filter fun y => decide (Conn s links x y)
open Classical in
noncomputable def isRep (s : List Int) (links : List (List Int)) (x : Int) : Bool := decide (∀ y ∈ s, y < x → ¬ Conn s links y x)
theorem cls_part (hs : Lt s) (hx : x ∈ s) : cls s links x = part s links x := by
  obtain ⟨h1, h2⟩ := cls_ok (links := links) hx
  refine Reg.lt_unique h1 (hs.filter _) fun y => ?_
  unfold part
  rw [h2, List.mem_filter]
  simp only [decide_eq_true_eq]
  exact ⟨fun h => ⟨h.mem hx, h⟩, fun h => h.2⟩
theorem clssF_ok (hs : Lt s) : ∀ (rest p : List Int) (st : List (List Int) × List Int), s = p ++ rest → st.1 = (p.filter (isRep s links)).map (part s links) → (∀ z, z ∈ st.2 ↔ ∃ y ∈ p, Conn s links y z) →
    (rest.foldl (clssF s links) st).1 = (s.filter (isRep s links)).map (part s links)
  | [], p, st, hp, h1, _ => by rw [List.append_nil] at hp; rw [hp]; rw [hp] at h1; exact h1
  | x :: rest, p, st, hp, h1, h2 => by
    have hx : x ∈ s := by rw [hp]; simp
    have hlt : ∀ y ∈ s, y < x ↔ y ∈ p := fun y hy => by
      rw [hp] at hs hy
      obtain ⟨a1, a2, a3⟩ := List.pairwise_append.1 hs
      constructor
      · intro h
        rcases List.mem_append.1 hy with hy | hy
        · exact hy
        · rcases List.mem_cons.1 hy with rfl | hy
          · omega
          · have := (List.pairwise_cons.1 a2).1 y hy; omega
      · intro h; exact a3 y h x (List.mem_cons_self ..)
    have hps : ∀ y ∈ p, y ∈ s := fun y hy => by rw [hp]; exact List.mem_append_left _ hy
    have hrep : isRep s links x = true ↔ x ∉ st.2 := by
      unfold isRep
      rw [h2]
      simp only [decide_eq_true_eq]
      constructor
      · rintro h ⟨y, hy, hc⟩; exact h y (hps y hy) ((hlt y (hps y hy)).2 hy) hc
      · intro h y hy hyx hc; exact h ⟨y, (hlt y hy).1 hyx, hc⟩
    rw [List.foldl_cons]
    refine clssF_ok hs rest (p ++ [x]) _ (by rw [hp]; simp) ?_ fun z => ?_
    · unfold clssF
      rw [List.filter_append, List.map_append]
      by_cases hd : st.2.any (fun y => y == x) = true
      · rw [if_pos hd]
        have : isRep s links x = false := by
          cases hr : isRep s links x with
          | false => rfl
          | true => exact absurd (any_iff.1 hd) (hrep.1 hr)
        rw [h1, List.filter_cons, this]; simp
      · rw [if_neg hd]
        have : isRep s links x = true := hrep.2 fun h => hd (any_iff.2 h)
        rw [List.filter_cons, this, h1, cls_part hs hx]; simp
    · unfold clssF
      by_cases hd : st.2.any (fun y => y == x) = true
      · rw [if_pos hd, h2]
        obtain ⟨y, hy, hc⟩ := (h2 x).1 (any_iff.1 hd)
        constructor
        · rintro ⟨y, hy, hc⟩; exact ⟨y, List.mem_append_left _ hy, hc⟩
        · rintro ⟨w, hw, hcw⟩
          rcases List.mem_append.1 hw with hw | hw
          · exact ⟨w, hw, hcw⟩
          · rw [List.mem_singleton.1 hw] at hcw; exact ⟨y, hy, hc.trans hcw⟩
      · rw [if_neg hd]
        show z ∈ (cls s links x).foldl ins st.2 ↔ _
        rw [mem_foldl_ins, h2, (cls_ok hx).2]
        constructor
        · rintro (⟨y, hy, hc⟩ | h)
          · exact ⟨y, List.mem_append_left _ hy, hc⟩
          · exact ⟨x, by simp, h⟩
        · rintro ⟨w, hw, hcw⟩
          rcases List.mem_append.1 hw with hw | hw
          · exact .inl ⟨w, hw, hcw⟩
          · rw [List.mem_singleton.1 hw] at hcw; exact .inr hcw
theorem clss_eq (hs : Lt s) (links : List (List Int)) : clss s links = (s.filter (isRep s links)).map (part s links) :=
  clssF_ok hs s [] ([], []) rfl rfl fun z => by simp
def back (i : Int) (l : List (List Int)) : Nat → Int → Int
  | 0, g => g
  | m + 1, g => if (l.getD m []).any (fun y => y == i) = true then back i l m (m : Int) else back i l m g
theorem flatten_take_le (l : List (List Int)) (i : Nat) : (l.take i).flatten.length ≤ l.flatten.length := by
  have : l.flatten = (l.take i).flatten ++ (l.drop i).flatten := by rw [← List.flatten_append, List.take_append_drop]
  rw [this, List.length_append]; omega
theorem idx_del (x : Int) : ∀ l : List Int, (Reg.idx (fun y => y == x) l = -1 ∧ del l x = l) ∨ ∃ j, j < l.length ∧ Reg.idx (fun y => y == x) l = (j : Int) ∧ del (l.take (j + 1)) x = l.take j := by
  have key : ∀ l : List Int, (l.findIdx? (fun y => y == x) = none ∧ del l x = l) ∨ ∃ j, j < l.length ∧ l.findIdx? (fun y => y == x) = Option.some j ∧ del (l.take (j + 1)) x = l.take j := by
    intro l
    induction l with
    | nil => exact .inl ⟨rfl, rfl⟩
    | cons a l ih =>
      rw [List.findIdx?_cons]
      cases h : a == x with
      | true => exact .inr ⟨0, by simp, rfl, by simp [del, h]⟩
      | false =>
        rcases ih with ⟨h1, h2⟩ | ⟨j, h1, h2, h3⟩
        · refine .inl ⟨by rw [h1]; rfl, ?_⟩
          unfold del at h2 ⊢
          rw [List.filter_cons, h, h2]; rfl
        · refine .inr ⟨j + 1, by simp; exact h1, by rw [h2]; rfl, ?_⟩
          unfold del at h3 ⊢
          rw [List.take_succ_cons, List.take_succ_cons, List.filter_cons, h, h3]; rfl
  intro l
  unfold Reg.idx
  rcases key l with ⟨h1, h2⟩ | ⟨j, h1, h2, h3⟩
  · rw [h1]; exact .inl ⟨rfl, h2⟩
  · rw [h2]; exact .inr ⟨j, h1, rfl, h3⟩
theorem del_len (l : List Int) (x : Int) : (del l x).length ≤ l.length := List.length_filter_le _ _
theorem del_succ {l : List Int} {i : Nat} (x : Int) (hi : i < l.length) : del (l.take (i + 1)) x = del (l.take i) x ++ (if l.getD i 0 = x then [] else [l.getD i 0]) := by
  unfold del
  rw [← Reg.take_get l 0 i hi, List.filter_append]
  congr 1
  generalize l.getD i 0 = y
  by_cases h : y = x
  · rw [if_pos h, List.filter_cons, h]; simp
  · rw [if_neg h, List.filter_cons]; simp [h]
theorem take_set {l : List Int} {t : Nat} (h : t < l.length) (v : Int) : (l.set t v).take (t + 1) = l.take t ++ [v] := by
  rw [List.take_set, ← Reg.take_get l 0 t h, List.set_append_right _ _ (by simp; omega)]
  have : t - (l.take t).length = 0 := by rw [List.length_take]; omega
  rw [this]; rfl
theorem drop_set {l : List Int} {t i : Nat} (h : t < i) (v : Int) : (l.set t v).drop i = l.drop i := by
  rw [List.drop_set_of_lt h]
end Go.Am.Isl
end
section
namespace Go.Am
open Go Go.Proofs
abbrev sp9 : List (Nat × Md) := [(0,.plain),(1,.plain),(7,.plain),(8,.plain)]
abbrev sp10 : List (Nat × Md) := [(3,.plain),(8,.plain),(9,.plain)]
abbrev sp11 : List (Nat × Md) := [(0,.plain),(3,.plain),(9,.plain),(10,.plain),(11,.plain)]
abbrev sp12 : List (Nat × Md) := [(6,.plain),(25,.plain),(26,.plain),(27,.plain)]
abbrev Ty8 := (List Int) × Int × Int × Int
abbrev Ty9 := (List (List Int)) × (List Int)
abbrev Ty11 := Int × Int × (List Int) × Int
abbrev Ty12 := Int × Int × (List Int) × Nat × Int
abbrev Ty13 := Int × (List Int) × Nat × Int
abbrev Ty14 := Int × Int × (List Int) × Nat
abbrev Ty15 := (List (List Int)) × Int × (List (List Int)) × Int × Int
abbrev Ty16 := (List (List Int)) × Int × Int × (List Int)
abbrev Ty17 := Int × (List (List Int)) × (List (List Int))
abbrev Ty18 := Int × Int × Int × (List (List Int)) × (List (List Int))
abbrev Ty19 := (List (List Int)) × (List (List Int)) × (List (List Int))
abbrev Ty20 := Int × Int × (List (List Int)) × (List (List Int)) × (List (List Int))
def lVG2244 : List CEnt := []
def VG2244 : Env := mkEnv T22 G22 lVG2244
theorem eVG2244 : EOk Try.prog VG2244 := eok_mk (by exact trivial)
def Af44 (F : Nat) : Cuts := { F := F,at_ := fun _ => none,join := fun _ => none }
def ef44_a : Int × Int → St := fun (a0,a1) => { tmps := [(0,(.int .i64 a0)),(1,(.ptr 0 0 1 0 0 0 1))],heap := [(0,(.cells 1 (.one (.int .i64 a1)) true))],next := 1,nt := 7,m := 1 }
def f44_1 (F : Nat) : Int × Int → Rz := fun (a0,a1) => (some ((.bool (a0 == a1)),[(.cells 1 (.one (.int .i64 a1)) true)]))
theorem f44_1_eq (F : Nat) : ∀ v,aexec VG2244 (Af44 F) (sub (bodyOf Try.f44) []) (ef44_a v) (kFin VG2244 none (Try.f44).results.toList) = f44_1 F v := by
  rintro ⟨a0,a1⟩; kernel_rfl
def f44 (F : Nat) : Int × Int → Rz := f44_1 F
theorem f44_body (F : Nat) (a0 : Int) (a1 : Int) : abody VG2244 (Af44 F) Try.f44 [(.int .i64 a0),(.ptr 0 0 1 0 0 0 1)] [(.cells 1 (.one (.int .i64 a1)) true)] = f44 F (a0,a1) :=
  (abody_in (c := (sub (bodyOf Try.f44) [])) (by kernel_rfl) (s := ef44_a (a0,a1)) (by kernel_rfl)).trans (f44_1_eq F (a0,a1))
def r44 : CRun := fun X H => match X,H with
  | [(.int .i64 a0),(.ptr 0 0 1 0 0 0 1)],[(.cells 1 (.one (.int .i64 a1)) true)] => some (true,(.bool (a0 == a1)),[(.cells 1 (.one (.int .i64 a1)) true)])
  | _,_ => none
theorem s44 (a0 : Int) (a1 : Int) (h0 : okV (.int .i64 a0)) (k0 : okB (.cells 1 (.one (.int .i64 a1)) true)) : ∃ F,f44 F (a0,a1) = some ((.bool (a0 == a1)),[(.cells 1 (.one (.int .i64 a1)) true)]) := ⟨0,rfl⟩
theorem c44 : CallOk Try.prog G22 44 r44 := callOk_of (V := VG2244) mixed tys eVG2244 (f := 44) (fn := Try.f44) Try.func44 (by kernel_rfl) (c := sub (bodyOf Try.f44) []) (by kernel_rfl) (by
  intro X H r H' h hX hH
  unfold r44 at h; split at h <;> try contradiction
  · simp only [Option.some.injEq,Prod.mk.injEq] at h
    obtain ⟨hp,rfl,rfl⟩ := h
    obtain ⟨F,hF⟩ := s44 _ _ (hX _ (.head _)) (hH _ (.head _))
    exact ⟨Af44 F,(f44_body F _ _).trans hF⟩)
def lVG2262 : List CEnt := [(44,[none,none],r44)]
def VG2262 : Env := mkEnv T22 G22 lVG2262
theorem eVG2262 : EOk Try.prog VG2262 := eok_mk (by exact ⟨c44,trivial⟩)
def Af62 (F : Nat) : Cuts := { F := F,at_ := fun n => match n with | 2018 => some sp9 | _ => none,join := fun n => match n with | 1026 => some [(0,.plain),(1,.plain)] | 2020 => some sp9 | 7003 => some [] | _ => none }
def ef62_a : (List Int) × Int → St := fun (a0,a1) => { tmps := [(0,(.vs (.rI .i64 a0) 0 1)),(1,(.fn 44 (.cons 0 (.ptr 0 0 1 0 0 0 1) .nil)))],heap := [(0,(.cells 1 (.one (.int .i64 a1)) true))],next := 1,nt := 19,m := 1 }
def ef62j1 : (List Int) × Int → St := fun (t0,x2) => { tmps := [(0,(.vs (.rI .i64 t0) 0 1)),(1,(.fn 44 (.cons 0 (.ptr 0 0 1 0 0 0 1) .nil)))],heap := [(0,(.cells 1 (.one (.int .i64 x2)) true))],next := 1,nt := 19,m := 1 }
def ef62j2 : Ty8 → St := fun (t0,t7,t8,x4) => { tmps := [(0,(.vs (.rI .i64 t0) 0 1)),(1,(.fn 44 (.cons 0 (.ptr 0 0 1 0 0 0 1) .nil))),(7,(.int .i64 t7)),(8,(.int .i64 t8))],heap := [(0,(.cells 1 (.one (.int .i64 x4)) true))],next := 1,nt := 19,m := 1 }
def ef62l1 : Ty8 → St := fun (t0,t7,t8,x4) => { tmps := [(0,(.vs (.rI .i64 t0) 0 1)),(1,(.fn 44 (.cons 0 (.ptr 0 0 1 0 0 0 1) .nil))),(7,(.int .i64 t7)),(8,(.int .i64 t8))],heap := [(0,(.cells 1 (.one (.int .i64 x4)) true))],next := 1,nt := 19,m := 1 }
def ef62j3 : Int → St := fun x1 => { tmps := [],heap := [(0,(.cells 1 (.one (.int .i64 x1)) true))],next := 1,nt := 19,m := 1 }
def f62_1 (F : Nat) (kf62j1 : (List Int) × Int → Rz) : (List Int) × Int → Rz := fun (a0,a1) => (kf62j1 (a0,a1))
theorem f62_1_eq (F : Nat) (Rf62j1 : St → Rz) : ∀ v,aexec VG2262 (Af62 F) (bp Try.f62 2) (ef62_a v) (kSeq (kc VG2262 Rf62j1 [(0,.plain),(1,.plain)]) (kFin VG2262 none (Try.f62).results.toList)) = f62_1 F (Rf62j1 ∘ ef62j1) v := by
  rintro ⟨a0,a1⟩; kernel_rfl
def f62_2 (F : Nat) (kf62j2 : Ty8 → Rz) (kf62j3 : Int → Rz) : (List Int) × Int → Rz := fun (t0,x2) => (kf62j2 (t0,(↑t0.length : Int),(0 : Int),x2))
theorem f62_2_eq (F : Nat) (Rf62j2 : St → Rz) (Rf62j3 : St → Rz) : ∀ v,aexec VG2262 (Af62 F) (bp Try.f62 12) (ef62j1 v) (kSeq (kc VG2262 Rf62j2 sp9) (kSeq (kc VG2262 Rf62j3 []) (kFin VG2262 none (Try.f62).results.toList))) = f62_2 F (Rf62j2 ∘ ef62j2) (Rf62j3 ∘ ef62j3) v := by
  rintro ⟨t0,x2⟩; kernel_rfl
def f62_3 (F : Nat) (kf62l1 : Ty8 → Rz) (kf62j3 : Int → Rz) : Ty8 → Rz := fun (t0,t7,t8,x4) => (cond (decide (t8 < t7)) (cond ((decide (0 ≤ t8)) && (decide (t8 < (↑t0.length : Int)))) (cond ((t0.getD (Int.toNat t8) 0) == x4) (some ((.int .i64 t8),[(.cells 1 (.one (.int .i64 x4)) true)])) (kf62l1 (t0,t7,(IntKind.i64.wrap (t8 + (1 : Int))),x4))) none) (kf62j3 x4))
theorem f62_3_eq (F : Nat) (Rf62l1 : St → Rz) (Rf62j3 : St → Rz) : ∀ v,aexec VG2262 (Af62 F) (bp Try.f62 52) (ef62l1 v) (kSeq (kc VG2262 Rf62l1 sp9) (kBlock 0 (kSeq (kc VG2262 Rf62j3 []) (kFin VG2262 none (Try.f62).results.toList)))) = f62_3 F (Rf62l1 ∘ ef62l1) (Rf62j3 ∘ ef62j3) v := by
  rintro ⟨t0,t7,t8,x4⟩; kernel_rfl
def f62_4_i : Ty8 → (List Int) × Int × Int × Int := fun (t0,t7,t8,x4) => (t0,t7,t8,x4)
def f62_4 (F : Nat) (kf62j3 : Int → Rz) : Ty8 → Rz := fun v => loopN (fun k => f62_3 F k kf62j3) F (f62_4_i v)
theorem f62_4_eq (F : Nat) (Rf62j3 : St → Rz) : ∀ v,aexec VG2262 (Af62 F) (bp Try.f62 26) (ef62j2 v) (kBlock 0 (kSeq (kc VG2262 Rf62j3 []) (kFin VG2262 none (Try.f62).results.toList))) = f62_4 F (Rf62j3 ∘ ef62j3) v :=
  loop_cut (by kernel_rfl) (by kernel_rfl) ef62j2 ef62l1 _ f62_4_i (fun k => f62_3 F k (Rf62j3 ∘ ef62j3))
    (by rintro ⟨t0,t7,t8,x4⟩; kernel_rfl) (fun Rf62l1 => f62_3_eq F Rf62l1 Rf62j3)
def f62_5 (F : Nat) (kf62j3 : Int → Rz) : Ty8 → Rz := f62_4 F kf62j3
theorem f62_5_eq (F : Nat) (Rf62j3 : St → Rz) : ∀ v,aexec VG2262 (Af62 F) (bp Try.f62 13) (ef62j2 v) (kSeq (kc VG2262 Rf62j3 []) (kFin VG2262 none (Try.f62).results.toList)) = f62_5 F (Rf62j3 ∘ ef62j3) v := fun v =>
  (block_in  (by kernel_rfl) _ _).trans (f62_4_eq F Rf62j3 v)
def f62_6 (F : Nat) (kf62j3 : Int → Rz) : (List Int) × Int → Rz := fun v => f62_2 F (f62_5 F kf62j3) kf62j3 v
theorem f62_6_eq (F : Nat) (Rf62j3 : St → Rz) : ∀ v,aexec VG2262 (Af62 F) (bp Try.f62 6) (ef62j1 v) (kSeq (kc VG2262 Rf62j3 []) (kFin VG2262 none (Try.f62).results.toList)) = f62_6 F (Rf62j3 ∘ ef62j3) v :=
  seq_cut (by kernel_rfl) (by kernel_rfl) ef62j1 ef62j2 _ (fun k => f62_2 F k (Rf62j3 ∘ ef62j3)) (f62_5 F (Rf62j3 ∘ ef62j3))
    (fun Rf62j2 => f62_2_eq F Rf62j2 Rf62j3) (f62_5_eq F Rf62j3)
def f62_7 (F : Nat) : Int → Rz := fun x1 => (some ((.int .i64 (-1 : Int)),[(.cells 1 (.one (.int .i64 x1)) true)]))
theorem f62_7_eq (F : Nat) : ∀ v,aexec VG2262 (Af62 F) (bp Try.f62 7) (ef62j3 v) (kFin VG2262 none (Try.f62).results.toList) = f62_7 F v := by
  intro x1; kernel_rfl
def f62_8 (F : Nat) : (List Int) × Int → Rz := fun v => f62_6 F (f62_7 F) v
theorem f62_8_eq (F : Nat) : ∀ v,aexec VG2262 (Af62 F) (bp Try.f62 3) (ef62j1 v) (kFin VG2262 none (Try.f62).results.toList) = f62_8 F v :=
  seq_cut (by kernel_rfl) (by kernel_rfl) ef62j1 ef62j3 _ (fun k => f62_6 F k) (f62_7 F)
    (fun Rf62j3 => f62_6_eq F Rf62j3) (f62_7_eq F)
def f62_9 (F : Nat) : (List Int) × Int → Rz := fun v => f62_1 F (f62_8 F) v
theorem f62_9_eq (F : Nat) : ∀ v,aexec VG2262 (Af62 F) (sub (bodyOf Try.f62) []) (ef62_a v) (kFin VG2262 none (Try.f62).results.toList) = f62_9 F v :=
  seq_cut (by kernel_rfl) (by kernel_rfl) ef62_a ef62j1 _ (fun k => f62_1 F k) (f62_8 F)
    (fun Rf62j1 => f62_1_eq F Rf62j1) (f62_8_eq F)
def f62 (F : Nat) : (List Int) × Int → Rz := f62_9 F
theorem f62_body (F : Nat) (a0 : List Int) (a1 : Int) : abody VG2262 (Af62 F) Try.f62 [(.vs (.rI .i64 a0) 0 1),(.fn 44 (.cons 0 (.ptr 0 0 1 0 0 0 1) .nil))] [(.cells 1 (.one (.int .i64 a1)) true)] = f62 F (a0,a1) :=
  (abody_in (c := (sub (bodyOf Try.f62) [])) (by kernel_rfl) (s := ef62_a (a0,a1)) (by kernel_rfl)).trans (f62_9_eq F (a0,a1))
def r62 : CRun := fun X H => match X,H with
  | [(.vs (.rI .i64 a0) 0 1),(.fn 44 (.cons 0 (.ptr 0 0 1 0 0 0 1) .nil))],[(.cells 1 (.one (.int .i64 a1)) true)] => some (true,(.int .i64 (Reg.idx (fun y => y == a1) a0)),[(.cells 1 (.one (.int .i64 a1)) true)])
  | _,_ => none
theorem s62 (a0 : List Int) (a1 : Int) (h0 : okV (.vs (.rI .i64 a0) 0 1)) (k0 : okB (.cells 1 (.one (.int .i64 a1)) true)) : ∃ F,f62 F (a0,a1) = some ((.int .i64 (Reg.idx (fun y => y == a1) a0)),[(.cells 1 (.one (.int .i64 a1)) true)]) := by
  have hlen := h0.2
  refine ⟨a0.length + 1,?_⟩
  simp only [f62_1,f62_2,f62_4_i,f62_4,f62_5,f62_6,f62_7,f62_8,f62_9,f62]
  have hb : a0.length < 4611686018427387904 := hlen
  refine (loopN_scan (fun i => (a0,(a0.length : Int),(i : Int),a1)) a0.length (fun i => if (a0.getD i 0 == a1) = true then some (some (AV.int .i64 (i : Int),[(Blk.cells 1 (.one (.int .i64 a1)) true)])) else none) (some (AV.int .i64 (-1),[(Blk.cells 1 (.one (.int .i64 a1)) true)])) (by rfl) (fun i hi k => ?_) (fun k => ?_) _ (by omega)).trans ?_
  · simp only [f62_3,dec_and]
    rw [cond_pos (by omega),cond_pos (by omega),Int.toNat_natCast,i64w (by omega) (by omega)]
    cases (a0.getD i 0 == a1) <;> rfl
  · simp only [f62_3]
    rw [cond_neg (by omega)]
    rfl
  · rw [scan_idx (fun y => y == a1) a0 0 (fun i => some (AV.int .i64 (i : Int),[(Blk.cells 1 (.one (.int .i64 a1)) true)]))]
    unfold Reg.idx
    cases a0.findIdx? _ <;> rfl
theorem c62 : CallOk Try.prog G22 62 r62 := callOk_of (V := VG2262) mixed tys eVG2262 (f := 62) (fn := Try.f62) Try.func62 (by kernel_rfl) (c := sub (bodyOf Try.f62) []) (by kernel_rfl) (by
  intro X H r H' h hX hH
  unfold r62 at h; split at h <;> try contradiction
  · simp only [Option.some.injEq,Prod.mk.injEq] at h
    obtain ⟨hp,rfl,rfl⟩ := h
    obtain ⟨F,hF⟩ := s62 _ _ (hX _ (.head _)) (hH _ (.head _))
    exact ⟨Af62 F,(f62_body F _ _).trans hF⟩)
def lVG2242 : List CEnt := [(44,[none,none],r44),(62,[some 3,none],r62)]
def VG2242 : Env := mkEnv T22 G22 lVG2242
theorem eVG2242 : EOk Try.prog VG2242 := eok_mk (by exact ⟨c44,c62,trivial⟩)
def Af42 (F : Nat) : Cuts := { F := F,at_ := fun n => match n with | 5018 => some sp3 | _ => none,join := fun n => match n with | 1038 => some [(0,.plain),(1,.plain)] | 2036 => some sp2 | 4028 => some sp2 | 5020 => some sp3 | 11005 => some [(0,.plain),(5,.plain)] | _ => none,fin := (some [(4,(.view 3))]) }
def ef42_a : (List Int) × Int → St := fun (a0,a1) => { tmps := [(0,(.own 0 0 1)),(1,(.fn 44 (.cons 0 (.ptr 1 0 1 0 0 0 1) .nil)))],heap := [(0,(.cells a0.length (.rI .i64 a0) true)),(1,(.cells 1 (.one (.int .i64 a1)) true))],next := 2,nt := 42,m := 2 }
def ef42j1 : (List Int) × Int → St := fun (x1,x2) => { tmps := [(0,(.own 0 0 1)),(1,(.fn 44 (.cons 0 (.ptr 1 0 1 0 0 0 1) .nil)))],heap := [(0,(.cells x1.length (.rI .i64 x1) true)),(1,(.cells 1 (.one (.int .i64 x2)) true))],next := 2,nt := 42,m := 2 }
def ef42j2 : Int × (List Int) × Int → St := fun (t5,x2,x3) => { tmps := [(0,(.own 0 0 1)),(1,(.fn 44 (.cons 0 (.ptr 1 0 1 0 0 0 1) .nil))),(5,(.int .i64 t5))],heap := [(0,(.cells x2.length (.rI .i64 x2) true)),(1,(.cells 1 (.one (.int .i64 x3)) true))],next := 2,nt := 42,m := 2 }
def ef42j3 : Int × (List Int) × Int → St := fun (t5,x2,x3) => { tmps := [(0,(.own 0 0 1)),(1,(.fn 44 (.cons 0 (.ptr 1 0 1 0 0 0 1) .nil))),(5,(.int .i64 t5))],heap := [(0,(.cells x2.length (.rI .i64 x2) true)),(1,(.cells 1 (.one (.int .i64 x3)) true))],next := 2,nt := 42,m := 2 }
def ef42j4 : Ty11 → St := fun (t5,t6,x3,x4) => { tmps := [(0,(.own 0 0 1)),(1,(.fn 44 (.cons 0 (.ptr 1 0 1 0 0 0 1) .nil))),(5,(.int .i64 t5)),(6,(.int .i64 t6))],heap := [(0,(.cells x3.length (.rI .i64 x3) true)),(1,(.cells 1 (.one (.int .i64 x4)) true))],next := 2,nt := 42,m := 2 }
def ef42l1 : Ty12 → St := fun (t5,t6,x3,x5,x4) => { tmps := [(0,(.own 0 0 1)),(1,(.fn 44 (.cons 0 (.ptr 1 0 1 0 0 0 1) .nil))),(5,(.int .i64 t5)),(6,(.int .i64 t6))],heap := [(0,(.cells x5 (.rI .i64 x3) true)),(1,(.cells 1 (.one (.int .i64 x4)) true))],next := 2,nt := 42,m := 2 }
def ef42j5 : Ty13 → St := fun (t5,x2,x3,x4) => { tmps := [(0,(.own 0 0 1)),(5,(.int .i64 t5))],heap := [(0,(.cells x3 (.rI .i64 x2) true)),(1,(.cells 1 (.one (.int .i64 x4)) true))],next := 2,nt := 42,m := 2 }
def f42_1 (F : Nat) (kf42j1 : (List Int) × Int → Rz) : (List Int) × Int → Rz := fun (a0,a1) => (kf42j1 (a0,a1))
theorem f42_1_eq (F : Nat) (Rf42j1 : St → Rz) : ∀ v,aexec VG2242 (Af42 F) (bp Try.f42 2) (ef42_a v) (kSeq (kc VG2242 Rf42j1 [(0,.plain),(1,.plain)]) (kFin VG2242 (some [(4,(.view 3))]) (Try.f42).results.toList)) = f42_1 F (Rf42j1 ∘ ef42j1) v := by
  rintro ⟨a0,a1⟩; kernel_rfl
def f42_2 (F : Nat) (kf42j2 : Int × (List Int) × Int → Rz) : (List Int) × Int → Rz := fun (x1,x2) => (kf42j2 ((Reg.idx (fun y => y == x2) x1),x1,x2))
theorem f42_2_eq (F : Nat) (Rf42j2 : St → Rz) : ∀ v,aexec VG2242 (Af42 F) (bp Try.f42 6) (ef42j1 v) (kSeq (kc VG2242 Rf42j2 sp2) (kFin VG2242 (some [(4,(.view 3))]) (Try.f42).results.toList)) = f42_2 F (Rf42j2 ∘ ef42j2) v := by
  rintro ⟨x1,x2⟩; kernel_rfl
def f42_3 (F : Nat) (kf42j3 : Int × (List Int) × Int → Rz) : Int × (List Int) × Int → Rz := fun (t5,x2,x3) => (cond (t5 == (-1 : Int)) (some ((.vs (.rI .i64 x2) 0 1),[(.cells x2.length (.rI .i64 x2) false),(.cells 1 (.one (.int .i64 x3)) true)])) (kf42j3 (t5,x2,x3)))
theorem f42_3_eq (F : Nat) (Rf42j3 : St → Rz) : ∀ v,aexec VG2242 (Af42 F) (bp Try.f42 14) (ef42j2 v) (kSeq (kc VG2242 Rf42j3 sp2) (kFin VG2242 (some [(4,(.view 3))]) (Try.f42).results.toList)) = f42_3 F (Rf42j3 ∘ ef42j3) v := by
  rintro ⟨t5,x2,x3⟩; kernel_rfl
def f42_4 (F : Nat) (kf42j4 : Ty11 → Rz) (kf42j5 : Ty13 → Rz) : Int × (List Int) × Int → Rz := fun (t5,x2,x3) => (kf42j4 (t5,(IntKind.i64.wrap (t5 + (1 : Int))),x2,x3))
theorem f42_4_eq (F : Nat) (Rf42j4 : St → Rz) (Rf42j5 : St → Rz) : ∀ v,aexec VG2242 (Af42 F) (bp Try.f42 60) (ef42j3 v) (kSeq (kc VG2242 Rf42j4 sp3) (kSeq (kc VG2242 Rf42j5 [(0,.plain),(5,.plain)]) (kFin VG2242 (some [(4,(.view 3))]) (Try.f42).results.toList))) = f42_4 F (Rf42j4 ∘ ef42j4) (Rf42j5 ∘ ef42j5) v := by
  rintro ⟨t5,x2,x3⟩; kernel_rfl
def f42_5 (F : Nat) (kf42l1 : Ty12 → Rz) (kf42j5 : Ty13 → Rz) : Ty12 → Rz := fun (t5,t6,x3,x5,x4) => (cond (decide (t6 < (↑x3.length : Int))) (cond ((decide (0 ≤ t6)) && (decide (t6 < (↑x3.length : Int)))) (cond (!((x3.getD (Int.toNat t6) 0) == x4)) (cond ((decide (0 ≤ t5)) && (decide (t5 < (↑x3.length : Int)))) (kf42l1 ((IntKind.i64.wrap (t5 + (1 : Int))),(IntKind.i64.wrap (t6 + (1 : Int))),(x3.set (Int.toNat t5) (x3.getD (Int.toNat t6) 0)),x5,x4)) none) (kf42l1 (t5,(IntKind.i64.wrap (t6 + (1 : Int))),x3,x5,x4))) none) (kf42j5 (t5,x3,x5,x4)))
theorem f42_5_eq (F : Nat) (Rf42l1 : St → Rz) (Rf42j5 : St → Rz) : ∀ v,aexec VG2242 (Af42 F) (bp Try.f42 244) (ef42l1 v) (kSeq (kc VG2242 Rf42l1 sp3) (kBlock 0 (kSeq (kc VG2242 Rf42j5 [(0,.plain),(5,.plain)]) (kFin VG2242 (some [(4,(.view 3))]) (Try.f42).results.toList)))) = f42_5 F (Rf42l1 ∘ ef42l1) (Rf42j5 ∘ ef42j5) v := by
  rintro ⟨t5,t6,x3,x5,x4⟩; kernel_rfl
def f42_6_i : Ty11 → Int × Int × (List Int) × Nat × Int := fun (t5,t6,x3,x4) => (t5,t6,x3,x3.length,x4)
def f42_6 (F : Nat) (kf42j5 : Ty13 → Rz) : Ty11 → Rz := fun v => loopN (fun k => f42_5 F k kf42j5) F (f42_6_i v)
theorem f42_6_eq (F : Nat) (Rf42j5 : St → Rz) : ∀ v,aexec VG2242 (Af42 F) (bp Try.f42 122) (ef42j4 v) (kBlock 0 (kSeq (kc VG2242 Rf42j5 [(0,.plain),(5,.plain)]) (kFin VG2242 (some [(4,(.view 3))]) (Try.f42).results.toList))) = f42_6 F (Rf42j5 ∘ ef42j5) v :=
  loop_cut (by kernel_rfl) (by kernel_rfl) ef42j4 ef42l1 _ f42_6_i (fun k => f42_5 F k (Rf42j5 ∘ ef42j5))
    (by rintro ⟨t5,t6,x3,x4⟩; kernel_rfl) (fun Rf42l1 => f42_5_eq F Rf42l1 Rf42j5)
def f42_7 (F : Nat) (kf42j5 : Ty13 → Rz) : Ty11 → Rz := f42_6 F kf42j5
theorem f42_7_eq (F : Nat) (Rf42j5 : St → Rz) : ∀ v,aexec VG2242 (Af42 F) (bp Try.f42 61) (ef42j4 v) (kSeq (kc VG2242 Rf42j5 [(0,.plain),(5,.plain)]) (kFin VG2242 (some [(4,(.view 3))]) (Try.f42).results.toList)) = f42_7 F (Rf42j5 ∘ ef42j5) v := fun v =>
  (block_in  (by kernel_rfl) _ _).trans (f42_6_eq F Rf42j5 v)
def f42_8 (F : Nat) (kf42j5 : Ty13 → Rz) : Int × (List Int) × Int → Rz := fun v => f42_4 F (f42_7 F kf42j5) kf42j5 v
theorem f42_8_eq (F : Nat) (Rf42j5 : St → Rz) : ∀ v,aexec VG2242 (Af42 F) (bp Try.f42 30) (ef42j3 v) (kSeq (kc VG2242 Rf42j5 [(0,.plain),(5,.plain)]) (kFin VG2242 (some [(4,(.view 3))]) (Try.f42).results.toList)) = f42_8 F (Rf42j5 ∘ ef42j5) v :=
  seq_cut (by kernel_rfl) (by kernel_rfl) ef42j3 ef42j4 _ (fun k => f42_4 F k (Rf42j5 ∘ ef42j5)) (f42_7 F (Rf42j5 ∘ ef42j5))
    (fun Rf42j4 => f42_4_eq F Rf42j4 Rf42j5) (f42_7_eq F Rf42j5)
def f42_9 (F : Nat) : Ty13 → Rz := fun (t5,x2,x3,x4) => (cond (((decide (0 ≤ t5)) && (decide (t5 ≤ (↑x2.length : Int)))) && (decide ((↑x2.length : Int) ≤ (↑x2.length : Int)))) (cond ((decide ((0 : Int) ≤ t5)) && (decide (t5 ≤ (↑(x2.take (Int.toNat t5) ++ ((List.replicate (x2.length - (Int.toNat t5)) 0).take (min (x2.length - (Int.toNat t5)) (x2.length - (Int.toNat t5)))) ++ x2.drop ((Int.toNat t5) + (min (x2.length - (Int.toNat t5)) (x2.length - (Int.toNat t5))))).length : Int)))) (some ((.vs (.rI .i64 ((x2.take (Int.toNat t5) ++ ((List.replicate (x2.length - (Int.toNat t5)) 0).take (min (x2.length - (Int.toNat t5)) (x2.length - (Int.toNat t5)))) ++ x2.drop ((Int.toNat t5) + (min (x2.length - (Int.toNat t5)) (x2.length - (Int.toNat t5))))).take (Int.toNat t5))) 0 1),[(.cells x3 (.rI .i64 (x2.take (Int.toNat t5) ++ ((List.replicate (x2.length - (Int.toNat t5)) 0).take (min (x2.length - (Int.toNat t5)) (x2.length - (Int.toNat t5)))) ++ x2.drop ((Int.toNat t5) + (min (x2.length - (Int.toNat t5)) (x2.length - (Int.toNat t5)))))) false),(.cells 1 (.one (.int .i64 x4)) true)])) none) none)
theorem f42_9_eq (F : Nat) : ∀ v,aexec VG2242 (Af42 F) (bp Try.f42 31) (ef42j5 v) (kFin VG2242 (some [(4,(.view 3))]) (Try.f42).results.toList) = f42_9 F v := by
  rintro ⟨t5,x2,x3,x4⟩; kernel_rfl
def f42_10 (F : Nat) : Int × (List Int) × Int → Rz := fun v => f42_8 F (f42_9 F) v
theorem f42_10_eq (F : Nat) : ∀ v,aexec VG2242 (Af42 F) (bp Try.f42 15) (ef42j3 v) (kFin VG2242 (some [(4,(.view 3))]) (Try.f42).results.toList) = f42_10 F v :=
  seq_cut (by kernel_rfl) (by kernel_rfl) ef42j3 ef42j5 _ (fun k => f42_8 F k) (f42_9 F)
    (fun Rf42j5 => f42_8_eq F Rf42j5) (f42_9_eq F)
def f42_11 (F : Nat) : Int × (List Int) × Int → Rz := fun v => f42_3 F (f42_10 F) v
theorem f42_11_eq (F : Nat) : ∀ v,aexec VG2242 (Af42 F) (bp Try.f42 7) (ef42j2 v) (kFin VG2242 (some [(4,(.view 3))]) (Try.f42).results.toList) = f42_11 F v :=
  seq_cut (by kernel_rfl) (by kernel_rfl) ef42j2 ef42j3 _ (fun k => f42_3 F k) (f42_10 F)
    (fun Rf42j3 => f42_3_eq F Rf42j3) (f42_10_eq F)
def f42_12 (F : Nat) : (List Int) × Int → Rz := fun v => f42_2 F (f42_11 F) v
theorem f42_12_eq (F : Nat) : ∀ v,aexec VG2242 (Af42 F) (bp Try.f42 3) (ef42j1 v) (kFin VG2242 (some [(4,(.view 3))]) (Try.f42).results.toList) = f42_12 F v :=
  seq_cut (by kernel_rfl) (by kernel_rfl) ef42j1 ef42j2 _ (fun k => f42_2 F k) (f42_11 F)
    (fun Rf42j2 => f42_2_eq F Rf42j2) (f42_11_eq F)
def f42_13 (F : Nat) : (List Int) × Int → Rz := fun v => f42_1 F (f42_12 F) v
theorem f42_13_eq (F : Nat) : ∀ v,aexec VG2242 (Af42 F) (sub (bodyOf Try.f42) []) (ef42_a v) (kFin VG2242 (some [(4,(.view 3))]) (Try.f42).results.toList) = f42_13 F v :=
  seq_cut (by kernel_rfl) (by kernel_rfl) ef42_a ef42j1 _ (fun k => f42_1 F k) (f42_12 F)
    (fun Rf42j1 => f42_1_eq F Rf42j1) (f42_12_eq F)
def f42 (F : Nat) : (List Int) × Int → Rz := f42_13 F
theorem f42_body (F : Nat) (a0 : List Int) (a1 : Int) : abody VG2242 (Af42 F) Try.f42 [(.own 0 0 1),(.fn 44 (.cons 0 (.ptr 1 0 1 0 0 0 1) .nil))] [(.cells a0.length (.rI .i64 a0) true),(.cells 1 (.one (.int .i64 a1)) true)] = f42 F (a0,a1) :=
  (abody_in (c := (sub (bodyOf Try.f42) [])) (by kernel_rfl) (s := ef42_a (a0,a1)) (by kernel_rfl)).trans (f42_13_eq F (a0,a1))
def r42 : CRun := fun X H => match X,H with
  | [(.own 0 0 1),(.fn 44 (.cons 0 (.ptr 1 0 1 0 0 0 1) .nil))],[(.cells z0 (.rI .i64 a0) true),(.cells 1 (.one (.int .i64 a1)) true)] => some ((decide (a0.length < 1073740000)),(.vs (.rI .i64 (Isl.del a0 a1)) 0 1),[(.cells a0.length (.rI .i64 (Isl.delZ a0 a1)) false),(.cells 1 (.one (.int .i64 a1)) true)])
  | _,_ => none
theorem s42 (a0 : List Int) (a1 : Int) (hp : ((decide (a0.length < 1073740000))) = true) (k0 : okB (.cells a0.length (.rI .i64 a0) true)) (k1 : okB (.cells 1 (.one (.int .i64 a1)) true)) : ∃ F,f42 F (a0,a1) = some ((.vs (.rI .i64 (Isl.del a0 a1)) 0 1),[(.cells a0.length (.rI .i64 (Isl.delZ a0 a1)) false),(.cells 1 (.one (.int .i64 a1)) true)]) := by
  simp only [decide_eq_true_eq] at hp
  refine ⟨a0.length + 1,?_⟩
  simp only [f42_1,f42_2,f42_3,f42_4,f42_6_i,f42_6,f42_7,f42_8,f42_9,f42_10,f42_11,f42_12,f42_13,f42,Nat.min_self]
  have hii := Isl.idx_del a1 a0
  generalize Reg.idx (fun y => y == a1) a0 = ix at hii
  simp only [int_beq]
  rcases hii with ⟨h1,h2⟩ | ⟨j,hj,h1,h2⟩
  · rw [h1,cond_pos rfl,Isl.delZ,h2,Nat.sub_self]
    simp
  rw [h1,cond_neg (by omega),i64w (by omega) (by omega)]
  refine loopN_ind (fun m s => ∃ (t : Nat) (x : List Int),s = ((t : Int),((a0.length - m : Nat) : Int),x,a0.length,a1) ∧ m < a0.length ∧ t < a0.length - m ∧ x.length = a0.length ∧ x.take t = Isl.del (a0.take (a0.length - m)) a1 ∧ x.drop (a0.length - m) = a0.drop (a0.length - m)) ?_ _ (a0.length - (j + 1)) _ (by omega)
    ⟨j,a0,by rw [show a0.length - (a0.length - (j + 1)) = j + 1 by omega]; rfl,by omega,by omega,rfl,by rw [show a0.length - (a0.length - (j + 1)) = j + 1 by omega,h2],rfl⟩
  rintro m s k ⟨t,x,rfl,hm,ht,hx,e1,e2⟩ hk
  have htl : t = (Isl.del (a0.take (a0.length - m)) a1).length := by rw [← e1,List.length_take]; omega
  simp only [f42_5,dec_and,Int.toNat_natCast,dec_not,int_beq]
  cases m with
  | zero =>
    rw [Nat.sub_zero,List.take_length] at e1 htl
    rw [cond_neg (by omega)]
    simp only [f42_1,f42_2,f42_3,f42_4,f42_6_i,f42_6,f42_7,f42_8,f42_9,f42_10,f42_11,f42_12,f42_13,f42,dec_and,Int.toNat_natCast,Nat.min_self]
    have e3 : (List.replicate (x.length - t) (0 : Int)).take (x.length - t) = List.replicate (x.length - t) 0 := List.take_of_length_le (by simp)
    have e4 : x.drop (t + (x.length - t)) = [] := List.drop_of_length_le (by omega)
    have e5 : x.take t ++ (List.replicate (x.length - t) 0 ++ []) = Isl.delZ a0 a1 := by
      rw [e1,List.append_nil,Isl.delZ,hx,← htl]
    have e6 : (Isl.delZ a0 a1).take t = Isl.del a0 a1 := by unfold Isl.delZ; rw [htl,List.take_left]
    have e7 : (Isl.delZ a0 a1).length = a0.length := by unfold Isl.delZ; have := Isl.del_len a0 a1; simp; omega
    simp only [List.append_assoc,e3,e4,e5,e6,e7]
    rw [cond_pos (by omega),cond_pos (by omega)]
  | succ m =>
    have hi : a0.length - (m + 1) < a0.length := by omega
    have e3 : x.getD (a0.length - (m + 1)) 0 = a0.getD (a0.length - (m + 1)) 0 := by
      have := congrArg (fun l => l.getD 0 0) e2
      simpa [List.getD_eq_getElem?_getD,List.getElem?_drop] using this
    have hs := Isl.del_succ (l := a0) (i := a0.length - (m + 1)) a1 hi
    rw [show a0.length - (m + 1) + 1 = a0.length - m by omega] at hs
    have hd : ∀ y : List Int,y.drop (a0.length - m) = (y.drop (a0.length - (m + 1))).drop 1 := fun y => by rw [List.drop_drop]; congr 1; omega
    rw [cond_pos (by omega),cond_pos (by omega),e3]
    have hc : ((a0.length - (m + 1) : Nat) : Int) + 1 = ((a0.length - m : Nat) : Int) := by omega
    by_cases h : a0.getD (a0.length - (m + 1)) 0 = a1
    · rw [cond_neg (fun hn => hn h),i64w (by omega) (by omega),hc]
      refine hk m _ (by omega) ⟨t,x,rfl,by omega,by omega,hx,?_,?_⟩
      · rw [hs,if_pos h,List.append_nil]; exact e1
      · rw [hd,hd,e2]
    · rw [cond_pos h,cond_pos (by omega),i64w (by omega) (by omega),i64w (by omega) (by omega),hc,show (t : Int) + 1 = ((t + 1 : Nat) : Int) by omega]
      refine hk m _ (by omega) ⟨t + 1,_,rfl,by omega,by omega,by simp; exact hx,?_,?_⟩
      · rw [Isl.take_set (by omega),e1,hs,if_neg h]
      · rw [Isl.drop_set (by omega),hd,hd,e2]
theorem c42 : CallOk Try.prog G22 42 r42 := callOk_of (V := VG2242) mixed tys eVG2242 (f := 42) (fn := Try.f42) Try.func42 (by kernel_rfl) (c := sub (bodyOf Try.f42) []) (by kernel_rfl) (by
  intro X H r H' h hX hH
  unfold r42 at h; split at h <;> try contradiction
  · simp only [Option.some.injEq,Prod.mk.injEq] at h
    obtain ⟨hp,rfl,rfl⟩ := h
    obtain rfl := okB_size (hH _ (.head _)) rfl
    obtain ⟨F,hF⟩ := s42 _ _ hp (hH _ (.head _)) (hH _ (.tail _ (.head _)))
    exact ⟨Af42 F,(f42_body F _ _).trans hF⟩)
def lVG2243 : List CEnt := []
def VG2243 : Env := mkEnv T22 G22 lVG2243
theorem eVG2243 : EOk Try.prog VG2243 := eok_mk (by exact trivial)
def Af43p (F : Nat) : Cuts := { F := F,at_ := fun _ => none,join := fun _ => none,fin := (some [(2,(.own 3))]) }
def ef43p_a : (List Int) → St := fun a0 => { tmps := [(0,(.vs (.rI .i64 a0) 2 1))],heap := [],next := 0,nt := 8,m := 0 }
def f43p_1 (F : Nat) : (List Int) → Rz := fun a0 => (cond (decide ((0 + a0.length) < 1073741824)) (some ((.own 0 0 1),[(.cells ([] ++ a0).length (.rI .i64 ([] ++ a0)) true)])) none)
theorem f43p_1_eq (F : Nat) : ∀ v,aexec VG2243 (Af43p F) (sub (bodyOf Try.f43) []) (ef43p_a v) (kFin VG2243 (some [(2,(.own 3))]) (Try.f43).results.toList) = f43p_1 F v := by
  intro a0; kernel_rfl
def f43p (F : Nat) : (List Int) → Rz := f43p_1 F
theorem f43p_body (F : Nat) (a0 : List Int) : abody VG2243 (Af43p F) Try.f43 [(.vs (.rI .i64 a0) 2 1)] [] = f43p F a0 :=
  (abody_in (c := (sub (bodyOf Try.f43) [])) (by kernel_rfl) (s := ef43p_a a0) (by kernel_rfl)).trans (f43p_1_eq F a0)
def Af43z (F : Nat) : Cuts := { F := F,at_ := fun _ => none,join := fun _ => none,fin := (some [(2,(.own 3))]) }
def ef43z_a : Unit → St := fun _ => { tmps := [(0,(.vs (.rI .i64 []) 3 1))],heap := [],next := 0,nt := 8,m := 0 }
def f43z_1 (F : Nat) : Unit → Rz := fun _ => (some ((.own 0 0 1),[(.cells 0 (.rI .i64 []) true)]))
theorem f43z_1_eq (F : Nat) : ∀ v,aexec VG2243 (Af43z F) (sub (bodyOf Try.f43) []) (ef43z_a v) (kFin VG2243 (some [(2,(.own 3))]) (Try.f43).results.toList) = f43z_1 F v := by
  intro _; kernel_rfl
def f43z (F : Nat) : Unit → Rz := f43z_1 F
theorem f43z_body (F : Nat)  : abody VG2243 (Af43z F) Try.f43 [(.vs (.rI .i64 []) 3 1)] [] = f43z F () :=
  (abody_in (c := (sub (bodyOf Try.f43) [])) (by kernel_rfl) (s := ef43z_a ()) (by kernel_rfl)).trans (f43z_1_eq F ())
def r43 : CRun := fun X H => match X,H with
  | [(.vs (.rI .i64 a0) 0 1)],[] => some ((decide (a0.length < 1073741000)),(.own 0 0 1),[(.cells a0.length (.rI .i64 a0) true)])
  | _,_ => none
theorem s43p (a0 : List Int) (hp : ((decide (a0.length < 1073741000))) = true) (h0 : okV (.vs (.rI .i64 a0) 0 1)) : ∃ F,f43p F a0 = some ((.own 0 0 1),[(.cells a0.length (.rI .i64 a0) true)]) := by
  have h := of_decide_eq_true hp
  refine ⟨0,?_⟩
  simp only [f43p,f43p_1,List.nil_append]
  rw [cond_pos (by omega)]
theorem s43z : ∃ F,f43z F () = some ((.own 0 0 1),[(.cells ([] : List Int).length (.rI .i64 ([] : List Int)) true)]) := ⟨0,rfl⟩
theorem c43 : CallOk Try.prog G22 43 r43 := callOk_nil (V := VG2243) mixed tys eVG2243 (f := 43) (fn := Try.f43) Try.func43 (by kernel_rfl) (c := sub (bodyOf Try.f43) []) (by kernel_rfl) (by
  intro X H R H' h
  unfold r43 at h; split at h <;> try contradiction
  rename_i a0
  simp only [Option.some.injEq,Prod.mk.injEq] at h
  obtain ⟨hp,rfl,rfl⟩ := h
  refine ⟨_,rfl,rfl,fun hok => ⟨?_,fun hz => ?_⟩⟩
  · obtain ⟨F,hF⟩ := s43p a0 hp hok
    exact ⟨Af43p F,(f43p_body F a0).trans hF⟩
  · have e : a0 = [] := List.length_eq_zero_iff.mp hz
    subst e
    obtain ⟨F,hF⟩ := s43z
    exact ⟨Af43z F,(f43z_body F).trans hF⟩)
def lVG2245 : List CEnt := []
def VG2245 : Env := mkEnv T22 G22 lVG2245
theorem eVG2245 : EOk Try.prog VG2245 := eok_mk (by exact trivial)
def Af45 (F : Nat) : Cuts := { F := F,at_ := fun _ => none,join := fun _ => none }
def ef45_a : Int → St := fun a0 => { tmps := [(0,(.int .i64 a0))],heap := [],next := 0,nt := 9,m := 0 }
def f45_1 (F : Nat) : Int → Rz := fun a0 => (cond (decide (a0 ≥ (1 : Int))) (some ((.bool (decide (a0 ≤ (4096 : Int)))),[])) (some ((.bool false),[])))
theorem f45_1_eq (F : Nat) : ∀ v,aexec VG2245 (Af45 F) (sub (bodyOf Try.f45) []) (ef45_a v) (kFin VG2245 none (Try.f45).results.toList) = f45_1 F v := by
  intro a0; kernel_rfl
def f45 (F : Nat) : Int → Rz := f45_1 F
theorem f45_body (F : Nat) (a0 : Int) : abody VG2245 (Af45 F) Try.f45 [(.int .i64 a0)] [] = f45 F a0 :=
  (abody_in (c := (sub (bodyOf Try.f45) [])) (by kernel_rfl) (s := ef45_a a0) (by kernel_rfl)).trans (f45_1_eq F a0)
def r45 : CRun := fun X H => match X,H with
  | [(.int .i64 a0)],[] => some (true,(.bool ((decide (1 ≤ a0)) && (decide (a0 ≤ 4096)))),[])
  | _,_ => none
theorem s45 (a0 : Int) (h0 : okV (.int .i64 a0)) : ∃ F,f45 F a0 = some ((.bool ((decide (1 ≤ a0)) && (decide (a0 ≤ 4096)))),[]) := by
  refine ⟨0,?_⟩
  simp only [f45,f45_1]
  by_cases h : a0 ≥ 1
  · rw [cond_pos h,decide_eq_true (show 1 ≤ a0 from h),Bool.true_and]
  · rw [cond_neg h,decide_eq_false (show ¬ 1 ≤ a0 from h),Bool.false_and]
theorem c45 : CallOk Try.prog G22 45 r45 := callOk_of (V := VG2245) mixed tys eVG2245 (f := 45) (fn := Try.f45) Try.func45 (by kernel_rfl) (c := sub (bodyOf Try.f45) []) (by kernel_rfl) (by
  intro X H r H' h hX hH
  unfold r45 at h; split at h <;> try contradiction
  · simp only [Option.some.injEq,Prod.mk.injEq] at h
    obtain ⟨hp,rfl,rfl⟩ := h
    obtain ⟨F,hF⟩ := s45 _ (hX _ (.head _))
    exact ⟨Af45 F,(f45_body F _).trans hF⟩)
def lVG2246 : List CEnt := []
def VG2246 : Env := mkEnv T22 G22 lVG2246
theorem eVG2246 : EOk Try.prog VG2246 := eok_mk (by exact trivial)
def Af46 (F : Nat) : Cuts := { F := F,at_ := fun n => match n with | 3012 => some sp10 | _ => none,join := fun n => match n with | 1022 => some [(0,.plain)] | 2020 => some [(3,.plain)] | 3014 => some sp10 | 7003 => some [(3,.plain)] | _ => none,fin := (some [(2,(.own 3))]) }
def ef46_a : Int → St := fun a0 => { tmps := [(0,(.int .i64 a0))],heap := [],next := 0,nt := 18,m := 0 }
def ef46j1 : Int → St := fun t0 => { tmps := [(0,(.int .i64 t0))],heap := [],next := 0,nt := 18,m := 0 }
def ef46j2 : (List Int) → St := fun x1 => { tmps := [(3,(.own 0 0 1))],heap := [(0,(.cells x1.length (.rI .i64 x1) true))],next := 1,nt := 18,m := 0 }
def ef46j3 : Int × Int × (List Int) → St := fun (t8,t9,x3) => { tmps := [(3,(.own 0 0 1)),(8,(.int .i64 t8)),(9,(.int .i64 t9))],heap := [(0,(.cells x3.length (.rI .i64 x3) true))],next := 1,nt := 18,m := 0 }
def ef46l1 : Ty14 → St := fun (t8,t9,x3,x4) => { tmps := [(3,(.own 0 0 1)),(8,(.int .i64 t8)),(9,(.int .i64 t9))],heap := [(0,(.cells x4 (.rI .i64 x3) true))],next := 1,nt := 18,m := 0 }
def ef46j4 : (List Int) × Nat → St := fun (x1,x2) => { tmps := [(3,(.own 0 0 1))],heap := [(0,(.cells x2 (.rI .i64 x1) true))],next := 1,nt := 18,m := 0 }
def f46_1 (F : Nat) (kf46j1 : Int → Rz) : Int → Rz := fun a0 => (kf46j1 a0)
theorem f46_1_eq (F : Nat) (Rf46j1 : St → Rz) : ∀ v,aexec VG2246 (Af46 F) (bp Try.f46 2) (ef46_a v) (kSeq (kc VG2246 Rf46j1 [(0,.plain)]) (kFin VG2246 (some [(2,(.own 3))]) (Try.f46).results.toList)) = f46_1 F (Rf46j1 ∘ ef46j1) v := by
  intro a0; kernel_rfl
def f46_2 (F : Nat) (kf46j2 : (List Int) → Rz) : Int → Rz := fun t0 => (cond (((decide (0 ≤ t0)) && (decide (t0 ≤ t0))) && (decide (t0 < 1073741824))) (kf46j2 (List.replicate (Int.toNat t0) 0)) none)
theorem f46_2_eq (F : Nat) (Rf46j2 : St → Rz) : ∀ v,aexec VG2246 (Af46 F) (bp Try.f46 6) (ef46j1 v) (kSeq (kc VG2246 Rf46j2 [(3,.plain)]) (kFin VG2246 (some [(2,(.own 3))]) (Try.f46).results.toList)) = f46_2 F (Rf46j2 ∘ ef46j2) v := by
  intro t0; kernel_rfl
def f46_3 (F : Nat) (kf46j3 : Int × Int × (List Int) → Rz) (kf46j4 : (List Int) × Nat → Rz) : (List Int) → Rz := fun x1 => (kf46j3 ((↑x1.length : Int),(0 : Int),x1))
theorem f46_3_eq (F : Nat) (Rf46j3 : St → Rz) (Rf46j4 : St → Rz) : ∀ v,aexec VG2246 (Af46 F) (bp Try.f46 28) (ef46j2 v) (kSeq (kc VG2246 Rf46j3 sp10) (kSeq (kc VG2246 Rf46j4 [(3,.plain)]) (kFin VG2246 (some [(2,(.own 3))]) (Try.f46).results.toList))) = f46_3 F (Rf46j3 ∘ ef46j3) (Rf46j4 ∘ ef46j4) v := by
  intro x1; kernel_rfl
def f46_4 (F : Nat) (kf46l1 : Ty14 → Rz) (kf46j4 : (List Int) × Nat → Rz) : Ty14 → Rz := fun (t8,t9,x3,x4) => (cond (decide (t9 < t8)) (cond ((decide (0 ≤ t9)) && (decide (t9 < (↑x3.length : Int)))) (kf46l1 (t8,(IntKind.i64.wrap (t9 + (1 : Int))),(x3.set (Int.toNat t9) t9),x4)) none) (kf46j4 (x3,x4)))
theorem f46_4_eq (F : Nat) (Rf46l1 : St → Rz) (Rf46j4 : St → Rz) : ∀ v,aexec VG2246 (Af46 F) (bp Try.f46 116) (ef46l1 v) (kSeq (kc VG2246 Rf46l1 sp10) (kBlock 0 (kSeq (kc VG2246 Rf46j4 [(3,.plain)]) (kFin VG2246 (some [(2,(.own 3))]) (Try.f46).results.toList)))) = f46_4 F (Rf46l1 ∘ ef46l1) (Rf46j4 ∘ ef46j4) v := by
  rintro ⟨t8,t9,x3,x4⟩; kernel_rfl
def f46_5_i : Int × Int × (List Int) → Int × Int × (List Int) × Nat := fun (t8,t9,x3) => (t8,t9,x3,x3.length)
def f46_5 (F : Nat) (kf46j4 : (List Int) × Nat → Rz) : Int × Int × (List Int) → Rz := fun v => loopN (fun k => f46_4 F k kf46j4) F (f46_5_i v)
theorem f46_5_eq (F : Nat) (Rf46j4 : St → Rz) : ∀ v,aexec VG2246 (Af46 F) (bp Try.f46 58) (ef46j3 v) (kBlock 0 (kSeq (kc VG2246 Rf46j4 [(3,.plain)]) (kFin VG2246 (some [(2,(.own 3))]) (Try.f46).results.toList))) = f46_5 F (Rf46j4 ∘ ef46j4) v :=
  loop_cut (by kernel_rfl) (by kernel_rfl) ef46j3 ef46l1 _ f46_5_i (fun k => f46_4 F k (Rf46j4 ∘ ef46j4))
    (by rintro ⟨t8,t9,x3⟩; kernel_rfl) (fun Rf46l1 => f46_4_eq F Rf46l1 Rf46j4)
def f46_6 (F : Nat) (kf46j4 : (List Int) × Nat → Rz) : Int × Int × (List Int) → Rz := f46_5 F kf46j4
theorem f46_6_eq (F : Nat) (Rf46j4 : St → Rz) : ∀ v,aexec VG2246 (Af46 F) (bp Try.f46 29) (ef46j3 v) (kSeq (kc VG2246 Rf46j4 [(3,.plain)]) (kFin VG2246 (some [(2,(.own 3))]) (Try.f46).results.toList)) = f46_6 F (Rf46j4 ∘ ef46j4) v := fun v =>
  (block_in  (by kernel_rfl) _ _).trans (f46_5_eq F Rf46j4 v)
def f46_7 (F : Nat) (kf46j4 : (List Int) × Nat → Rz) : (List Int) → Rz := fun v => f46_3 F (f46_6 F kf46j4) kf46j4 v
theorem f46_7_eq (F : Nat) (Rf46j4 : St → Rz) : ∀ v,aexec VG2246 (Af46 F) (bp Try.f46 14) (ef46j2 v) (kSeq (kc VG2246 Rf46j4 [(3,.plain)]) (kFin VG2246 (some [(2,(.own 3))]) (Try.f46).results.toList)) = f46_7 F (Rf46j4 ∘ ef46j4) v :=
  seq_cut (by kernel_rfl) (by kernel_rfl) ef46j2 ef46j3 _ (fun k => f46_3 F k (Rf46j4 ∘ ef46j4)) (f46_6 F (Rf46j4 ∘ ef46j4))
    (fun Rf46j3 => f46_3_eq F Rf46j3 Rf46j4) (f46_6_eq F Rf46j4)
def f46_8 (F : Nat) : (List Int) × Nat → Rz := fun (x1,x2) => (some ((.own 0 0 1),[(.cells x2 (.rI .i64 x1) true)]))
theorem f46_8_eq (F : Nat) : ∀ v,aexec VG2246 (Af46 F) (bp Try.f46 15) (ef46j4 v) (kFin VG2246 (some [(2,(.own 3))]) (Try.f46).results.toList) = f46_8 F v := by
  rintro ⟨x1,x2⟩; kernel_rfl
def f46_9 (F : Nat) : (List Int) → Rz := fun v => f46_7 F (f46_8 F) v
theorem f46_9_eq (F : Nat) : ∀ v,aexec VG2246 (Af46 F) (bp Try.f46 7) (ef46j2 v) (kFin VG2246 (some [(2,(.own 3))]) (Try.f46).results.toList) = f46_9 F v :=
  seq_cut (by kernel_rfl) (by kernel_rfl) ef46j2 ef46j4 _ (fun k => f46_7 F k) (f46_8 F)
    (fun Rf46j4 => f46_7_eq F Rf46j4) (f46_8_eq F)
def f46_10 (F : Nat) : Int → Rz := fun v => f46_2 F (f46_9 F) v
theorem f46_10_eq (F : Nat) : ∀ v,aexec VG2246 (Af46 F) (bp Try.f46 3) (ef46j1 v) (kFin VG2246 (some [(2,(.own 3))]) (Try.f46).results.toList) = f46_10 F v :=
  seq_cut (by kernel_rfl) (by kernel_rfl) ef46j1 ef46j2 _ (fun k => f46_2 F k) (f46_9 F)
    (fun Rf46j2 => f46_2_eq F Rf46j2) (f46_9_eq F)
def f46_11 (F : Nat) : Int → Rz := fun v => f46_1 F (f46_10 F) v
theorem f46_11_eq (F : Nat) : ∀ v,aexec VG2246 (Af46 F) (sub (bodyOf Try.f46) []) (ef46_a v) (kFin VG2246 (some [(2,(.own 3))]) (Try.f46).results.toList) = f46_11 F v :=
  seq_cut (by kernel_rfl) (by kernel_rfl) ef46_a ef46j1 _ (fun k => f46_1 F k) (f46_10 F)
    (fun Rf46j1 => f46_1_eq F Rf46j1) (f46_10_eq F)
def f46 (F : Nat) : Int → Rz := f46_11 F
theorem f46_body (F : Nat) (a0 : Int) : abody VG2246 (Af46 F) Try.f46 [(.int .i64 a0)] [] = f46 F a0 :=
  (abody_in (c := (sub (bodyOf Try.f46) [])) (by kernel_rfl) (s := ef46_a a0) (by kernel_rfl)).trans (f46_11_eq F a0)
def r46 : CRun := fun X H => match X,H with
  | [(.int .i64 a0)],[] => some (((decide (0 ≤ a0)) && (decide (Int.toNat a0 < 1073741000))),(.own 0 0 1),[(.cells (Isl.nums (Int.toNat a0)).length (.rI .i64 (Isl.nums (Int.toNat a0))) true)])
  | _,_ => none
theorem s46 (a0 : Int) (hp : (((decide (0 ≤ a0)) && (decide (Int.toNat a0 < 1073741000)))) = true) (h0 : okV (.int .i64 a0)) : ∃ F,f46 F a0 = some ((.own 0 0 1),[(.cells (Isl.nums (Int.toNat a0)).length (.rI .i64 (Isl.nums (Int.toNat a0))) true)]) := by
  simp only [Bool.and_eq_true,decide_eq_true_eq] at hp
  obtain ⟨n,rfl⟩ : ∃ n : Nat,a0 = (n : Int) := ⟨a0.toNat,by omega⟩
  rw [Int.toNat_natCast] at *
  refine ⟨n + 1,?_⟩
  simp only [f46_1,f46_2,f46_3,f46_5_i,f46_5,f46_6,f46_7,f46_8,f46_9,f46_10,f46_11,f46,dec_and,Int.toNat_natCast,List.length_replicate]
  rw [cond_pos (by omega)]
  refine loopN_from (fun i => ((n : Int),(i : Int),(List.range i).map (fun (i : Nat) => (i : Int)) ++ List.replicate (n - i) 0,n)) n (by rfl) (fun i hi k => ?_) (fun k => ?_) _ (by omega)
  · simp only [f46_4,dec_and,Int.toNat_natCast]
    rw [cond_pos (by omega),cond_pos (by simp; omega),i64w (by omega) (by omega),fill_set (fun (i : Nat) => (i : Int)) 0 n i hi rfl]
    rfl
  · simp only [f46_4,f46_1,f46_2,f46_3,f46_5_i,f46_5,f46_6,f46_7,f46_8,f46_9,f46_10,f46_11,f46]
    rw [cond_neg (by omega),Nat.sub_self,List.replicate_zero,List.append_nil,Isl.nums_len]
    rfl
theorem c46 : CallOk Try.prog G22 46 r46 := callOk_of (V := VG2246) mixed tys eVG2246 (f := 46) (fn := Try.f46) Try.func46 (by kernel_rfl) (c := sub (bodyOf Try.f46) []) (by kernel_rfl) (by
  intro X H r H' h hX hH
  unfold r46 at h; split at h <;> try contradiction
  · simp only [Option.some.injEq,Prod.mk.injEq] at h
    obtain ⟨hp,rfl,rfl⟩ := h
    obtain ⟨F,hF⟩ := s46 _ hp (hX _ (.head _))
    exact ⟨Af46 F,(f46_body F _).trans hF⟩)
def lVG2260 : List CEnt := []
def VG2260 : Env := mkEnv T22 G22 lVG2260
theorem eVG2260 : EOk Try.prog VG2260 := eok_mk (by exact trivial)
def Af60 (F : Nat) : Cuts := { F := F,at_ := fun _ => none,join := fun _ => none,fin := (some [(4,(.own 3))]) }
def ef60_a : Int → St := fun a1 => { tmps := [(0,.ns),(1,(.int .i64 a1))],heap := [],next := 0,nt := 27,m := 0 }
def f60_1 (F : Nat) : Int → Rz := fun a1 => (cond (decide (a1 < (0 : Int))) none (cond (decide ((IntKind.i64.wrap (a1 - (0 : Int))) > (0 : Int))) (cond ((decide (0 < (IntKind.i64.wrap (a1 - (0 : Int))))) && (decide ((IntKind.i64.wrap (a1 - (0 : Int))) < 1073741824))) (cond (decide ((0 : Int) ≤ (↑(List.replicate (Int.toNat (IntKind.i64.wrap (a1 - (0 : Int)))) 0).length : Int))) (some ((.own 0 0 1),[(.cells 0 (.rI .i64 ((List.replicate (Int.toNat (IntKind.i64.wrap (a1 - (0 : Int)))) 0).take 0)) true)])) none) none) (some ((.own 0 0 1),[(.cells 0 (.rI .i64 []) true)]))))
theorem f60_1_eq (F : Nat) : ∀ v,aexec VG2260 (Af60 F) (sub (bodyOf Try.f60) []) (ef60_a v) (kFin VG2260 (some [(4,(.own 3))]) (Try.f60).results.toList) = f60_1 F v := by
  intro a1; kernel_rfl
def f60 (F : Nat) : Int → Rz := f60_1 F
theorem f60_body (F : Nat) (a1 : Int) : abody VG2260 (Af60 F) Try.f60 [.ns,(.int .i64 a1)] [] = f60 F a1 :=
  (abody_in (c := (sub (bodyOf Try.f60) [])) (by kernel_rfl) (s := ef60_a a1) (by kernel_rfl)).trans (f60_1_eq F a1)
def r60 : CRun := fun X H => match X,H with
  | [.ns,(.int .i64 a1)],[] => some (((decide (0 ≤ a1)) && (decide (Int.toNat a1 < 1073741000))),(.own 0 0 1),[(.cells 0 (.rI .i64 []) true)])
  | _,_ => none
theorem s60 (a1 : Int) (hp : (((decide (0 ≤ a1)) && (decide (Int.toNat a1 < 1073741000)))) = true) (h1 : okV (.int .i64 a1)) : ∃ F,f60 F a1 = some ((.own 0 0 1),[(.cells 0 (.rI .i64 []) true)]) := by
  simp only [Bool.and_eq_true,decide_eq_true_eq] at hp
  refine ⟨0,?_⟩
  simp only [f60,f60_1,Int.sub_zero,dec_and]
  rw [cond_neg (by omega),i64w (by omega) (by omega)]
  by_cases h : a1 > 0
  · rw [cond_pos h,cond_pos (by omega),cond_pos (by omega),List.take_zero]
  · rw [cond_neg h]
theorem c60 : CallOk Try.prog G22 60 r60 := callOk_of (V := VG2260) mixed tys eVG2260 (f := 60) (fn := Try.f60) Try.func60 (by kernel_rfl) (c := sub (bodyOf Try.f60) []) (by kernel_rfl) (by
  intro X H r H' h hX hH
  unfold r60 at h; split at h <;> try contradiction
  · simp only [Option.some.injEq,Prod.mk.injEq] at h
    obtain ⟨hp,rfl,rfl⟩ := h
    obtain ⟨F,hF⟩ := s60 _ hp (hX _ (.tail _ (.head _)))
    exact ⟨Af60 F,(f60_body F _).trans hF⟩)
def lVG2261 : List CEnt := []
def VG2261 : Env := mkEnv T22 G22 lVG2261
theorem eVG2261 : EOk Try.prog VG2261 := eok_mk (by exact trivial)
def Af61 (F : Nat) : Cuts := { F := F,at_ := fun _ => none,join := fun _ => none,fin := (some [(4,(.own 22))]) }
def ef61_a : Int → St := fun a1 => { tmps := [(0,.ns),(1,(.int .i64 a1))],heap := [],next := 0,nt := 27,m := 0 }
def f61_1 (F : Nat) : Int → Rz := fun a1 => (cond (decide (a1 < (0 : Int))) none (cond (decide ((IntKind.i64.wrap (a1 - (0 : Int))) > (0 : Int))) (cond ((decide (0 < (IntKind.i64.wrap (a1 - (0 : Int))))) && (decide ((IntKind.i64.wrap (a1 - (0 : Int))) < 1073741824))) (cond (decide ((0 : Int) ≤ (↑(List.replicate (Int.toNat (IntKind.i64.wrap (a1 - (0 : Int)))) ([] : List Int)).length : Int))) (some ((.own 0 0 1),[(.cells 0 (.rL .i64 ((List.replicate (Int.toNat (IntKind.i64.wrap (a1 - (0 : Int)))) ([] : List Int)).take 0)) true)])) none) none) (some ((.own 0 0 1),[(.cells 0 (.rL .i64 []) true)]))))
theorem f61_1_eq (F : Nat) : ∀ v,aexec VG2261 (Af61 F) (sub (bodyOf Try.f61) []) (ef61_a v) (kFin VG2261 (some [(4,(.own 22))]) (Try.f61).results.toList) = f61_1 F v := by
  intro a1; kernel_rfl
def f61 (F : Nat) : Int → Rz := f61_1 F
theorem f61_body (F : Nat) (a1 : Int) : abody VG2261 (Af61 F) Try.f61 [.ns,(.int .i64 a1)] [] = f61 F a1 :=
  (abody_in (c := (sub (bodyOf Try.f61) [])) (by kernel_rfl) (s := ef61_a a1) (by kernel_rfl)).trans (f61_1_eq F a1)
def r61 : CRun := fun X H => match X,H with
  | [.ns,(.int .i64 a1)],[] => some (((decide (0 ≤ a1)) && (decide (Int.toNat a1 < 1073741000))),(.own 0 0 1),[(.cells 0 (.rL .i64 []) true)])
  | _,_ => none
theorem s61 (a1 : Int) (hp : (((decide (0 ≤ a1)) && (decide (Int.toNat a1 < 1073741000)))) = true) (h1 : okV (.int .i64 a1)) : ∃ F,f61 F a1 = some ((.own 0 0 1),[(.cells 0 (.rL .i64 []) true)]) := by
  simp only [Bool.and_eq_true,decide_eq_true_eq] at hp
  refine ⟨0,?_⟩
  simp only [f61,f61_1,Int.sub_zero,dec_and]
  rw [cond_neg (by omega),i64w (by omega) (by omega)]
  by_cases h : a1 > 0
  · rw [cond_pos h,cond_pos (by omega),cond_pos (by omega),List.take_zero]
  · rw [cond_neg h]
theorem c61 : CallOk Try.prog G22 61 r61 := callOk_of (V := VG2261) mixed tys eVG2261 (f := 61) (fn := Try.f61) Try.func61 (by kernel_rfl) (c := sub (bodyOf Try.f61) []) (by kernel_rfl) (by
  intro X H r H' h hX hH
  unfold r61 at h; split at h <;> try contradiction
  · simp only [Option.some.injEq,Prod.mk.injEq] at h
    obtain ⟨hp,rfl,rfl⟩ := h
    obtain ⟨F,hF⟩ := s61 _ hp (hX _ (.tail _ (.head _)))
    exact ⟨Af61 F,(f61_body F _).trans hF⟩)
def lVG2239 : List CEnt := [(60,[none,none],r60)]
def VG2239 : Env := mkEnv T22 G22 lVG2239
theorem eVG2239 : EOk Try.prog VG2239 := eok_mk (by exact ⟨c60,trivial⟩)
def Af39 (F : Nat) : Cuts := { F := F,at_ := fun n => match n with | 3018 => some sp11 | 11012 => some sp12 | _ => none,join := fun n => match n with | 1047 => some [(0,.plain)] | 2045 => some [(0,.plain),(3,.plain)] | 3020 => some sp11 | 9022 => some [(0,.plain),(3,.plain)] | 10020 => some [(0,.plain),(6,.plain)] | 11014 => some sp12 | 15003 => some [(6,.plain)] | _ => none,fin := (some [(2,(.own 3))]) }
def ef39_a : (List (List Int)) → St := fun a0 => { tmps := [(0,(.vs (.rL .i64 a0) 0 1))],heap := [],next := 0,nt := 36,m := 0 }
def ef39j1 : (List (List Int)) → St := fun t0 => { tmps := [(0,(.vs (.rL .i64 t0) 0 1))],heap := [],next := 0,nt := 36,m := 0 }
def ef39j2 : (List (List Int)) × Int → St := fun (t0,t3) => { tmps := [(0,(.vs (.rL .i64 t0) 0 1)),(3,(.int .i64 t3))],heap := [],next := 0,nt := 36,m := 0 }
def ef39j3 : Ty15 → St := fun (t0,t3,t9,t10,t11) => { tmps := [(0,(.vs (.rL .i64 t0) 0 1)),(3,(.int .i64 t3)),(9,(.vs (.rL .i64 t9) 0 1)),(10,(.int .i64 t10)),(11,(.int .i64 t11))],heap := [],next := 0,nt := 36,m := 0 }
def ef39l1 : Ty15 → St := fun (t0,t3,t9,t10,t11) => { tmps := [(0,(.vs (.rL .i64 t0) 0 1)),(3,(.int .i64 t3)),(9,(.vs (.rL .i64 t9) 0 1)),(10,(.int .i64 t10)),(11,(.int .i64 t11))],heap := [],next := 0,nt := 36,m := 0 }
def ef39j4 : (List (List Int)) × Int → St := fun (t0,t3) => { tmps := [(0,(.vs (.rL .i64 t0) 0 1)),(3,(.int .i64 t3))],heap := [],next := 0,nt := 36,m := 0 }
def ef39j5 : Ty9 → St := fun (t0,x2) => { tmps := [(0,(.vs (.rL .i64 t0) 0 1)),(6,(.own 0 0 1))],heap := [(0,(.cells x2.length (.rI .i64 x2) true))],next := 1,nt := 36,m := 0 }
def ef39j6 : Ty16 → St := fun (t25,t26,t27,x4) => { tmps := [(6,(.own 0 0 1)),(25,(.vs (.rL .i64 t25) 0 1)),(26,(.int .i64 t26)),(27,(.int .i64 t27))],heap := [(0,(.cells x4.length (.rI .i64 x4) true))],next := 1,nt := 36,m := 0 }
def ef39l2 : Ty16 → St := fun (t25,t26,t27,x4) => { tmps := [(6,(.own 0 0 1)),(25,(.vs (.rL .i64 t25) 0 1)),(26,(.int .i64 t26)),(27,(.int .i64 t27))],heap := [(0,(.cells x4.length (.rI .i64 x4) true))],next := 1,nt := 36,m := 0 }
def ef39j7 : (List Int) → St := fun x1 => { tmps := [(6,(.own 0 0 1))],heap := [(0,(.cells x1.length (.rI .i64 x1) true))],next := 1,nt := 36,m := 0 }
def f39_1 (F : Nat) (kf39j1 : (List (List Int)) → Rz) : (List (List Int)) → Rz := fun a0 => (kf39j1 a0)
theorem f39_1_eq (F : Nat) (Rf39j1 : St → Rz) : ∀ v,aexec VG2239 (Af39 F) (bp Try.f39 2) (ef39_a v) (kSeq (kc VG2239 Rf39j1 [(0,.plain)]) (kFin VG2239 (some [(2,(.own 3))]) (Try.f39).results.toList)) = f39_1 F (Rf39j1 ∘ ef39j1) v := by
  intro a0; kernel_rfl
def f39_2 (F : Nat) (kf39j2 : (List (List Int)) × Int → Rz) : (List (List Int)) → Rz := fun t0 => (kf39j2 (t0,(0 : Int)))
theorem f39_2_eq (F : Nat) (Rf39j2 : St → Rz) : ∀ v,aexec VG2239 (Af39 F) (bp Try.f39 6) (ef39j1 v) (kSeq (kc VG2239 Rf39j2 [(0,.plain),(3,.plain)]) (kFin VG2239 (some [(2,(.own 3))]) (Try.f39).results.toList)) = f39_2 F (Rf39j2 ∘ ef39j2) v := by
  intro t0; kernel_rfl
def f39_3 (F : Nat) (kf39j3 : Ty15 → Rz) (kf39j4 : (List (List Int)) × Int → Rz) : (List (List Int)) × Int → Rz := fun (t0,t3) => (kf39j3 (t0,t3,t0,(↑t0.length : Int),(0 : Int)))
theorem f39_3_eq (F : Nat) (Rf39j3 : St → Rz) (Rf39j4 : St → Rz) : ∀ v,aexec VG2239 (Af39 F) (bp Try.f39 28) (ef39j2 v) (kSeq (kc VG2239 Rf39j3 sp11) (kSeq (kc VG2239 Rf39j4 [(0,.plain),(3,.plain)]) (kFin VG2239 (some [(2,(.own 3))]) (Try.f39).results.toList))) = f39_3 F (Rf39j3 ∘ ef39j3) (Rf39j4 ∘ ef39j4) v := by
  rintro ⟨t0,t3⟩; kernel_rfl
def f39_4 (F : Nat) (kf39l1 : Ty15 → Rz) (kf39j4 : (List (List Int)) × Int → Rz) : Ty15 → Rz := fun (t0,t3,t9,t10,t11) => (cond (decide (t11 < t10)) (cond ((decide (0 ≤ t11)) && (decide (t11 < (↑t9.length : Int)))) (cond (decide ((IntKind.i64.wrap (t3 + (↑(t9.getD (Int.toNat t11) []).length : Int))) < (0 : Int))) none (kf39l1 (t0,(IntKind.i64.wrap (t3 + (↑(t9.getD (Int.toNat t11) []).length : Int))),t9,t10,(IntKind.i64.wrap (t11 + (1 : Int)))))) none) (kf39j4 (t0,t3)))
theorem f39_4_eq (F : Nat) (Rf39l1 : St → Rz) (Rf39j4 : St → Rz) : ∀ v,aexec VG2239 (Af39 F) (bp Try.f39 116) (ef39l1 v) (kSeq (kc VG2239 Rf39l1 sp11) (kBlock 0 (kSeq (kc VG2239 Rf39j4 [(0,.plain),(3,.plain)]) (kFin VG2239 (some [(2,(.own 3))]) (Try.f39).results.toList)))) = f39_4 F (Rf39l1 ∘ ef39l1) (Rf39j4 ∘ ef39j4) v := by
  rintro ⟨t0,t3,t9,t10,t11⟩; kernel_rfl
def f39_5_i : Ty15 → (List (List Int)) × Int × (List (List Int)) × Int × Int := fun (t0,t3,t9,t10,t11) => (t0,t3,t9,t10,t11)
def f39_5 (F : Nat) (kf39j4 : (List (List Int)) × Int → Rz) : Ty15 → Rz := fun v => loopN (fun k => f39_4 F k kf39j4) F (f39_5_i v)
theorem f39_5_eq (F : Nat) (Rf39j4 : St → Rz) : ∀ v,aexec VG2239 (Af39 F) (bp Try.f39 58) (ef39j3 v) (kBlock 0 (kSeq (kc VG2239 Rf39j4 [(0,.plain),(3,.plain)]) (kFin VG2239 (some [(2,(.own 3))]) (Try.f39).results.toList))) = f39_5 F (Rf39j4 ∘ ef39j4) v :=
  loop_cut (by kernel_rfl) (by kernel_rfl) ef39j3 ef39l1 _ f39_5_i (fun k => f39_4 F k (Rf39j4 ∘ ef39j4))
    (by rintro ⟨t0,t3,t9,t10,t11⟩; kernel_rfl) (fun Rf39l1 => f39_4_eq F Rf39l1 Rf39j4)
def f39_6 (F : Nat) (kf39j4 : (List (List Int)) × Int → Rz) : Ty15 → Rz := f39_5 F kf39j4
theorem f39_6_eq (F : Nat) (Rf39j4 : St → Rz) : ∀ v,aexec VG2239 (Af39 F) (bp Try.f39 29) (ef39j3 v) (kSeq (kc VG2239 Rf39j4 [(0,.plain),(3,.plain)]) (kFin VG2239 (some [(2,(.own 3))]) (Try.f39).results.toList)) = f39_6 F (Rf39j4 ∘ ef39j4) v := fun v =>
  (block_in  (by kernel_rfl) _ _).trans (f39_5_eq F Rf39j4 v)
def f39_7 (F : Nat) (kf39j4 : (List (List Int)) × Int → Rz) : (List (List Int)) × Int → Rz := fun v => f39_3 F (f39_6 F kf39j4) kf39j4 v
theorem f39_7_eq (F : Nat) (Rf39j4 : St → Rz) : ∀ v,aexec VG2239 (Af39 F) (bp Try.f39 14) (ef39j2 v) (kSeq (kc VG2239 Rf39j4 [(0,.plain),(3,.plain)]) (kFin VG2239 (some [(2,(.own 3))]) (Try.f39).results.toList)) = f39_7 F (Rf39j4 ∘ ef39j4) v :=
  seq_cut (by kernel_rfl) (by kernel_rfl) ef39j2 ef39j3 _ (fun k => f39_3 F k (Rf39j4 ∘ ef39j4)) (f39_6 F (Rf39j4 ∘ ef39j4))
    (fun Rf39j3 => f39_3_eq F Rf39j3 Rf39j4) (f39_6_eq F Rf39j4)
def f39_8 (F : Nat) (kf39j5 : Ty9 → Rz) : (List (List Int)) × Int → Rz := fun (t0,t3) => (cond ((decide (0 ≤ t3)) && (decide (Int.toNat t3 < 1073741000))) (kf39j5 (t0,[])) none)
theorem f39_8_eq (F : Nat) (Rf39j5 : St → Rz) : ∀ v,aexec VG2239 (Af39 F) (bp Try.f39 30) (ef39j4 v) (kSeq (kc VG2239 Rf39j5 [(0,.plain),(6,.plain)]) (kFin VG2239 (some [(2,(.own 3))]) (Try.f39).results.toList)) = f39_8 F (Rf39j5 ∘ ef39j5) v := by
  rintro ⟨t0,t3⟩; kernel_rfl
def f39_9 (F : Nat) (kf39j6 : Ty16 → Rz) (kf39j7 : (List Int) → Rz) : Ty9 → Rz := fun (t0,x2) => (kf39j6 (t0,(↑t0.length : Int),(0 : Int),x2))
theorem f39_9_eq (F : Nat) (Rf39j6 : St → Rz) (Rf39j7 : St → Rz) : ∀ v,aexec VG2239 (Af39 F) (bp Try.f39 124) (ef39j5 v) (kSeq (kc VG2239 Rf39j6 sp12) (kSeq (kc VG2239 Rf39j7 [(6,.plain)]) (kFin VG2239 (some [(2,(.own 3))]) (Try.f39).results.toList))) = f39_9 F (Rf39j6 ∘ ef39j6) (Rf39j7 ∘ ef39j7) v := by
  rintro ⟨t0,x2⟩; kernel_rfl
def f39_10 (F : Nat) (kf39l2 : Ty16 → Rz) (kf39j7 : (List Int) → Rz) : Ty16 → Rz := fun (t25,t26,t27,x4) => (cond (decide (t27 < t26)) (cond ((decide (0 ≤ t27)) && (decide (t27 < (↑t25.length : Int)))) (cond (decide ((x4.length + (t25.getD (Int.toNat t27) []).length) < 1073741824)) (kf39l2 (t25,t26,(IntKind.i64.wrap (t27 + (1 : Int))),(x4 ++ (t25.getD (Int.toNat t27) [])))) none) none) (kf39j7 x4))
theorem f39_10_eq (F : Nat) (Rf39l2 : St → Rz) (Rf39j7 : St → Rz) : ∀ v,aexec VG2239 (Af39 F) (bp Try.f39 500) (ef39l2 v) (kSeq (kc VG2239 Rf39l2 sp12) (kBlock 2 (kSeq (kc VG2239 Rf39j7 [(6,.plain)]) (kFin VG2239 (some [(2,(.own 3))]) (Try.f39).results.toList)))) = f39_10 F (Rf39l2 ∘ ef39l2) (Rf39j7 ∘ ef39j7) v := by
  rintro ⟨t25,t26,t27,x4⟩; kernel_rfl
def f39_11_i : Ty16 → (List (List Int)) × Int × Int × (List Int) := fun (t25,t26,t27,x4) => (t25,t26,t27,x4)
def f39_11 (F : Nat) (kf39j7 : (List Int) → Rz) : Ty16 → Rz := fun v => loopN (fun k => f39_10 F k kf39j7) F (f39_11_i v)
theorem f39_11_eq (F : Nat) (Rf39j7 : St → Rz) : ∀ v,aexec VG2239 (Af39 F) (bp Try.f39 250) (ef39j6 v) (kBlock 2 (kSeq (kc VG2239 Rf39j7 [(6,.plain)]) (kFin VG2239 (some [(2,(.own 3))]) (Try.f39).results.toList))) = f39_11 F (Rf39j7 ∘ ef39j7) v :=
  loop_cut (by kernel_rfl) (by kernel_rfl) ef39j6 ef39l2 _ f39_11_i (fun k => f39_10 F k (Rf39j7 ∘ ef39j7))
    (by rintro ⟨t25,t26,t27,x4⟩; kernel_rfl) (fun Rf39l2 => f39_10_eq F Rf39l2 Rf39j7)
def f39_12 (F : Nat) (kf39j7 : (List Int) → Rz) : Ty16 → Rz := f39_11 F kf39j7
theorem f39_12_eq (F : Nat) (Rf39j7 : St → Rz) : ∀ v,aexec VG2239 (Af39 F) (bp Try.f39 125) (ef39j6 v) (kSeq (kc VG2239 Rf39j7 [(6,.plain)]) (kFin VG2239 (some [(2,(.own 3))]) (Try.f39).results.toList)) = f39_12 F (Rf39j7 ∘ ef39j7) v := fun v =>
  (block_in  (by kernel_rfl) _ _).trans (f39_11_eq F Rf39j7 v)
def f39_13 (F : Nat) (kf39j7 : (List Int) → Rz) : Ty9 → Rz := fun v => f39_9 F (f39_12 F kf39j7) kf39j7 v
theorem f39_13_eq (F : Nat) (Rf39j7 : St → Rz) : ∀ v,aexec VG2239 (Af39 F) (bp Try.f39 62) (ef39j5 v) (kSeq (kc VG2239 Rf39j7 [(6,.plain)]) (kFin VG2239 (some [(2,(.own 3))]) (Try.f39).results.toList)) = f39_13 F (Rf39j7 ∘ ef39j7) v :=
  seq_cut (by kernel_rfl) (by kernel_rfl) ef39j5 ef39j6 _ (fun k => f39_9 F k (Rf39j7 ∘ ef39j7)) (f39_12 F (Rf39j7 ∘ ef39j7))
    (fun Rf39j6 => f39_9_eq F Rf39j6 Rf39j7) (f39_12_eq F Rf39j7)
def f39_14 (F : Nat) : (List Int) → Rz := fun x1 => (some ((.own 0 0 1),[(.cells x1.length (.rI .i64 x1) true)]))
theorem f39_14_eq (F : Nat) : ∀ v,aexec VG2239 (Af39 F) (bp Try.f39 63) (ef39j7 v) (kFin VG2239 (some [(2,(.own 3))]) (Try.f39).results.toList) = f39_14 F v := by
  intro x1; kernel_rfl
def f39_15 (F : Nat) : Ty9 → Rz := fun v => f39_13 F (f39_14 F) v
theorem f39_15_eq (F : Nat) : ∀ v,aexec VG2239 (Af39 F) (bp Try.f39 31) (ef39j5 v) (kFin VG2239 (some [(2,(.own 3))]) (Try.f39).results.toList) = f39_15 F v :=
  seq_cut (by kernel_rfl) (by kernel_rfl) ef39j5 ef39j7 _ (fun k => f39_13 F k) (f39_14 F)
    (fun Rf39j7 => f39_13_eq F Rf39j7) (f39_14_eq F)
def f39_16 (F : Nat) : (List (List Int)) × Int → Rz := fun v => f39_8 F (f39_15 F) v
theorem f39_16_eq (F : Nat) : ∀ v,aexec VG2239 (Af39 F) (bp Try.f39 15) (ef39j4 v) (kFin VG2239 (some [(2,(.own 3))]) (Try.f39).results.toList) = f39_16 F v :=
  seq_cut (by kernel_rfl) (by kernel_rfl) ef39j4 ef39j5 _ (fun k => f39_8 F k) (f39_15 F)
    (fun Rf39j5 => f39_8_eq F Rf39j5) (f39_15_eq F)
def f39_17 (F : Nat) : (List (List Int)) × Int → Rz := fun v => f39_7 F (f39_16 F) v
theorem f39_17_eq (F : Nat) : ∀ v,aexec VG2239 (Af39 F) (bp Try.f39 7) (ef39j2 v) (kFin VG2239 (some [(2,(.own 3))]) (Try.f39).results.toList) = f39_17 F v :=
  seq_cut (by kernel_rfl) (by kernel_rfl) ef39j2 ef39j4 _ (fun k => f39_7 F k) (f39_16 F)
    (fun Rf39j4 => f39_7_eq F Rf39j4) (f39_16_eq F)
def f39_18 (F : Nat) : (List (List Int)) → Rz := fun v => f39_2 F (f39_17 F) v
theorem f39_18_eq (F : Nat) : ∀ v,aexec VG2239 (Af39 F) (bp Try.f39 3) (ef39j1 v) (kFin VG2239 (some [(2,(.own 3))]) (Try.f39).results.toList) = f39_18 F v :=
  seq_cut (by kernel_rfl) (by kernel_rfl) ef39j1 ef39j2 _ (fun k => f39_2 F k) (f39_17 F)
    (fun Rf39j2 => f39_2_eq F Rf39j2) (f39_17_eq F)
def f39_19 (F : Nat) : (List (List Int)) → Rz := fun v => f39_1 F (f39_18 F) v
theorem f39_19_eq (F : Nat) : ∀ v,aexec VG2239 (Af39 F) (sub (bodyOf Try.f39) []) (ef39_a v) (kFin VG2239 (some [(2,(.own 3))]) (Try.f39).results.toList) = f39_19 F v :=
  seq_cut (by kernel_rfl) (by kernel_rfl) ef39_a ef39j1 _ (fun k => f39_1 F k) (f39_18 F)
    (fun Rf39j1 => f39_1_eq F Rf39j1) (f39_18_eq F)
def f39 (F : Nat) : (List (List Int)) → Rz := f39_19 F
theorem f39_body (F : Nat) (a0 : List (List Int)) : abody VG2239 (Af39 F) Try.f39 [(.vs (.rL .i64 a0) 0 1)] [] = f39 F a0 :=
  (abody_in (c := (sub (bodyOf Try.f39) [])) (by kernel_rfl) (s := ef39_a a0) (by kernel_rfl)).trans (f39_19_eq F a0)
def r39 : CRun := fun X H => match X,H with
  | [(.vs (.rL .i64 a0) 0 1)],[] => some ((decide (a0.flatten.length < 1073740000)),(.own 0 0 1),[(.cells a0.flatten.length (.rI .i64 a0.flatten) true)])
  | _,_ => none
theorem s39 (a0 : List (List Int)) (hp : ((decide (a0.flatten.length < 1073740000))) = true) (h0 : okV (.vs (.rL .i64 a0) 0 1)) : ∃ F,f39 F a0 = some ((.own 0 0 1),[(.cells a0.flatten.length (.rI .i64 a0.flatten) true)]) := by
  simp only [decide_eq_true_eq] at hp
  have hl := h0.2
  refine ⟨a0.length + 1,?_⟩
  simp only [f39_1,f39_2,f39_3,f39_5_i,f39_5,f39_6,f39_7,f39_8,f39_9,f39_10,f39_11_i,f39_11,f39_12,f39_13,f39_14,f39_15,f39_16,f39_17,f39_18,f39_19,f39]
  have hfl : ∀ i,i < a0.length → (a0.take (i + 1)).flatten = (a0.take i).flatten ++ a0.getD i [] := fun i hi => by rw [← Reg.take_get a0 [] i hi]; simp
  refine loopN_from (fun i => (a0,((a0.take i).flatten.length : Int),a0,(a0.length : Int),(i : Int))) a0.length (by rfl) (fun i hi k => ?_) (fun k => ?_) _ (by omega)
  · have e := hfl i hi
    have hle := Isl.flatten_take_le a0 (i + 1)
    have e2 : ((a0.take (i + 1)).flatten.length : Int) = ((a0.take i).flatten.length : Int) + ((a0.getD i []).length : Int) := by rw [e,List.length_append]; omega
    simp only [f39_4,dec_and,Int.toNat_natCast]
    have hw : IntKind.i64.wrap (((a0.take i).flatten.length : Int) + ((a0.getD i []).length : Int)) = ((a0.take (i + 1)).flatten.length : Int) := by rw [i64w (by omega) (by omega),e2]
    simp only [hw]
    rw [cond_pos (by omega),cond_pos (by omega),cond_neg (by omega),i64w (by omega) (by omega)]
    rfl
  · simp only [f39_4,f39_1,f39_2,f39_3,f39_5_i,f39_5,f39_6,f39_7,f39_8,f39_9,f39_10,f39_11_i,f39_11,f39_12,f39_13,f39_14,f39_15,f39_16,f39_17,f39_18,f39_19,f39,dec_and,Int.toNat_natCast]
    rw [cond_neg (by omega),List.take_length,cond_pos (by omega)]
    refine loopN_from (fun i => (a0,(a0.length : Int),(i : Int),(a0.take i).flatten)) a0.length (by rfl) (fun i hi k => ?_) (fun k => ?_) _ (by omega)
    · have e := hfl i hi
      have hle := Isl.flatten_take_le a0 (i + 1)
      rw [e,List.length_append] at hle
      simp only [f39_10,dec_and,Int.toNat_natCast]
      rw [cond_pos (by omega),cond_pos (by omega),cond_pos (by omega),i64w (by omega) (by omega),e]
      rfl
    · simp only [f39_10,f39_14]
      rw [cond_neg (by omega),List.take_length]
theorem c39 : CallOk Try.prog G22 39 r39 := callOk_of (V := VG2239) mixed tys eVG2239 (f := 39) (fn := Try.f39) Try.func39 (by kernel_rfl) (c := sub (bodyOf Try.f39) []) (by kernel_rfl) (by
  intro X H r H' h hX hH
  unfold r39 at h; split at h <;> try contradiction
  · simp only [Option.some.injEq,Prod.mk.injEq] at h
    obtain ⟨hp,rfl,rfl⟩ := h
    obtain ⟨F,hF⟩ := s39 _ hp (hX _ (.head _))
    exact ⟨Af39 F,(f39_body F _).trans hF⟩)
def lVG2240 : List CEnt := [(61,[none,none],r61)]
def VG2240 : Env := mkEnv T22 G22 lVG2240
theorem eVG2240 : EOk Try.prog VG2240 := eok_mk (by exact ⟨c61,trivial⟩)
def Af40 (F : Nat) : Cuts := { F := F,at_ := fun n => match n with | 3018 => some sp11 | 11012 => some sp12 | _ => none,join := fun n => match n with | 1047 => some [(0,.plain)] | 2045 => some [(0,.plain),(3,.plain)] | 3020 => some sp11 | 9022 => some [(0,.plain),(3,.plain)] | 10020 => some [(0,.plain),(6,.plain)] | 11014 => some sp12 | 15003 => some [(6,.plain)] | _ => none,fin := (some [(2,(.own 22))]) }
def ef40_a : Ty6 → St := fun (a0,a1) => { tmps := [(0,(.own 0 0 1))],heap := [(0,(.cells 2 (.segs (.cons 1 (.one (.vs (.rL .i64 a0) 0 1)) (.cons 1 (.one (.vs (.rL .i64 a1) 0 1)) .nil))) true))],next := 1,nt := 36,m := 1 }
def ef40j1 : Ty6 → St := fun (x1,x2) => { tmps := [(0,(.own 0 0 1))],heap := [(0,(.cells 2 (.segs (.cons 1 (.one (.vs (.rL .i64 x1) 0 1)) (.cons 1 (.one (.vs (.rL .i64 x2) 0 1)) .nil))) true))],next := 1,nt := 36,m := 1 }
def ef40j2 : Ty17 → St := fun (t3,x2,x3) => { tmps := [(0,(.own 0 0 1)),(3,(.int .i64 t3))],heap := [(0,(.cells 2 (.segs (.cons 1 (.one (.vs (.rL .i64 x2) 0 1)) (.cons 1 (.one (.vs (.rL .i64 x3) 0 1)) .nil))) true))],next := 1,nt := 36,m := 1 }
def ef40j3 : Ty18 → St := fun (t3,t10,t11,x4,x5) => { tmps := [(0,(.own 0 0 1)),(3,(.int .i64 t3)),(9,(.own 0 0 1)),(10,(.int .i64 t10)),(11,(.int .i64 t11))],heap := [(0,(.cells 2 (.segs (.cons 1 (.one (.vs (.rL .i64 x4) 0 1)) (.cons 1 (.one (.vs (.rL .i64 x5) 0 1)) .nil))) true))],next := 1,nt := 36,m := 1 }
def ef40l1 : Ty18 → St := fun (t3,t10,t11,x4,x5) => { tmps := [(0,(.own 0 0 1)),(3,(.int .i64 t3)),(9,(.own 0 0 1)),(10,(.int .i64 t10)),(11,(.int .i64 t11))],heap := [(0,(.cells 2 (.segs (.cons 1 (.one (.vs (.rL .i64 x4) 0 1)) (.cons 1 (.one (.vs (.rL .i64 x5) 0 1)) .nil))) true))],next := 1,nt := 36,m := 1 }
def ef40j4 : Ty17 → St := fun (t3,x2,x3) => { tmps := [(0,(.own 0 0 1)),(3,(.int .i64 t3))],heap := [(0,(.cells 2 (.segs (.cons 1 (.one (.vs (.rL .i64 x2) 0 1)) (.cons 1 (.one (.vs (.rL .i64 x3) 0 1)) .nil))) true))],next := 1,nt := 36,m := 1 }
def ef40j5 : Ty19 → St := fun (x1,x2,x3) => { tmps := [(0,(.own 0 0 1)),(6,(.own 1 0 1))],heap := [(0,(.cells 2 (.segs (.cons 1 (.one (.vs (.rL .i64 x1) 0 1)) (.cons 1 (.one (.vs (.rL .i64 x2) 0 1)) .nil))) true)),(1,(.cells x3.length (.rL .i64 x3) true))],next := 2,nt := 36,m := 1 }
def ef40j6 : Ty20 → St := fun (t26,t27,x3,x4,x5) => { tmps := [(6,(.own 1 0 1)),(25,(.own 0 0 1)),(26,(.int .i64 t26)),(27,(.int .i64 t27))],heap := [(0,(.cells 2 (.segs (.cons 1 (.one (.vs (.rL .i64 x3) 0 1)) (.cons 1 (.one (.vs (.rL .i64 x4) 0 1)) .nil))) true)),(1,(.cells x5.length (.rL .i64 x5) true))],next := 2,nt := 36,m := 1 }
def ef40l2 : Ty20 → St := fun (t26,t27,x3,x4,x5) => { tmps := [(6,(.own 1 0 1)),(25,(.own 0 0 1)),(26,(.int .i64 t26)),(27,(.int .i64 t27))],heap := [(0,(.cells 2 (.segs (.cons 1 (.one (.vs (.rL .i64 x3) 0 1)) (.cons 1 (.one (.vs (.rL .i64 x4) 0 1)) .nil))) true)),(1,(.cells x5.length (.rL .i64 x5) true))],next := 2,nt := 36,m := 1 }
def ef40j7 : Ty19 → St := fun (x1,x2,x3) => { tmps := [(6,(.own 1 0 1))],heap := [(0,(.cells 2 (.segs (.cons 1 (.one (.vs (.rL .i64 x1) 0 1)) (.cons 1 (.one (.vs (.rL .i64 x2) 0 1)) .nil))) true)),(1,(.cells x3.length (.rL .i64 x3) true))],next := 2,nt := 36,m := 1 }
def f40_1 (F : Nat) (kf40j1 : Ty6 → Rz) : Ty6 → Rz := fun (a0,a1) => (kf40j1 (a0,a1))
theorem f40_1_eq (F : Nat) (Rf40j1 : St → Rz) : ∀ v,aexec VG2240 (Af40 F) (bp Try.f40 2) (ef40_a v) (kSeq (kc VG2240 Rf40j1 [(0,.plain)]) (kFin VG2240 (some [(2,(.own 22))]) (Try.f40).results.toList)) = f40_1 F (Rf40j1 ∘ ef40j1) v := by
  rintro ⟨a0,a1⟩; kernel_rfl
def f40_2 (F : Nat) (kf40j2 : Ty17 → Rz) : Ty6 → Rz := fun (x1,x2) => (kf40j2 ((0 : Int),x1,x2))
theorem f40_2_eq (F : Nat) (Rf40j2 : St → Rz) : ∀ v,aexec VG2240 (Af40 F) (bp Try.f40 6) (ef40j1 v) (kSeq (kc VG2240 Rf40j2 [(0,.plain),(3,.plain)]) (kFin VG2240 (some [(2,(.own 22))]) (Try.f40).results.toList)) = f40_2 F (Rf40j2 ∘ ef40j2) v := by
  rintro ⟨x1,x2⟩; kernel_rfl
def f40_3 (F : Nat) (kf40j3 : Ty18 → Rz) (kf40j4 : Ty17 → Rz) : Ty17 → Rz := fun (t3,x2,x3) => (kf40j3 (t3,(2 : Int),(0 : Int),x2,x3))
theorem f40_3_eq (F : Nat) (Rf40j3 : St → Rz) (Rf40j4 : St → Rz) : ∀ v,aexec VG2240 (Af40 F) (bp Try.f40 28) (ef40j2 v) (kSeq (kc VG2240 Rf40j3 sp11) (kSeq (kc VG2240 Rf40j4 [(0,.plain),(3,.plain)]) (kFin VG2240 (some [(2,(.own 22))]) (Try.f40).results.toList))) = f40_3 F (Rf40j3 ∘ ef40j3) (Rf40j4 ∘ ef40j4) v := by
  rintro ⟨t3,x2,x3⟩; kernel_rfl
def f40_4 (F : Nat) (kf40l1 : Ty18 → Rz) (kf40j4 : Ty17 → Rz) : Ty18 → Rz := fun (t3,t10,t11,x4,x5) => (cond (decide (t11 < t10)) (cond ((decide (0 ≤ t11)) && (decide (t11 < (2 : Int)))) (cond (Nat.beq (Int.toNat t11) 0) (cond (decide ((IntKind.i64.wrap (t3 + (↑x4.length : Int))) < (0 : Int))) none (kf40l1 ((IntKind.i64.wrap (t3 + (↑x4.length : Int))),t10,(IntKind.i64.wrap (t11 + (1 : Int))),x4,x5))) (cond (Nat.beq (Int.toNat t11) 1) (cond (decide ((IntKind.i64.wrap (t3 + (↑x5.length : Int))) < (0 : Int))) none (kf40l1 ((IntKind.i64.wrap (t3 + (↑x5.length : Int))),t10,(IntKind.i64.wrap (t11 + (1 : Int))),x4,x5))) none)) none) (kf40j4 (t3,x4,x5)))
theorem f40_4_eq (F : Nat) (Rf40l1 : St → Rz) (Rf40j4 : St → Rz) : ∀ v,aexec VG2240 (Af40 F) (bp Try.f40 116) (ef40l1 v) (kSeq (kc VG2240 Rf40l1 sp11) (kBlock 0 (kSeq (kc VG2240 Rf40j4 [(0,.plain),(3,.plain)]) (kFin VG2240 (some [(2,(.own 22))]) (Try.f40).results.toList)))) = f40_4 F (Rf40l1 ∘ ef40l1) (Rf40j4 ∘ ef40j4) v := by
  rintro ⟨t3,t10,t11,x4,x5⟩; kernel_rfl
def f40_5_i : Ty18 → Int × Int × Int × (List (List Int)) × (List (List Int)) := fun (t3,t10,t11,x4,x5) => (t3,t10,t11,x4,x5)
def f40_5 (F : Nat) (kf40j4 : Ty17 → Rz) : Ty18 → Rz := fun v => loopN (fun k => f40_4 F k kf40j4) F (f40_5_i v)
theorem f40_5_eq (F : Nat) (Rf40j4 : St → Rz) : ∀ v,aexec VG2240 (Af40 F) (bp Try.f40 58) (ef40j3 v) (kBlock 0 (kSeq (kc VG2240 Rf40j4 [(0,.plain),(3,.plain)]) (kFin VG2240 (some [(2,(.own 22))]) (Try.f40).results.toList))) = f40_5 F (Rf40j4 ∘ ef40j4) v :=
  loop_cut (by kernel_rfl) (by kernel_rfl) ef40j3 ef40l1 _ f40_5_i (fun k => f40_4 F k (Rf40j4 ∘ ef40j4))
    (by rintro ⟨t3,t10,t11,x4,x5⟩; kernel_rfl) (fun Rf40l1 => f40_4_eq F Rf40l1 Rf40j4)
def f40_6 (F : Nat) (kf40j4 : Ty17 → Rz) : Ty18 → Rz := f40_5 F kf40j4
theorem f40_6_eq (F : Nat) (Rf40j4 : St → Rz) : ∀ v,aexec VG2240 (Af40 F) (bp Try.f40 29) (ef40j3 v) (kSeq (kc VG2240 Rf40j4 [(0,.plain),(3,.plain)]) (kFin VG2240 (some [(2,(.own 22))]) (Try.f40).results.toList)) = f40_6 F (Rf40j4 ∘ ef40j4) v := fun v =>
  (block_in  (by kernel_rfl) _ _).trans (f40_5_eq F Rf40j4 v)
def f40_7 (F : Nat) (kf40j4 : Ty17 → Rz) : Ty17 → Rz := fun v => f40_3 F (f40_6 F kf40j4) kf40j4 v
theorem f40_7_eq (F : Nat) (Rf40j4 : St → Rz) : ∀ v,aexec VG2240 (Af40 F) (bp Try.f40 14) (ef40j2 v) (kSeq (kc VG2240 Rf40j4 [(0,.plain),(3,.plain)]) (kFin VG2240 (some [(2,(.own 22))]) (Try.f40).results.toList)) = f40_7 F (Rf40j4 ∘ ef40j4) v :=
  seq_cut (by kernel_rfl) (by kernel_rfl) ef40j2 ef40j3 _ (fun k => f40_3 F k (Rf40j4 ∘ ef40j4)) (f40_6 F (Rf40j4 ∘ ef40j4))
    (fun Rf40j3 => f40_3_eq F Rf40j3 Rf40j4) (f40_6_eq F Rf40j4)
def f40_8 (F : Nat) (kf40j5 : Ty19 → Rz) : Ty17 → Rz := fun (t3,x2,x3) => (cond ((decide (0 ≤ t3)) && (decide (Int.toNat t3 < 1073741000))) (kf40j5 (x2,x3,[])) none)
theorem f40_8_eq (F : Nat) (Rf40j5 : St → Rz) : ∀ v,aexec VG2240 (Af40 F) (bp Try.f40 30) (ef40j4 v) (kSeq (kc VG2240 Rf40j5 [(0,.plain),(6,.plain)]) (kFin VG2240 (some [(2,(.own 22))]) (Try.f40).results.toList)) = f40_8 F (Rf40j5 ∘ ef40j5) v := by
  rintro ⟨t3,x2,x3⟩; kernel_rfl
def f40_9 (F : Nat) (kf40j6 : Ty20 → Rz) (kf40j7 : Ty19 → Rz) : Ty19 → Rz := fun (x1,x2,x3) => (kf40j6 ((2 : Int),(0 : Int),x1,x2,x3))
theorem f40_9_eq (F : Nat) (Rf40j6 : St → Rz) (Rf40j7 : St → Rz) : ∀ v,aexec VG2240 (Af40 F) (bp Try.f40 124) (ef40j5 v) (kSeq (kc VG2240 Rf40j6 sp12) (kSeq (kc VG2240 Rf40j7 [(6,.plain)]) (kFin VG2240 (some [(2,(.own 22))]) (Try.f40).results.toList))) = f40_9 F (Rf40j6 ∘ ef40j6) (Rf40j7 ∘ ef40j7) v := by
  rintro ⟨x1,x2,x3⟩; kernel_rfl
def f40_10 (F : Nat) (kf40l2 : Ty20 → Rz) (kf40j7 : Ty19 → Rz) : Ty20 → Rz := fun (t26,t27,x3,x4,x5) => (cond (decide (t27 < t26)) (cond ((decide (0 ≤ t27)) && (decide (t27 < (2 : Int)))) (cond (Nat.beq (Int.toNat t27) 0) (cond (decide ((x5.length + x3.length) < 1073741824)) (kf40l2 (t26,(IntKind.i64.wrap (t27 + (1 : Int))),x3,x4,(x5 ++ x3))) none) (cond (Nat.beq (Int.toNat t27) 1) (cond (decide ((x5.length + x4.length) < 1073741824)) (kf40l2 (t26,(IntKind.i64.wrap (t27 + (1 : Int))),x3,x4,(x5 ++ x4))) none) none)) none) (kf40j7 (x3,x4,x5)))
theorem f40_10_eq (F : Nat) (Rf40l2 : St → Rz) (Rf40j7 : St → Rz) : ∀ v,aexec VG2240 (Af40 F) (bp Try.f40 500) (ef40l2 v) (kSeq (kc VG2240 Rf40l2 sp12) (kBlock 2 (kSeq (kc VG2240 Rf40j7 [(6,.plain)]) (kFin VG2240 (some [(2,(.own 22))]) (Try.f40).results.toList)))) = f40_10 F (Rf40l2 ∘ ef40l2) (Rf40j7 ∘ ef40j7) v := by
  rintro ⟨t26,t27,x3,x4,x5⟩; kernel_rfl
def f40_11_i : Ty20 → Int × Int × (List (List Int)) × (List (List Int)) × (List (List Int)) := fun (t26,t27,x3,x4,x5) => (t26,t27,x3,x4,x5)
def f40_11 (F : Nat) (kf40j7 : Ty19 → Rz) : Ty20 → Rz := fun v => loopN (fun k => f40_10 F k kf40j7) F (f40_11_i v)
theorem f40_11_eq (F : Nat) (Rf40j7 : St → Rz) : ∀ v,aexec VG2240 (Af40 F) (bp Try.f40 250) (ef40j6 v) (kBlock 2 (kSeq (kc VG2240 Rf40j7 [(6,.plain)]) (kFin VG2240 (some [(2,(.own 22))]) (Try.f40).results.toList))) = f40_11 F (Rf40j7 ∘ ef40j7) v :=
  loop_cut (by kernel_rfl) (by kernel_rfl) ef40j6 ef40l2 _ f40_11_i (fun k => f40_10 F k (Rf40j7 ∘ ef40j7))
    (by rintro ⟨t26,t27,x3,x4,x5⟩; kernel_rfl) (fun Rf40l2 => f40_10_eq F Rf40l2 Rf40j7)
def f40_12 (F : Nat) (kf40j7 : Ty19 → Rz) : Ty20 → Rz := f40_11 F kf40j7
theorem f40_12_eq (F : Nat) (Rf40j7 : St → Rz) : ∀ v,aexec VG2240 (Af40 F) (bp Try.f40 125) (ef40j6 v) (kSeq (kc VG2240 Rf40j7 [(6,.plain)]) (kFin VG2240 (some [(2,(.own 22))]) (Try.f40).results.toList)) = f40_12 F (Rf40j7 ∘ ef40j7) v := fun v =>
  (block_in  (by kernel_rfl) _ _).trans (f40_11_eq F Rf40j7 v)
def f40_13 (F : Nat) (kf40j7 : Ty19 → Rz) : Ty19 → Rz := fun v => f40_9 F (f40_12 F kf40j7) kf40j7 v
theorem f40_13_eq (F : Nat) (Rf40j7 : St → Rz) : ∀ v,aexec VG2240 (Af40 F) (bp Try.f40 62) (ef40j5 v) (kSeq (kc VG2240 Rf40j7 [(6,.plain)]) (kFin VG2240 (some [(2,(.own 22))]) (Try.f40).results.toList)) = f40_13 F (Rf40j7 ∘ ef40j7) v :=
  seq_cut (by kernel_rfl) (by kernel_rfl) ef40j5 ef40j6 _ (fun k => f40_9 F k (Rf40j7 ∘ ef40j7)) (f40_12 F (Rf40j7 ∘ ef40j7))
    (fun Rf40j6 => f40_9_eq F Rf40j6 Rf40j7) (f40_12_eq F Rf40j7)
def f40_14 (F : Nat) : Ty19 → Rz := fun (x1,x2,x3) => (some ((.own 1 0 1),[(.cells 2 (.segs (.cons 1 (.one (.vs (.rL .i64 x1) 0 1)) (.cons 1 (.one (.vs (.rL .i64 x2) 0 1)) .nil))) true),(.cells x3.length (.rL .i64 x3) true)]))
theorem f40_14_eq (F : Nat) : ∀ v,aexec VG2240 (Af40 F) (bp Try.f40 63) (ef40j7 v) (kFin VG2240 (some [(2,(.own 22))]) (Try.f40).results.toList) = f40_14 F v := by
  rintro ⟨x1,x2,x3⟩; kernel_rfl
def f40_15 (F : Nat) : Ty19 → Rz := fun v => f40_13 F (f40_14 F) v
theorem f40_15_eq (F : Nat) : ∀ v,aexec VG2240 (Af40 F) (bp Try.f40 31) (ef40j5 v) (kFin VG2240 (some [(2,(.own 22))]) (Try.f40).results.toList) = f40_15 F v :=
  seq_cut (by kernel_rfl) (by kernel_rfl) ef40j5 ef40j7 _ (fun k => f40_13 F k) (f40_14 F)
    (fun Rf40j7 => f40_13_eq F Rf40j7) (f40_14_eq F)
def f40_16 (F : Nat) : Ty17 → Rz := fun v => f40_8 F (f40_15 F) v
theorem f40_16_eq (F : Nat) : ∀ v,aexec VG2240 (Af40 F) (bp Try.f40 15) (ef40j4 v) (kFin VG2240 (some [(2,(.own 22))]) (Try.f40).results.toList) = f40_16 F v :=
  seq_cut (by kernel_rfl) (by kernel_rfl) ef40j4 ef40j5 _ (fun k => f40_8 F k) (f40_15 F)
    (fun Rf40j5 => f40_8_eq F Rf40j5) (f40_15_eq F)
def f40_17 (F : Nat) : Ty17 → Rz := fun v => f40_7 F (f40_16 F) v
theorem f40_17_eq (F : Nat) : ∀ v,aexec VG2240 (Af40 F) (bp Try.f40 7) (ef40j2 v) (kFin VG2240 (some [(2,(.own 22))]) (Try.f40).results.toList) = f40_17 F v :=
  seq_cut (by kernel_rfl) (by kernel_rfl) ef40j2 ef40j4 _ (fun k => f40_7 F k) (f40_16 F)
    (fun Rf40j4 => f40_7_eq F Rf40j4) (f40_16_eq F)
def f40_18 (F : Nat) : Ty6 → Rz := fun v => f40_2 F (f40_17 F) v
theorem f40_18_eq (F : Nat) : ∀ v,aexec VG2240 (Af40 F) (bp Try.f40 3) (ef40j1 v) (kFin VG2240 (some [(2,(.own 22))]) (Try.f40).results.toList) = f40_18 F v :=
  seq_cut (by kernel_rfl) (by kernel_rfl) ef40j1 ef40j2 _ (fun k => f40_2 F k) (f40_17 F)
    (fun Rf40j2 => f40_2_eq F Rf40j2) (f40_17_eq F)
def f40_19 (F : Nat) : Ty6 → Rz := fun v => f40_1 F (f40_18 F) v
theorem f40_19_eq (F : Nat) : ∀ v,aexec VG2240 (Af40 F) (sub (bodyOf Try.f40) []) (ef40_a v) (kFin VG2240 (some [(2,(.own 22))]) (Try.f40).results.toList) = f40_19 F v :=
  seq_cut (by kernel_rfl) (by kernel_rfl) ef40_a ef40j1 _ (fun k => f40_1 F k) (f40_18 F)
    (fun Rf40j1 => f40_1_eq F Rf40j1) (f40_18_eq F)
def f40 (F : Nat) : Ty6 → Rz := f40_19 F
theorem f40_body (F : Nat) (a0 : List (List Int)) (a1 : List (List Int)) : abody VG2240 (Af40 F) Try.f40 [(.own 0 0 1)] [(.cells 2 (.segs (.cons 1 (.one (.vs (.rL .i64 a0) 0 1)) (.cons 1 (.one (.vs (.rL .i64 a1) 0 1)) .nil))) true)] = f40 F (a0,a1) :=
  (abody_in (c := (sub (bodyOf Try.f40) [])) (by kernel_rfl) (s := ef40_a (a0,a1)) (by kernel_rfl)).trans (f40_19_eq F (a0,a1))
def r40 : CRun := fun X H => match X,H with
  | [(.own 0 0 1)],[(.cells 2 (.segs (.cons 1 (.one (.vs (.rL .i64 a0) 0 1)) (.cons 1 (.one (.vs (.rL .i64 a1) 0 1)) .nil))) true)] => some ((decide (a0.length + a1.length < 1073741000)),(.own 1 0 1),[(.cells 2 (.segs (.cons 1 (.one (.vs (.rL .i64 a0) 0 1)) (.cons 1 (.one (.vs (.rL .i64 a1) 0 1)) .nil))) true),(.cells (a0 ++ a1).length (.rL .i64 (a0 ++ a1)) true)])
  | _,_ => none
theorem s40 (a0 : List (List Int)) (a1 : List (List Int)) (hp : ((decide (a0.length + a1.length < 1073741000))) = true) (k0 : okB (.cells 2 (.segs (.cons 1 (.one (.vs (.rL .i64 a0) 0 1)) (.cons 1 (.one (.vs (.rL .i64 a1) 0 1)) .nil))) true)) : ∃ F,f40 F (a0,a1) = some ((.own 1 0 1),[(.cells 2 (.segs (.cons 1 (.one (.vs (.rL .i64 a0) 0 1)) (.cons 1 (.one (.vs (.rL .i64 a1) 0 1)) .nil))) true),(.cells (a0 ++ a1).length (.rL .i64 (a0 ++ a1)) true)]) := by
  simp only [decide_eq_true_eq] at hp
  obtain ⟨F,hF⟩ : ∃ F,F = 10 := ⟨_,rfl⟩
  refine ⟨F,?_⟩
  simp only [f40_1,f40_2,f40_3,f40_5_i,f40_5,f40_6,f40_7,f40_8,f40_9,f40_10,f40_11_i,f40_11,f40_12,f40_13,f40_14,f40_15,f40_16,f40_17,f40_18,f40_19,f40]
  have w0 : IntKind.i64.wrap (0 + (a0.length : Int)) = (a0.length : Int) := by rw [Int.zero_add]; exact i64w (by omega) (by omega)
  have w1 : IntKind.i64.wrap ((a0.length : Int) + (a1.length : Int)) = ((a0.length + a1.length : Nat) : Int) := by rw [i64w (by omega) (by omega)]; omega
  refine loopN_from (fun i => ((match i with | 0 => 0 | 1 => (a0.length : Int) | _ => ((a0.length + a1.length : Nat) : Int)),2,(i : Int),a0,a1)) 2 (by rfl) (fun i hi k => ?_) (fun k => ?_) _ (by omega)
  · simp only [f40_4,dec_and,Int.toNat_natCast]
    rw [cond_pos (by omega),cond_pos (by omega),i64w (x := (i : Int) + 1) (by omega) (by omega)]
    match i,hi with
    | 0,_ =>
      simp only [w0]
      show cond true (cond (decide ((a0.length : Int) < 0)) none _) _ = _
      rw [cond_true,cond_neg (by omega)]; rfl
    | 1,_ =>
      simp only [w1]
      show cond false _ (cond true (cond (decide (((a0.length + a1.length : Nat) : Int) < 0)) none _) _) = _
      rw [cond_false,cond_true,cond_neg (by omega)]; rfl
  · simp only [f40_4,f40_1,f40_2,f40_3,f40_5_i,f40_5,f40_6,f40_7,f40_8,f40_9,f40_10,f40_11_i,f40_11,f40_12,f40_13,f40_14,f40_15,f40_16,f40_17,f40_18,f40_19,f40,dec_and,Int.toNat_natCast]
    rw [cond_neg (by omega),cond_pos (by omega)]
    refine loopN_from (fun i => (2,(i : Int),a0,a1,(match i with | 0 => [] | 1 => a0 | _ => a0 ++ a1))) 2 (by rfl) (fun i hi k => ?_) (fun k => ?_) _ (by omega)
    · simp only [f40_10,dec_and,Int.toNat_natCast]
      rw [cond_pos (by omega),cond_pos (by omega),i64w (by omega) (by omega)]
      match i,hi with
      | 0,_ =>
        show cond true (cond (decide (0 + a0.length < 1073741824)) (k (2,((0 : Nat) : Int) + 1,a0,a1,[] ++ a0)) none) _ = _
        rw [cond_true,cond_pos (by omega)]; rfl
      | 1,_ =>
        show cond false _ (cond true (cond (decide (a0.length + a1.length < 1073741824)) (k (2,((1 : Nat) : Int) + 1,a0,a1,a0 ++ a1)) none) _) = _
        rw [cond_false,cond_true,cond_pos (by omega)]; rfl
    · simp only [f40_10,f40_14]
      rw [cond_neg (by omega)]
theorem c40 : CallOk Try.prog G22 40 r40 := callOk_of (V := VG2240) mixed tys eVG2240 (f := 40) (fn := Try.f40) Try.func40 (by kernel_rfl) (c := sub (bodyOf Try.f40) []) (by kernel_rfl) (by
  intro X H r H' h hX hH
  unfold r40 at h; split at h <;> try contradiction
  · simp only [Option.some.injEq,Prod.mk.injEq] at h
    obtain ⟨hp,rfl,rfl⟩ := h
    obtain ⟨F,hF⟩ := s40 _ _ hp (hH _ (.head _))
    exact ⟨Af40 F,(f40_body F _ _).trans hF⟩)
end Go.Am
end