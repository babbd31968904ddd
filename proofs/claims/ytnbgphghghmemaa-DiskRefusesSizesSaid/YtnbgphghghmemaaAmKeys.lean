/- The keys of a map, sorted: the kit's contracts of maps.Keys and slices.Sorted, as contracts of the machine's. -/
import Derived.Test.YtnbgphghghmemaaAmBody
import Derived.Shelf.SlIterI.Nil
import Derived.Shelf.SortM.Plain
import Derived.Shelf.SortM.SortNone
set_option linter.unusedVariables false
set_option linter.unusedSimpArgs false
namespace Go.Am
open Go Go.Proofs Go.RowKit Go.Maps Go.Sort Go.Shelf
variable {P : Program} {w : World}

def keyInts (es : List (List Int × List Int)) : List Int := es.map fun e => e.1.getD 0 0
def sortI (l : List Int) : List Int := l.mergeSort fun x y => decide (x ≤ y)
def intval' : Value → Int
  | .int _ n => n
  | _ => 0
def RR : Value → Option (DataW Unit × List MemPlace) := fun _ => some (.nil, [])

theorem ments_key {W : Nat → Prop} {ρ : Rho} {k : IntKind} {kn : Nat} {v : MV} : ∀ {ms : List MapEntry} {es : List (List Int × List Int)}, MEnts w W ρ k kn v ms es → ms.map (·.key) = es.map fun e => keyV k kn e.1
  | [], [], _ => rfl
  | m :: ms, e :: es, h => by simp only [List.map_cons, h.1.1, ments_key h.2]
  | [], _ :: _, h => h.elim
  | _ :: _, [], h => h.elim
theorem keyOk_one {xs : List Int} (h : keyOk .i64 0 xs) : ∃ x, xs = [x] ∧ IntKind.i64.has x := by
  obtain ⟨h1, h2⟩ := h
  match xs, h1 with
  | [x], _ => exact ⟨x, rfl, h2 x (by simp)⟩
theorem map_owns {W : Nat → Prop} {ρ : Rho} {v : MV} {b t : Nat} {es : List (List Int × List Int)} (ht : P.underlying t = some (.int .i64)) (h : MapIs w W ρ b .i64 0 v es) (hm : es.length ≤ maxLen) :
    ∃ D0 : DataW Unit, w.ownsMap P t RR b es.length D0 ∧ (intKeys D0).Perm (keyInts es) ∧ Maps.size D0 = es.length := by
  obtain ⟨ms, clock, hb, hE⟩ := h.ex
  have hk := ments_key hE
  have hlen : ms.size = es.length := by have := congrArg List.length hk; simpa using this
  have hbo := h.bo ms clock hb
  have hkey : ∀ x ∈ ms.toList, ∃ z, x.key = .int .i64 z ∧ IntKind.i64.has z := fun x hx => by
    have h1 : x.key ∈ ms.toList.map (·.key) := List.mem_map_of_mem hx
    rw [hk] at h1
    obtain ⟨e, he, h2⟩ := List.mem_map.1 h1
    obtain ⟨z, hz, hz'⟩ := keyOk_one (h.keys e he)
    exact ⟨z, by rw [← h2, hz]; rfl, hz'⟩
  have hrd : ∀ x ∈ ms.toList, ∀ z, x.key = .int .i64 z → IntKind.i64.has z → WideElems.rd P t RR x = some (.int .i64 z, .nil) := fun x hx z h1 h2 => by
    have h3 : keyOf P t x.key = some (.int .i64 z) := by
      rw [h1]
      exact keyOf_int_mk ht (by simp only [Lit.wf, Bool.and_eq_true, decide_eq_true_eq]; exact h2)
    simp [WideElems.rd, h3, RR]
  refine ⟨_, ⟨ms, clock, hb, ⟨by omega, ⟨hbo.1, hbo.2, ?_⟩, fun x hx => ?_⟩, by omega, rfl⟩, ?_, ?_⟩
  · rw [hk]
    have hn := h.nd
    rw [List.Nodup, List.pairwise_map] at hn ⊢
    refine hn.imp_of_mem fun {p q} hp hq hne e => hne ?_
    obtain ⟨x, hx, _⟩ := keyOk_one (h.keys p hp)
    obtain ⟨y, hy, _⟩ := keyOk_one (h.keys q hq)
    rw [hx, hy] at e ⊢
    simp only [keyV, List.getD_cons_zero, Value.int.injEq, true_and] at e
    rw [e]
  · obtain ⟨z, h1, h2⟩ := hkey x hx
    exact ⟨_, hrd x hx z h1 h2⟩
  · show (List.map (fun p => Go.intOf p.1) (List.foldr DataW.insert [] (ms.toList.map (WideElems.rg P t RR)))).Perm (keyInts es)
    refine ((WideShapes.sorted_perm _).map _).trans (List.Perm.of_eq ?_)
    have e1 : keyInts es = (ms.toList.map (·.key)).map intval' := by
      rw [hk, List.map_map]
      apply List.map_congr_left
      intro e he
      obtain ⟨x, hx, _⟩ := keyOk_one (h.keys e he)
      simp [hx, keyV, intval']
    rw [e1, List.map_map, List.map_map]
    apply List.map_congr_left
    intro x hx
    obtain ⟨z, h1, h2⟩ := hkey x hx
    simp [Function.comp, WideElems.rg, hrd x hx z h1 h2, h1, Go.intOf, intval']
  · show (List.foldr DataW.insert [] (ms.toList.map (WideElems.rg P t RR))).length = es.length
    rw [DataW.length_sorted, List.length_map]
    simpa using hlen
theorem Sim.below {U : Oth} {G : Nat → Option AV} {w0 : World} {W0 : Nat → Prop} {ρ : Rho} {s : St} {a : Act} {w' : World} (h : Sim U G w0 W0 ρ s a w) (hb : Below w.heap.size w w') : Sim U G w0 W0 ρ s a w' :=
  h.step (fun b hlt _ => hb.block b hlt) (fun b hb => .inl hb) (fun _ _ h => h) hb.size ⟨hb.os, hb.output, hb.tape⟩
    (fun id n r b hl => (h.bl id n r b hl).keep (fun b hlt _ => hb.block b hlt) (fun b hb => .inl hb) (fun _ _ h => h) hb.size (fun L _ hlt => hb.block _ hlt)) h.sep h.dom h.su

def runSorted (fs : List Nat) : List AV → List Blk → Option (Bool × AV × List Blk)
  | [.fn f (.cons _ (.ptr 0 0 1 0 0 0 1) .nil)], [.cells 1 (.one (.mp 1)) true, .cells 0 (.rM .i64 0 v es) b] => match mem f fs with
    | true => some (decide (es.length < 1073741824), .vs (.rI .i64 (sortI (keyInts es))) 0 1, [.cells 1 (.one (.mp 1)) true, .cells 0 (.rM .i64 0 v es) b])
    | false => none
  | _, _ => none

theorem row_view {U : Oth} {G : Nat → Option AV} {w0 : World} {W0 : Nat → Prop} {ρ : Rho} {s : St} {a : Act} {w' : World} (h : Sim U G w0 W0 ρ s a w) {t : Nat} {v : Value} {xs : List Int}
    (hrow : w'.ownsRow w.heap.size t 1 v xs.length (xs.map encZ)) (hx : ∀ x ∈ xs, IntKind.i64.has x) (hlx : xs.length < 4611686018427387904) : Rep w' (Wr U ρ s.heap) ρ (.vs (.rI .i64 xs) 0 1) v := by
  obtain ⟨hlen, ⟨rfl, h0⟩ | ⟨g, cap, cur, rfl, hg, hb, hn, hcap, hcs, htake⟩⟩ := hrow
  · exact .vs0 _ 1 0 none rfl (by simpa [AV.size] using h0)
  · by_cases h0 : xs.length = 0
    · rw [h0]; exact .vs0 _ 1 _ _ rfl (by simpa [AV.size] using h0)
    · rw [Nat.mul_one] at htake hcs
      have hcell : ∀ j, j < xs.length → w'.cell? ⟨g, 0 + j, none⟩ = some (.int .i64 (xs.getD j 0)) := fun j hj => by
        have e1 : cur[j]? = some (.int .i64 (xs.getD j 0)) := by
          have e2 : (cur.toList.take xs.length)[j]? = (xs.map encZ)[j]? := by rw [htake]
          rw [List.getElem?_take, if_pos hj, Array.getElem?_toList] at e2
          rw [e2, List.getElem?_map, List.getElem?_eq_getElem hj, List.getD_eq_getElem?_getD, List.getElem?_eq_getElem hj]; rfl
        simp [World.cell?, hb, e1]
      refine .vs _ 0 1 xs.length cap g 0 (fun j => .int .i64 (xs.getD j 0)) rfl (by omega) (by simp [AV.size]) (by omega) (.inl rfl) hn (by omega) ?_ (fun j hj => hcell j (by omega)) (fun j hj => ?_)
      · rintro (hu | ⟨id, n, r, L, h1, h2, h3⟩)
        · have := (h.uo g (U.sub g hu)).1
          have := h.sz; omega
        · have := h.loc_lt h1 h2; omega
      · refine .int .i64 _ (hx _ ?_)
        rw [List.getD_eq_getElem?_getD, List.getElem?_eq_getElem (by omega)]
        exact List.getElem_mem _

theorem sorted_ok {G : Nat → Option AV} {ρs : Ren} {fs : List Nat} (L : SlLaysZI.n6 P ρs) (hS : ∀ m, AnyZI.SortsIn P ρs Fence.wide m) (e9 : Enters P (ρs.f 9))
    (hf : ∀ f ∈ fs, Enters P f ∧ ∃ ρk : Ren, SlLaysZI.n10 P ρk ∧ ρk.f 10 = f ∧ ρk.t 26 = ρs.t 26) : CallOk P G (ρs.f 6) (runSorted fs) where
  there := by
    obtain ⟨nm, h1, h2⟩ := L.f6
    exact ⟨_, h2, h1, rfl⟩
  does := by
    intro A H r H' hr U w ρ args hU hs hA
    unfold runSorted at hr
    split at hr <;> try contradiction
    rename_i f c v es b
    split at hr <;> try contradiction
    rename_i hm
    simp only [Option.some.injEq, Prod.mk.injEq, decide_eq_true_eq] at hr
    obtain ⟨hp, rfl, rfl⟩ := hr
    obtain ⟨ef, ρk, Lk, rfl, ht⟩ := hf f (mem_iff.1 hm)
    match args, hA with
    | ⟨[x]⟩, hA =>
      have hx := hA.1
      cases hx with | fn _ _ cvs hl hc =>
      have hc0 := hc 0 (by simp [AVs.len])
      match cvs, hl, hc0 with
      | ⟨[y]⟩, _, hc0 =>
        have hy : Rep w (Wr U ρ (tagH 0 [.cells 1 (.one (.mp 1)) true, .cells 0 (.rM .i64 0 v es) b])) ρ (.ptr 0 0 1 0 0 0 1) y := hc0
        cases hy with | ptr _ _ _ _ _ _ _ L0 h0 hi hxx hbb h00 =>
        have b0 := hs.bl 0 1 (.one (.mp 1)) true rfl
        have b1 := hs.bl 1 0 (.rM .i64 0 v es) b rfl
        rcases b0.lies with ⟨q, _⟩ | ⟨L0', q, q1, q2, q3, q4⟩
        · rw [q] at h0; cases h0
        rw [q] at h0; cases h0
        obtain ⟨_, _, _, _, _, ⟨hb0, _⟩, _⟩ := q3 rfl rfl
        obtain ⟨y, q5, q6⟩ := q2 0 (by omega)
        cases q6 with | mp _ L1 hL1 =>
        obtain ⟨L1', q7, hmap⟩ := b1.map _ _ _ _ rfl
        rw [q7] at hL1; cases hL1
        have hml : 1073741824 ≤ maxLen := by decide
        obtain ⟨D0, d1, d2, d3⟩ := map_owns (t := ρk.t 26) (by rw [ht]; exact L.t26) hmap (by omega)
        have hadr : (⟨L0.b, L0.base + (0 + ix 0 0 0), none⟩ : Addr) = ⟨L0.b, 0, none⟩ := by rw [hb0]; rfl
        have hcell : w.cell? ⟨L0.b, 0, none⟩ = some (.map (some L1.b)) := by rw [hb0] at q5; exact q5
        have hseq := AnyZI.keys_gives Lk Fence.wide 2 trivial rfl (by omega) L0.b L1.b es.length D0 w q4 hcell d1
        have cS := AnyZI.sorted_in L Fence.wide 5 trivial trivial trivial trivial rfl (by omega) (hS _) e9 (ρk.f 10) #[.pointer (some ⟨L0.b, 0, none⟩)] trivial ef _ _ (by omega) (by omega) w hseq
        rw [hadr]
        refine (callsIn_wide.1 cS).mono ?_
        rintro e w' ⟨u, ss, rfl, hss, hrow, hnil, hB⟩
        have es' : ss.mergeSort (fun x y => decide (x ≤ y)) = sortI (keyInts es) := mergeSort_of_perm_i (hss.trans d2)
        rw [es', show ss.length = (sortI (keyInts es)).length by rw [← es', List.length_mergeSort]] at hrow
        refine ⟨u, ρ, rfl, hs.below hB, row_view hs hrow (fun z hz => ?_) (by rw [← es', List.length_mergeSort, hss.length_eq, d2.length_eq]; simp [keyInts]; omega)⟩
        have hz' : z ∈ keyInts es := ((List.mergeSort_perm _ _).mem_iff).1 hz
        obtain ⟨e, he, rfl⟩ := List.mem_map.1 hz'
        obtain ⟨z, hz1, hz2⟩ := keyOk_one (hmap.keys e he)
        rw [hz1]; exact hz2
end Go.Am
