/- Part of a proof about the functions of the given program. -/
import Derived.Shelf.Strings.Builder1
import Derived.Test.YtlenpjfgbbfmcaaDoorProg
import Derived.Test.YtlenpjfgbbfmcaaDoorAmWf
import Derived.Test.YtlenpjfgbbfmcaaDoorAmWire3
import Derived.Test.YtlenpjfgbbfmcaaDoorAm03G
set_option linter.unusedSimpArgs false
set_option linter.unusedVariables false
section
/- The numbers at which the kit's contracts of strings.Builder hold in this program (printed by layb.py). -/
namespace Go.Proofs
open Go.RowKit Go.Shelf
def Tryd.lays169_ren : Go.Shelf.Ren := ⟨fun | 169 => 29 | n => n, fun | 70 => 51 | 9 => 9 | 0 => 0 | 72 => 54 | 37 => 52 | 127 => 79 | 3 => 3 | 5 => 5 | n => n, fun | n => n⟩
theorem Tryd.lays169 : Go.Proofs.Lays.n169 Tryd.prog Tryd.lays169_ren := {
 mixed := by kernel_rfl,
 f169 := Tryd.func29.trans (congrArg some (by kernel_rfl)),
 t0 := Tryd.underlying0,
 a0 := Tryd.isAgg0,
 z0 := Tryd.sizeOf0,
 v0 := Tryd.zeroValue0,
 t3 := Tryd.underlying3,
 a3 := Tryd.isAgg3,
 z3 := Tryd.sizeOf3,
 v3 := Tryd.zeroValue3,
 t9 := Tryd.underlying9,
 a9 := Tryd.isAgg9,
 z9 := Tryd.sizeOf9,
 v9 := Tryd.zeroValue9,
 t37 := Tryd.underlying52,
 a37 := Tryd.isAgg52,
 z37 := Tryd.sizeOf52,
 v37 := Tryd.zeroValue52,
 t70 := Tryd.underlying51,
 a70 := Tryd.isAgg51,
 z70 := Tryd.sizeOf51,
 v70 := Tryd.zeroValue51,
 t72 := Tryd.underlying54,
 a72 := Tryd.isAgg54,
 z72 := Tryd.sizeOf54,
 v72 := Tryd.zeroValue54,
 t127 := Tryd.underlying79,
 a127 := Tryd.isAgg79,
 z127 := Tryd.sizeOf79,
 v127 := Tryd.zeroValue79 }
def Tryd.lays240_ren : Go.Shelf.Ren := ⟨fun | 240 => 47 | 276 => 59 | n => n, fun | 70 => 51 | 72 => 54 | 37 => 52 | 164 => 95 | 9 => 9 | 20 => 20 | 0 => 0 | 4 => 4 | 5 => 5 | n => n, fun | n => n⟩
theorem Tryd.lays240 : Lays.n240 Tryd.prog Tryd.lays240_ren := {
 mixed := by kernel_rfl,
 f240 := Tryd.func47.trans (congrArg some (by kernel_rfl)),
 f276 := Tryd.func59.trans (congrArg some (by kernel_rfl)),
 t0 := Tryd.underlying0, a0 := Tryd.isAgg0, z0 := Tryd.sizeOf0, v0 := Tryd.zeroValue0,
 t4 := Tryd.underlying4, a4 := Tryd.isAgg4, z4 := Tryd.sizeOf4, v4 := Tryd.zeroValue4,
 t9 := Tryd.underlying9, a9 := Tryd.isAgg9, z9 := Tryd.sizeOf9, v9 := Tryd.zeroValue9,
 t20 := Tryd.underlying20, a20 := Tryd.isAgg20, z20 := Tryd.sizeOf20, v20 := Tryd.zeroValue20,
 t70 := Tryd.underlying51, a70 := Tryd.isAgg51, z70 := Tryd.sizeOf51, v70 := Tryd.zeroValue51,
 t72 := Tryd.underlying54, a72 := Tryd.isAgg54, z72 := Tryd.sizeOf54, v72 := Tryd.zeroValue54,
 t164 := Tryd.underlying95, a164 := Tryd.isAgg95, z164 := Tryd.sizeOf95, v164 := Tryd.zeroValue95 }
theorem Tryd.x72 : Builder.X72 Tryd.prog Tryd.lays240_ren := { sizeBuilder := by kernel_rfl, liesBuilder := by kernel_rfl }
theorem Tryd.bextra : Builder.Extra Tryd.prog Tryd.lays169_ren := { sizeBuilder := by kernel_rfl, liesBuilder := by kernel_rfl, t5 := Tryd.underlying5, a5 := Tryd.isAgg5, z5 := Tryd.sizeOf5, v5 := Tryd.zeroValue5, infoByte := by kernel_rfl, cellsByte := by kernel_rfl, sizeByte := by kernel_rfl, neB5 := by decide }
end Go.Proofs
end
section
/- strings.Builder: copyCheck and String, as contracts of the machine's. -/
namespace Go.Am
open Go Go.Proofs Go.RowKit Go.Shelf
variable {P : Program} {w : World}
theorem Sim.restate {U : Oth} {G : Nat → Option AV} {w0 : World} {W0 : Nat → Prop} {ρ : Rho} {s t : St} {a : Act} (hs : Sim U G w0 W0 ρ s a w) (e1 : ∀ d, lk d s.tmps = lk d t.tmps) (e2 : ∀ i, lkH i s.heap = lkH i t.heap)
  (e3 : ∀ i, hasKey i s.heap = hasKey i t.heap) (e4 : s.nt = t.nt) (e5 : s.m ≤ t.m) : Sim U G w0 W0 ρ t a w := by
 have e : Wr U ρ t.heap = Wr U ρ s.heap := Wr_eqv fun id => (e2 id).symm
 exact {
  tm := fun d => by rw [e, ← e1 d]; exact hs.tm d
  nt := by rw [← e4]; exact hs.nt
  df := hs.df
  bl := fun id n r b hl => by
   rw [← e2 id] at hl
   have hb := hs.bl id n r b hl
   refine ⟨hb.wf, hb.size, ?_, ?_, hb.typ⟩ <;> rw [e]
   ·exact hb.lies
   ·exact hb.map
  sep := fun id id' n r n' r' b' L L' h1 h2 => by rw [← e2] at h1 h2; exact hs.sep id id' n r n' r' b' L L' h1 h2
  dom := fun id hid => by rw [← e3]; exact hs.dom id hid
  fr := hs.fr
  wo := fun b hb => hs.wo b (by
   obtain ⟨id, n, r, L, h1, h2, h3⟩ := hb
   exact ⟨id, n, r, L, by rw [e2]; exact h1, h2, h3⟩)
  sz := hs.sz, gl := hs.gl, uo := hs.uo, ug := hs.ug
  su := fun id n r b L h1 => by rw [← e2] at h1; exact hs.su id n r b L h1
  ini := hs.ini
  im := fun id hid => Nat.lt_of_lt_of_le (hs.im id hid) e5
  sm := hs.sm }
def bufTag (e : Nat) : List CK := tagOf e ++ [.int .i16]
def runCheck (t e : Nat) : List AV → List Blk → Option (Bool × AV × List Blk)
 | [.ptr 0 0 2 0 0 0 2], [.cells 2 (.segs (.cons 0 (.rT ks []) (.cons 1 (.one .nilp) (.cons 1 (.one .ns) .nil)))) true] =>
  some (Nat.beq (tagNum ks) t && Nat.blt t 512, .tup .nil, [.cells 2 (.segs (.cons 0 (.rT ks []) (.cons 1 (.one (.ptr 0 0 2 0 0 0 2)) (.cons 1 (.one (.own 1 0 1)) .nil)))) true, .cells 0 (.segs (.cons 0 (.rT (bufTag e) []) (.cons 0 (.rI .u8 []) .nil))) true])
 | [.ptr 0 0 2 0 0 0 2], [.cells 2 (.segs (.cons 0 (.rT ks []) (.cons 1 (.one (.ptr 0 0 2 0 0 0 2)) (.cons 1 (.one (.own 1 0 1)) .nil)))) true, B] =>
  some (true, .tup .nil, [.cells 2 (.segs (.cons 0 (.rT ks []) (.cons 1 (.one (.ptr 0 0 2 0 0 0 2)) (.cons 1 (.one (.own 1 0 1)) .nil)))) true, B])
 | _, _ => none
theorem check_ok {G : Nat → Option AV} {ρs : Ren} {e : Nat} (K : Lays.n240 P ρs) (X : Builder.X72 P ρs) : CallOk P G (ρs.f 240) (runCheck (ρs.t 72) e) where
 there := ⟨_, K.f240, by kernel_rfl, by kernel_rfl⟩
 does := by
  intro A H r H' hr U w ρ args hU hs hA
  let V : Env := { T := [], E := fun _ => none, G := G }
  unfold runCheck at hr
  split at hr <;> try contradiction
  ·rename_i ks
   simp only [Option.some.injEq, Prod.mk.injEq, Bool.and_eq_true, Nat.beq_eq, Nat.blt_eq] at hr
   obtain ⟨⟨hk, h512⟩, rfl, rfl⟩ := hr
   match args, hA with
   | ⟨[x]⟩, hA =>
   have hx := hA.1
   cases hx with | ptr _ _ _ _ _ _ _ L0 h0 hi hxx hbb h00 =>
   have b0 := hs.bl 0 2 _ true rfl
   rcases b0.lies with ⟨q, _⟩ | ⟨L0', q, q1, q2, q3, q4⟩
   ·rw [q] at h0; cases h0
   rw [q] at h0; cases h0
   have hM := q3 rfl rfl
   obtain ⟨c, t, fr, m1, m2, ⟨⟨hb0, hty⟩, m3⟩, m4⟩ := hM
   rcases b0.typ _ rfl with q5 | ⟨L0', q5, q6, q7⟩
   ·rw [q] at q5; cases q5
   rw [q] at q5; cases q5
   rw [hk] at q6 q7
   rw [Nat.mod_eq_of_lt h512] at q6
   have hS : L0.S = 2 := (q7 h512).trans q1
   obtain ⟨v0, c0, r0⟩ := q2 0 (by omega)
   obtain ⟨v1, c1, r1⟩ := q2 1 (by omega)
   have r0' : Rep w (Wr U ρ (hst [.cells 2 (.segs (.cons 0 (.rT ks []) (.cons 1 (.one .nilp) (.cons 1 (.one .ns) .nil)))) true]).heap) ρ .nilp v0 := r0
   have r1' : Rep w (Wr U ρ (hst [.cells 2 (.segs (.cons 0 (.rT ks []) (.cons 1 (.one .nilp) (.cons 1 (.one .ns) .nil)))) true]).heap) ρ .ns v1 := r1
   cases r0' with | nilp =>
   cases r1' with | ns =>
   have hadr : (⟨L0.b, L0.base + (0 + ix 0 0 0), none⟩ : Addr) = ⟨L0.b, 0, none⟩ := by rw [hb0]; rfl
   rw [hb0] at c0 c1
   rw [hadr]
   refine (Any.Builder_copyCheck_fresh K X L0.b w c0 (by unfold World.shape?; rw [m1]; simp only; rw [m2.1, hS, ← hty, q6]) (m4 0 (by omega))).mono ?_
   rintro e1 w' ⟨rfl, rfl⟩
   have hsV : Sim U V.G w (WrO ρ (tagH 0 [.cells 2 (.segs (.cons 0 (.rT ks []) (.cons 1 (.one .nilp) (.cons 1 (.one .ns) .nil)))) true])) ρ (hst [.cells 2 (.segs (.cons 0 (.rT ks []) (.cons 1 (.one .nilp) (.cons 1 (.one .ns) .nil)))) true]) emptyAct w := hs
   have hs1 := hsV.newEmpty (id := 1) (r := .segs (.cons 0 (.rT (bufTag e) []) (.cons 0 (.rI .u8 []) .nil))) rfl (by simp [AV.wf, AVs.wfS, AV.size]) (by simp [AV.size, AVs.sizeS])
   have hL1 : (ρ.set 1 none) 0 = some (some L0) := by rw [Rho.set_other _ _ (by decide)]; exact q
   have hself := setCell_self (off := 0) (v := .pointer (some ⟨L0.b, 0, none⟩)) m1
   have hcs : c.size = 2 := m2.1.trans hS
   have hs2 := hs1.1.rewrite (id := 0) (n := 2) (r' := .segs (.cons 0 (.rT ks []) (.cons 1 (.one (.ptr 0 0 2 0 0 0 2)) (.cons 1 (.one (.own 1 0 1)) .nil)))) (w' := w.setCell ⟨L0.b, 0, none⟩ (.pointer (some ⟨L0.b, 0, none⟩))) rfl hL1
    ⟨by simp [World.setCell], by simp [World.setCell], by simp [World.setCell]⟩ (by simp [AV.wf, AVs.wfS, AV.size, AV.scal]) (by simp [AV.size, AVs.sizeS]) (by simp [World.setCell]) (fun b hb => setCell_other hb)
    ⟨_, t, fr, hself, ⟨by simp [m2.1], m2.2⟩, ⟨⟨hb0, hty⟩, m3⟩, fun j hj => by rw [World.frozen?_setCell]; exact m4 j hj⟩
    (fun j hj => by
     match j, hj with
     | 0, _ =>
      refine ⟨.pointer (some ⟨L0.b, 0, none⟩), by unfold World.cell?; simp only [hself, hb0]; simp [hcs], ?_⟩
      have := Rep.ptr (w := w) (W := Wr U (ρ.set 1 none) ((hst [.cells 2 (.segs (.cons 0 (.rT ks []) (.cons 1 (.one .nilp) (.cons 1 (.one .ns) .nil)))) true]).setH 1 (.cells 0 (.segs (.cons 0 (.rT (bufTag e) []) (.cons 0 (.rI .u8 []) .nil))) true)).heap) 0 0 2 0 0 0 2 L0 hL1 hi hxx hbb h00
      rw [hadr] at this
      exact this
     | 1, _ =>
      refine ⟨.slice none 0 0, ?_, .own0 1 1 none (Rho.set_same _ _ _)⟩
      rw [hb0, ← c1]
      unfold World.cell?; simp only [hself, m1]; simp)
    (fun _ h => h)
   refine ⟨_, _, rfl, hs2.1.restate (fun _ => rfl) (fun i => ?_) (fun i => ?_) rfl (show 1 ≤ 2 by decide), .tup .nil #[] rfl (fun j hj => by cases hj)⟩
   ·match i with
    | 0 => rfl
    | 1 => rfl
    | i + 2 => rfl
   ·match i with
    | 0 => rfl
    | 1 => rfl
    | i + 2 => rfl
  ·rename_i ks B
   simp only [Option.some.injEq, Prod.mk.injEq, true_and] at hr
   obtain ⟨rfl, rfl⟩ := hr
   match args, hA with
   | ⟨[x]⟩, hA =>
   have hx := hA.1
   cases hx with | ptr _ _ _ _ _ _ _ L0 h0 hi hxx hbb h00 =>
   have b0 := hs.bl 0 2 _ true rfl
   rcases b0.lies with ⟨q, _⟩ | ⟨L0', q, q1, q2, q3, q4⟩
   ·rw [q] at h0; cases h0
   rw [q] at h0; cases h0
   obtain ⟨c, t, fr, m1, m2, ⟨⟨hb0, hty⟩, m3⟩, m4⟩ := q3 rfl rfl
   obtain ⟨v0, c0, r0⟩ := q2 0 (by omega)
   have r0' : Rep w (Wr U ρ (hst [.cells 2 (.segs (.cons 0 (.rT ks []) (.cons 1 (.one (.ptr 0 0 2 0 0 0 2)) (.cons 1 (.one (.own 1 0 1)) .nil)))) true, B]).heap) ρ (.ptr 0 0 2 0 0 0 2) v0 := r0
   have hadr : (⟨L0.b, L0.base + (0 + ix 0 0 0), none⟩ : Addr) = ⟨L0.b, 0, none⟩ := by rw [hb0]; rfl
   cases r0' with | ptr _ _ _ _ _ _ _ L1 h1 _ _ _ _ =>
   rw [q] at h1; cases h1
   rw [hadr] at c0 ⊢
   rw [hb0] at c0
   refine (Any.Builder_copyCheck_used K X L0.b w c0).mono ?_
   rintro e1 w' ⟨rfl, rfl⟩
   exact ⟨_, ρ, rfl, hs, .tup .nil #[] rfl (fun j hj => by cases hj)⟩
set_option maxHeartbeats 1000000 in
set_option maxRecDepth 100000 in
theorem String_at {ρ : Ren} (L : Lays.n169 P ρ) (X : Builder.Extra P ρ) (b g cap S : Nat) (l : List UInt8) (w : World) (h0 : l ≠ []) (c0 : w.cell? ⟨b, 1, none⟩ = some (.slice (some ⟨g, 0, none⟩) l.length cap)) (hcap : l.length ≤ cap)
  (hsh : w.shape? g = some (ρ.t 5, S)) (hS : l.length ≤ S) (h63 : l.length ≤ 9223372036854775807) (hcell : ∀ j x, l[j]? = some x → w.cell? ((⟨g, 0, none⟩ : Addr).add j) = some (.int .u8 x.toNat)) :
  Calls P (ρ.f 169) #[.pointer (some ⟨b, 0, none⟩)] w fun e w' => e = .returned (.string ⟨l.toArray⟩) ∧ w' = w.drew.freeze ⟨g, 0, none⟩ l.length := by
 have hl0 : l.length ≠ 0 := by simpa using h0
 have c1 : w.drew.cell? ⟨b, 1, none⟩ = some (.slice (some ⟨g, 0, none⟩) l.length cap) := c0
 have hSD : (Builtin.unsafeSliceData_ #[(ρ.t 37)] (ρ.t 127) #[.slice (some ⟨g, 0, none⟩) l.length cap]).run P w.drew = .ok (.pointer (some ⟨g, 0, none⟩)) w.drew :=
  Lib.run_unsafeSliceData_row _ _ _ _ _ _ (by omega)
 have hUS : (Builtin.unsafeString_ #[(ρ.t 127), (ρ.t 3)] (ρ.t 9) #[.pointer (some ⟨g, 0, none⟩), .int .i64 l.length]).run P w.drew = .ok (.string ⟨l.toArray⟩) (w.drew.freeze ⟨g, 0, none⟩ l.length) :=
  Lib.run_unsafeString_row w.drew (ρ.t 127) (ρ.t 3) (ρ.t 9) (ρ.t 5) L.t127 X.cellsByte g S hsh l h0 hS h63 hcell
 have mixed := L.mixed
 have t72 := L.t72; have a72 := L.a72; have z72 := L.z72; have v72 := L.v72; have u72 := run_underlying L.t72
 have t70 := L.t70; have a70 := L.a70; have z70 := L.z70; have v70 := L.v70; have u70 := run_underlying L.t70
 have t37 := L.t37; have a37 := L.a37; have z37 := L.z37; have v37 := L.v37; have u37 := run_underlying L.t37
 have t127 := L.t127; have a127 := L.a127; have z127 := L.z127; have v127 := L.v127; have u127 := run_underlying L.t127
 have t3 := L.t3; have a3 := L.a3; have z3 := L.z3; have v3 := L.v3; have u3 := run_underlying L.t3
 have t9 := L.t9; have a9 := L.a9; have z9 := L.z9; have v9 := L.v9; have u9 := run_underlying L.t9
 have t5 := X.t5; have a5 := X.a5; have z5 := X.z5; have v5 := X.v5; have u5 := run_underlying X.t5
 go_enter L.f169, Body.n169_ntmps ρ
 go_wp2
 go_region_o
 all_goals (go_wp2; go_ret; exact ⟨rfl, rfl⟩)
def runString (e : Nat) : List AV → List Blk → Option (Bool × AV × List Blk)
 | [.ptr 0 0 2 0 0 0 2], [.cells 2 (.segs (.cons 0 (.rT k1 []) (.cons 1 (.one p) (.cons 1 (.one (.own 1 0 1)) .nil)))) true, .cells n (.segs (.cons 0 (.rT ks []) (.cons m (.rI .u8 xs) .nil))) true] =>
  some (Nat.beq (tagNum ks) (e + 512) && (Nat.blt e 512 && Nat.blt 0 xs.length), .str xs, [.gone, .gone])
 | _, _ => none
theorem string_ok {G : Nat → Option AV} {ρs : Ren} (K : Lays.n169 P ρs) (X : Builder.Extra P ρs) : CallOk P G (ρs.f 169) (runString (ρs.t 5)) where
 there := ⟨_, K.f169, by kernel_rfl, by kernel_rfl⟩
 does := by
  intro A H r H' hr U w ρ args hU hs hA
  unfold runString at hr
  split at hr <;> try contradiction
  rename_i k1 p n ks m xs
  simp only [Option.some.injEq, Prod.mk.injEq, Bool.and_eq_true, Nat.beq_eq, Nat.blt_eq] at hr
  obtain ⟨⟨hk, h512, hx0⟩, rfl, rfl⟩ := hr
  match args, hA with
  | ⟨[x]⟩, hA =>
  have hx := hA.1
  cases hx with | ptr _ _ _ _ _ _ _ L0 h0 hi hxx hbb h00 =>
  have b0 := hs.bl 0 2 _ true rfl
  have b1 := hs.bl 1 n _ true rfl
  rcases b0.lies with ⟨q, _⟩ | ⟨L0', q, q1, q2, q3, q4⟩
  ·rw [q] at h0; cases h0
  rw [q] at h0; cases h0
  obtain ⟨_, _, _, _, _, ⟨⟨hb0, _⟩, _⟩, _⟩ := q3 rfl rfl
  obtain ⟨v1, c1, r1⟩ := q2 1 (by omega)
  have r1' : Rep w (Wr U ρ (hst [.cells 2 (.segs (.cons 0 (.rT k1 []) (.cons 1 (.one p) (.cons 1 (.one (.own 1 0 1)) .nil)))) true, .cells n (.segs (.cons 0 (.rT ks []) (.cons m (.rI .u8 xs) .nil))) true]).heap) ρ (.own 1 0 1) v1 := r1
  have hn : xs.length = n := by have := b1.size; simpa [AV.size, AVs.sizeS] using this
  cases r1' with
  | own0 _ _ _ hl =>
   rcases b1.lies with ⟨_, g⟩ | ⟨L, g, _⟩
   ·omega
   ·rw [hl] at g; cases g
  | own _ _ _ l cap L hl hln hkl hcap hS h01 hm =>
   rcases b1.lies with ⟨g, _⟩ | ⟨L', g, g1, g2, g3, g4⟩
   ·rw [hl] at g; cases g
   rw [hl] at g; cases g
   obtain ⟨c, t, fr, m1, m2, ⟨⟨hb1, hty⟩, m3⟩, m4⟩ := g3 rfl rfl
   rcases b1.typ _ rfl with q5 | ⟨L', q5, q6, _⟩
   ·rw [hl] at q5; cases q5
   rw [hl] at q5; cases q5
   rw [hk, Nat.add_mod_right, Nat.mod_eq_of_lt h512] at q6
   have hxl : xs.length = l := by omega
   have hcells : ∀ j, j < xs.length → w.cell? ⟨L.b, j, none⟩ = some (.int .u8 (xs.getD j 0)) ∧ IntKind.u8.has (xs.getD j 0) := fun j hj => by
    obtain ⟨v, e1, e2⟩ := g2 j (by omega)
    have wf := b1.wf rfl
    simp only [AV.wf, AVs.wfS, AV.size] at wf
    have e3 : (AV.segs (.cons 0 (.rT ks []) (.cons m (.rI .u8 xs) .nil))).cell j = .int .u8 (xs.getD j 0) := by
     simp only [AV.cell]
     rw [cellS_ge (Nat.zero_le j), Nat.sub_zero, cellS_lt (by omega)]
     rfl
    rw [e3] at e2
    cases e2 with | int _ _ hh => rw [hb1, Nat.zero_add] at e1; exact ⟨e1, hh⟩
   let bs : List UInt8 := xs.map fun z => UInt8.ofNat z.toNat
   have hbl : bs.length = xs.length := by simp [bs]
   have hby : ∀ z ∈ xs, 0 ≤ z ∧ z < 256 := fun z hz => by
    obtain ⟨j, hj, rfl⟩ := List.mem_iff_getElem.1 hz
    have := (hcells j hj).2
    rw [List.getD_eq_getElem?_getD, List.getElem?_eq_getElem hj] at this
    simp only [IntKind.has, IntKind.min, IntKind.max, IntKind.signed, IntKind.bits, Option.getD_some] at this
    simp at this
    omega
   have hback : bs.map (fun b => (b.toNat : Int)) = xs := by
    simp only [bs, List.map_map]
    refine (List.map_congr_left fun z hz => ?_).trans (List.map_id _)
    have := hby z hz
    simp only [Function.comp, id]
    rw [UInt8.toNat_ofNat', Nat.mod_eq_of_lt (by omega)]
    omega
   have hadr : (⟨L0.b, L0.base + (0 + ix 0 0 0), none⟩ : Addr) = ⟨L0.b, 0, none⟩ := by rw [hb0]; rfl
   rw [hb0] at c1
   rw [hadr]
   have c1' : w.cell? ⟨L0.b, 1, none⟩ = some (.slice (some ⟨L.b, 0, none⟩) bs.length cap) := by
    rw [hbl, hxl, ← hb1]; exact c1
   refine (String_at K X L0.b L.b cap c.size bs w (fun e => by rw [e] at hbl; simp at hbl; omega) c1' (by omega) (by unfold World.shape?; rw [m1]; simp only; rw [← hty, q6]) (by have := m2.1; omega) (by omega) (fun j x hj => ?_)).mono ?_
   ·rw [Addr.add_mk, Nat.zero_add]
    have hj' : j < xs.length := by
     rw [← hbl]; exact (List.getElem?_eq_some_iff.1 hj).1
    rw [(hcells j hj').1]
    simp only [bs, List.getElem?_map, List.getElem?_eq_getElem hj', Option.map_some, Option.some.injEq] at hj
    have := hby (xs[j]) (List.getElem_mem _)
    rw [← hj, List.getD_eq_getElem?_getD, List.getElem?_eq_getElem hj', Option.getD_some, UInt8.toNat_ofNat', Nat.mod_eq_of_lt (by omega)]
    congr 2
    omega
   ·rintro e1 w' ⟨rfl, rfl⟩
    have hsm : WSame w (w.drew.freeze ⟨L.b, 0, none⟩ bs.length) := by
     unfold World.freeze
     split <;> exact ⟨rfl, rfl, rfl⟩
    have hoth : ∀ b, b ≠ L.b → (w.drew.freeze ⟨L.b, 0, none⟩ bs.length).heap[b]? = w.heap[b]? := fun b hb => by
     unfold World.freeze
     split
     ·rfl
     ·simp only [Array.getElem?_modify]
      rw [if_neg (fun e => hb e.symm)]; rfl
    have hsz : (w.drew.freeze ⟨L.b, 0, none⟩ bs.length).heap.size = w.heap.size := by
     unfold World.freeze
     split
     ·rfl
     ·simp only [Array.size_modify]; rfl
    refine ⟨_, ρ, rfl, ?_, ?_⟩
    ·have hgone : ∀ id n r b, lkH id (tagH 0 [Blk.gone, Blk.gone]) = .cells n r b → False := fun id n r b h => by
      match id, h with
      | 0, h => cases h
      | 1, h => cases h
      | id + 2, h => cases h
     have := hs.step (H' := tagH 0 [Blk.gone, Blk.gone]) (ρ' := ρ) (w' := w.drew.freeze ⟨L.b, 0, none⟩ bs.length) (fun b hb hw => hoth b fun e => hw ⟨1, n, _, L, rfl, hl, e.symm⟩)
      (fun b ⟨id, n, r, L', h1, _⟩ => (hgone _ _ _ _ h1).elim) (fun _ _ h => h) (by omega) hsm (fun id n r b h => (hgone _ _ _ _ h).elim) (fun id id' n r n' r' b' L L' h1 => (hgone _ _ _ _ h1).elim)
      (fun id hid => by
       have := hs.dom id hid
       match id, this with
       | 0, _ => rfl
       | 1, _ => rfl
       | id + 2, h => exact absurd (show false = true from h) (by decide)) (fun id n r b L h1 => (hgone _ _ _ _ h1).elim)
     exact this.restate (fun _ => rfl) (fun _ => rfl) (fun _ => rfl) rfl (Nat.le_refl _)
    ·have := Rep.str (w := w.drew.freeze ⟨L.b, 0, none⟩ bs.length) (W := Wr U ρ (tagH 0 [Blk.gone, Blk.gone])) (ρ := ρ) ⟨bs.toArray⟩ (by rw [← bytesOf_len, bytesOf_mk, List.length_map]; omega)
     rw [bytesOf_mk, hback] at this
     exact this
end Go.Am
end
section
/- Lists: what is decoded is what was encoded; the order of encodings. -/
namespace Go.Am.Wire
open Go
theorem nat_has {n : Nat} (h : n < 9223372036854775808) : IntKind.i64.has (n : Int) := by
 constructor
 ·show (-9223372036854775808 : Int) ≤ _; omega
 ·show _ ≤ (9223372036854775807 : Int); omega
end Go.Am.Wire
end
section
/- The hash over natural numbers, which the kernel runs fast, and that it is the same. -/
namespace Go.Am.ShaN
open Go Go.Am
def rot (x n m : Nat) : Nat := Nat.lor (Nat.div x n) (Nat.mod (Nat.mul x m) 4294967296)
def s0 (x : Nat) : Nat := Nat.xor (Nat.xor (rot x 128 33554432) (rot x 262144 16384)) (Nat.div x 8)
def s1 (x : Nat) : Nat := Nat.xor (Nat.xor (rot x 131072 32768) (rot x 524288 8192)) (Nat.div x 1024)
def S0 (x : Nat) : Nat := Nat.xor (Nat.xor (rot x 4 1073741824) (rot x 8192 524288)) (rot x 4194304 1024)
def S1 (x : Nat) : Nat := Nat.xor (Nat.xor (rot x 64 67108864) (rot x 2048 2097152)) (rot x 33554432 128)
def nw (l : List Nat) : Nat := Nat.mod (Nat.add (Nat.add (Nat.add (l.getD 15 0) (s0 (l.getD 14 0))) (l.getD 6 0)) (s1 (l.getD 1 0))) 4294967296
def force {α : Type} (x : Nat) (k : Nat → α) : α := Nat.rec (k 0) (fun n _ => k (Nat.succ n)) x
theorem force_eq {α : Type} (x : Nat) (k : Nat → α) : force x k = k x := by cases x <;> rfl
def ext : Nat → List Nat → List Nat
 | 0, l => l
 | n + 1, l => force (nw l) fun x => ext n (x :: l)
def ext16 (n : Nat) : Nat → Nat → Nat → Nat → Nat → Nat → Nat → Nat → Nat → Nat → Nat → Nat → Nat → Nat → Nat → Nat → List Nat → List Nat :=
 Nat.rec (motive := fun _ => Nat → Nat → Nat → Nat → Nat → Nat → Nat → Nat → Nat → Nat → Nat → Nat → Nat → Nat → Nat → Nat → List Nat → List Nat) (fun _ _ _ _ _ _ _ _ _ _ _ _ _ _ _ _ acc => acc)
  (fun _ ih a b c d e f g h i j k l m o p q acc => force (Nat.mod (Nat.add (Nat.add (Nat.add a (s0 b)) j) (s1 p)) 4294967296) fun x => ih b c d e f g h i j k l m o p q x (x :: acc)) n
theorem ext16_eq : ∀ (n a b c d e f g h i j k l m o p q : Nat) (r : List Nat), ext16 n a b c d e f g h i j k l m o p q (q :: p :: o :: m :: l :: k :: j :: i :: h :: g :: f :: e :: d :: c :: b :: a :: r) = ext n (q :: p :: o :: m :: l :: k :: j :: i :: h :: g :: f :: e :: d :: c :: b :: a :: r)
 | 0, _, _, _, _, _, _, _, _, _, _, _, _, _, _, _, _, _ => rfl
 | n + 1, a, b, c, d, e, f, g, h, i, j, k, l, m, o, p, q, r => by
  have h1 : ext16 (n + 1) a b c d e f g h i j k l m o p q (q :: p :: o :: m :: l :: k :: j :: i :: h :: g :: f :: e :: d :: c :: b :: a :: r) = force (Nat.mod (Nat.add (Nat.add (Nat.add a (s0 b)) j) (s1 p)) 4294967296) fun x => ext16 n b c d e f g h i j k l m o p q x (x :: q :: p :: o :: m :: l :: k :: j :: i :: h :: g :: f :: e :: d :: c :: b :: a :: r) := rfl
  rw [h1, ext, force_eq, force_eq]
  exact ext16_eq n b c d e f g h i j k l m o p q _ (a :: r)
def extW (w : List Nat) : List Nat := match w with
 | [q, p, o, m, l, k, j, i, h, g, f, e, d, c, b, a] => ext16 48 a b c d e f g h i j k l m o p q [q, p, o, m, l, k, j, i, h, g, f, e, d, c, b, a]
 | w => ext 48 w
theorem extW_eq (w : List Nat) : extW w = ext 48 w := by
 unfold extW
 split
 ·exact ext16_eq 48 _ _ _ _ _ _ _ _ _ _ _ _ _ _ _ _ []
 ·rfl
def t1 (e f g h k w : Nat) : Nat := Nat.add (Nat.add (Nat.add (Nat.add h (S1 e)) (Nat.xor (Nat.land e f) (Nat.land (Nat.xor 4294967295 e) g))) k) w
def rounds : List Nat → List Nat → Nat → Nat → Nat → Nat → Nat → Nat → Nat → Nat → List Nat
 | k :: ks, w :: ws, a, b, c, d, e, f, g, h =>
  force (t1 e f g h k w) fun t1 =>
  force (Nat.mod (Nat.add t1 (Nat.add (S0 a) (Nat.xor (Nat.xor (Nat.land a b) (Nat.land a c)) (Nat.land b c)))) 4294967296) fun a' =>
  force (Nat.mod (Nat.add d t1) 4294967296) fun e' => rounds ks ws a' a b c e' e f g
 | _, _, a, b, c, d, e, f, g, h => [a, b, c, d, e, f, g, h]
def KN : List Nat := Sha.K.map Int.toNat
def addL : List Nat → List Nat → List Nat
 | a :: l, b :: m => force (Nat.mod (Nat.add a b) 4294967296) fun x => x :: addL l m
 | _, _ => []
def comp (s w : List Nat) : List Nat := match s with
 | [a, b, c, d, e, f, g, h] => addL s (rounds KN (extW w).reverse a b c d e f g h)
 | _ => []
def ivN : List Nat := [1779033703, 3144134277, 1013904242, 2773480762, 1359893119, 2600822924, 528734635, 1541459225]
def words : List Nat → List Nat
 | a :: b :: c :: d :: r => force (Nat.add (Nat.add (Nat.add (Nat.mul a 16777216) (Nat.mul b 65536)) (Nat.mul c 256)) d) fun x => x :: words r
 | _ => []
def blocks : Nat → List Nat → List Nat → List Nat
 | 0, s, _ => s
 | n + 1, s, m => blocks n (comp s (words (m.take 64)).reverse) (m.drop 64)
def be8 (m : Nat) : List Nat := [Nat.mod (Nat.div m 72057594037927936) 256, Nat.mod (Nat.div m 281474976710656) 256, Nat.mod (Nat.div m 1099511627776) 256, Nat.mod (Nat.div m 4294967296) 256, Nat.mod (Nat.div m 16777216) 256, Nat.mod (Nat.div m 65536) 256, Nat.mod (Nat.div m 256) 256, Nat.mod m 256]
def pad (n : Nat) : List Nat := 128 :: (List.replicate ((119 - n % 64) % 64) 0 ++ be8 (8 * n))
def out4 (x : Nat) : List Nat := [Nat.mod (Nat.div x 16777216) 256, Nat.mod (Nat.div x 65536) 256, Nat.mod (Nat.div x 256) 256, Nat.mod x 256]
def hash (b : List Nat) : List Nat := (blocks ((b.length + 72) / 64) ivN (b ++ pad b.length)).flatMap out4
abbrev up (l : List Nat) : List Int := l.map fun (n : Nat) => (n : Int)
theorem up_getD (l : List Nat) (i : Nat) : (up l).getD i 0 = ((l.getD i 0 : Nat) : Int) := by
 simp only [up, List.getD_eq_getElem?_getD, List.getElem?_map]
 cases l[i]? <;> rfl
def W (x : Nat) : Prop := x < 4294967296
theorem wrapN (x : Nat) : IntKind.u32.wrap (x : Int) = ((x % 4294967296 : Nat) : Int) := by rw [u32mod]; omega
theorem ofInt_nat (a : Nat) : BitVec.ofInt 32 (a : Int) = BitVec.ofNat 32 a := by
 apply BitVec.eq_of_toNat_eq
 rw [BitVec.toNat_ofInt, BitVec.toNat_ofNat]; omega
theorem xor_eq {a b : Nat} (ha : W a) (hb : W b) : ibits .xor .u32 (a : Int) (b : Int) = ((Nat.xor a b : Nat) : Int) := by
 have e : ibits .xor .u32 (a : Int) (b : Int) = IntKind.u32.wrap (((BitVec.ofInt 32 (a : Int) ^^^ BitVec.ofInt 32 (b : Int)).toNat : Nat) : Int) := rfl
 have hx : a ^^^ b < 2 ^ 32 := Nat.xor_lt_two_pow ha hb
 rw [e, ofInt_nat, ofInt_nat, BitVec.toNat_xor, BitVec.toNat_ofNat, BitVec.toNat_ofNat, Nat.mod_eq_of_lt (show a < 2 ^ 32 from ha), Nat.mod_eq_of_lt (show b < 2 ^ 32 from hb), wrapN, Nat.mod_eq_of_lt hx]; rfl
theorem and_eq {a b : Nat} (ha : W a) (hb : W b) : ibits .and .u32 (a : Int) (b : Int) = ((Nat.land a b : Nat) : Int) := by
 have e : ibits .and .u32 (a : Int) (b : Int) = IntKind.u32.wrap (((BitVec.ofInt 32 (a : Int) &&& BitVec.ofInt 32 (b : Int)).toNat : Nat) : Int) := rfl
 have hx : a &&& b < 2 ^ 32 := Nat.and_lt_two_pow a hb
 rw [e, ofInt_nat, ofInt_nat, BitVec.toNat_and, BitVec.toNat_ofNat, BitVec.toNat_ofNat, Nat.mod_eq_of_lt (show a < 2 ^ 32 from ha), Nat.mod_eq_of_lt (show b < 2 ^ 32 from hb), wrapN, Nat.mod_eq_of_lt hx]; rfl
theorem or_eq {a b : Nat} (ha : W a) (hb : W b) : ibits .or .u32 (a : Int) (b : Int) = ((Nat.lor a b : Nat) : Int) := by
 have e : ibits .or .u32 (a : Int) (b : Int) = IntKind.u32.wrap (((BitVec.ofInt 32 (a : Int) ||| BitVec.ofInt 32 (b : Int)).toNat : Nat) : Int) := rfl
 have hx : a ||| b < 2 ^ 32 := Nat.or_lt_two_pow ha hb
 rw [e, ofInt_nat, ofInt_nat, BitVec.toNat_or, BitVec.toNat_ofNat, BitVec.toNat_ofNat, Nat.mod_eq_of_lt (show a < 2 ^ 32 from ha), Nat.mod_eq_of_lt (show b < 2 ^ 32 from hb), wrapN, Nat.mod_eq_of_lt hx]; rfl
theorem W.xor {a b : Nat} (ha : W a) (hb : W b) : W (Nat.xor a b) := Nat.xor_lt_two_pow (n := 32) ha hb
theorem W.and {a b : Nat} (hb : W b) : W (Nat.land a b) := Nat.and_lt_two_pow (n := 32) a hb
theorem W.or {a b : Nat} (ha : W a) (hb : W b) : W (Nat.lor a b) := Nat.or_lt_two_pow (n := 32) ha hb
theorem W.mod (x : Nat) : W (Nat.mod x 4294967296) := Nat.mod_lt x (by decide)
theorem W.div {x : Nat} (h : W x) (n : Nat) : W (Nat.div x n) := Nat.lt_of_le_of_lt (Nat.div_le_self x n) h
theorem fdiv_nat (x n : Nat) : Int.fdiv (x : Int) (n : Int) = ((Nat.div x n : Nat) : Int) := by
 rw [Int.fdiv_eq_ediv_of_nonneg _ (by omega)]; rfl
theorem rot_eq {x : Nat} (h : W x) (i : Nat) (hi : i ≤ 32) : Sha.rotr (x : Int) i = ((rot x (2 ^ i) (2 ^ (32 - i)) : Nat) : Int) := by
 have e1 : Int.fdiv (x : Int) (2 ^ i) = ((Nat.div x (2 ^ i) : Nat) : Int) := by
  rw [show ((2 : Int) ^ i) = ((2 ^ i : Nat) : Int) by simp]; exact fdiv_nat x (2 ^ i)
 have e2 : IntKind.u32.wrap ((x : Int) * 2 ^ (32 - i)) = ((Nat.mod (Nat.mul x (2 ^ (32 - i))) 4294967296 : Nat) : Int) := by
  rw [show (x : Int) * 2 ^ (32 - i) = ((Nat.mul x (2 ^ (32 - i)) : Nat) : Int) by show _ = ((x * 2 ^ (32 - i) : Nat) : Int); simp, wrapN]; rfl
 rw [Sha.rotr, e1, e2, or_eq (h.div _) (W.mod _)]; rfl
theorem W.rot {x : Nat} (h : W x) (n m : Nat) : W (rot x n m) := (h.div n).or (W.mod _)
theorem add_eq (a b : Nat) : Sha.add (a : Int) (b : Int) = ((Nat.mod (Nat.add a b) 4294967296 : Nat) : Int) := by
 rw [Sha.add, show (a : Int) + (b : Int) = ((a + b : Nat) : Int) by omega, wrapN]; rfl
theorem s0_eq {x : Nat} (h : W x) : Sha.sig (x : Int) 7 18 3 = ((s0 x : Nat) : Int) := by
 rw [Sha.sig, rot_eq h 7 (by decide), rot_eq h 18 (by decide), xor_eq (h.rot _ _) (h.rot _ _), show Int.fdiv (x : Int) (2 ^ 3) = ((Nat.div x 8 : Nat) : Int) from fdiv_nat x 8, xor_eq ((h.rot _ _).xor (h.rot _ _)) (h.div _)]; rfl
theorem s1_eq {x : Nat} (h : W x) : Sha.sig (x : Int) 17 19 10 = ((s1 x : Nat) : Int) := by
 rw [Sha.sig, rot_eq h 17 (by decide), rot_eq h 19 (by decide), xor_eq (h.rot _ _) (h.rot _ _), show Int.fdiv (x : Int) (2 ^ 10) = ((Nat.div x 1024 : Nat) : Int) from fdiv_nat x 1024, xor_eq ((h.rot _ _).xor (h.rot _ _)) (h.div _)]; rfl
theorem S0_eq {x : Nat} (h : W x) : Sha.S3 (x : Int) 2 13 22 = ((S0 x : Nat) : Int) := by
 rw [Sha.S3, rot_eq h 2 (by decide), rot_eq h 13 (by decide), rot_eq h 22 (by decide), xor_eq (h.rot _ _) (h.rot _ _), xor_eq ((h.rot _ _).xor (h.rot _ _)) (h.rot _ _)]; rfl
theorem S1_eq {x : Nat} (h : W x) : Sha.S3 (x : Int) 6 11 25 = ((S1 x : Nat) : Int) := by
 rw [Sha.S3, rot_eq h 6 (by decide), rot_eq h 11 (by decide), rot_eq h 25 (by decide), xor_eq (h.rot _ _) (h.rot _ _), xor_eq ((h.rot _ _).xor (h.rot _ _)) (h.rot _ _)]; rfl
theorem foldl_rnds (w : List Int) (s : List Int × List Int) : ∀ t, Sha.rnds w s t = ((List.range t).map fun i => (Sha.K.getD i 0, w.getD i 0)).foldl (fun s p => Sha.rnd p.1 p.2 s) s
 | 0 => rfl
 | t + 1 => by rw [Sha.rnds, foldl_rnds w s t, List.range_succ, List.map_append, List.foldl_append]; rfl
theorem rounds_eq : ∀ (ks ws : List Nat) (a b c d e f g h : Nat), ks.length = ws.length → (∀ x ∈ ks, W x) → (∀ x ∈ ws, W x) → W a → W b → W c → W d → W e → W f → W g → W h →
  ∃ a' b' c' d' e' f' g' h', rounds ks ws a b c d e f g h = [a', b', c', d', e', f', g', h'] ∧ W a' ∧ W b' ∧ W c' ∧ W d' ∧ W e' ∧ W f' ∧ W g' ∧ W h' ∧
   ((ks.zip ws).map fun p => ((p.1 : Int), (p.2 : Int))).foldl (fun s p => Sha.rnd p.1 p.2 s) (up [a, b, c, d], up [e, f, g, h]) = (up [a', b', c', d'], up [e', f', g', h'])
 | [], [], a, b, c, d, e, f, g, h, _, _, _, h1, h2, h3, h4, h5, h6, h7, h8 => ⟨a, b, c, d, e, f, g, h, rfl, h1, h2, h3, h4, h5, h6, h7, h8, rfl⟩
 | [], _ :: _, _, _, _, _, _, _, _, _, hl, _, _, _, _, _, _, _, _, _, _ => by simp at hl
 | _ :: _, [], _, _, _, _, _, _, _, _, hl, _, _, _, _, _, _, _, _, _, _ => by simp at hl
 | k :: ks, w :: ws, a, b, c, d, e, f, g, h, hl, hk, hw, h1, h2, h3, h4, h5, h6, h7, h8 => by
  have kk := hk k (.head _)
  have ww := hw w (.head _)
  obtain ⟨a', b', c', d', e', f', g', h', q1, q2⟩ := rounds_eq ks ws (Nat.mod (Nat.add (t1 e f g h k w) (Nat.add (S0 a) (Nat.xor (Nat.xor (Nat.land a b) (Nat.land a c)) (Nat.land b c)))) 4294967296) a b c (Nat.mod (Nat.add d (t1 e f g h k w)) 4294967296) e f g
   (by simpa using hl) (fun x hx => hk x (.tail _ hx)) (fun x hx => hw x (.tail _ hx)) (W.mod _) h1 h2 h3 (W.mod _) h5 h6 h7
  refine ⟨a', b', c', d', e', f', g', h', ?_, ?_⟩
  ·rw [rounds, force_eq, force_eq, force_eq, q1]
  ·obtain ⟨r1, r2, r3, r4, r5, r6, r7, r8, r9⟩ := q2
   refine ⟨r1, r2, r3, r4, r5, r6, r7, r8, ?_⟩
   rw [List.zip_cons_cons, List.map_cons, List.foldl_cons, ← r9]
   congr 1
   have hm : W 4294967295 := by show (4294967295 : Nat) < 4294967296; decide
   have c1 : Sha.ch (e : Int) (f : Int) (g : Int) = ((Nat.xor (Nat.land e f) (Nat.land (Nat.xor 4294967295 e) g) : Nat) : Int) := by
    rw [Sha.ch, and_eq h5 h6, show (4294967295 : Int) = ((4294967295 : Nat) : Int) from rfl, xor_eq hm h5, and_eq (hm.xor h5) h7, xor_eq (W.and h6) (W.and h7)]
   have c2 : Sha.maj (a : Int) (b : Int) (c : Int) = ((Nat.xor (Nat.xor (Nat.land a b) (Nat.land a c)) (Nat.land b c) : Nat) : Int) := by
    rw [Sha.maj, and_eq h1 h2, and_eq h1 h3, xor_eq (W.and h2) (W.and h3), and_eq h2 h3, xor_eq ((W.and h2).xor (W.and h3)) (W.and h3)]
   have e1 : Sha.add (Sha.add (Sha.add (Sha.add (h : Int) (Sha.S3 (e : Int) 6 11 25)) (Sha.ch (e : Int) (f : Int) (g : Int))) (k : Int)) (w : Int) = ((Nat.mod (t1 e f g h k w) 4294967296 : Nat) : Int) := by
    rw [c1, S1_eq h5, add_eq, add_eq, add_eq, add_eq]
    congr 1
    simp only [t1]
    generalize S1 e = x1
    generalize Nat.xor (Nat.land e f) (Nat.land (Nat.xor 4294967295 e) g) = x2
    show ((((h + x1) % 4294967296 + x2) % 4294967296 + k) % 4294967296 + w) % 4294967296 = (h + x1 + x2 + k + w) % 4294967296
    omega
   simp only [Sha.rnd, up, List.map_cons, List.map_nil, List.getD_cons_zero, List.getD_cons_succ]
   rw [e1, c2, S0_eq h1, add_eq, add_eq, add_eq]
   generalize t1 e f g h k w = y
   generalize S0 a = x1
   generalize Nat.xor (Nat.xor (Nat.land a b) (Nat.land a c)) (Nat.land b c) = x2
   have g1 : Nat.mod (Nat.add (Nat.mod y 4294967296) (Nat.mod (Nat.add x1 x2) 4294967296)) 4294967296 = Nat.mod (Nat.add y (Nat.add x1 x2)) 4294967296 := by
    show (y % 4294967296 + (x1 + x2) % 4294967296) % 4294967296 = (y + (x1 + x2)) % 4294967296; omega
   have g2 : Nat.mod (Nat.add d (Nat.mod y 4294967296)) 4294967296 = Nat.mod (Nat.add d y) 4294967296 := by
    show (d + y % 4294967296) % 4294967296 = (d + y) % 4294967296; omega
   rw [g1, g2]
theorem comp16 : (Sha.K.length = 64) := rfl
theorem words_eq : ∀ (n : Nat) (bs : List Nat), bs.length = 4 * n → words bs = (List.range n).map fun i => bs.getD (4 * i) 0 * 16777216 + bs.getD (4 * i + 1) 0 * 65536 + bs.getD (4 * i + 2) 0 * 256 + bs.getD (4 * i + 3) 0
 | 0, bs, h => by
  have : bs = [] := List.length_eq_zero_iff.1 (by omega)
  subst this; rfl
 | n + 1, bs, h => by
  match bs, h with
  | a :: b :: c :: d :: r, h =>
   have hr := words_eq n r (by simp at h; omega)
   rw [words, force_eq, hr, List.range_succ_eq_map, List.map_cons, List.map_map]
   congr 1
  | [], h => simp at h
  | [_], h => simp at h; omega
  | [_, _], h => simp at h; omega
  | [_, _, _], h => simp at h; omega
theorem sched16 (b : List Int) : ∀ t, t ≤ 16 → Sha.sched b t = (List.range t).map fun i => Sha.word (b.getD (4 * i) 0) (b.getD (4 * i + 1) 0) (b.getD (4 * i + 2) 0) (b.getD (4 * i + 3) 0)
 | 0, _ => rfl
 | t + 1, h => by
  rw [Sha.sched, if_pos (by omega), sched16 b t (by omega), List.range_succ, List.map_append]; rfl
theorem sched_len (b : List Int) : ∀ t, (Sha.sched b t).length = t
 | 0 => rfl
 | t + 1 => by rw [Sha.sched, List.length_append, sched_len b t]; rfl
theorem getD_rev (L : List Nat) (i : Nat) (h : i < L.length) : L.reverse.getD i 0 = L.getD (L.length - 1 - i) 0 := by
 rw [List.getD_eq_getElem?_getD, List.getD_eq_getElem?_getD, List.getElem?_reverse h]
theorem getD_W {L : List Nat} (h : ∀ x ∈ L, W x) (i : Nat) : W (L.getD i 0) := by
 rw [List.getD_eq_getElem?_getD]
 by_cases hi : i < L.length
 ·rw [List.getElem?_eq_getElem hi]; exact h _ (List.getElem_mem _)
 ·rw [List.getElem?_eq_none (by omega)]; show (0 : Nat) < 4294967296; decide
theorem ext_eq (b : List Int) : ∀ (n : Nat) (L : List Nat), 16 ≤ L.length → (∀ x ∈ L, W x) → up L.reverse = Sha.sched b L.length → up (ext n L).reverse = Sha.sched b (L.length + n) ∧ (∀ x ∈ ext n L, W x) ∧ (ext n L).length = L.length + n
 | 0, L, _, h, e => ⟨e, h, rfl⟩
 | n + 1, L, h16, h, e => by
  have hg : ∀ i, i < L.length → (Sha.sched b L.length).getD i 0 = ((L.getD (L.length - 1 - i) 0 : Nat) : Int) := fun i hi => by
   rw [← e, up_getD, getD_rev L i hi]
  have he : up (nw L :: L).reverse = Sha.sched b (L.length + 1) := by
   rw [List.reverse_cons, up, List.map_append, Sha.sched, if_neg (by omega)]
   congr 1
   rw [List.map_cons, List.map_nil]
   congr 1
   rw [hg _ (by omega), hg _ (by omega), hg _ (by omega), hg _ (by omega), show L.length - 1 - (L.length - 16) = 15 by omega, show L.length - 1 - (L.length - 15) = 14 by omega,
    show L.length - 1 - (L.length - 7) = 6 by omega, show L.length - 1 - (L.length - 2) = 1 by omega, s0_eq (getD_W h _), s1_eq (getD_W h _), add_eq, add_eq, add_eq]
   congr 1
   simp only [nw]
   generalize L.getD 15 0 = x1
   generalize s0 (L.getD 14 0) = x2
   generalize L.getD 6 0 = x3
   generalize s1 (L.getD 1 0) = x4
   show (x1 + x2 + x3 + x4) % 4294967296 = (((x1 + x2) % 4294967296 + x3) % 4294967296 + x4) % 4294967296
   omega
  have ih := ext_eq b n (nw L :: L) (by simp; omega) (fun x hx => by
   rcases List.mem_cons.1 hx with rfl | hx
   ·exact W.mod _
   ·exact h x hx) he
  rw [ext, force_eq]
  simp only [List.length_cons] at ih
  rw [show L.length + (n + 1) = L.length + 1 + n by omega]
  exact ih
theorem addL_eq : ∀ (l m : List Nat), l.length = m.length → addL l m = (l.zip m).map fun p => (p.1 + p.2) % 4294967296
 | [], [], _ => rfl
 | [], _ :: _, h => by simp at h
 | _ :: _, [], h => by simp at h
 | a :: l, b :: m, h => by rw [addL, force_eq, addL_eq l m (by simpa using h)]; rfl
def S8 (s : List Nat) : Prop := s.length = 8 ∧ ∀ x ∈ s, W x
theorem at_some {l : List Int} {i : Nat} (h : i < l.length) : l[i]? = some (l.getD i 0) := by
 rw [List.getD_eq_getElem?_getD, List.getElem?_eq_getElem h, Option.getD_some]
theorem KN_eq : up KN = Sha.K := by decide +kernel
theorem KN_W : ∀ x ∈ KN, W x := by
 have : KN.all (fun x => decide (x < 4294967296)) = true := by decide +kernel
 intro x hx
 exact of_decide_eq_true (p := x < 4294967296) (List.all_eq_true.1 this x hx)
theorem byte_word {bs : List Nat} (h : ∀ x ∈ bs, x < 256) (i : Nat) : bs.getD i 0 < 256 := by
 rw [List.getD_eq_getElem?_getD]
 by_cases hi : i < bs.length
 ·rw [List.getElem?_eq_getElem hi]; exact h _ (List.getElem_mem _)
 ·rw [List.getElem?_eq_none (by omega)]; show (0 : Nat) < 256; decide
theorem zip_range (A B : List Int) (hA : A.length = 64) (hB : B.length = 64) : A.zip B = (List.range 64).map fun i => (A.getD i 0, B.getD i 0) := by
 refine List.ext_getElem? fun i => ?_
 by_cases hi : i < 64
 ·have h1 : A[i]? = some (A.getD i 0) := at_some (by omega)
  have h2 : B[i]? = some (B.getD i 0) := at_some (by omega)
  have hZ : (A.zip B)[i]? = some (A.getD i 0, B.getD i 0) := List.getElem?_zip_eq_some.2 (And.intro h1 h2)
  rw [hZ, List.getElem?_map, List.getElem?_range hi, Option.map_some]
 ·rw [List.getElem?_eq_none (by rw [List.length_zip]; omega), List.getElem?_eq_none (by simp; omega)]
theorem comp_eq {s bs : List Nat} (hs : S8 s) (hl : bs.length = 64) (hb : ∀ x ∈ bs, x < 256) : Sha.comp (up s) (up bs) = up (comp s (words bs).reverse) ∧ S8 (comp s (words bs).reverse) := by
 have hw := words_eq 16 bs (by omega)
 have hwl : (words bs).length = 16 := by rw [hw]; simp
 have hwW : ∀ x ∈ words bs, W x := by
  rw [hw]
  intro x hx
  obtain ⟨i, _, rfl⟩ := List.mem_map.1 hx
  have h0 := byte_word hb (4 * i)
  have h1 := byte_word hb (4 * i + 1)
  have h2 := byte_word hb (4 * i + 2)
  have h3 := byte_word hb (4 * i + 3)
  show _ < 4294967296
  omega
 have h16 : up (words bs) = Sha.sched (up bs) 16 := by
  rw [hw, sched16 _ 16 (Nat.le_refl _), up, List.map_map]
  apply List.map_congr_left
  intro i _
  simp only [Function.comp, Sha.word, up_getD]
  omega
 obtain ⟨e1, e2, e3⟩ := ext_eq (up bs) 48 (words bs).reverse (by rw [List.length_reverse]; omega) (fun x hx => hwW x (List.mem_reverse.1 hx)) (by rw [List.reverse_reverse, List.length_reverse, hwl]; exact h16)
 rw [List.length_reverse, hwl] at e1 e3
 match s, hs with
 | [a, b, c, d, e, f, g, h], hs =>
  have m : ∀ x ∈ [a, b, c, d, e, f, g, h], W x := hs.2
  simp only [List.mem_cons, List.not_mem_nil, or_false, forall_eq_or_imp, forall_eq] at m
  obtain ⟨m1, m2, m3, m4, m5, m6, m7, m8⟩ := m
  have hKl : KN.length = 64 := by decide +kernel
  obtain ⟨a', b', c', d', e', f', g', h', r1, r2, r3, r4, r5, r6, r7, r8, r9, r10⟩ := rounds_eq KN (ext 48 (words bs).reverse).reverse a b c d e f g h (by rw [hKl, List.length_reverse, e3]) KN_W (fun x hx => e2 x (List.mem_reverse.1 hx)) m1 m2 m3 m4 m5 m6 m7 m8
  have hz : ((KN.zip (ext 48 (words bs).reverse).reverse).map fun p => ((p.1 : Int), (p.2 : Int))) = (List.range 64).map fun i => (Sha.K.getD i 0, (Sha.sched (up bs) 64).getD i 0) := by
   have e4 : ((KN.zip (ext 48 (words bs).reverse).reverse).map fun p => ((p.1 : Int), (p.2 : Int))) = (up KN).zip (up (ext 48 (words bs).reverse).reverse) := by
    simp only [up, List.zip_map]; rfl
   rw [e4, KN_eq, e1]
   exact zip_range _ _ comp16 (sched_len _ _)
  have hf : Sha.rnds (Sha.sched (up bs) 64) (up [a, b, c, d], up [e, f, g, h]) 64 = (up [a', b', c', d'], up [e', f', g', h']) := by
   rw [foldl_rnds, ← hz]; exact r10
  have hsl : Sha.comp (up [a, b, c, d, e, f, g, h]) (up bs) = Sha.sum8 (up [a, b, c, d, e, f, g, h]) (Sha.rnds (Sha.sched (up bs) 64) (up [a, b, c, d], up [e, f, g, h]) 64) := by
   have ht : (up [a, b, c, d, e, f, g, h]).take 4 = up [a, b, c, d] := rfl
   have hd : (up [a, b, c, d, e, f, g, h]).drop 4 = up [e, f, g, h] := rfl
   rw [Sha.comp, ht, hd]
  have hc : comp [a, b, c, d, e, f, g, h] (words bs).reverse = [(a + a') % 4294967296, (b + b') % 4294967296, (c + c') % 4294967296, (d + d') % 4294967296, (e + e') % 4294967296, (f + f') % 4294967296, (g + g') % 4294967296, (h + h') % 4294967296] := by
   simp only [comp]
   rw [extW_eq, r1, addL_eq [a, b, c, d, e, f, g, h] [a', b', c', d', e', f', g', h'] (by rfl)]; rfl
  rw [hsl, hf, hc]
  refine ⟨?_, rfl, fun x hx => ?_⟩
  ·simp only [Sha.sum8, up, List.map_cons, List.map_nil, List.getD_cons_zero, List.getD_cons_succ, add_eq]; rfl
  ·simp only [List.mem_cons, List.not_mem_nil, or_false] at hx
   rcases hx with rfl | rfl | rfl | rfl | rfl | rfl | rfl | rfl <;> exact W.mod _
theorem up_take (l : List Nat) (n : Nat) : up (l.take n) = (up l).take n := List.map_take
theorem up_drop (l : List Nat) (n : Nat) : up (l.drop n) = (up l).drop n := List.map_drop
theorem addS_blocks : ∀ (k : Nat) (m s : List Nat) (bl : List Int) (n : Int), m.length = 64 * k → S8 s → (∀ x ∈ m, x < 256) → bl.length = 64 → n % 64 = 0 → 0 ≤ n → n + 64 * k ≤ 18446744073709551615 →
  (Sha.addS (up s, bl, n) (up m)).1 = up (blocks k s m) ∧ S8 (blocks k s m)
 | 0, m, s, bl, n, hm, hs, hb, hbl, h0, h1, h2 => by
  have : m = [] := List.length_eq_zero_iff.1 (by omega)
  subst this
  exact ⟨rfl, hs⟩
 | k + 1, m, s, bl, n, hm, hs, hb, hbl, h0, h1, h2 => by
  have hl : (m.take 64).length = 64 := by rw [List.length_take]; omega
  have hb1 : ∀ x ∈ m.take 64, x < 256 := fun x hx => hb x (List.mem_of_mem_take hx)
  obtain ⟨c1, c2⟩ := comp_eq hs hl hb1
  have hch := Sha.addS_chunk (up (m.take 64)) (up s) bl n hbl h1 (by omega) (by simp only [up, List.length_map, hl]; omega)
  have e0 : (n % 64).toNat = 0 := by omega
  simp only [e0, up, List.length_map, hl, Nat.zero_add, if_true, List.take_zero, List.nil_append] at hch
  rw [List.drop_of_length_le (by omega), List.append_nil, u64w (by omega) (by omega)] at hch
  have ih := addS_blocks k (m.drop 64) (comp s (words (m.take 64)).reverse) (up (m.take 64)) (n + ((64 : Nat) : Int)) (by rw [List.length_drop]; omega) c2 (fun x hx => hb x (List.mem_of_mem_drop hx)) (by simp only [up, List.length_map, hl]) (by omega) (by omega) (by omega)
  have e1 : up m = up (m.take 64) ++ up (m.drop 64) := by rw [up_take, up_drop, List.take_append_drop]
  rw [e1, Sha.addS_append]
  have c1' : Sha.comp (List.map (fun (n : Nat) => (n : Int)) s) (List.map (fun (n : Nat) => (n : Int)) (m.take 64)) = up (comp s (words (m.take 64)).reverse) := c1
  rw [c1'] at hch
  have hch' : Sha.addS (up s, bl, n) (up (m.take 64)) = (up (comp s (words (m.take 64)).reverse), up (m.take 64), n + ((64 : Nat) : Int)) := hch
  rw [hch']
  exact ih
theorem o_eq (x k : Nat) : IntKind.u8.wrap (Int.fdiv (x : Int) (2 ^ k)) = ((Nat.mod (Nat.div x (2 ^ k)) 256 : Nat) : Int) := by
 rw [show ((2 : Int) ^ k) = ((2 ^ k : Nat) : Int) by simp, fdiv_nat, u8mod]
 show ((Nat.div x (2 ^ k) : Nat) : Int) % 256 = ((Nat.div x (2 ^ k) % 256 : Nat) : Int)
 omega
theorem out_eq {s : List Nat} (h : s.length = 8) : Sha.out (up s) = up (s.flatMap out4) := by
 match s, h with
 | [a, b, c, d, e, f, g, h], _ =>
  have hr : List.range 32 = [0, 1, 2, 3, 4, 5, 6, 7, 8, 9, 10, 11, 12, 13, 14, 15, 16, 17, 18, 19, 20, 21, 22, 23, 24, 25, 26, 27, 28, 29, 30, 31] := by decide
  have w : ∀ x : Nat, [IntKind.u8.wrap (Int.fdiv (x : Int) (2 ^ 24)), IntKind.u8.wrap (Int.fdiv (x : Int) (2 ^ 16)), IntKind.u8.wrap (Int.fdiv (x : Int) (2 ^ 8)), IntKind.u8.wrap (Int.fdiv (x : Int) (2 ^ 0))] = up (out4 x) := fun x => by
   rw [o_eq, o_eq, o_eq, o_eq]
   have : Nat.div x (2 ^ 0) = x := Nat.div_one x
   rw [this]; rfl
  have e : Sha.out (up [a, b, c, d, e, f, g, h]) = [a, b, c, d, e, f, g, h].flatMap fun (x : Nat) => [IntKind.u8.wrap (Int.fdiv (x : Int) (2 ^ 24)), IntKind.u8.wrap (Int.fdiv (x : Int) (2 ^ 16)), IntKind.u8.wrap (Int.fdiv (x : Int) (2 ^ 8)), IntKind.u8.wrap (Int.fdiv (x : Int) (2 ^ 0))] := by
   rw [Sha.out, hr]; rfl
  rw [e]
  simp only [w, List.flatMap_cons, List.flatMap_nil, up, List.map_append, List.append_nil]
theorem be8_eq (m : Nat) : Sha.be8 (m : Int) = up (be8 m) := by
 have hr : List.range 8 = [0, 1, 2, 3, 4, 5, 6, 7] := by decide
 have e : Sha.be8 (m : Int) = [IntKind.u8.wrap (Int.fdiv (m : Int) (2 ^ 56)), IntKind.u8.wrap (Int.fdiv (m : Int) (2 ^ 48)), IntKind.u8.wrap (Int.fdiv (m : Int) (2 ^ 40)), IntKind.u8.wrap (Int.fdiv (m : Int) (2 ^ 32)),
   IntKind.u8.wrap (Int.fdiv (m : Int) (2 ^ 24)), IntKind.u8.wrap (Int.fdiv (m : Int) (2 ^ 16)), IntKind.u8.wrap (Int.fdiv (m : Int) (2 ^ 8)), IntKind.u8.wrap (Int.fdiv (m : Int) (2 ^ 0))] := by rw [Sha.be8, hr]; rfl
 have h1 : Nat.div m (2 ^ 0) = m := Nat.div_one m
 rw [e, o_eq, o_eq, o_eq, o_eq, o_eq, o_eq, o_eq, o_eq, h1]; rfl
theorem pad_eq {n : Nat} (h : n < 1152921504606846976) : Sha.pad (n : Int) = up (pad n) := by
 have e1 : ((55 - (n : Int)) % 64).toNat = (119 - n % 64) % 64 := by omega
 have e2 : IntKind.u64.wrap (8 * (n : Int)) = ((8 * n : Nat) : Int) := by rw [u64w (by omega) (by omega)]; omega
 rw [Sha.pad, e1, e2, be8_eq]
 simp only [pad, up, List.map_cons, List.map_append, List.map_replicate]; rfl
theorem be8_byte (m : Nat) : ∀ x ∈ be8 m, x < 256 := by
 intro x hx
 simp only [be8, List.mem_cons, List.not_mem_nil, or_false] at hx
 rcases hx with rfl | rfl | rfl | rfl | rfl | rfl | rfl | rfl <;> exact Nat.mod_lt _ (by decide)
theorem pad_byte (n : Nat) : ∀ x ∈ pad n, x < 256 := by
 intro x hx
 simp only [pad, List.mem_cons, List.mem_append, List.mem_replicate] at hx
 rcases hx with rfl | ⟨_, rfl⟩ | hx
 ·decide
 ·decide
 ·exact be8_byte _ x hx
theorem iv_eq : Sha.iv = up ivN := rfl
theorem iv_S8 : S8 ivN := ⟨rfl, fun x hx => by
 have : ivN.all (fun x => decide (x < 4294967296)) = true := by decide +kernel
 exact of_decide_eq_true (p := x < 4294967296) (List.all_eq_true.1 this x hx)⟩
theorem hash_eq {b : List Nat} (hb : ∀ x ∈ b, x < 256) (hl : b.length < 1152921504606846976) : Sha.hash (up b) = up (hash b) := by
 have hn := Sha.addS_n (up b) Sha.iv (List.replicate 64 0) 0 (by decide) (by decide)
 have hlen : (Sha.addS Sha.begin (up b)).2.2 = (b.length : Int) := by
  rw [Sha.begin, hn, u64w (by omega) (by simp only [up, List.length_map]; omega)]; simp [up]
 have hpl : (pad b.length).length = 1 + (119 - b.length % 64) % 64 + 8 := by simp [pad, be8]; omega
 have e : Sha.hash (up b) = Sha.out (Sha.addS Sha.begin (up b ++ up (pad b.length))).1 := by
  rw [Sha.hash, Sha.fin, hlen, pad_eq hl, ← Sha.addS_append]
 have hm : (b ++ pad b.length).length = 64 * ((b.length + 72) / 64) := by rw [List.length_append, hpl]; omega
 obtain ⟨q1, q2⟩ := addS_blocks ((b.length + 72) / 64) (b ++ pad b.length) ivN (List.replicate 64 0) 0 hm iv_S8 (fun x hx => (List.mem_append.1 hx).elim (hb x) (pad_byte _ x)) (by simp) (by decide) (by decide) (by omega)
 rw [e, show up b ++ up (pad b.length) = up (b ++ pad b.length) by simp [up], Sha.begin, iv_eq, q1, out_eq q2.1]; rfl
end Go.Am.ShaN
end
section
/- Hash-based signatures, as plain functions. -/
namespace Go.Am
open Go
namespace Sg
def dg (d : List Int) (i : Nat) : Int := d.getD (i / 4) 0 / 4 ^ (3 - i % 4) % 4
def sumN (d : List Int) : Nat → Int
 | 0 => 0
 | n + 1 => sumN d n + (3 - dg d n)
def digits (d : List Int) : List Int := (List.range 64).map (dg d) ++ [sumN d 64 / 64 % 4, sumN d 64 / 16 % 4, sumN d 64 / 4 % 4, sumN d 64 % 4]
theorem digits_len (d : List Int) : (digits d).length = 68 := by simp [digits]
theorem mod4 (x : Int) : 0 ≤ x % 4 ∧ x % 4 ≤ 3 := by omega
theorem digits_rng (d : List Int) : ∀ x ∈ digits d, 0 ≤ x ∧ x ≤ 3 := by
 intro x hx
 simp only [digits, List.mem_append, List.mem_map, List.mem_cons, List.not_mem_nil, or_false] at hx
 rcases hx with ⟨i, _, rfl⟩ | rfl | rfl | rfl | rfl <;> exact mod4 _
theorem digits_get (d : List Int) (c : Nat) : 0 ≤ (digits d).getD c 0 ∧ (digits d).getD c 0 ≤ 3 := by
 rw [List.getD_eq_getElem?_getD]
 cases h : (digits d)[c]? with
 | none => simp
 | some x => exact digits_rng d x (List.mem_of_getElem? h)
theorem dg_rng (d : List Int) (i : Nat) : 0 ≤ dg d i ∧ dg d i ≤ 3 := mod4 _
theorem sumN_rng (d : List Int) : ∀ n : Nat, 0 ≤ sumN d n ∧ sumN d n ≤ 3 * n
 | 0 => by simp [sumN]
 | n + 1 => by
  have h1 := sumN_rng d n
  have h2 := dg_rng d n
  simp only [sumN]; omega
def step (i c t : Int) (v : List Int) : List Int := Sha.of 9 [Wire.ints [i, c, t], v]
def adv (i c : Int) : Int → Nat → List Int → List Int
 | _, 0, v => v
 | t, n + 1, v => adv i c (t + 1) n (step i c t v)
def start (s : List Int) (i c : Int) : List Int := (Sha.mac s ([99, 104, 97, 105, 110] ++ Wire.ints [i, c])).take 16
def leafOf (b : List Int) : List Int := Sha.of 1 [Sha.of 3 [b]]
def node (a b : List Int) : List Int := Sha.of 2 [a, b]
def top (s : List Int) (k : Int) (c : Nat) : List Int := adv k c 0 3 (start s k c)
def leaf (s : List Int) (k : Int) : List Int := leafOf ((List.range 68).flatMap (top s k))
def nd (s : List Int) : Nat → Int → List Int
 | 0, k => leaf s k
 | l + 1, k => node (nd s l (2 * k)) (nd s l (2 * k + 1))
def digest (p : List Int) (i : Int) (m : List Int) : List Int := Sha.of 4 [p, Wire.int i, m]
abbrev Ent := List (List Int × List Int)
def ndF (s : List Int) : Nat → Int → Ent → List Int × Ent
 | 0, k, es => if mhas es [0, k] then (mget (mzero (.arr .u8 16)) es [0, k], es) else (leaf s k, mput es [0, k] (leaf s k))
 | l + 1, k, es => if mhas es [((l + 1 : Nat) : Int), k] then (mget (mzero (.arr .u8 16)) es [((l + 1 : Nat) : Int), k], es) else
  (node (ndF s l (2 * k) es).1 (ndF s l (2 * k + 1) (ndF s l (2 * k) es).2).1,
   mput (ndF s l (2 * k + 1) (ndF s l (2 * k) es).2).2 [((l + 1 : Nat) : Int), k] (node (ndF s l (2 * k) es).1 (ndF s l (2 * k + 1) (ndF s l (2 * k) es).2).1))
def ndM (s : List Int) (l k : Int) (es : Ent) : List Int × Ent := ndF s l.toNat k es
def nodeOk (l k : Int) (D : Nat) : Bool := decide (0 ≤ l ∧ l < D ∧ l ≤ 2 ∧ 0 ≤ k ∧ (k + 1) * 2 ^ l.toNat ≤ 1024)
def low (h : Int) : Bool := decide (h ≤ 2 ∨ 6 < h)
def pub (s : List Int) (h : Int) : List Int × Int := if s.length ≠ 32 ∨ ¬ (0 ≤ h ∧ h ≤ 6) then (List.replicate 16 0, 1) else (nd s h.toNat 0, 0)
def sib (i : Int) (l : Nat) : Int := if i / 2 ^ l % 2 = 1 then i / 2 ^ l - 1 else i / 2 ^ l + 1
def path (s : List Int) (i : Int) (h : Nat) : List Int := (List.range h).flatMap fun l => nd s l (sib i l)
def part (s : List Int) (i : Int) (ds : List Int) (c : Nat) : List Int := adv i c 0 (ds.getD c 0).toNat (start s i c)
def body (s : List Int) (i : Int) (ds : List Int) : List Int := (List.range 68).flatMap (part s i ds)
def sign (s : List Int) (h i : Int) (m : List Int) : List Int × Int :=
 if s.length ≠ 32 ∨ ¬ (0 ≤ h ∧ h ≤ 6) then ([], 1) else if i < 0 ∨ 2 ^ h.toNat ≤ i then ([], 24) else if 1048576 < m.length then ([], 4)
 else (Wire.int i ++ body s i (digits (digest (nd s h.toNat 0) i m)) ++ path s i h.toNat, 0)
def val (b : List Int) (k : Nat) : List Int := (b.drop (k * 16)).take 16
def chainV (i : Int) (ds b : List Int) (c : Nat) : List Int := adv i c (ds.getD c 0) (3 - ds.getD c 0).toNat (val b c)
def leafV (i : Int) (ds b : List Int) : List Int := leafOf ((List.range 68).flatMap (chainV i ds b))
def climb (i : Int) (b : List Int) (v : List Int) : Nat → List Int
 | 0 => v
 | l + 1 => if i / 2 ^ l % 2 = 1 then node (val b (68 + l)) (climb i b v l) else node (climb i b v l) (val b (68 + l))
def verify (p : List Int) (h : Int) (m g : List Int) : Int × Int :=
 if ¬ (0 ≤ h ∧ h ≤ 6) then (0, 1) else if 1048576 < m.length then (0, 4) else if (Wire.getInt g).2.2 ≠ 0 then (0, (Wire.getInt g).2.2)
 else if (Wire.getInt g).1 < 0 ∨ 2 ^ h.toNat ≤ (Wire.getInt g).1 ∨ ((g.drop (Wire.getInt g).2.1.toNat).length : Int) ≠ (68 + h) * 16 then (0, 2)
 else if climb (Wire.getInt g).1 (g.drop (Wire.getInt g).2.1.toNat) (leafV (Wire.getInt g).1 (digits (digest p (Wire.getInt g).1 m)) (g.drop (Wire.getInt g).2.1.toNat)) h.toNat ≠ p then (0, 10)
 else ((Wire.getInt g).1, 0)
theorem exV : ∃ f : List Int → Int → List Int → List Int → Int × Int, f = verify := ⟨_, rfl⟩
noncomputable def verO : List Int → Int → List Int → List Int → Int × Int := Classical.choose exV
theorem verO_eq : verO = verify := Classical.choose_spec exV
theorem of_len (t : Int) (l : List (List Int)) : (Sha.of t l).length = 16 := by simp [Sha.of, Sha.hash_len]
theorem adv_len (i c : Int) : ∀ (n : Nat) (t : Int) (v : List Int), v.length = 16 → (adv i c t n v).length = 16
 | 0, _, _, h => h
 | n + 1, t, v, h => adv_len i c n (t + 1) _ (of_len _ _)
theorem mac_len (k t : List Int) : (Sha.mac k t).length = 32 := by simp [Sha.mac, Sha.hash_len]
theorem start_len (s : List Int) (i c : Int) : (start s i c).length = 16 := by simp [start, mac_len]
theorem node_len (a b : List Int) : (node a b).length = 16 := of_len _ _
theorem leafOf_len (b : List Int) : (leafOf b).length = 16 := of_len _ _
theorem top_len (s : List Int) (k : Int) (c : Nat) : (top s k c).length = 16 := adv_len _ _ _ _ _ (start_len _ _ _)
theorem nd_len (s : List Int) : ∀ (l : Nat) (k : Int), (nd s l k).length = 16
 | 0, _ => leafOf_len _
 | _ + 1, _ => node_len _ _
theorem part_len (s : List Int) (i : Int) (ds : List Int) (c : Nat) : (part s i ds c).length = 16 := adv_len _ _ _ _ _ (start_len _ _ _)
theorem val_len {b : List Int} {k : Nat} (h : (k + 1) * 16 ≤ b.length) : (val b k).length = 16 := by simp only [val, List.length_take, List.length_drop]; omega
theorem chainV_len {i : Int} {ds b : List Int} {c : Nat} (h : (c + 1) * 16 ≤ b.length) : (chainV i ds b c).length = 16 := adv_len _ _ _ _ _ (val_len h)
theorem flat_succ (f : Nat → List Int) (i : Nat) : (List.range (i + 1)).flatMap f = (List.range i).flatMap f ++ f i := by rw [List.range_succ, List.flatMap_append]; simp
theorem flat_len (f : Nat → List Int) : ∀ n : Nat, (∀ i, i < n → (f i).length = 16) → ((List.range n).flatMap f).length = 16 * n
 | 0, _ => rfl
 | n + 1, h => by rw [flat_succ, List.length_append, flat_len f n (fun i hi => h i (by omega)), h n (by omega)]; omega
theorem take16 {v : List Int} (h : v.length = 16) : v.take 16 = v := List.take_of_length_le (by omega)
theorem int_le (n : Int) : (Wire.int n).length ≤ 9 := by rw [Wire.int_len]; have := Wire.nb_le (Wire.mag n); omega
theorem ints_le (l : List Int) : (Wire.ints l).length ≤ 9 + 9 * l.length := by
 have h : ∀ l : List Int, (l.flatMap Wire.int).length ≤ 9 * l.length := by
  intro l
  induction l with
  | nil => simp
  | cons x l ih => have := int_le x; simp only [List.flatMap_cons, List.length_append, List.length_cons]; omega
 have h1 := h l
 have h2 := int_le (l.length : Int)
 simp only [Wire.ints, List.length_append]; omega
theorem few_ok {l : List (List Int)} (h : ∀ s ∈ l, s.length < 1073741800) (hl : l.length < 1073741824) : Sha.few l = true := by
 simp only [Sha.few, Bool.and_eq_true, decide_eq_true_eq, List.all_eq_true]; exact ⟨hl, h⟩
theorem bytes_le (t : List Int) : (Wire.bytes t).length ≤ 9 + t.length := by have := int_le (t.length : Int); simp only [Wire.bytes, List.length_append]; omega
theorem input_le1 (t : Int) (a : List Int) : (Sha.input t [a]).length ≤ 10 + a.length := by
 have := bytes_le a; simp only [Sha.input, List.flatMap_cons, List.flatMap_nil, List.length_cons, List.length_append, List.length_nil]; omega
theorem input_le2 (t : Int) (a b : List Int) : (Sha.input t [a, b]).length ≤ 19 + a.length + b.length := by
 have := bytes_le a; have := bytes_le b; simp only [Sha.input, List.flatMap_cons, List.flatMap_nil, List.length_cons, List.length_append, List.length_nil]; omega
theorem input_le3 (t : Int) (a b c : List Int) : (Sha.input t [a, b, c]).length ≤ 28 + a.length + b.length + c.length := by
 have := bytes_le a; have := bytes_le b; have := bytes_le c; simp only [Sha.input, List.flatMap_cons, List.flatMap_nil, List.length_cons, List.length_append, List.length_nil]; omega
def Cons (s : List Int) (es : Ent) : Prop := ∀ (l : Nat) (k : Int), mhas es [(l : Int), k] = true → mget (mzero (.arr .u8 16)) es [(l : Int), k] = nd s l k
theorem mhas_mput (k k' v : List Int) : ∀ es : Ent, mhas (mput es k v) k' = (mhas es k' || k == k')
 | [] => by simp [mput, mhas]
 | e :: es => by
  simp only [mput]
  cases h : e.1 == k with
  | true =>
   have e1 : e.1 = k := by simpa using h
   subst e1
   simp only [cond_true, mhas, List.any_cons]
   cases e.1 == k' <;> simp
  | false =>
   have ih := mhas_mput k k' v es
   simp only [mhas] at ih
   simp only [cond_false, mhas, List.any_cons, ih, Bool.or_assoc]
theorem mget_mput (z k k' v : List Int) : ∀ es : Ent, mget z (mput es k v) k' = if k = k' then v else mget z es k'
 | [] => by
  by_cases h : k = k'
  ·simp [mput, mget, h]
  ·have : (k == k') = false := by simpa using h
   simp [mput, mget, h, this]
 | e :: es => by
  simp only [mput]
  cases h : e.1 == k with
  | true =>
   have e1 : e.1 = k := by simpa using h
   subst e1
   by_cases h2 : e.1 = k'
   ·simp [mget, h2]
   ·have : (e.1 == k') = false := by simpa using h2
    simp [mget, h2, this]
  | false =>
   have ih := mget_mput z k k' v es
   simp only [cond_false, mget, ih]
   by_cases h2 : k = k'
   ·subst h2; simp [h]
   ·simp [h2]
theorem cons_put {s : List Int} {es : Ent} (h : Cons s es) (l : Nat) (k : Int) : Cons s (mput es [(l : Int), k] (nd s l k)) := by
 intro l' k' hh
 rw [mget_mput]
 by_cases e : ([(l : Int), k] : List Int) = [(l' : Int), k']
 ·rw [if_pos e]
  injection e with e1 e2
  injection e2 with e2 _
  rw [Int.ofNat_inj.1 e1, e2]
 ·rw [if_neg e]
  rw [mhas_mput, Bool.or_eq_true] at hh
  rcases hh with hh | hh
  ·exact h l' k' hh
  ·exact absurd (by simpa using hh) e
theorem ndF_ok (s : List Int) : ∀ (l : Nat) (k : Int) (es : Ent), Cons s es → (ndF s l k es).1 = nd s l k ∧ Cons s (ndF s l k es).2
 | 0, k, es, h => by
  simp only [ndF]
  split
  ·rename_i hh; exact ⟨h 0 k hh, h⟩
  ·exact ⟨rfl, cons_put h 0 k⟩
 | l + 1, k, es, h => by
  simp only [ndF]
  split
  ·rename_i hh; exact ⟨h (l + 1) k hh, h⟩
  ·obtain ⟨a1, a2⟩ := ndF_ok s l (2 * k) es h
   obtain ⟨b1, b2⟩ := ndF_ok s l (2 * k + 1) _ a2
   rw [a1, b1]
   exact ⟨rfl, cons_put b2 (l + 1) k⟩
theorem cons_nil (s : List Int) : Cons s [] := fun l k h => by simp [mhas] at h
theorem xor1 : ∀ j : Nat, j < 64 → ibits .xor .i64 (j : Int) 1 = if (j : Int) % 2 = 1 then (j : Int) - 1 else (j : Int) + 1 := by decide +kernel
theorem and1 : ∀ j : Nat, j < 64 → ibits .and .i64 (j : Int) 1 = (j : Int) % 2 := by decide +kernel
end Sg
end Go.Am
end
section
namespace Go.Am
open Go Go.Proofs
abbrev sp51 : List (Nat × Md) := [(1,.plain),(3,.plain),(4,.plain),(7,.plain)]
abbrev sp52 : List (Nat × Md) := [(3,.plain),(4,.plain),(6,.plain)]
abbrev Ty37 := Li × Li × Nat × Nat
def r47 : CRun := runCheck 54 5
theorem c47 : CallOk Tryd.prog G02 47 r47 := check_ok (e := 5) Tryd.lays240 Tryd.x72
def r29 : CRun := runString 5
theorem c29 : CallOk Tryd.prog G02 29 r29 := string_ok Tryd.lays169 Tryd.bextra
def lVG0225 : List CEnt := [(47,[none],r47)]
def VG0225 : Env := mkEnv T03 G02 lVG0225
noncomputable abbrev Kf32 := kFin VG0225 none (Tryd.f25).results.toList
theorem eVG0225 : EOk Tryd.prog VG0225 := eok_mk (by exact ⟨c47,trivial⟩)
def Af25 (F : Nat) : Cuts := { F := F,at_ := fun _ => none,join := fun _ => none }
def ef25_a : Ty37 → St := fun (a3,a0,a1n,a2n) => ⟨[(0,.ptr 0 0 2 0 0 0 2),(1,(.vs (.rI .u8 a3) 0 1))],[(0,(.cells 2 (.segs (.cons 0 (.rT [.int .u32,.int .u32,.int .i8] []) (.cons 1 (.one (.ptr 0 0 2 0 0 0 2)) (.cons 1 (.one (.own 1 0 1)) .nil)))) true)),(1,(.cells a2n (.segs (.cons 0 (.rT [.int .u16,.int .i8,.int .i8,.int .i16] []) (.cons a1n (.rI .u8 a0) .nil))) true))],2,19,2⟩
def f25_1 (F : Nat) : Ty37 → Rz := fun (a3,a0,a1n,a2n) => (cond (decide (((0 + a0.length) + a3.length) < 1073741824)) (some ((.tup (.cons 0 (.int .i64 (↑a3.length : Int)) (.cons 0 .undef .nil))),[(.cells 2 (.segs (.cons 0 (.rT [.int .u32,.int .u32,.int .i8] []) (.cons 1 (.one (.ptr 0 0 2 0 0 0 2)) (.cons 1 (.one (.own 2 0 1)) .nil)))) true),.gone,(.cells (0 + (a0 ++ a3).length) (.segs (.cons 0 (.rT [.int .u16,.int .i8,.int .i8,.int .i16] []) (.cons (a0 ++ a3).length (.rI .u8 (a0 ++ a3)) .nil))) true)])) none)
theorem f25_1_eq (F : Nat) : ∀ v,aexec VG0225 (Af25 F) (sub (bodyOf Tryd.f25) []) (ef25_a v) Kf32 = f25_1 F v := by
 rintro ⟨a3,a0,a1n,a2n⟩; kernel_rfl
def f25 (F : Nat) : Ty37 → Rz := f25_1 F
theorem f25_body (F : Nat) (a3 : List Int) (a0 : List Int) (a1n : Nat) (a2n : Nat) : abody VG0225 (Af25 F) Tryd.f25 [(.ptr 0 0 2 0 0 0 2),(.vs (.rI .u8 a3) 0 1)] [(.cells 2 (.segs (.cons 0 (.rT [.int .u32,.int .u32,.int .i8] []) (.cons 1 (.one (.ptr 0 0 2 0 0 0 2)) (.cons 1 (.one (.own 1 0 1)) .nil)))) true),(.cells a2n (.segs (.cons 0 (.rT [.int .u16,.int .i8,.int .i8,.int .i16] []) (.cons a1n (.rI .u8 a0) .nil))) true)] = f25 F (a3,a0,a1n,a2n) :=
 (abody_in (c := (sub (bodyOf Tryd.f25) [])) (by kernel_rfl) (s := ef25_a (a3,a0,a1n,a2n)) (by kernel_rfl)).trans (f25_1_eq F (a3,a0,a1n,a2n))
def Af250 (F : Nat) : Cuts := { F := F,at_ := fun _ => none,join := fun _ => none }
def ef250_a : Li → St := fun a3 => ⟨[(0,.ptr 0 0 2 0 0 0 2),(1,(.vs (.rI .u8 a3) 0 1))],[(0,(.cells 2 (.segs (.cons 0 (.rT [.int .u32,.int .u32,.int .i8] []) (.cons 1 (.one .nilp) (.cons 1 (.one .ns) .nil)))) true))],1,19,1⟩
def f250_1 (F : Nat) : Li → Rz := fun a3 => (cond (decide ((0 + a3.length) < 1073741824)) (some ((.tup (.cons 0 (.int .i64 (↑a3.length : Int)) (.cons 0 .undef .nil))),[(.cells 2 (.segs (.cons 0 (.rT [.int .u32,.int .u32,.int .i8] []) (.cons 1 (.one (.ptr 0 0 2 0 0 0 2)) (.cons 1 (.one (.own 1 0 1)) .nil)))) true),(.cells (0 + ([] ++ a3).length) (.segs (.cons 0 (.rT [.int .u16,.int .i8,.int .i8,.int .i16] []) (.cons ([] ++ a3).length (.rI .u8 ([] ++ a3)) .nil))) true)])) none)
theorem f250_1_eq (F : Nat) : ∀ v,aexec VG0225 (Af250 F) (sub (bodyOf Tryd.f25) []) (ef250_a v) Kf32 = f250_1 F v := by
 intro a3; kernel_rfl
def f250 (F : Nat) : Li → Rz := f250_1 F
theorem f250_body (F : Nat) (a3 : List Int) : abody VG0225 (Af250 F) Tryd.f25 [(.ptr 0 0 2 0 0 0 2),(.vs (.rI .u8 a3) 0 1)] [(.cells 2 (.segs (.cons 0 (.rT [.int .u32,.int .u32,.int .i8] []) (.cons 1 (.one .nilp) (.cons 1 (.one .ns) .nil)))) true)] = f250 F a3 :=
 (abody_in (c := (sub (bodyOf Tryd.f25) [])) (by kernel_rfl) (s := ef250_a a3) (by kernel_rfl)).trans (f250_1_eq F a3)
def r25 : CRun := fun X H => match X,H with
 | [(.ptr 0 0 2 0 0 0 2),(.vs (.rI .u8 a3) 0 1)],[(.cells 2 (.segs (.cons 0 (.rT [.int .u32,.int .u32,.int .i8] []) (.cons 1 (.one (.ptr 0 0 2 0 0 0 2)) (.cons 1 (.one (.own 1 0 1)) .nil)))) true),(.cells a2n (.segs (.cons 0 (.rT [.int .u16,.int .i8,.int .i8,.int .i16] []) (.cons a1n (.rI .u8 a0) .nil))) true)] => some ((decide (a0.length + a3.length < 1073741824)),(.tup (.cons 0 (.int .i64 (a3.length : Int)) (.cons 0 .undef .nil))),[(.cells 2 (.segs (.cons 0 (.rT [.int .u32,.int .u32,.int .i8] []) (.cons 1 (.one (.ptr 0 0 2 0 0 0 2)) (.cons 1 (.one (.own 2 0 1)) .nil)))) true),.gone,(.cells (0 + (a0 ++ a3).length) (.segs (.cons 0 (.rT [.int .u16,.int .i8,.int .i8,.int .i16] []) (.cons (a0 ++ a3).length (.rI .u8 (a0 ++ a3)) .nil))) true)])
 | [(.ptr 0 0 2 0 0 0 2),(.vs (.rI .u8 a3) 0 1)],[(.cells 2 (.segs (.cons 0 (.rT [.int .u32,.int .u32,.int .i8] []) (.cons 1 (.one .nilp) (.cons 1 (.one .ns) .nil)))) true)] => some ((decide (a3.length < 1073741824)),(.tup (.cons 0 (.int .i64 (a3.length : Int)) (.cons 0 .undef .nil))),[(.cells 2 (.segs (.cons 0 (.rT [.int .u32,.int .u32,.int .i8] []) (.cons 1 (.one (.ptr 0 0 2 0 0 0 2)) (.cons 1 (.one (.own 1 0 1)) .nil)))) true),(.cells (0 + ([] ++ a3).length) (.segs (.cons 0 (.rT [.int .u16,.int .i8,.int .i8,.int .i16] []) (.cons ([] ++ a3).length (.rI .u8 ([] ++ a3)) .nil))) true)])
 | _,_ => none
theorem s25 (a3 : List Int) (a0 : List Int) (a1n : Nat) (a2n : Nat) (hp : ((decide (a0.length + a3.length < 1073741824))) = true) (h1 : okV (.vs (.rI .u8 a3) 0 1)) (k0 : okB (.cells 2 (.segs (.cons 0 (.rT [.int .u32,.int .u32,.int .i8] []) (.cons 1 (.one (.ptr 0 0 2 0 0 0 2)) (.cons 1 (.one (.own 1 0 1)) .nil)))) true)) (k1 : okB (.cells a2n (.segs (.cons 0 (.rT [.int .u16,.int .i8,.int .i8,.int .i16] []) (.cons a1n (.rI .u8 a0) .nil))) true)) : ∃ F,f25 F (a3,a0,a1n,a2n) = some ((.tup (.cons 0 (.int .i64 (a3.length : Int)) (.cons 0 .undef .nil))),[(.cells 2 (.segs (.cons 0 (.rT [.int .u32,.int .u32,.int .i8] []) (.cons 1 (.one (.ptr 0 0 2 0 0 0 2)) (.cons 1 (.one (.own 2 0 1)) .nil)))) true),.gone,(.cells (0 + (a0 ++ a3).length) (.segs (.cons 0 (.rT [.int .u16,.int .i8,.int .i8,.int .i16] []) (.cons (a0 ++ a3).length (.rI .u8 (a0 ++ a3)) .nil))) true)]) := by
 have hp' := of_decide_eq_true hp
 exact ⟨0,by simp only [f25,f25_1]; rw [cond_pos (by omega)]⟩
theorem s250 (a3 : List Int) (hp : ((decide (a3.length < 1073741824))) = true) (h1 : okV (.vs (.rI .u8 a3) 0 1)) (k0 : okB (.cells 2 (.segs (.cons 0 (.rT [.int .u32,.int .u32,.int .i8] []) (.cons 1 (.one .nilp) (.cons 1 (.one .ns) .nil)))) true)) : ∃ F,f250 F a3 = some ((.tup (.cons 0 (.int .i64 (a3.length : Int)) (.cons 0 .undef .nil))),[(.cells 2 (.segs (.cons 0 (.rT [.int .u32,.int .u32,.int .i8] []) (.cons 1 (.one (.ptr 0 0 2 0 0 0 2)) (.cons 1 (.one (.own 1 0 1)) .nil)))) true),(.cells (0 + ([] ++ a3).length) (.segs (.cons 0 (.rT [.int .u16,.int .i8,.int .i8,.int .i16] []) (.cons ([] ++ a3).length (.rI .u8 ([] ++ a3)) .nil))) true)]) := by
 have hp' := of_decide_eq_true hp
 exact ⟨0,by simp only [f250,f250_1]; rw [cond_pos (by omega)]⟩
theorem c25 : CallOk Tryd.prog G02 25 r25 := callOk_of (V := VG0225) mixed tys eVG0225 (f := 25) (fn := Tryd.f25) Tryd.func25 (by kernel_rfl) (c := sub (bodyOf Tryd.f25) []) (by kernel_rfl) (by
 intro X H r H' h hX hH
 unfold r25 at h; split at h <;> try contradiction
 ·simp only [Option.some.injEq,Prod.mk.injEq] at h
  obtain ⟨hp,rfl,rfl⟩ := h
  obtain ⟨F,hF⟩ := s25 _ _ _ _ hp (hX _ (.tail _ (.head _))) (hH _ (.head _)) (hH _ (.tail _ (.head _)))
  exact ⟨Af25 F,(f25_body F _ _ _ _).trans hF⟩
 ·simp only [Option.some.injEq,Prod.mk.injEq] at h
  obtain ⟨hp,rfl,rfl⟩ := h
  obtain ⟨F,hF⟩ := s250 _ hp (hX _ (.tail _ (.head _))) (hH _ (.head _))
  exact ⟨Af250 F,(f250_body F _).trans hF⟩)
def lVG0210 : List CEnt := []
def VG0210 : Env := mkEnv T03 G02 lVG0210
theorem eVG0210 : EOk Tryd.prog VG0210 := eok_mk (by exact trivial)
def Af10 (F : Nat) : Cuts := { F := F,at_ := fun n => match n with | 4014 => some sp51 | 10012 => some sp52 | _ => none,join := fun n => match n with | 1043 => some [(1,.plain)] | 2041 => some [(1,.plain),(3,.plain)] | 3039 => some sp26 | 4016 => some sp51 | 9020 => some [(3,.plain),(4,.plain)] | 10014 => some sp52 | 14003 => some [(3,.plain)] | _ => none,fin := (some [(2,.view 3)]) }
noncomputable abbrev XAf10 (F : Nat) {α : Type} := @aexec α VG0210 (Af10 F)
def ef10_a : Li → St := fun a0 => ⟨[(0,(.agg 16 (.rI .u8 a0)))],[],0,41,0⟩
def ef10j1 : Li → St := fun x1 => ⟨[(1,.ptr 0 0 16 0 0 0 16)],[(0,(.cells 16 (.rI .u8 x1) true))],1,41,0⟩
def ef10j2 : Li × Li → St := fun (x1,x2) => ⟨[(1,.ptr 0 0 16 0 0 0 16),(3,.ptr 1 0 68 0 0 0 68)],[(0,(.cells 16 (.rI .u8 x1) true)),(1,(.cells 68 (.rI .i64 x2) true))],2,41,0⟩
def ef10j3 : Ty19 → St := fun (t4,x2,x3) => ⟨[(1,.ptr 0 0 16 0 0 0 16),(3,.ptr 1 0 68 0 0 0 68),(4,.int .i64 t4)],[(0,(.cells 16 (.rI .u8 x2) true)),(1,(.cells 68 (.rI .i64 x3) true))],2,41,0⟩
def ef10j4 : Ty20 → St := fun (t4,t7,x3,x4) => ⟨[(1,.ptr 0 0 16 0 0 0 16),(3,.ptr 1 0 68 0 0 0 68),(4,.int .i64 t4),(7,.int .i64 t7)],[(0,(.cells 16 (.rI .u8 x3) true)),(1,(.cells 68 (.rI .i64 x4) true))],2,41,0⟩
def ef10l1 : Ty20 → St := ef10j4
def ef10j5 : Int × Li → St := fun (t4,x2) => ⟨[(3,.ptr 0 0 68 0 0 0 68),(4,.int .i64 t4)],[(0,(.cells 68 (.rI .i64 x2) true))],1,41,0⟩
def ef10j6 : Int × Int × Li → St := fun (t4,t6,x3) => ⟨[(3,.ptr 0 0 68 0 0 0 68),(4,.int .i64 t4),(6,.int .i64 t6)],[(0,(.cells 68 (.rI .i64 x3) true))],1,41,0⟩
def ef10l2 : Int × Int × Li → St := ef10j6
def ef10j7 : Li → St := fun x1 => ⟨[(3,.ptr 0 0 68 0 0 0 68)],[(0,(.cells 68 (.rI .i64 x1) true))],1,41,0⟩
def f10_1 (F : Nat) (kf10j1 : Li → Rz) : Li → Rz := fun a0 => (kf10j1 a0)
theorem f10_1_eq (F : Nat) (Rf10j1 : St → Rz) : ∀ v,XAf10 F (bp Tryd.f10 2) (ef10_a v) (kSeq (kc VG0210 Rf10j1 [(1,.plain)]) (kFin VG0210 (some [(2,.view 3)]) (Tryd.f10).results.toList)) = f10_1 F (Rf10j1 ∘ ef10j1) v := by
 intro a0; kernel_rfl
def f10_2 (F : Nat) (kf10j2 : Li × Li → Rz) : Li → Rz := fun x1 => (kf10j2 (x1,(List.replicate 68 0)))
theorem f10_2_eq (F : Nat) (Rf10j2 : St → Rz) : ∀ v,XAf10 F (bp Tryd.f10 6) (ef10j1 v) (kSeq (kc VG0210 Rf10j2 [(1,.plain),(3,.plain)]) (kFin VG0210 (some [(2,.view 3)]) (Tryd.f10).results.toList)) = f10_2 F (Rf10j2 ∘ ef10j2) v := by
 intro x1; kernel_rfl
def f10_3 (F : Nat) (kf10j3 : Ty19 → Rz) : Li × Li → Rz := fun (x1,x2) => (kf10j3 ((0 : Int),x1,x2))
theorem f10_3_eq (F : Nat) (Rf10j3 : St → Rz) : ∀ v,XAf10 F (bp Tryd.f10 14) (ef10j2 v) (kSeq (kc VG0210 Rf10j3 sp26) (kFin VG0210 (some [(2,.view 3)]) (Tryd.f10).results.toList)) = f10_3 F (Rf10j3 ∘ ef10j3) v := by
 rintro ⟨x1,x2⟩; kernel_rfl
def f10_4 (F : Nat) (kf10j4 : Ty20 → Rz) (kf10j5 : Int × Li → Rz) : Ty19 → Rz := fun (t4,x2,x3) => (kf10j4 (t4,(0 : Int),x2,x3))
theorem f10_4_eq (F : Nat) (Rf10j4 : St → Rz) (Rf10j5 : St → Rz) : ∀ v,XAf10 F (bp Tryd.f10 60) (ef10j3 v) (kSeq (kc VG0210 Rf10j4 sp51) (kSeq (kc VG0210 Rf10j5 [(3,.plain),(4,.plain)]) (kFin VG0210 (some [(2,.view 3)]) (Tryd.f10).results.toList))) = f10_4 F (Rf10j4 ∘ ef10j4) (Rf10j5 ∘ ef10j5) v := by
 rintro ⟨t4,x2,x3⟩; kernel_rfl
def f10_5 (F : Nat) (kf10l1 : Ty20 → Rz) (kf10j5 : Int × Li → Rz) : Ty20 → Rz := fun (t4,t7,x3,x4) => (cond (decide (t7 < (64 : Int))) (cond ((decide (0 ≤ (IntKind.i64.wrap (Int.tdiv t7 (4 : Int))))) && (decide ((IntKind.i64.wrap (Int.tdiv t7 (4 : Int))) < (16 : Int)))) (cond (decide (0 ≤ (IntKind.i64.wrap ((6 : Int) - (IntKind.i64.wrap ((2 : Int) * (Int.tmod t7 (4 : Int)))))))) (cond ((decide (0 ≤ t7)) && (decide (t7 < (68 : Int)))) (cond ((decide (0 ≤ t7)) && (decide (t7 < (68 : Int)))) (kf10l1 ((IntKind.i64.wrap (t4 + (IntKind.i64.wrap ((3 : Int) - ((x4.set (Int.toNat t7) (Int.tmod (IntKind.i64.wrap (Int.fdiv (x3.getD (Int.toNat (IntKind.i64.wrap (Int.tdiv t7 (4 : Int)))) 0) (2 ^ (min (Int.toNat (IntKind.i64.wrap ((6 : Int) - (IntKind.i64.wrap ((2 : Int) * (Int.tmod t7 (4 : Int))))))) 8)))) (4 : Int))).getD (Int.toNat t7) 0))))),(IntKind.i64.wrap (t7 + (1 : Int))),x3,(x4.set (Int.toNat t7) (Int.tmod (IntKind.i64.wrap (Int.fdiv (x3.getD (Int.toNat (IntKind.i64.wrap (Int.tdiv t7 (4 : Int)))) 0) (2 ^ (min (Int.toNat (IntKind.i64.wrap ((6 : Int) - (IntKind.i64.wrap ((2 : Int) * (Int.tmod t7 (4 : Int))))))) 8)))) (4 : Int))))) none) none) none) none) (kf10j5 (t4,x4)))
theorem f10_5_eq (F : Nat) (Rf10l1 : St → Rz) (Rf10j5 : St → Rz) : ∀ v,XAf10 F (bp Tryd.f10 244) (ef10l1 v) (kSeq (kc VG0210 Rf10l1 sp51) (kBlock 0 (kSeq (kc VG0210 Rf10j5 [(3,.plain),(4,.plain)]) (kFin VG0210 (some [(2,.view 3)]) (Tryd.f10).results.toList)))) = f10_5 F (Rf10l1 ∘ ef10l1) (Rf10j5 ∘ ef10j5) v := by
 rintro ⟨t4,t7,x3,x4⟩; kernel_rfl
def f10_6_i : Ty20 → Int × Int × Li × Li := fun (t4,t7,x3,x4) => (t4,t7,x3,x4)
def f10_6 (F : Nat) (kf10j5 : Int × Li → Rz) : Ty20 → Rz := fun v => loopN (fun k => f10_5 F k kf10j5) F (f10_6_i v)
theorem f10_6_eq (F : Nat) (Rf10j5 : St → Rz) : ∀ v,XAf10 F (bp Tryd.f10 122) (ef10j4 v) (kBlock 0 (kSeq (kc VG0210 Rf10j5 [(3,.plain),(4,.plain)]) (kFin VG0210 (some [(2,.view 3)]) (Tryd.f10).results.toList))) = f10_6 F (Rf10j5 ∘ ef10j5) v :=
 loop_cut (by kernel_rfl) (by kernel_rfl) ef10j4 ef10l1 _ f10_6_i (fun k => f10_5 F k (Rf10j5 ∘ ef10j5))
  (by rintro ⟨t4,t7,x3,x4⟩; kernel_rfl) (fun Rf10l1 => f10_5_eq F Rf10l1 Rf10j5)
def f10_7 (F : Nat) (kf10j5 : Int × Li → Rz) : Ty20 → Rz := f10_6 F kf10j5
theorem f10_7_eq (F : Nat) (Rf10j5 : St → Rz) : ∀ v,XAf10 F (bp Tryd.f10 61) (ef10j4 v) (kSeq (kc VG0210 Rf10j5 [(3,.plain),(4,.plain)]) (kFin VG0210 (some [(2,.view 3)]) (Tryd.f10).results.toList)) = f10_7 F (Rf10j5 ∘ ef10j5) v := fun v =>
 (block_in  (by kernel_rfl) _ _).trans (f10_6_eq F Rf10j5 v)
def f10_8 (F : Nat) (kf10j5 : Int × Li → Rz) : Ty19 → Rz := fun v => f10_4 F (f10_7 F kf10j5) kf10j5 v
theorem f10_8_eq (F : Nat) (Rf10j5 : St → Rz) : ∀ v,XAf10 F (bp Tryd.f10 30) (ef10j3 v) (kSeq (kc VG0210 Rf10j5 [(3,.plain),(4,.plain)]) (kFin VG0210 (some [(2,.view 3)]) (Tryd.f10).results.toList)) = f10_8 F (Rf10j5 ∘ ef10j5) v :=
 seq_cut (by kernel_rfl) (by kernel_rfl) ef10j3 ef10j4 _ (fun k => f10_4 F k (Rf10j5 ∘ ef10j5)) (f10_7 F (Rf10j5 ∘ ef10j5))
  (fun Rf10j4 => f10_4_eq F Rf10j4 Rf10j5) (f10_7_eq F Rf10j5)
def f10_9 (F : Nat) (kf10j6 : Int × Int × Li → Rz) (kf10j7 : Li → Rz) : Int × Li → Rz := fun (t4,x2) => (kf10j6 (t4,(67 : Int),x2))
theorem f10_9_eq (F : Nat) (Rf10j6 : St → Rz) (Rf10j7 : St → Rz) : ∀ v,XAf10 F (bp Tryd.f10 124) (ef10j5 v) (kSeq (kc VG0210 Rf10j6 sp52) (kSeq (kc VG0210 Rf10j7 [(3,.plain)]) (kFin VG0210 (some [(2,.view 3)]) (Tryd.f10).results.toList))) = f10_9 F (Rf10j6 ∘ ef10j6) (Rf10j7 ∘ ef10j7) v := by
 rintro ⟨t4,x2⟩; kernel_rfl
def f10_10 (F : Nat) (kf10l2 : Int × Int × Li → Rz) (kf10j7 : Li → Rz) : Int × Int × Li → Rz := fun (t4,t6,x3) => (cond (decide (t6 ≥ (64 : Int))) (cond ((decide (0 ≤ t6)) && (decide (t6 < (68 : Int)))) (kf10l2 ((IntKind.i64.wrap (Int.tdiv t4 (4 : Int))),(IntKind.i64.wrap (t6 - (1 : Int))),(x3.set (Int.toNat t6) (Int.tmod t4 (4 : Int))))) none) (kf10j7 x3))
theorem f10_10_eq (F : Nat) (Rf10l2 : St → Rz) (Rf10j7 : St → Rz) : ∀ v,XAf10 F (bp Tryd.f10 500) (ef10l2 v) (kSeq (kc VG0210 Rf10l2 sp52) (kBlock 2 (kSeq (kc VG0210 Rf10j7 [(3,.plain)]) (kFin VG0210 (some [(2,.view 3)]) (Tryd.f10).results.toList)))) = f10_10 F (Rf10l2 ∘ ef10l2) (Rf10j7 ∘ ef10j7) v := by
 rintro ⟨t4,t6,x3⟩; kernel_rfl
def f10_11_i : Int × Int × Li → Int × Int × Li := fun (t4,t6,x3) => (t4,t6,x3)
def f10_11 (F : Nat) (kf10j7 : Li → Rz) : Int × Int × Li → Rz := fun v => loopN (fun k => f10_10 F k kf10j7) F (f10_11_i v)
theorem f10_11_eq (F : Nat) (Rf10j7 : St → Rz) : ∀ v,XAf10 F (bp Tryd.f10 250) (ef10j6 v) (kBlock 2 (kSeq (kc VG0210 Rf10j7 [(3,.plain)]) (kFin VG0210 (some [(2,.view 3)]) (Tryd.f10).results.toList))) = f10_11 F (Rf10j7 ∘ ef10j7) v :=
 loop_cut (by kernel_rfl) (by kernel_rfl) ef10j6 ef10l2 _ f10_11_i (fun k => f10_10 F k (Rf10j7 ∘ ef10j7))
  (by rintro ⟨t4,t6,x3⟩; kernel_rfl) (fun Rf10l2 => f10_10_eq F Rf10l2 Rf10j7)
def f10_12 (F : Nat) (kf10j7 : Li → Rz) : Int × Int × Li → Rz := f10_11 F kf10j7
theorem f10_12_eq (F : Nat) (Rf10j7 : St → Rz) : ∀ v,XAf10 F (bp Tryd.f10 125) (ef10j6 v) (kSeq (kc VG0210 Rf10j7 [(3,.plain)]) (kFin VG0210 (some [(2,.view 3)]) (Tryd.f10).results.toList)) = f10_12 F (Rf10j7 ∘ ef10j7) v := fun v =>
 (block_in  (by kernel_rfl) _ _).trans (f10_11_eq F Rf10j7 v)
def f10_13 (F : Nat) (kf10j7 : Li → Rz) : Int × Li → Rz := fun v => f10_9 F (f10_12 F kf10j7) kf10j7 v
theorem f10_13_eq (F : Nat) (Rf10j7 : St → Rz) : ∀ v,XAf10 F (bp Tryd.f10 62) (ef10j5 v) (kSeq (kc VG0210 Rf10j7 [(3,.plain)]) (kFin VG0210 (some [(2,.view 3)]) (Tryd.f10).results.toList)) = f10_13 F (Rf10j7 ∘ ef10j7) v :=
 seq_cut (by kernel_rfl) (by kernel_rfl) ef10j5 ef10j6 _ (fun k => f10_9 F k (Rf10j7 ∘ ef10j7)) (f10_12 F (Rf10j7 ∘ ef10j7))
  (fun Rf10j6 => f10_9_eq F Rf10j6 Rf10j7) (f10_12_eq F Rf10j7)
def f10_14 (F : Nat) : Li → Rz := fun x1 => (some ((.vs (.rI .i64 (x1.take 68)) 0 1),[]))
theorem f10_14_eq (F : Nat) : ∀ v,XAf10 F (bp Tryd.f10 63) (ef10j7 v) (kFin VG0210 (some [(2,.view 3)]) (Tryd.f10).results.toList) = f10_14 F v := by
 intro x1; kernel_rfl
def f10_15 (F : Nat) : Int × Li → Rz := fun v => f10_13 F (f10_14 F) v
theorem f10_15_eq (F : Nat) : ∀ v,XAf10 F (bp Tryd.f10 31) (ef10j5 v) (kFin VG0210 (some [(2,.view 3)]) (Tryd.f10).results.toList) = f10_15 F v :=
 seq_cut (by kernel_rfl) (by kernel_rfl) ef10j5 ef10j7 _ (fun k => f10_13 F k) (f10_14 F)
  (fun Rf10j7 => f10_13_eq F Rf10j7) (f10_14_eq F)
def f10_16 (F : Nat) : Ty19 → Rz := fun v => f10_8 F (f10_15 F) v
theorem f10_16_eq (F : Nat) : ∀ v,XAf10 F (bp Tryd.f10 15) (ef10j3 v) (kFin VG0210 (some [(2,.view 3)]) (Tryd.f10).results.toList) = f10_16 F v :=
 seq_cut (by kernel_rfl) (by kernel_rfl) ef10j3 ef10j5 _ (fun k => f10_8 F k) (f10_15 F)
  (fun Rf10j5 => f10_8_eq F Rf10j5) (f10_15_eq F)
def f10_17 (F : Nat) : Li × Li → Rz := fun v => f10_3 F (f10_16 F) v
theorem f10_17_eq (F : Nat) : ∀ v,XAf10 F (bp Tryd.f10 7) (ef10j2 v) (kFin VG0210 (some [(2,.view 3)]) (Tryd.f10).results.toList) = f10_17 F v :=
 seq_cut (by kernel_rfl) (by kernel_rfl) ef10j2 ef10j3 _ (fun k => f10_3 F k) (f10_16 F)
  (fun Rf10j3 => f10_3_eq F Rf10j3) (f10_16_eq F)
def f10_18 (F : Nat) : Li → Rz := fun v => f10_2 F (f10_17 F) v
theorem f10_18_eq (F : Nat) : ∀ v,XAf10 F (bp Tryd.f10 3) (ef10j1 v) (kFin VG0210 (some [(2,.view 3)]) (Tryd.f10).results.toList) = f10_18 F v :=
 seq_cut (by kernel_rfl) (by kernel_rfl) ef10j1 ef10j2 _ (fun k => f10_2 F k) (f10_17 F)
  (fun Rf10j2 => f10_2_eq F Rf10j2) (f10_17_eq F)
def f10_19 (F : Nat) : Li → Rz := fun v => f10_1 F (f10_18 F) v
theorem f10_19_eq (F : Nat) : ∀ v,XAf10 F (sub (bodyOf Tryd.f10) []) (ef10_a v) (kFin VG0210 (some [(2,.view 3)]) (Tryd.f10).results.toList) = f10_19 F v :=
 seq_cut (by kernel_rfl) (by kernel_rfl) ef10_a ef10j1 _ (fun k => f10_1 F k) (f10_18 F)
  (fun Rf10j1 => f10_1_eq F Rf10j1) (f10_18_eq F)
def f10 (F : Nat) : Li → Rz := f10_19 F
theorem f10_body (F : Nat) (a0 : List Int) : abody VG0210 (Af10 F) Tryd.f10 [(.agg 16 (.rI .u8 a0))] [] = f10 F a0 :=
 (abody_in (c := (sub (bodyOf Tryd.f10) [])) (by kernel_rfl) (s := ef10_a a0) (by kernel_rfl)).trans (f10_19_eq F a0)
def r10 : CRun := fun X H => match X,H with
 | [(.agg 16 (.rI .u8 a0))],[] => some (true,(.vs (.rI .i64 (Sg.digits a0)) 0 1),[])
 | _,_ => none
theorem dgshr (b : Int) (i : Nat) (hb : 0 ≤ b ∧ b ≤ 255) : Int.tmod (IntKind.i64.wrap (Int.fdiv b (2 ^ (min (Int.toNat (IntKind.i64.wrap ((6 : Int) - (IntKind.i64.wrap ((2 : Int) * (Int.tmod (i : Int) (4 : Int))))))) 8)))) (4 : Int) = b / 4 ^ (3 - i % 4) % 4 := by
 rw [tmod_nn (x := (i : Int)) (by omega),i64w (x := 2 * ((i : Int) % 4)) (by omega) (by omega),i64w (x := 6 - 2 * ((i : Int) % 4)) (by omega) (by omega)]
 have e : (min (Int.toNat (6 - 2 * ((i : Int) % 4))) 8) = 2 * (3 - i % 4) := by omega
 rw [e,Int.fdiv_eq_ediv_of_nonneg _ (by exact Int.pow_nonneg (by decide)),Int.pow_mul]
 have e2 : ((2 : Int) ^ 2) = 4 := rfl
 rw [e2]
 have h1 : 0 ≤ b / 4 ^ (3 - i % 4) := Int.ediv_nonneg hb.1 (Int.pow_nonneg (by decide))
 have h2 : b / 4 ^ (3 - i % 4) ≤ b := Int.ediv_le_self _ hb.1
 rw [i64w (by omega) (by omega),tmod_nn h1]
theorem s10 (a0 : List Int) (h0 : okV (.agg 16 (.rI .u8 a0))) : ∃ F,f10 F a0 = some ((.vs (.rI .i64 (Sg.digits a0)) 0 1),[]) := by
 obtain ⟨hl,hb⟩ := okR_rI h0
 have hget : ∀ i : Nat,0 ≤ a0.getD i 0 ∧ a0.getD i 0 ≤ 255 := Wire.byte_getD (Wire.okB_of hb)
 refine ⟨100,?_⟩
 simp only [f10_1,f10_2,f10_3,f10_4,f10_6_i,f10_6,f10_7,f10_8,f10_16,f10_17,f10_18,f10_19,f10]
 refine loopN_from (fun i => (Sg.sumN a0 i,(i : Int),a0,(List.range i).map (Sg.dg a0) ++ List.replicate (68 - i) 0)) 64 (by rfl) (fun i hi k => ?_) (fun k => ?_) _ (by omega)
 ·have hr := Sg.sumN_rng a0 i
  have hd := Sg.dg_rng a0 i
  simp only [f10_5,dec_and]
  have e1 : Int.toNat (IntKind.i64.wrap (Int.tdiv (i : Int) (4 : Int))) = i / 4 := by
   rw [tdiv_nn (by omega),i64w (by omega) (by omega)]; omega
  have e2 : IntKind.i64.wrap (Int.tdiv (i : Int) (4 : Int)) = ((i / 4 : Nat) : Int) := by
   rw [tdiv_nn (by omega),i64w (by omega) (by omega)]; omega
  have e3 : IntKind.i64.wrap ((6 : Int) - (IntKind.i64.wrap ((2 : Int) * (Int.tmod (i : Int) (4 : Int))))) = 6 - 2 * ((i : Int) % 4) := by
   rw [tmod_nn (by omega),i64w (x := 2 * ((i : Int) % 4)) (by omega) (by omega),i64w (by omega) (by omega)]
  rw [e1,dgshr _ i (hget _),e2,e3]
  rw [cond_pos (by omega),cond_pos (by omega),cond_pos (by omega),cond_pos (by omega),cond_pos (by omega)]
  have e4 : a0.getD (i / 4) 0 / 4 ^ (3 - i % 4) % 4 = Sg.dg a0 i := rfl
  rw [e4,Int.toNat_natCast,fill_set (Sg.dg a0) 0 68 i (by omega) rfl]
  have e5 : ((List.range (i + 1)).map (Sg.dg a0) ++ List.replicate (68 - (i + 1)) (0 : Int)).getD i 0 = Sg.dg a0 i := by
   rw [List.getD_eq_getElem?_getD,List.getElem?_append_left (by simp)]; simp
  rw [e5,i64w (x := 3 - Sg.dg a0 i) (by omega) (by omega),i64w (x := Sg.sumN a0 i + (3 - Sg.dg a0 i)) (by omega) (by omega),i64w (x := (i : Int) + 1) (by omega) (by omega)]
  rfl
 ·simp only [f10_5]
  rw [cond_neg (by omega)]
  simp only [f10_9,f10_11_i,f10_11,f10_12,f10_13,f10_15]
  have hr := Sg.sumN_rng a0 64
  generalize hs : Sg.sumN a0 64 = s at hr
  generalize hR : (List.range 64).map (Sg.dg a0) = R
  have hRl : R.length = 64 := by rw [← hR]; simp
  refine loopN_from (fun j => (s / 4 ^ j,67 - (j : Int),R ++ (match j with | 0 => [0,0,0,0] | 1 => [0,0,0,s % 4] | 2 => [0,0,s / 4 % 4,s % 4] | 3 => [0,s / 16 % 4,s / 4 % 4,s % 4] | _ => [s / 64 % 4,s / 16 % 4,s / 4 % 4,s % 4]))) 4 (by simp only [Int.pow_zero,Int.ediv_one]; rfl) (fun j hj k' => ?_) (fun k' => ?_) _ (by omega)
  ·have hset : ∀ (n : Nat) (L : List Int) (v : Int),(R ++ L).set (64 + n) v = R ++ L.set n v := fun n L v => by
    rw [List.set_append_right _ _ (by omega),hRl,Nat.add_sub_cancel_left]
   have hdiv : ∀ n : Nat,0 ≤ s / 4 ^ n ∧ s / 4 ^ n ≤ s := fun n => ⟨Int.ediv_nonneg hr.1 (Int.pow_nonneg (by decide)),Int.ediv_le_self _ hr.1⟩
   have hq : s / 4 ^ j / 4 = s / 4 ^ (j + 1) := by
    rw [Int.ediv_ediv_of_nonneg (Int.pow_nonneg (by decide)),Int.pow_succ]
   have h1 := hdiv j
   simp only [f10_10,dec_and]
   rw [cond_pos (by omega),cond_pos (by omega),tdiv_nn h1.1,tmod_nn h1.1,hq,i64w (x := s / 4 ^ (j + 1)) (by have := hdiv (j + 1); omega) (by have := hdiv (j + 1); omega),i64w (x := 67 - (j : Int) - 1) (by omega) (by omega)]
   have e1 : Int.toNat (67 - (j : Int)) = 64 + (3 - j) := by omega
   have e2 : 67 - (j : Int) - 1 = 67 - ((j + 1 : Nat) : Int) := by omega
   rw [e1,e2,hset]
   match j,hj with
   | 0,_ => simp
   | 1,_ => simp
   | 2,_ => simp
   | 3,_ => simp
  ·simp only [f10_10,dec_and]
   rw [cond_neg (by omega)]
   simp only [f10_14]
   rw [List.take_of_length_le (by simp [hRl])]
   simp only [Sg.digits,hs,hR]
theorem c10 : CallOk Tryd.prog G02 10 r10 := callOk_of (V := VG0210) mixed tys eVG0210 (f := 10) (fn := Tryd.f10) Tryd.func10 (by kernel_rfl) (c := sub (bodyOf Tryd.f10) []) (by kernel_rfl) (by
 intro X H r H' h hX hH
 unfold r10 at h; split at h <;> try contradiction
 ·simp only [Option.some.injEq,Prod.mk.injEq] at h
  obtain ⟨hp,rfl,rfl⟩ := h
  obtain ⟨F,hF⟩ := s10 _ (hX _ (.head _))
  exact ⟨Af10 F,(f10_body F _).trans hF⟩)
def lVG0221 : List CEnt := []
def VG0221 : Env := mkEnv T03 G02 lVG0221
noncomputable abbrev Kf33 := kFin VG0221 none (Tryd.f21).results.toList
theorem eVG0221 : EOk Tryd.prog VG0221 := eok_mk (by exact trivial)
def Af21 (F : Nat) : Cuts := { F := F,at_ := fun _ => none,join := fun _ => none }
def ef21_a : Int → St := fun a0 => ⟨[(0,.int .i64 a0)],[],0,9,0⟩
def f21_1 (F : Nat) : Int → Rz := fun a0 => (cond (decide (a0 ≥ (0 : Int))) (some ((.bool (decide (a0 ≤ (6 : Int)))),[])) (some ((.bool false),[])))
theorem f21_1_eq (F : Nat) : ∀ v,aexec VG0221 (Af21 F) (sub (bodyOf Tryd.f21) []) (ef21_a v) Kf33 = f21_1 F v := by
 intro a0; kernel_rfl
def f21 (F : Nat) : Int → Rz := f21_1 F
theorem f21_body (F : Nat) (a0 : Int) : abody VG0221 (Af21 F) Tryd.f21 [(.int .i64 a0)] [] = f21 F a0 :=
 (abody_in (c := (sub (bodyOf Tryd.f21) [])) (by kernel_rfl) (s := ef21_a a0) (by kernel_rfl)).trans (f21_1_eq F a0)
def r21 : CRun := fun X H => match X,H with
 | [(.int .i64 a0)],[] => some (true,(.bool ((decide (0 ≤ a0)) && (decide (a0 ≤ 6)))),[])
 | _,_ => none
theorem s21 (a0 : Int) (h0 : okV (.int .i64 a0)) : ∃ F,f21 F a0 = some ((.bool ((decide (0 ≤ a0)) && (decide (a0 ≤ 6)))),[]) := by
 refine ⟨0,?_⟩
 simp only [f21,f21_1,ge_iff_le]
 by_cases h : 0 ≤ a0
 ·rw [cond_pos h]; simp [h]
 ·rw [cond_neg h]; simp [h]
theorem c21 : CallOk Tryd.prog G02 21 r21 := callOk_of (V := VG0221) mixed tys eVG0221 (f := 21) (fn := Tryd.f21) Tryd.func21 (by kernel_rfl) (c := sub (bodyOf Tryd.f21) []) (by kernel_rfl) (by
 intro X H r H' h hX hH
 unfold r21 at h; split at h <;> try contradiction
 ·simp only [Option.some.injEq,Prod.mk.injEq] at h
  obtain ⟨hp,rfl,rfl⟩ := h
  obtain ⟨F,hF⟩ := s21 _ (hX _ (.head _))
  exact ⟨Af21 F,(f21_body F _).trans hF⟩)
def lVG0248 : List CEnt := [(60,[some 3],r60)]
def VG0248 : Env := mkEnv T03 G02 lVG0248
noncomputable abbrev Kf34 := kFin VG0248 none (Tryd.f48).results.toList
theorem eVG0248 : EOk Tryd.prog VG0248 := eok_mk (by exact ⟨c60,trivial⟩)
def Af48 (F : Nat) : Cuts := { F := F,at_ := fun _ => none,join := fun _ => none }
def ef48_a : Li → St := fun a0 => ⟨[(0,(.vs (.rI .i64 a0) 0 1))],[],0,6,0⟩
def f48_1 (F : Nat) : Li → Rz := fun a0 => (cond (decide ((Wire.ints a0).length < 1073741000)) (some ((.str (Wire.ints a0)),[])) none)
theorem f48_1_eq (F : Nat) : ∀ v,aexec VG0248 (Af48 F) (sub (bodyOf Tryd.f48) []) (ef48_a v) Kf34 = f48_1 F v := by
 intro a0; kernel_rfl
def f48 (F : Nat) : Li → Rz := f48_1 F
theorem f48_body (F : Nat) (a0 : List Int) : abody VG0248 (Af48 F) Tryd.f48 [(.vs (.rI .i64 a0) 0 1)] [] = f48 F a0 :=
 (abody_in (c := (sub (bodyOf Tryd.f48) [])) (by kernel_rfl) (s := ef48_a a0) (by kernel_rfl)).trans (f48_1_eq F a0)
def r48 : CRun := fun X H => match X,H with
 | [(.vs (.rI .i64 a0) 0 1)],[] => some ((decide ((Wire.ints a0).length < 1073741000)),(.str (Wire.ints a0)),[])
 | _,_ => none
theorem s48 (a0 : List Int) (hp : ((decide ((Wire.ints a0).length < 1073741000))) = true) (h0 : okV (.vs (.rI .i64 a0) 0 1)) : ∃ F,f48 F a0 = some ((.str (Wire.ints a0)),[]) := by
 refine ⟨0,?_⟩
 simp only [f48,f48_1]
 rw [hp,cond_true]
theorem c48 : CallOk Tryd.prog G02 48 r48 := callOk_of (V := VG0248) mixed tys eVG0248 (f := 48) (fn := Tryd.f48) Tryd.func48 (by kernel_rfl) (c := sub (bodyOf Tryd.f48) []) (by kernel_rfl) (by
 intro X H r H' h hX hH
 unfold r48 at h; split at h <;> try contradiction
 ·simp only [Option.some.injEq,Prod.mk.injEq] at h
  obtain ⟨hp,rfl,rfl⟩ := h
  obtain ⟨F,hF⟩ := s48 _ hp (hX _ (.head _))
  exact ⟨Af48 F,(f48_body F _).trans hF⟩)
end Go.Am
end