/- Slices of one's own: append and make. -/
import Derived.Test.YtkkkcafkepnecaaGreatVcM
import Derived.Maps.AppendAt
set_option linter.unusedVariables false
set_option linter.unusedSimpArgs false
namespace Go.Proofs.YtkkkcafkepnecaaGreat.Vc
open Go Go.RowKit

/-- The slice v holds xs (n elements of size cells) in a row of its own, which S is; or it is nil. -/
def Own (S : Hp) (e : TypeId) (size : Nat) (v : Value) (n : Nat) (xs : List Value) : Prop :=
  xs.length = n * size ∧ ((S = [] ∧ v = .slice none 0 0 ∧ n = 0) ∨
    ∃ g cap l, S = [(g, cel l e)] ∧ v = .slice (some ⟨g, 0, none⟩) n cap ∧ n ≤ cap ∧ cap ≤ maxLen ∧ l.length = cap * size ∧ l.take (n * size) = xs)
theorem own_none (e : TypeId) (size : Nat) : Own [] e size (.slice none 0 0) 0 [] := ⟨by simp, .inl ⟨rfl, rfl, rfl⟩⟩
theorem Own.mk {g cap : Nat} {l xs : List Value} {e : TypeId} {size n : Nat} (hc : n ≤ cap) (hm : cap ≤ maxLen) (hl : l.length = cap * size) (hx : l.take (n * size) = xs) : Own [(g, cel l e)] e size (.slice (some ⟨g, 0, none⟩) n cap) n xs :=
  ⟨by rw [← hx, List.length_take, hl]; exact Nat.min_eq_left (Nat.mul_le_mul_right _ hc), .inr ⟨g, cap, l, rfl, rfl, hc, hm, hl, hx⟩⟩
theorem Own.sl {S : Hp} {e : TypeId} {v : Value} {n : Nat} {xs : List Value} (h : Own S e 1 v n xs) : Sl S v xs := by
  obtain ⟨hl, ⟨rfl, rfl, rfl⟩ | ⟨g, cap, l, rfl, rfl, hc, hm, hlen, hx⟩⟩ := h
  · have : xs = [] := List.eq_nil_of_length_eq_zero (by simpa using hl)
    subst this
    exact ⟨none, 0, rfl, Nat.zero_le _, by simp⟩
  · have hn : xs.length = n := by simpa using hl
    refine ⟨some ⟨g, 0, none⟩, cap, by rw [hn], by rw [hn]; exact hc, fun i x hi => ⟨_, rfl, ?_⟩⟩
    rw [add_mk]
    refine cell_here List.mem_cons_self ?_
    rw [← hx] at hi
    simp only [Nat.mul_one, List.getElem?_take] at hi
    split at hi
    · simpa using hi
    · cases hi
theorem Own.len {S : Hp} {e : TypeId} {v : Value} {n size : Nat} {xs : List Value} (h : Own S e size v n xs) : ∃ a c, v = .slice a n c := by
  obtain ⟨hl, ⟨rfl, rfl, rfl⟩ | ⟨g, cap, l, rfl, rfl, hc, hm, hlen, hx⟩⟩ := h
  · exact ⟨_, _, rfl⟩
  · exact ⟨_, _, rfl⟩
theorem Own.max {S : Hp} {e : TypeId} {v : Value} {n size : Nat} {xs : List Value} (h : Own S e size v n xs) : n ≤ maxLen := by
  obtain ⟨hl, ⟨rfl, rfl, rfl⟩ | ⟨g, cap, l, rfl, rfl, hc, hm, hlen, hx⟩⟩ := h
  · exact Nat.zero_le _
  · omega

/-- What is appended: m elements, cells ys. -/
def Src (H : Hp) (x : Value) (m size : Nat) (ys : List Value) : Prop :=
  ys.length = m * size ∧ ∃ a c, x = .slice a m c ∧ ∀ j y, ys[j]? = some y → ∃ p, a = some p ∧ Cell H (p.add j) y
theorem Sl.src {H : Hp} {x : Value} {ys : List Value} (h : Sl H x ys) : Src H x ys.length 1 ys := by
  obtain ⟨a, cap, rfl, hc, h⟩ := h
  exact ⟨by simp, a, cap, rfl, h⟩
theorem src_here {H : Hp} {b len : Nat} {l : List Value} {e : TypeId} {size : Nat} (hm : (b, cel l e) ∈ H) (hl : l.length = len * size) : Src H (.slice (some ⟨b, 0, none⟩) len len) len size l :=
  ⟨hl, _, _, rfl, fun j y hy => ⟨_, rfl, by rw [add_mk]; exact cell_here hm (by simpa using hy)⟩⟩

section
variable {P : Program} {B w : World} {KW : Value → World → Prop} {t e ty : TypeId}
theorem app_nil {v : Value} {n size : Nat} {xs : List Value} {S : Hp} {a : Option Addr} {c : Nat} {i : TypeInfo} (ht : P.underlying t = some (.slice e)) (hi : P.info? e = some i) (ho : Own S e size v n xs) (ha : a = none) :
    (Builtin.append_ #[t, t] ty #[v, .slice a 0 c]).run P w = .ok v w := by
  subst ha
  obtain ⟨hl, ⟨rfl, rfl, rfl⟩ | ⟨g, cap, l, rfl, rfl, hc, hm, hlen, hx⟩⟩ := ho
  · simp [Builtin.append_, run_underlying ht, sizeOf, typeInfo, hi, Builtin.lenOf, Builtin.firstCells, loadCells, loadCellsFrom]
  · simp [Builtin.append_, run_underlying ht, sizeOf, typeInfo, hi, Builtin.lenOf, Builtin.firstCells, loadCells, loadCellsFrom, hc, storeCells]
/-- append. -/
theorem app_rule {A C S H : Hp} {v x : Value} {n m size bytes : Nat} {xs ys : List Value} {i : TypeInfo} {z : Value} (h : Ow B w (A ++ S ++ C)) (ho : Own S e size v n xs) (hs : Src H x m size ys) (hH : ∀ y, y ∈ H → y ∈ A ++ S ++ C)
    (hp : ys.all plainV = true) (ht : P.underlying t = some (.slice e)) (hi : P.info? e = some i) (hz : i.zero = some z) (hsize : i.size = size) (hby : i.bytes = bytes) (hzs : z.cells.size = size) (hsz : 0 < size)
    (h63 : n + m ≤ maxLen) (hbytes : (n + m) * bytes ≤ 140737488355328)
    (k : ∀ S' v' w', Ow B w' (A ++ S' ++ C) → Own S' e size v' (n + m) (xs ++ ys) → KW v' w') : opW P (Builtin.append_ #[t, t] ty #[v, x]) KW w := by
  obtain ⟨hyl, a, c, rfl, hcell⟩ := hs
  cases a with
  | none =>
    have hy0 : ys = [] := by
      cases ys with
      | nil => rfl
      | cons y ys => obtain ⟨p, hp, _⟩ := hcell 0 y rfl; cases hp
    subst hy0
    have hm0 : m = 0 := by
      simp only [List.length_nil] at hyl
      rcases Nat.mul_eq_zero.1 hyl.symm with h0 | h0
      · exact h0
      · omega
    subst hm0
    exact ⟨_, _, app_nil ht hi ho rfl, k S v w h (by simpa using ho)⟩
  | some a =>
    have hown : w.ownsRow 0 e size v n xs := by
      obtain ⟨hl, ⟨rfl, rfl, rfl⟩ | ⟨g, cap, l, rfl, rfl, hc, hm, hlen, hx⟩⟩ := ho
      · exact ⟨hl, .inl ⟨rfl, rfl⟩⟩
      · exact ⟨hl, .inr ⟨g, cap, l.toArray, rfl, Nat.zero_le _, h.mem _ _ (List.mem_append_left _ (List.mem_append_right _ List.mem_cons_self)), hc, hm, by simpa using hlen, by simpa using hx⟩⟩
    have one : ∀ u ∈ ys, u.oneCell' = true := fun u hu => by
      have := List.all_eq_true.1 hp u hu
      cases u <;> first | rfl | cases this
    obtain ⟨v', w', hr, hown', hgr, hnil, hblk⟩ := run_append_own_at (P := P) w 0 t ty e i z size bytes ht hi hz hsize hby hzs hsz v n xs hown a m c ys hyl
      (fun j u hj => by obtain ⟨p, hp, hc⟩ := hcell j u hj; cases hp; exact h.cell (hc.mono hH)) one h63 hbytes (Nat.zero_le _)
    refine ⟨_, _, hr, ?_⟩
    have others : ∀ b o, (b, o) ∈ A ++ C → w'.heap[b]? = some o := fun b o hm => by
      have hm' : (b, o) ∈ A ++ S ++ C := by
        rcases List.mem_append.1 hm with h1 | h1
        · exact List.mem_append_left _ (List.mem_append_left _ h1)
        · exact List.mem_append_right _ h1
      rw [← h.mem b o hm']
      refine hgr.block b (h.lt hm') ?_
      intro hb
      obtain ⟨hl, ⟨rfl, rfl, rfl⟩ | ⟨g, cap, l, rfl, rfl, hc, hm2, hlen, hx⟩⟩ := ho
      · simp [Value.ownBlock] at hb
      · have hb : b = g := by simpa [Value.ownBlock] using hb
        have h2 : Ow B w (A ++ (g, cel l e) :: C) := by simpa using h
        exact h2.ne hm hb
    have ndAC : ((A ++ C).map Prod.fst).Nodup := by
      refine h.nd.sublist (List.Sublist.map _ ?_)
      rw [List.append_assoc]
      exact List.Sublist.append_left (List.sublist_append_right _ _) _
    obtain ⟨hl', ⟨rfl, hn0⟩ | ⟨g', cap', cur', rfl, _, hg', hc', hm', hlen', hx'⟩⟩ := hown'
    · refine k [] _ w' ⟨hgr.os.trans h.os, hgr.tape.trans h.tape, hgr.output.trans h.output, fun b o hm => others b o (by simpa using hm), by simpa using ndAC⟩ ⟨hl', .inl ⟨rfl, rfl, hn0⟩⟩
    · refine k [(g', cel cur'.toList e)] _ w' ⟨hgr.os.trans h.os, hgr.tape.trans h.tape, hgr.output.trans h.output, fun b o hm => ?_, ?_⟩ ⟨hl', .inr ⟨g', cap', cur'.toList, rfl, rfl, hc', hm', by simpa using hlen', hx'⟩⟩
      · simp only [List.append_assoc, List.cons_append, List.nil_append, List.mem_append, List.mem_cons] at hm
        rcases hm with h1 | h1 | h1
        · exact others b o (List.mem_append_left _ h1)
        · cases h1; simpa using hg'
        · exact others b o (List.mem_append_right _ h1)
      · have hnew : g' ∉ (A ++ C).map Prod.fst := by
          intro hmem
          obtain ⟨p, hp', he⟩ := List.mem_map.1 hmem
          obtain ⟨b, o⟩ := p
          simp only at he
          subst he
          have hm2 : (b, o) ∈ A ++ S ++ C := by
            rcases List.mem_append.1 hp' with h1 | h1
            · exact List.mem_append_left _ (List.mem_append_left _ h1)
            · exact List.mem_append_right _ h1
          rcases hblk with hb | hb
          · simp only [Value.ownBlock] at hb
            obtain ⟨hl, ⟨rfl, rfl, rfl⟩ | ⟨g, cap, l, rfl, rfl, hc, hm3, hlen, hx⟩⟩ := ho
            · simp [Value.ownBlock] at hb
            · simp only [Value.ownBlock, Option.some.injEq] at hb
              have h2 : Ow B w (A ++ (g, cel l e) :: C) := by simpa using h
              exact h2.ne hp' hb
          · simp only [Value.ownBlock, Option.some.injEq] at hb
            have := h.lt hm2
            omega
        have : (A ++ [(g', cel cur'.toList e)] ++ C).Perm ((g', cel cur'.toList e) :: (A ++ C)) := by
          rw [List.append_assoc]; exact List.perm_middle
        rw [(this.map Prod.fst).nodup_iff]
        simp only [List.map_cons, List.nodup_cons]
        exact ⟨hnew, ndAC⟩

/-- make. -/
theorem mkW_rule {H : Hp} {size bytes n m : Nat} {z : Value} {zo : Option Value} {kd kd' : IntKind} {l c : Value} (h : Ow B w H) (hz : zo = some z) (hl : l = .int kd n) (hc : c = .int kd' m) (hnm : n ≤ m) (hm : m < 2 ^ 48) (hb : bytes * m ≤ 2 ^ 48)
    (k : ∀ b w', Ow B w' ((b, cel ((List.range (m * size)).map (z.cells[· % z.cells.size]!)) e) :: H) → KW (.slice (some ⟨b, 0, none⟩) n m) w') : mkW e size bytes zo l c KW w := by
  refine ⟨z, kd, kd', n, m, hz, hl, hc, hnm, hm, hb, ?_⟩
  have he : (Array.range (m * size)).map (z.cells[· % z.cells.size]!) = ((List.range (m * size)).map (z.cells[· % z.cells.size]!)).toArray := by
    apply Array.ext'
    simp [Array.toList_range]
  rw [he]
  exact k _ _ (h.alloc _)
theorem zeros_one {z : Value} (hz : z.cells = #[z]) (m : Nat) : (List.range (m * 1)).map (z.cells[· % z.cells.size]!) = List.replicate m z := by
  rw [hz]
  apply List.ext_getElem
  · simp
  · intro i h1 h2
    simp [Nat.mod_one]
end
end Go.Proofs.YtkkkcafkepnecaaGreat.Vc
