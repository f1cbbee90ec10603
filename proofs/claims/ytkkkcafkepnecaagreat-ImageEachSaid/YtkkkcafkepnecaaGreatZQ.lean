/- The reference of instructions and programs: what may be. -/
import Derived.Test.YtkkkcafkepnecaaGreatZD
import Derived.Test.YtkkkcafkepnecaaGreatFQ

set_option linter.unusedVariables false
set_option linter.unusedSimpArgs false
namespace Go.Proofs.YtkkkcafkepnecaaGreat.Ar
end Go.Proofs.YtkkkcafkepnecaaGreat.Ar
namespace Go.Proofs.YtkkkcafkepnecaaGreat
open Go Go.RowKit Vc Ar
attribute [local irreducible] binV Op.unary convert nlW faW ldS ldW ixS ixA ixV exW lnS pu stW alW opW opU bsW mkW

section
variable {B w : World} {H X F Q R : Hp} {K : Value → World → Prop} {PK : List PanicEntry → World → Prop} {KK : Value → Prop} {p : Pr} {i : Ins} {f : Fun} {v : Value}
abbrev vU' (n : Int) : Value := .int .u32 n
theorem ok_nn' {i : Ins} (h : okI i = true) : 1 ≤ i.op ∧ i.op ≤ 19 ∧ 0 ≤ i.a ∧ 0 ≤ i.b ∧ 0 ≤ i.c := by
  unfold okI at h
  rw [Bool.and_eq_true, Bool.and_eq_true] at h
  have := of_decide_eq_true h.1.1
  exact ⟨this.1, this.2.1, this.2.2.1, this.2.2.2.1, this.2.2.2.2.1⟩
theorem ixT_at {l : List Nat} {n : Nat} {x : Nat} {kd : IntKind} (hb : Byt l) (hx : l[n]? = some x) (k : KK (v8 x)) : ixT (.string (bs l)) (.int kd n) KK := by
  have hlt := (List.getElem?_eq_some_iff.1 hx).1
  have hxb := hb x (List.mem_of_getElem? hx)
  refine ⟨bs l, kd, n, UInt8.ofNat x, rfl, rfl, by omega, ?_, ?_⟩
  · have hs : n < (bs l).size := by rw [bs_size]; exact hlt
    have h2 : (bs l).data[n]? = some (UInt8.ofNat x) := by
      simp [bs, hx]
    rw [Int.toNat_natCast, getElem?_pos (bs l) n hs]
    have : (bs l)[n] = (bs l).data[n]'hs := rfl
    rw [this, ← h2]
    exact (Array.getElem?_eq_getElem hs).symm
  · have : (UInt8.ofNat x).toNat = x := by simp [UInt8.toNat_ofNat', Nat.mod_eq_of_lt hxb]
    rw [this]; exact k
theorem ln_bs {l : List Nat} (k : KK (vI l.length)) : lnT (.string (bs l)) KK := by
  refine lnT_rule ?_
  rw [bs_size]; exact k
attribute [local irreducible] ixT lnT
/-- What an Op names, by letters. -/
def nmC (op : Int) : List Nat := if op < 1 ∨ op > 19 then [45] else [[97, 105], [97, 98], [97, 98, 99, 107], [105], [97, 105], [97, 98], [97, 98], [97, 98, 110, 102], [97], [98, 110, 102], [97], [97], [97], [97], [97], [97], [97, 98], [97], []].getD (op - 1).toNat []
def nmT : List (List Nat) := [[97, 105], [97, 98], [97, 98, 99, 107], [105], [97, 105], [97, 98], [97, 98], [97, 98, 110, 102], [97], [98, 110, 102], [97], [97], [97], [97], [97], [97], [97, 98], [97], []]
theorem nmT_byt : ∀ l ∈ nmT, Byt l := by
  have : (nmT.all fun l => l.all fun x => decide (x < 256)) = true := by decide
  intro l hl x hx
  exact of_decide_eq_true (List.all_eq_true.1 (List.all_eq_true.1 this l hl) x hx)
theorem nmC_byt (op : Int) : Byt (nmC op) := by
  unfold nmC
  split
  · intro x hx; rw [List.mem_singleton.1 hx]; omega
  · show Byt (nmT.getD (op - 1).toNat [])
    rw [List.getD]
    cases h : nmT[(op - 1).toNat]? with
    | none => exact fun x hx => by cases hx
    | some l => exact nmT_byt l (List.mem_of_getElem? h)
theorem names08_spec {op : Int} (h : Ow B w H) (k : ∀ w', Ow B w' H → K (.string (bs (nmC op))) w') : callW PG N.linesmanref08_Names [vI op] K PK w := by
  refine linesmanref08_Names.ok ?_
  unfold linesmanref08_Names.C
  repeat (first | refine pu_not ?_ | refine pu_eql ?_ | refine pu_neq ?_ | refine pu_lss ?_ | refine pu_leq ?_ | refine pu_gtr ?_ | refine pu_geq ?_ | refine pu_add ?_ | refine pu_sub ?_ | refine pu_mul ?_ | refine pu_neg ?_ | refine fa_at ?_ | refine nl_ptr ?_ | refine ex20 ?_ | refine ex21 ?_ | refine ex30 ?_ | refine ex31 ?_ | refine ex32 ?_ | refine ln_rule ?_ | refine lnT_rule ?_ | refine pu_and ?_ | refine pu_or ?_ | refine pu_xor ?_ | refine pu_seq ?_ | refine pu_sne ?_)
  refine cnd (fun hq => ?_) (fun hq => ?_)
  · have hq : op < 1 := by simpa using hq
    have : nmC op = [45] := by unfold nmC; rw [if_pos (.inl hq)]
    rw [this] at k
    exact k _ h
  have hq : 1 ≤ op := by simpa using hq
  repeat (first | refine pu_not ?_ | refine pu_eql ?_ | refine pu_neq ?_ | refine pu_lss ?_ | refine pu_leq ?_ | refine pu_gtr ?_ | refine pu_geq ?_ | refine pu_add ?_ | refine pu_sub ?_ | refine pu_mul ?_ | refine pu_neg ?_ | refine fa_at ?_ | refine nl_ptr ?_ | refine ex20 ?_ | refine ex21 ?_ | refine ex30 ?_ | refine ex31 ?_ | refine ex32 ?_ | refine ln_rule ?_ | refine lnT_rule ?_ | refine pu_and ?_ | refine pu_or ?_ | refine pu_xor ?_ | refine pu_seq ?_ | refine pu_sne ?_)
  refine cnd (fun hr => ?_) (fun hr => ?_)
  · have hr : op > 19 := by simpa using hr
    have : nmC op = [45] := by unfold nmC; rw [if_pos (.inr hr)]
    rw [this] at k
    exact k _ h
  have hr : op ≤ 19 := by simpa using hr
  refine bs_rule h (nmT.map fun l => .string (bs l)) (by kernel_rfl) (fun b w1 h1 => ?_)
  repeat (first | refine pu_not ?_ | refine pu_eql ?_ | refine pu_neq ?_ | refine pu_lss ?_ | refine pu_leq ?_ | refine pu_gtr ?_ | refine pu_geq ?_ | refine pu_add ?_ | refine pu_sub ?_ | refine pu_mul ?_ | refine pu_neg ?_ | refine fa_at ?_ | refine nl_ptr ?_ | refine ex20 ?_ | refine ex21 ?_ | refine ex30 ?_ | refine ex31 ?_ | refine ex32 ?_ | refine ln_rule ?_ | refine lnT_rule ?_ | refine pu_and ?_ | refine pu_or ?_ | refine pu_xor ?_ | refine pu_seq ?_ | refine pu_sne ?_)
  rw [wrap64_in (by omega) (by omega)]
  have hi : (op - 1).toNat < nmT.length := by show _ < 19; omega
  have hg : (nmT.map fun l => Value.string (bs l))[(op - 1).toNat]? = some (.string (bs (nmC op))) := by
    rw [List.getElem?_map, List.getElem?_eq_getElem hi]
    unfold nmC
    rw [if_neg (by omega)]
    show some (Value.string (bs nmT[(op - 1).toNat])) = some (Value.string (bs (nmT.getD (op - 1).toNat [])))
    rw [List.getD, List.getElem?_eq_getElem hi]; rfl
  refine sl_ld h1 (sl_here (l := nmT.map fun l => .string (bs l)) (.head _)) (by omega) hg ?_
  exact k _ h1.drop
def in08 (op : Int) (c : Nat) : Bool := decide (c ∈ nmC op)
theorem in08_spec {op : Int} {c : Nat} (hc : c < 256) (h : Ow B w H) (k : ∀ w', Ow B w' H → K (vB (in08 op c)) w') : callW PG N.linesmanref08_in [vI op, v8 c] K PK w := by
  refine linesmanref08_in.ok ?_
  unfold linesmanref08_in.C
  refine names08_spec h (fun w1 h1 => ?_)
  have hb := nmC_byt op
  have hln : (nmC op).length ≤ 10 := by
    unfold nmC
    split
    · simp
    · show (nmT.getD (op - 1).toNat []).length ≤ 10
      rw [List.getD]
      cases h : nmT[(op - 1).toNat]? with
      | none => simp
      | some l =>
        have : (nmT.all fun l => decide (l.length ≤ 10)) = true := by decide
        exact of_decide_eq_true (List.all_eq_true.1 this l (List.mem_of_getElem? h))
  generalize hl : nmC op = l at *
  refine ⟨fun t w => ∃ n : Nat, t = [vI n] ∧ n ≤ l.length ∧ (∀ j, j < n → l[j]? ≠ some c) ∧ Ow B w H, fun t _ => match t with | [.int _ n] => l.length - n.toNat | _ => 0, ⟨0, rfl, Nat.zero_le _, fun j hj => absurd hj (by omega), h1⟩, ?_⟩
  rintro t w2 ⟨n, rfl, hn, hall, h2⟩ j
  refine ln_bs ?_
  repeat (first | refine pu_not ?_ | refine pu_eql ?_ | refine pu_neq ?_ | refine pu_lss ?_ | refine pu_leq ?_ | refine pu_gtr ?_ | refine pu_geq ?_ | refine pu_add ?_ | refine pu_sub ?_ | refine pu_mul ?_ | refine pu_neg ?_ | refine fa_at ?_ | refine nl_ptr ?_ | refine ex20 ?_ | refine ex21 ?_ | refine ex30 ?_ | refine ex31 ?_ | refine ex32 ?_ | refine ln_rule ?_ | refine lnT_rule ?_ | refine pu_and ?_ | refine pu_or ?_ | refine pu_xor ?_ | refine pu_seq ?_ | refine pu_sne ?_)
  refine cnd (fun hlt => ?_) (fun hlt => ?_)
  · have hlt : n < l.length := by simpa using hlt
    refine ixT_at hb (List.getElem?_eq_getElem hlt) ?_
    repeat (first | refine pu_not ?_ | refine pu_eql ?_ | refine pu_neq ?_ | refine pu_lss ?_ | refine pu_leq ?_ | refine pu_gtr ?_ | refine pu_geq ?_ | refine pu_add ?_ | refine pu_sub ?_ | refine pu_mul ?_ | refine pu_neg ?_ | refine fa_at ?_ | refine nl_ptr ?_ | refine ex20 ?_ | refine ex21 ?_ | refine ex30 ?_ | refine ex31 ?_ | refine ex32 ?_ | refine ln_rule ?_ | refine lnT_rule ?_ | refine pu_and ?_ | refine pu_or ?_ | refine pu_xor ?_ | refine pu_seq ?_ | refine pu_sne ?_)
    refine cnd (fun he => ?_) (fun he => ?_)
    · have he : l[n] = c := by simp at he; omega
      have : in08 op c = true := by
        unfold in08
        rw [hl]
        exact decide_eq_true (by rw [← he]; exact List.getElem_mem hlt)
      rw [this] at k
      exact k _ h2
    · have he : ¬ l[n] = c := by simp at he; omega
      repeat (first | refine pu_not ?_ | refine pu_eql ?_ | refine pu_neq ?_ | refine pu_lss ?_ | refine pu_leq ?_ | refine pu_gtr ?_ | refine pu_geq ?_ | refine pu_add ?_ | refine pu_sub ?_ | refine pu_mul ?_ | refine pu_neg ?_ | refine fa_at ?_ | refine nl_ptr ?_ | refine ex20 ?_ | refine ex21 ?_ | refine ex30 ?_ | refine ex31 ?_ | refine ex32 ?_ | refine ln_rule ?_ | refine lnT_rule ?_ | refine pu_and ?_ | refine pu_or ?_ | refine pu_xor ?_ | refine pu_seq ?_ | refine pu_sne ?_)
      rw [wrap64_in (by omega) (by omega)]
      refine ⟨⟨n + 1, rfl, hlt, fun j hj => ?_, h2⟩, by simp; omega⟩
      rcases Nat.lt_succ_iff_lt_or_eq.1 hj with hj | rfl
      · exact hall j hj
      · rw [List.getElem?_eq_getElem hlt]
        exact fun h => he (Option.some.inj h)
  · obtain rfl : n = l.length := by simp at hlt; omega
    have : in08 op c = false := by
      unfold in08
      rw [hl]
      refine decide_eq_false fun hm => ?_
      obtain ⟨j, hj, e⟩ := List.getElem_of_mem hm
      exact hall j hj (by rw [List.getElem?_eq_getElem hj, e])
    rw [this] at k
    exact k _ h2
def reg08 (n : Int) (named : Bool) : Bool := decide (n = 0) || (named && (decide (0 ≤ n) && decide (n ≤ 15)))
theorem reg08_spec {n : Int} {c : Bool} (h : Ow B w H) (k : ∀ w', Ow B w' H → K (vB (reg08 n c)) w') : callW PG N.linesmanref08_reg [vI n, vB c] K PK w := by
  refine linesmanref08_reg.ok ?_
  unfold linesmanref08_reg.C
  unfold reg08 at k
  repeat (first | refine pu_not ?_ | refine pu_eql ?_ | refine pu_neq ?_ | refine pu_lss ?_ | refine pu_leq ?_ | refine pu_gtr ?_ | refine pu_geq ?_ | refine pu_add ?_ | refine pu_sub ?_ | refine pu_mul ?_ | refine pu_neg ?_ | refine fa_at ?_ | refine nl_ptr ?_ | refine ex20 ?_ | refine ex21 ?_ | refine ex30 ?_ | refine ex31 ?_ | refine ex32 ?_ | refine ln_rule ?_ | refine lnT_rule ?_ | refine pu_and ?_ | refine pu_or ?_ | refine pu_xor ?_ | refine pu_seq ?_ | refine pu_sne ?_)
  refine cnd (fun hq => ?_) (fun hq => ?_)
  · have hq : n = 0 := by simpa using hq
    rw [decide_eq_true hq, Bool.true_or] at k
    exact k _ h
  have hq : ¬ n = 0 := by simpa using hq
  rw [decide_eq_false hq, Bool.false_or] at k
  cases c
  · exact cnd_f rfl (k _ h)
  refine cnd_t rfl ?_
  rw [Bool.true_and] at k
  repeat (first | refine pu_not ?_ | refine pu_eql ?_ | refine pu_neq ?_ | refine pu_lss ?_ | refine pu_leq ?_ | refine pu_gtr ?_ | refine pu_geq ?_ | refine pu_add ?_ | refine pu_sub ?_ | refine pu_mul ?_ | refine pu_neg ?_ | refine fa_at ?_ | refine nl_ptr ?_ | refine ex20 ?_ | refine ex21 ?_ | refine ex30 ?_ | refine ex31 ?_ | refine ex32 ?_ | refine ln_rule ?_ | refine lnT_rule ?_ | refine pu_and ?_ | refine pu_or ?_ | refine pu_xor ?_ | refine pu_seq ?_ | refine pu_sne ?_)
  refine cnd (fun h0 => ?_) (fun h0 => ?_)
  · have h0 : 0 ≤ n := by simpa using h0
    rw [decide_eq_true h0, Bool.true_and] at k
    repeat (first | refine pu_not ?_ | refine pu_eql ?_ | refine pu_neq ?_ | refine pu_lss ?_ | refine pu_leq ?_ | refine pu_gtr ?_ | refine pu_geq ?_ | refine pu_add ?_ | refine pu_sub ?_ | refine pu_mul ?_ | refine pu_neg ?_ | refine fa_at ?_ | refine nl_ptr ?_ | refine ex20 ?_ | refine ex21 ?_ | refine ex30 ?_ | refine ex31 ?_ | refine ex32 ?_ | refine ln_rule ?_ | refine lnT_rule ?_ | refine pu_and ?_ | refine pu_or ?_ | refine pu_xor ?_ | refine pu_seq ?_ | refine pu_sne ?_)
    exact k _ h
  · have h0 : ¬ 0 ≤ n := by simpa using h0
    rw [decide_eq_false h0, Bool.false_and] at k
    exact k _ h
/-- The reference's Right. -/
def right08 (i : Ins) : Bool := decide (1 ≤ i.op ∧ i.op ≤ 19) && (reg08 i.a (in08 i.op 97) && (reg08 i.b (in08 i.op 98) &&
  (if in08 i.op 110 = true then decide (0 ≤ i.c) && (decide (i.c ≤ 16) && (decide (i.b + i.c ≤ 16) && decide (i.imm < 32))) else if in08 i.op 107 = true then reg08 i.c true && (decide (1 ≤ i.imm) && decide (i.imm ≤ 12))
  else if i.c ≠ 0 then false else if i.op = 4 ∨ i.op = 5 then decide (i.imm < 512) else (decide (i.imm = 0) || in08 i.op 105))))
theorem right08_eq : ∀ i : Ins, 0 ≤ i.imm → i.imm < 4294967296 → right08 i = okI i := by
  rintro ⟨op, a, b, c, imm⟩ h0 h1
  simp only at h0 h1
  by_cases hop : 1 ≤ op ∧ op ≤ 19
  · have : op = 1 ∨ op = 2 ∨ op = 3 ∨ op = 4 ∨ op = 5 ∨ op = 6 ∨ op = 7 ∨ op = 8 ∨ op = 9 ∨ op = 10 ∨ op = 11 ∨ op = 12 ∨ op = 13 ∨ op = 14 ∨ op = 15 ∨ op = 16 ∨ op = 17 ∨ op = 18 ∨ op = 19 := by omega
    rcases this with rfl | rfl | rfl | rfl | rfl | rfl | rfl | rfl | rfl | rfl | rfl | rfl | rfl | rfl | rfl | rfl | rfl | rfl | rfl <;>
      (rw [Bool.eq_iff_iff]; simp [right08, okI, reg08, in08, nmC, nmd, puts, Pk.put, Pk.get, bare]; omega)
  · have h2 : right08 ⟨op, a, b, c, imm⟩ = false := by
      unfold right08
      rw [decide_eq_false hop]; rfl
    have h3 : okI ⟨op, a, b, c, imm⟩ = false := by
      unfold okI
      rw [decide_eq_false fun h => hop ⟨h.1, h.2.1⟩]; rfl
    rw [h2, h3]
end
end Go.Proofs.YtkkkcafkepnecaaGreat

