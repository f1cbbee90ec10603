/- Numbers of functions and types. -/
import Derived.Test.YtkkkcafkepnecaaGreatZA
import Derived.Test.YtkkkcafkepnecaaGreatProg
import Derived.OpenShut
import Derived.ShutString
import Derived.ChangeOld
import Derived.Carry
import Derived.Deep.Slices
import Derived.SizedLaws

namespace Go.Proofs.YtkkkcafkepnecaaGreat
open Go Go.RowKit Vc
noncomputable abbrev PG : Program := Tryz.prog
theorem mixed : PG.follows .mixedOrders = true := by kernel_rfl
namespace N
abbrev linesmanlaw10_ImageSealed : FuncId := 4
abbrev linesmanlaw10_ImageEncodes : FuncId := 5
abbrev linesmanlaw10_ImageEach : FuncId := 7
abbrev linesmanlaw10_works : FuncId := 17
abbrev linesmanref10_Sealed : FuncId := 18
abbrev image_Decode : FuncId := 19
abbrev linesmanref10_Decode : FuncId := 20
abbrev linesmanref09_Same : FuncId := 21
abbrev linesmanlaw10_num : FuncId := 22
abbrev linesmanlaw10_few : FuncId := 23
abbrev image_Encode : FuncId := 24
abbrev image_Len : FuncId := 25
abbrev linesmanref10_Encode : FuncId := 26
abbrev image_Is : FuncId := 27
abbrev linesmanref09_Right : FuncId := 28
abbrev linesmanref09_Len : FuncId := 36
abbrev linesmanref10_First : FuncId := 37
abbrev image_Each : FuncId := 38
abbrev program_Check : FuncId := 57
abbrev linesmanref01_Fixed : FuncId := 64
abbrev linesmanref02_Of : FuncId := 65
abbrev image_first : FuncId := 66
abbrev image_begins : FuncId := 67
abbrev image_writer_byte : FuncId := 68
abbrev image_each_int : FuncId := 69
abbrev image_writer_number : FuncId := 70
abbrev instr_Bytes : FuncId := 71
abbrev digest_Of : FuncId := 72
abbrev linesmanref10_Bare : FuncId := 73
abbrev linesmanref09_Wrong : FuncId := 74
abbrev linesmanref09_numbers : FuncId := 75
abbrev linesmanref10_Reader_program : FuncId := 89
abbrev slices_Clone_sl_byte_byte : FuncId := 90
abbrev image_Each_1 : FuncId := 91
abbrev image_every : FuncId := 92
abbrev program_numbers : FuncId := 105
abbrev program_Wrong : FuncId := 106
abbrev linesmanref01_right : FuncId := 109
abbrev image_caught : FuncId := 110
abbrev image_first_1 : FuncId := 111
abbrev image_reader_program : FuncId := 112
abbrev octet_Fixed : FuncId := 113
abbrev instr_Check : FuncId := 114
abbrev instr_named : FuncId := 115
abbrev digest_New : FuncId := 116
abbrev digest_Digest_Write : FuncId := 117
abbrev digest_Digest_Sum : FuncId := 118
abbrev linesmanref08_Bytes : FuncId := 119
abbrev linesmanref09_fine : FuncId := 120
abbrev instr_right : FuncId := 132
abbrev instr_among_api_Op : FuncId := 133
abbrev linesmanref10_Reader_number : FuncId := 137
abbrev linesmanref10_Reader_ins : FuncId := 138
abbrev image_every_1 : FuncId := 139
abbrev program_within : FuncId := 147
abbrev program_every : FuncId := 148
abbrev program_place_fine : FuncId := 149
abbrev image_must : FuncId := 150
abbrev image_reader_byte : FuncId := 151
abbrev image_reader_number : FuncId := 152
abbrev image_reader_ins : FuncId := 153
abbrev octet_right : FuncId := 154
abbrev instr_first : FuncId := 155
abbrev instr_second : FuncId := 156
abbrev instr_imm : FuncId := 157
abbrev instr_third : FuncId := 158
abbrev instr_many : FuncId := 159
abbrev digest_table_fill : FuncId := 160
abbrev digest_Digest_none : FuncId := 161
abbrev digest_folded_uint64_byte : FuncId := 162
abbrev digest_table_step : FuncId := 163
abbrev linesmanref08_in : FuncId := 164
abbrev linesmanref08_Right : FuncId := 165
abbrev linesmanref08_Regs : FuncId := 166
abbrev linesmanref08_Leaves : FuncId := 167
abbrev instr_is : FuncId := 169
abbrev arith_Name : FuncId := 170
abbrev slices_Contains_sl_api_Op_api_Op : FuncId := 171
abbrev linesmanref01_ReadFixed : FuncId := 172
abbrev linesmanref08_Read : FuncId := 173
abbrev program_all_program_bound : FuncId := 177
abbrev program_within_1 : FuncId := 178
abbrev program_every_1 : FuncId := 179
abbrev program_place_fits : FuncId := 180
abbrev program_place_jumps : FuncId := 181
abbrev program_place_calls : FuncId := 182
abbrev program_place_ends : FuncId := 183
abbrev octet_ReadFixed : FuncId := 184
abbrev image_tape_from : FuncId := 185
abbrev instr_Read : FuncId := 186
abbrev octet_widths : FuncId := 187
abbrev octet_among_int : FuncId := 188
abbrev instr_first_1 : FuncId := 189
abbrev instr_first_2 : FuncId := 190
abbrev instr_second_1 : FuncId := 191
abbrev instr_second_2 : FuncId := 192
abbrev instr_imm_1 : FuncId := 193
abbrev instr_imm_2 : FuncId := 194
abbrev instr_third_1 : FuncId := 195
abbrev instr_third_2 : FuncId := 196
abbrev slices_Values_sl_byte_byte : FuncId := 197
abbrev linesmanref08_Names : FuncId := 198
abbrev linesmanref08_reg : FuncId := 199
abbrev arith_every : FuncId := 214
abbrev slices_Index_sl_api_Op_api_Op : FuncId := 215
abbrev slices_ContainsFunc_sl_program_bound_program_bound : FuncId := 217
abbrev program_all_program_bound_1 : FuncId := 218
abbrev program_place_ins : FuncId := 219
abbrev instr_Regs : FuncId := 220
abbrev instr_Leaves : FuncId := 221
abbrev instr_caught : FuncId := 222
abbrev instr_Read_1 : FuncId := 223
abbrev instr_reader_number : FuncId := 224
abbrev instr_must : FuncId := 225
abbrev slices_Contains_sl_int_int : FuncId := 226
abbrev slices_Values_sl_byte_byte_1 : FuncId := 227
abbrev arith_every_1 : FuncId := 228
abbrev arith_names : FuncId := 229
abbrev slices_IndexFunc_sl_program_bound_program_bound : FuncId := 230
abbrev instr_tape_left : FuncId := 231
abbrev slices_Index_sl_int_int : FuncId := 232
end N
namespace T
abbrev t_int : TypeId := 3
abbrev t_bool : TypeId := 4
abbrev t_uint8 : TypeId := 5
abbrev t_string : TypeId := 9
abbrev t_interface : TypeId := 20
abbrev t_sl_api_Func : TypeId := 22
abbrev t_api_Program : TypeId := 24
abbrev t_uint32 : TypeId := 30
abbrev t_api_Errno : TypeId := 32
abbrev t_sl_uint8 : TypeId := 42
abbrev t_sl_api_Ins : TypeId := 59
abbrev t_api_Func : TypeId := 61
abbrev t_api_Op : TypeId := 69
abbrev t_api_Ins : TypeId := 71
abbrev t_api_Site : TypeId := 73
abbrev t_sl_api_Program : TypeId := 79
abbrev t_sl_int : TypeId := 81
abbrev t_iter_Seq2_int_linesman_api_Program : TypeId := 85
abbrev t_uint64 : TypeId := 130
abbrev t_image_writer : TypeId := 136
abbrev t_4_uint8 : TypeId := 137
abbrev t_linesmanref10_Reader : TypeId := 162
abbrev t_func_int_api_Program_bool : TypeId := 165
abbrev t_image_tape : TypeId := 182
abbrev t_image_reader : TypeId := 184
abbrev t_sl_instr_part : TypeId := 187
abbrev t_instr_part : TypeId := 192
abbrev t_ptr_digest_Digest : TypeId := 194
abbrev t_api_Arith : TypeId := 205
abbrev t_program_bound : TypeId := 217
abbrev t_sl_program_bound : TypeId := 218
abbrev t_program_place : TypeId := 224
abbrev t_map_api_Op_sl_instr_part : TypeId := 228
abbrev t_digest_Digest : TypeId := 232
abbrev t_func_uint64_uint8_uint64 : TypeId := 234
abbrev t_func_program_bound_bool_2 : TypeId := 259
abbrev t_4_func_bool : TypeId := 261
abbrev t_4_int : TypeId := 267
abbrev t_instr_tape : TypeId := 286
abbrev t_instr_reader : TypeId := 288
abbrev t_12_string : TypeId := 293
end T
end Go.Proofs.YtkkkcafkepnecaaGreat

/-! From an argument's reading to what the walks hold of memory, and back to a row's end. -/
set_option linter.unusedVariables false
set_option linter.unusedSimpArgs false
namespace Go.Proofs.YtkkkcafkepnecaaGreat.Vc
open Go Go.RowKit Go.ChangeShapes Go.WideShapes

/-- All blocks of a world. -/
def blocks (W : World) : Hp := (List.range W.heap.size).map fun b => (b, W.heap.getD b (.cells #[] 0))
theorem mem_blocks {W : World} {b : Nat} {o : Obj} : (b, o) ∈ blocks W ↔ W.heap[b]? = some o := by
  simp only [blocks, List.mem_map, List.mem_range, Prod.mk.injEq]
  constructor
  · rintro ⟨a, ha, rfl, rfl⟩
    simp [ha]
  · intro h
    obtain ⟨hb, he⟩ := Array.getElem?_eq_some_iff.1 h
    exact ⟨b, hb, rfl, by simp [hb, he]⟩
theorem ow_blocks (W : World) : Ow W W (blocks W) where
  os := rfl
  tape := rfl
  output := rfl
  mem := fun b o h => mem_blocks.1 h
  nd := by
    have : (blocks W).map Prod.fst = List.range W.heap.size := by
      simp only [blocks, List.map_map]
      exact List.map_id _
    rw [this]; exact List.nodup_range
theorem below_of {W W' : World} (h : Ow W W' (blocks W)) : Below W.heap.size W W' where
  os := h.os
  tape := h.tape
  output := h.output
  size := by
    by_cases h0 : W.heap.size = 0
    · omega
    · have := h.lt (b := W.heap.size - 1) (mem_blocks.2 (by rw [Array.getElem?_eq_getElem (by omega)]))
      omega
  block := fun k hk => by
    rw [h.mem k W.heap[k] (mem_blocks.2 (by simp [hk]))]
    simp [hk]
theorem cell_blocks {W : World} {p : Addr} {v : Value} (h : W.cell? p = some v) : Cell (blocks W) p v := by
  unfold World.cell? at h
  split at h
  · rename_i c e fz hb
    split at h
    · cases h
    · rename_i hs
      exact ⟨c, e, fz, mem_blocks.2 hb, by simpa using hs, h⟩
  · cases h

/-! ### What lies at a type -/
inductive Fit (P : Program) (H : Hp) : TypeId → List Value → Prop
  | int {t : TypeId} {k : IntKind} {n : Int} : P.underlying t = some (.int k) → (Lit.int k n).wf = true → Fit P H t [.int k n]
  | bool {t : TypeId} {b : Bool} : P.underlying t = some .bool → Fit P H t [.bool b]
  | str {t : TypeId} {s : ByteArray} : P.underlying t = some .string → s.size ≤ maxLen → Fit P H t [.string s]
  | nil {t e : TypeId} : P.underlying t = some (.slice e) → Fit P H t [.slice none 0 0]
  | slice {t e : TypeId} {a : Addr} {len cap : Nat} (g : Nat → List Value) : P.underlying t = some (.slice e) → len ≤ cap → cap ≤ maxLen → (∀ i, i < len → (g i).length = P.cellsOf e) →
      (∀ i, i < len → ∀ j x, (g i)[j]? = some x → Cell H (a.add (i * P.cellsOf e + j)) x) → (∀ i, i < len → Fit P H e (g i)) → Fit P H t [.slice (some a) len cap]
  | struct {t : TypeId} {fs : Array Field} {cs : List Value} : P.underlying t = some (.struct fs) → cs.length = P.cellsOf t →
      (∀ (i : Nat) (f : Field), fs[i]? = some f → Fit P H f.type ((cs.drop f.offset).take (P.cellsOf f.type))) → Fit P H t cs
  | array {t e : TypeId} {n : Nat} {cs : List Value} : P.underlying t = some (.array n e) → cs.length = P.cellsOf t →
      (∀ i, i < n → Fit P H e ((cs.drop (i * P.cellsOf e)).take (P.cellsOf e))) → Fit P H t cs
def dataB (P : Program) : Nat → TypeId → Bool
  | 0, _ => false
  | n + 1, t => match P.underlying t with
    | some (.int _) => true
    | some .bool => true
    | some .string => true
    | some (.slice e) => dataB P n e
    | some (.struct fs) => fs.toList.all fun f => dataB P n f.type
    | some (.array _ e) => dataB P n e
    | _ => false

section
variable {H : Type} {enc : TypeId × Value → H} {P : Program} {w : World} {spare : Nat → Bool} {held : Bool}
theorem fit_of : ∀ (m fuel : Nat) (t : TypeId) (cs : List Value) (x : DataW H × List MemPlace), dataB P m t = true → DataW.trod enc P w 0 spare held fuel t cs = some x → Fit P (blocks w) t cs
  | 0, _, _, _, _, h, _ => by cases h
  | m + 1, fuel, t, cs, x, h, hx => by
    unfold dataB at h
    split at h
    · rename_i k ht
      obtain ⟨n, rfl, _, hw⟩ := DataW.trod_int ht hx
      exact .int ht hw
    · rename_i ht
      obtain ⟨b, rfl, _⟩ := DataW.trod_bool ht hx
      exact .bool ht
    · rename_i ht
      obtain ⟨s, rfl, _, hs⟩ := DataW.trod_string ht hx
      exact .str ht hs
    · rename_i e ht
      rcases DataW.trod_slice ht hx with ⟨rfl, _⟩ | ⟨a, len, cap, elems, rest, n, _, rfl, rfl, hb, hl, hm, hlen, hel, hsp, hns⟩
      · exact .nil ht
      · have each : ∀ i, i < len → ∃ cs', w.cells? 0 (a.add (i * P.cellsOf e)) (P.cellsOf e) = some cs' ∧ ∃ y, DataW.trod enc P w 0 spare held n e cs' = some y := by
          intro i hi
          have h1 := hel i hi
          rw [List.getElem?_eq_getElem (by omega)] at h1
          obtain ⟨cs', h2, h3⟩ := Option.bind_eq_some_iff.1 h1
          exact ⟨cs', h2, _, h3⟩
        obtain ⟨g, hg⟩ := Go.Deep.choose_lt each
        refine .slice g ht hl hm (fun i hi => ((World.cells?_some (hg i hi).1).2.1)) (fun i hi j v hj => ?_) (fun i hi => ?_)
        · have := (World.cells?_some (hg i hi).1).2.2 j (by have := (World.cells?_some (hg i hi).1).2.1; have := (List.getElem?_eq_some_iff.1 hj).1; omega)
          rw [Go.Deep.add_add] at this
          rw [hj] at this
          exact cell_blocks this
        · obtain ⟨y, hy⟩ := (hg i hi).2
          exact fit_of m _ _ _ _ h hy
    · rename_i fs ht
      obtain ⟨xs, n, _, _, hl, hxl, hf⟩ := DataW.trod_struct ht hx
      refine .struct ht hl fun i f hif => ?_
      have h1 := hf i f hif
      have hi : i < fs.size := (Array.getElem?_eq_some_iff.1 hif).1
      rw [List.getElem?_eq_getElem (by omega)] at h1
      refine fit_of m _ _ _ _ (List.all_eq_true.1 h f ?_) h1
      obtain ⟨_, rfl⟩ := Array.getElem?_eq_some_iff.1 hif
      simp
    · rename_i n e ht
      obtain ⟨xs, q, _, _, hl, hxl, hf⟩ := DataW.trod_array ht hx
      refine .array ht hl fun i hi => ?_
      have h1 := hf i hi
      rw [List.getElem?_eq_getElem (by omega)] at h1
      exact fit_of m _ _ _ _ h h1
    · cases h
/-- An argument: outer form and inner one. -/
def FitV (P : Program) (H : Hp) (t : TypeId) (v : Value) : Prop := Fit P H t v.cells.toList ∧ match P.underlying t with
  | some (.struct _) | some (.array _ _) => ∃ cs : List Value, v = .agg cs.toArray
  | _ => plainV v = true
theorem fitV_of {t : TypeId} {v : Value} {d : DataW H} {ps : List MemPlace} {b0 : Nat} (m : Nat) (hd : dataB P m t = true) (hv : Value.okWide P w .any b0 t v) (h : DataW.Trod enc P w 0 spare held t v d ps) : FitV P (blocks w) t v := by
  obtain ⟨fuel, h⟩ := h
  refine ⟨fit_of m _ _ _ _ hd h, ?_⟩
  split
  · rename_i fs ht
    simp only [Value.okWide, ht] at hv
    obtain ⟨cs, rfl, _⟩ := hv
    exact ⟨cs.toList, by simp⟩
  · rename_i n e ht
    simp only [Value.okWide, ht] at hv
    obtain ⟨cs, rfl, _⟩ := hv
    exact ⟨cs.toList, by simp⟩
  · rename_i hns hna
    cases m with
    | zero => cases hd
    | succ m =>
    unfold dataB at hd
    split at hd
    · rename_i k ht; obtain ⟨n, rfl⟩ := okWide_int ht hv; rfl
    · rename_i ht; obtain ⟨n, rfl⟩ := okWide_bool ht hv; rfl
    · rename_i ht; obtain ⟨n, rfl⟩ := okWide_string ht hv; rfl
    · rename_i e ht; obtain ⟨a, l, c, rfl⟩ := okWide_slice ht hv; rfl
    · rename_i fs ht; exact absurd ht (hns _)
    · rename_i n e ht; exact absurd ht (hna _ _)
    · cases hd
end

section
variable {P : Program} {H : Hp} {t : TypeId} {v : Value}
theorem plain_cells {v : Value} (h : plainV v = true) : v.cells = #[v] := by cases v <;> first | rfl | cases h
theorem Fit.of_int {k : IntKind} {cs : List Value} (ht : P.underlying t = some (.int k)) (h : Fit P H t cs) : ∃ n, cs = [.int k n] ∧ (Lit.int k n).wf = true := by
  cases h <;> simp_all
theorem Fit.of_bool {cs : List Value} (ht : P.underlying t = some .bool) (h : Fit P H t cs) : ∃ b, cs = [.bool b] := by
  cases h <;> simp_all
theorem Fit.of_str {cs : List Value} (ht : P.underlying t = some .string) (h : Fit P H t cs) : ∃ s, cs = [.string s] ∧ s.size ≤ maxLen := by
  cases h <;> simp_all
theorem Fit.of_struct {fs : Array Field} {cs : List Value} (ht : P.underlying t = some (.struct fs)) (h : Fit P H t cs) : cs.length = P.cellsOf t ∧ ∀ (i : Nat) (f : Field), fs[i]? = some f → Fit P H f.type ((cs.drop f.offset).take (P.cellsOf f.type)) := by
  cases h with
  | struct h1 h2 h3 => rw [ht] at h1; cases h1; exact ⟨h2, h3⟩
  | _ => simp_all
theorem Fit.of_array {n : Nat} {e : TypeId} {cs : List Value} (ht : P.underlying t = some (.array n e)) (h : Fit P H t cs) : cs.length = P.cellsOf t ∧ ∀ i, i < n → Fit P H e ((cs.drop (i * P.cellsOf e)).take (P.cellsOf e)) := by
  cases h with
  | array h1 h2 h3 => rw [ht] at h1; cases h1; exact ⟨h2, h3⟩
  | _ => simp_all
/-- A slice that is read, of elements of some cells. -/
def Sls (H : Hp) (v : Value) (size : Nat) (xs : List (List Value)) : Prop :=
  ∃ a cap, v = .slice a xs.length cap ∧ xs.length ≤ cap ∧ cap ≤ maxLen ∧ (∀ x ∈ xs, x.length = size) ∧ ∀ i x, xs[i]? = some x → ∃ p, a = some p ∧ ∀ j y, x[j]? = some y → Cell H (p.add (i * size + j)) y
theorem Fit.of_slice {e : TypeId} {cs : List Value} (ht : P.underlying t = some (.slice e)) (h : Fit P H t cs) : ∃ v xs, cs = [v] ∧ Sls H v (P.cellsOf e) xs ∧ (∀ x ∈ xs, Fit P H e x) := by
  cases h with
  | nil h1 => exact ⟨_, [], rfl, ⟨none, 0, rfl, Nat.zero_le _, Nat.zero_le _, by simp, by simp⟩, by simp⟩
  | @slice _ e' a len cap g h1 h2 h3 h4 h5 h6 =>
    rw [ht] at h1; cases h1
    refine ⟨_, (List.range len).map g, rfl, ⟨some a, cap, by simp, by simpa using h2, h3, ?_, fun i x hx => ⟨a, rfl, ?_⟩⟩, ?_⟩
    · intro x hx
      obtain ⟨i, hi, rfl⟩ := List.mem_map.1 hx
      exact h4 i (List.mem_range.1 hi)
    · simp only [List.getElem?_map, Option.map_eq_some_iff] at hx
      obtain ⟨i', hi', rfl⟩ := hx
      obtain ⟨hlt, rfl⟩ := List.getElem?_eq_some_iff.1 hi'
      simp only [List.length_range] at hlt
      simpa using h5 i hlt
    · intro x hx
      obtain ⟨i, hi, rfl⟩ := List.mem_map.1 hx
      exact h6 i (List.mem_range.1 hi)
  | _ h1 => rw [ht] at h1; cases h1
theorem FitV.cells1 {x : Value} (hp : plainV v = true) (h : v.cells.toList = [x]) : v = x := by
  rw [plain_cells hp] at h; simpa using h
theorem FitV.int {k : IntKind} (ht : P.underlying t = some (.int k)) (h : FitV P H t v) : ∃ n, v = .int k n ∧ (Lit.int k n).wf = true := by
  obtain ⟨h1, h2⟩ := h
  rw [ht] at h2
  obtain ⟨n, hc, hw⟩ := h1.of_int ht
  exact ⟨n, FitV.cells1 h2 hc, hw⟩
theorem FitV.bool (ht : P.underlying t = some .bool) (h : FitV P H t v) : ∃ b, v = .bool b := by
  obtain ⟨h1, h2⟩ := h
  rw [ht] at h2
  obtain ⟨n, hc⟩ := h1.of_bool ht
  exact ⟨n, FitV.cells1 h2 hc⟩
theorem FitV.str (ht : P.underlying t = some .string) (h : FitV P H t v) : ∃ s, v = .string s ∧ s.size ≤ maxLen := by
  obtain ⟨h1, h2⟩ := h
  rw [ht] at h2
  obtain ⟨n, hc, hw⟩ := h1.of_str ht
  exact ⟨n, FitV.cells1 h2 hc, hw⟩
theorem FitV.slice {e : TypeId} (ht : P.underlying t = some (.slice e)) (h : FitV P H t v) : ∃ xs, Sls H v (P.cellsOf e) xs ∧ ∀ x ∈ xs, Fit P H e x := by
  obtain ⟨h1, h2⟩ := h
  rw [ht] at h2
  obtain ⟨n, xs, hc, hw⟩ := h1.of_slice ht
  cases FitV.cells1 h2 hc
  exact ⟨xs, hw⟩
theorem FitV.struct {fs : Array Field} (ht : P.underlying t = some (.struct fs)) (h : FitV P H t v) : ∃ cs : List Value, v = .agg cs.toArray ∧ Fit P H t cs := by
  obtain ⟨h1, h2⟩ := h
  rw [ht] at h2
  obtain ⟨cs, rfl⟩ := h2
  exact ⟨cs, rfl, by simpa [Value.cells] using h1⟩
theorem FitV.array {n : Nat} {e : TypeId} (ht : P.underlying t = some (.array n e)) (h : FitV P H t v) : ∃ cs : List Value, v = .agg cs.toArray ∧ Fit P H t cs := by
  obtain ⟨h1, h2⟩ := h
  rw [ht] at h2
  obtain ⟨cs, rfl⟩ := h2
  exact ⟨cs, rfl, by simpa [Value.cells] using h1⟩
/-- Of numbers. -/
theorem FitV.ints {e : TypeId} {k : IntKind} (ht : P.underlying t = some (.slice e)) (he : P.underlying e = some (.int k)) (hc : P.cellsOf e = 1) (h : FitV P H t v) :
    ∃ xs : List Int, Sl H v (xs.map (.int k ·)) ∧ xs.length ≤ maxLen ∧ ∀ x ∈ xs, (Lit.int k x).wf = true := by
  obtain ⟨ys, ⟨a, cap, rfl, h1, h2, h3, h4⟩, hf⟩ := h.slice ht
  have hy : ∀ y ∈ ys, ∃ n, y = [.int k n] ∧ (Lit.int k n).wf = true := fun y hy => (hf y hy).of_int he
  let nm : List Value → Int := fun y => match y with | [.int _ n] => n | _ => 0
  have e1 : ∀ y ∈ ys, y = [.int k (nm y)] ∧ (Lit.int k (nm y)).wf = true := fun y hm => by
    obtain ⟨n, rfl, hw⟩ := hy y hm
    exact ⟨rfl, hw⟩
  refine ⟨ys.map nm, ⟨a, cap, by simp, by simpa using h1, fun i x hx => ?_⟩, by simpa using Nat.le_trans h1 h2, ?_⟩
  · simp only [List.map_map, List.getElem?_map, Option.map_eq_some_iff] at hx
    obtain ⟨y, hy, rfl⟩ := hx
    obtain ⟨p, hp, hcell⟩ := h4 i y hy
    refine ⟨p, hp, ?_⟩
    have := hcell 0 (.int k (nm y)) (by rw [(e1 y (List.mem_of_getElem? hy)).1]; rfl)
    rw [hc] at this
    simpa using this
  · intro x hx
    obtain ⟨y, hy, rfl⟩ := List.mem_map.1 hx
    exact (e1 y hy).2
end

/-- A walk's end as a row wants it. -/
theorem calls_of {P : Program} {f : FuncId} {args : List Value} {W : World} {as_ : Array Value} (ha : as_ = args.toArray)
    (h : ∀ (K : Value → World → Prop) (PK : List PanicEntry → World → Prop), (∀ w', Ow W w' (blocks W) → K (.bool true) w') → callW P f args K PK W) :
    Calls P f as_ W fun e W' => e = .returned (.bool true) ∧ Below W.heap.size W W' := by
  subst ha
  refine Calls.mono (h (fun v w' => v = .bool true ∧ Ow W w' (blocks W)) (fun _ _ => False) fun w' h' => ⟨rfl, h'⟩) fun e w' he => ?_
  cases e with
  | returned v => obtain ⟨rfl, ho⟩ := he; exact ⟨rfl, below_of ho⟩
  | panicked ch => exact he.elim
  | outgrown => exact he.elim
end Go.Proofs.YtkkkcafkepnecaaGreat.Vc

/-! Slices of structs that are read. -/
set_option linter.unusedVariables false
set_option linter.unusedSimpArgs false
namespace Go.Proofs.YtkkkcafkepnecaaGreat.Vc
open Go Go.RowKit
section
variable {P : Program} {B w : World} {H : Hp} {K : Value → Prop} {Q : World → Prop} {s : Value} {size : Nat} {xs : List (List Value)} {x : List Value} {n : Int} {kd : IntKind}
theorem Sls.mono {H' : Hp} (h : Sls H s size xs) (hs : ∀ x, x ∈ H → x ∈ H') : Sls H' s size xs := by
  obtain ⟨a, cap, hv, h1, h2, h3, h4⟩ := h
  exact ⟨a, cap, hv, h1, h2, h3, fun i x hx => let ⟨p, hp, hc⟩ := h4 i x hx; ⟨p, hp, fun j y hy => (hc j y hy).mono hs⟩⟩
theorem sls_ln {K : Value → Prop} (hs : Sls H s size xs) (k : K (vI xs.length)) : lnS s K := by
  obtain ⟨a, cap, rfl, _⟩ := hs
  exact k
theorem Sls.max (hs : Sls H s size xs) : xs.length ≤ maxLen := by
  obtain ⟨a, cap, rfl, h1, h2, _⟩ := hs
  omega
theorem sls_rd (hs : Sls H s size xs) (h0 : 0 ≤ n) (hv : xs[n.toNat]? = some x) : ∃ p : Addr, (∀ {K : Value → Prop}, K (.pointer (some p)) → ixS size s (.int kd n) K) ∧ ∀ w, Ow B w H → rdW (some size) (.pointer (some p)) w (.agg x.toArray) := by
  obtain ⟨a, cap, rfl, h1, h2, h3, h4⟩ := hs
  obtain ⟨p, rfl, hc⟩ := h4 _ _ hv
  have hlt := (List.getElem?_eq_some_iff.1 hv).1
  refine ⟨p.add (n.toNat * size), fun k => ixS_rule h0 (by omega) k, fun w hw => ⟨_, x, rfl, h3 x (List.mem_of_getElem? hv), fun i u hu => ?_, rfl⟩⟩
  rw [Go.Deep.add_add]
  exact hw.cell (hc i u hu)
theorem sls_lds (h : ∀ w, Q w → Ow B w H) (hs : Sls H s size xs) (h0 : 0 ≤ n) (hv : xs[n.toNat]? = some x) (k : K (.agg x.toArray)) : ixS size s (.int kd n) fun p => ldS (some size) p Q K := by
  obtain ⟨p, h1, h2⟩ := sls_rd (B := B) (kd := kd) hs h0 hv
  exact h1 ⟨_, fun w hw => h2 w (h w hw), k⟩
theorem sls_ld (h : Ow B w H) (hs : Sls H s size xs) (h0 : 0 ≤ n) (hv : xs[n.toNat]? = some x) (k : K (.agg x.toArray)) : ixS size s (.int kd n) fun p => ldW (some size) p w K := by
  obtain ⟨p, h1, h2⟩ := sls_rd (B := B) (kd := kd) hs h0 hv
  exact h1 ⟨_, h2 w h, k⟩
end
section
variable {P : Program} {H : Hp} {t : TypeId} {cs : List Value} {v : Value}
/-- A field: its type, its place, how many cells. -/
def fieldB (P : Program) (t : TypeId) (i : Nat) : Option (TypeId × Nat × Nat) := match P.underlying t with
  | some (.struct fs) => (fs[i]?).map fun f => (f.type, f.offset, P.cellsOf f.type)
  | _ => none
theorem Fit.field {i : Nat} {T : TypeId} {off n : Nat} (h : Fit P H t cs) (he : fieldB P t i = some (T, off, n)) : Fit P H T ((cs.drop off).take n) := by
  unfold fieldB at he
  split at he
  · rename_i fs ht
    obtain ⟨f, hf, hq⟩ := Option.map_eq_some_iff.1 he
    simp only [Prod.mk.injEq] at hq
    obtain ⟨rfl, rfl, rfl⟩ := hq
    exact (h.of_struct ht).2 i f hf
  · cases he
theorem Fit.len {n : Nat} (h : Fit P H t cs) (ha : agT P t = true) (hn : P.cellsOf t = n) : cs.length = n := by
  subst hn
  unfold agT at ha
  split at ha
  · rename_i fs ht; exact (h.of_struct ht).1
  · rename_i m e ht; exact (h.of_array ht).1
  · cases ha
theorem FitV.agg (h : FitV P H t v) (ha : agT P t = true) : ∃ cs : List Value, v = .agg cs.toArray ∧ Fit P H t cs := by
  unfold agT at ha
  split at ha
  · rename_i fs ht; exact h.struct ht
  · rename_i m e ht; exact h.array ht
  · cases ha
end
end Go.Proofs.YtkkkcafkepnecaaGreat.Vc

/-! What is handed in, and how large it is at most. -/
set_option linter.unusedVariables false
set_option linter.unusedSimpArgs false
namespace Go.Proofs.YtkkkcafkepnecaaGreat.Vc
open Go Go.RowKit

/-- As Fit; and no slice is larger than what may be reached. -/
inductive FitZ (P : Program) (H : Hp) : TypeId → List Value → Prop
  | int {t : TypeId} {k : IntKind} {n : Int} : P.underlying t = some (.int k) → (Lit.int k n).wf = true → FitZ P H t [.int k n]
  | bool {t : TypeId} {b : Bool} : P.underlying t = some .bool → FitZ P H t [.bool b]
  | str {t : TypeId} {s : ByteArray} : P.underlying t = some .string → s.size ≤ maxLen → FitZ P H t [.string s]
  | nil {t e : TypeId} : P.underlying t = some (.slice e) → FitZ P H t [.slice none 0 0]
  | slice {t e : TypeId} {a : Addr} {len cap : Nat} (g : Nat → List Value) : P.underlying t = some (.slice e) → len ≤ cap → cap ≤ maxLen → len * P.bytesOf e ≤ reachBytes → (∀ i, i < len → (g i).length = P.cellsOf e) →
      (∀ i, i < len → ∀ j x, (g i)[j]? = some x → Cell H (a.add (i * P.cellsOf e + j)) x) → (∀ i, i < len → FitZ P H e (g i)) → FitZ P H t [.slice (some a) len cap]
  | struct {t : TypeId} {fs : Array Field} {cs : List Value} : P.underlying t = some (.struct fs) → cs.length = P.cellsOf t →
      (∀ (i : Nat) (f : Field), fs[i]? = some f → FitZ P H f.type ((cs.drop f.offset).take (P.cellsOf f.type))) → FitZ P H t cs
  | array {t e : TypeId} {n : Nat} {cs : List Value} : P.underlying t = some (.array n e) → cs.length = P.cellsOf t →
      (∀ i, i < n → FitZ P H e ((cs.drop (i * P.cellsOf e)).take (P.cellsOf e))) → FitZ P H t cs
section
variable {H : Type} {enc : TypeId × Value → H} {P : Program} {w : World} {spare : Nat → Bool} {held : Bool}
end
section
variable {P : Program} {H : Hp} {t : TypeId} {cs : List Value}
theorem FitZ.of_struct {fs : Array Field} (ht : P.underlying t = some (.struct fs)) (h : FitZ P H t cs) : ∀ (i : Nat) (f : Field), fs[i]? = some f → FitZ P H f.type ((cs.drop f.offset).take (P.cellsOf f.type)) := by
  cases h with
  | struct h1 h2 h3 => rw [ht] at h1; cases h1; exact h3
  | _ => simp_all
theorem FitZ.field {i : Nat} {T : TypeId} {off n : Nat} (h : FitZ P H t cs) (he : fieldB P t i = some (T, off, n)) : FitZ P H T ((cs.drop off).take n) := by
  unfold fieldB at he
  split at he
  · rename_i fs ht
    obtain ⟨f, hf, hq⟩ := Option.map_eq_some_iff.1 he
    simp only [Prod.mk.injEq] at hq
    obtain ⟨rfl, rfl, rfl⟩ := hq
    exact h.of_struct ht i f hf
  · cases he
theorem FitZ.of_slice {e : TypeId} (ht : P.underlying t = some (.slice e)) (h : FitZ P H t cs) : ∃ v xs, cs = [v] ∧ Sls H v (P.cellsOf e) xs ∧ (∀ x ∈ xs, FitZ P H e x) ∧ xs.length * P.bytesOf e ≤ reachBytes := by
  cases h with
  | nil h1 => exact ⟨_, [], rfl, ⟨none, 0, rfl, Nat.zero_le _, Nat.zero_le _, by simp, by simp⟩, by simp, by simp⟩
  | @slice _ e' a len cap g h1 h2 h3 h4 h5 h6 h7 =>
    rw [ht] at h1; cases h1
    refine ⟨_, (List.range len).map g, rfl, ⟨some a, cap, by simp, by simpa using h2, h3, ?_, fun i x hx => ⟨a, rfl, ?_⟩⟩, ?_, by simpa using h4⟩
    · intro x hx
      obtain ⟨i, hi, rfl⟩ := List.mem_map.1 hx
      exact h5 i (List.mem_range.1 hi)
    · simp only [List.getElem?_map, Option.map_eq_some_iff] at hx
      obtain ⟨i', hi', rfl⟩ := hx
      obtain ⟨hlt, rfl⟩ := List.getElem?_eq_some_iff.1 hi'
      simp only [List.length_range] at hlt
      simpa using h6 i hlt
    · intro x hx
      obtain ⟨i, hi, rfl⟩ := List.mem_map.1 hx
      exact h7 i (List.mem_range.1 hi)
  | _ h1 => rw [ht] at h1; cases h1
end
end Go.Proofs.YtkkkcafkepnecaaGreat.Vc

