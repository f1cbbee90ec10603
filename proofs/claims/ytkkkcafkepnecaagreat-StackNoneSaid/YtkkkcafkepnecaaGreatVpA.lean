/- Instructions: the plain law; parts; what an Op names. -/
import Derived.Test.YtkkkcafkepnecaaGreatVcT
import Derived.Test.YtkkkcafkepnecaaGreatVnF0
import Derived.Test.YtkkkcafkepnecaaGreatVnF1
import Derived.Test.YtkkkcafkepnecaaGreatVnF2
import Derived.Test.YtkkkcafkepnecaaGreatVnS
set_option linter.unusedVariables false
set_option linter.unusedSimpArgs false
namespace Go.Proofs.YtkkkcafkepnecaaGreat.Vc
open Go Go.RowKit
section
variable {P : Program} {B w : World} {KW : Value → World → Prop} {t kt et : TypeId} {H : Hp} {kd : IntKind}
theorem lkf_rule {b : Nat} {l : List (Int × Value)} {x : Int} {z : Value} (h : Ow B w H) (hm : (b, mpo kd l) ∈ H) (ht : P.underlying t = some (.map kt et)) (hk : P.underlying kt = some (.int kd)) (hz : zo P et = some z)
    (k : KW ((lk l x).getD z) w) : opW P (Instr.lookup t (.map (some b)) (.int kd x) false) KW w := by
  have hb := h.mem b _ hm
  obtain ⟨j, hj⟩ := findKey_mp hk x l 0 w
  refine ⟨_, w, ?_, k⟩
  simp only [Instr.lookup, Sem.run_bind, run_und ht, Result.andThen, get_map hb, checkKey_int hk, Sem.run_pure, hj]
  cases lk l x <;> simp [Sem.run_bind, run_zero hz, Result.andThen, Sem.run_pure]
theorem flatten_at {size : Nat} {y : Value} {x : List Value} {j : Nat} (hj : x[j]? = some y) : ∀ (rows : List (List Value)) (i : Nat), (∀ x ∈ rows, x.length = size) → rows[i]? = some x → rows.flatten[i * size + j]? = some y
  | [], i, _, h => by simp at h
  | z :: rows, 0, hz, h => by
    simp only [List.getElem?_cons_zero, Option.some.injEq] at h
    subst h
    have hl := (List.getElem?_eq_some_iff.1 hj).1
    rw [List.flatten_cons, List.getElem?_append_left (by omega)]
    simpa using hj
  | z :: rows, i + 1, hz, h => by
    have hzl := hz z (.head _)
    have e : (i + 1) * size + j = size + (i * size + j) := by rw [Nat.add_mul, Nat.one_mul]; omega
    rw [List.flatten_cons, List.getElem?_append_right (by omega), hzl, e, Nat.add_sub_cancel_left]
    exact flatten_at hj rows i (fun x hx => hz x (.tail _ hx)) (by simpa using h)
theorem sls_blk {b size : Nat} {e : TypeId} {rows : List (List Value)} (hl : ∀ x ∈ rows, x.length = size) (hm : rows.length ≤ maxLen) (hb : (b, cel rows.flatten e) ∈ H) : Sls H (.slice (some ⟨b, 0, none⟩) rows.length rows.length) size rows :=
  ⟨some ⟨b, 0, none⟩, rows.length, rfl, Nat.le_refl _, hm, hl, fun i x hi => ⟨_, rfl, fun j y hj => by
    rw [add_mk]
    refine cell_here hb ?_
    rw [Nat.zero_add]
    exact flatten_at hj rows i hl hi⟩⟩
end
end Go.Proofs.YtkkkcafkepnecaaGreat.Vc
namespace Go.Proofs.YtkkkcafkepnecaaGreat
open Go Go.RowKit Vc
attribute [local irreducible] binV Op.unary convert nlW faW ldS ldW ixS ixA ixV ixT exW lnS lnT pu stW alW opW opU bsW mkW

section
variable {B w : World} {H : Hp} {K : Value → World → Prop} {PK : List PanicEntry → World → Prop}
abbrev fnc (f : FuncId) (cap : Array Value) : Value := .func (.func f) #[] cap
theorem und_int : PG.underlying T.t_int = some (.int .i64) := by kernel_rfl
theorem und_u64 : PG.underlying T.t_uint64 = some (.int .u64) := by kernel_rfl
theorem und_u32 : PG.underlying T.t_uint32 = some (.int .u32) := by kernel_rfl
theorem und_op : PG.underlying T.t_api_Op = some (.int .i64) := by kernel_rfl
/-- An instruction. -/
structure Ins where
  op : Int
  a : Int
  b : Int
  c : Int
  imm : Int
deriving DecidableEq
def Ins.cells (i : Ins) : List Value := [vI i.op, vI i.a, vI i.b, vI i.c, .int .u32 i.imm]
/-- Parts that an Op names. -/
inductive Pk
  | a
  | b
  | c
  | n
  | i (mark : List Nat)
def Pk.cells : Pk → List Value
  | .a => [vI 1, .string (bs [114]), fnc N.instr_first_1 #[], fnc N.instr_first_2 #[]]
  | .b => [vI 1, .string (bs [114]), fnc N.instr_second_1 #[], fnc N.instr_second_2 #[]]
  | .c => [vI 1, .string (bs [114]), fnc N.instr_third_1 #[], fnc N.instr_third_2 #[]]
  | .n => [vI 1, .string (bs []), fnc N.instr_third_1 #[], fnc N.instr_third_2 #[]]
  | .i m => [vI 4, .string (bs m), fnc N.instr_imm_1 #[], fnc N.instr_imm_2 #[]]
def Pk.get : Pk → Ins → Int
  | .a, x => x.a
  | .b, x => x.b
  | .c, x => x.c
  | .n, x => x.c
  | .i _, x => x.imm
def Pk.put : Pk → Ins → Int → Ins
  | .a, x, v => { x with a := v }
  | .b, x, v => { x with b := v }
  | .c, x, v => { x with c := v }
  | .n, x, v => { x with c := v }
  | .i _, x, v => { x with imm := v }
/-- What an Op names. -/
def nmd (op : Int) : List Pk :=
  if op = 1 then [.a, .i []] else if op = 2 then [.a, .b] else if op = 3 then [.a, .b, .c, .i [45]] else if op = 4 then [.i []] else if op = 5 then [.a, .i []] else if op = 6 then [.a, .b] else if op = 7 then [.a, .b]
  else if op = 8 then [.a, .b, .n, .i [102]] else if op = 9 then [.a] else if op = 10 then [.b, .n, .i [102]] else if op = 11 then [.a] else if op = 12 then [.a] else if op = 13 then [.a] else if op = 14 then [.a] else if op = 15 then [.a] else if op = 16 then [.a]
  else if op = 17 then [.a, .b] else if op = 18 then [.a] else []
def prow (l : List Pk) : List (List Value) := l.map Pk.cells
theorem prow_four (l : List Pk) : ∀ x ∈ prow l, x.length = 4 := fun x hx => by
  obtain ⟨p, _, rfl⟩ := List.mem_map.1 hx
  cases p <;> rfl
theorem pk_plain (p : Pk) : p.cells.all plainV = true := by cases p <;> rfl
abbrev zpart : List Value := [vI 0, .string ByteArray.empty, .nilFunc, .nilFunc]
theorem first_spec (h : Ow B w H) (k : ∀ w', Ow B w' H → K (.agg (Pk.cells .a).toArray) w') : callW PG N.instr_first [] K PK w := by
  refine instr_first.ok ?_
  unfold instr_first.C
  refine al_rule h (l := zpart) (by kernel_rfl) (fun b w1 h1 => ?_)
  refine pu_build (Pk.cells .a) (by kernel_rfl) ?_
  refine st_here (A := []) h1 (Pk.cells .a) rfl rfl (pk_plain _) (by simp) (fun w2 h2 => ?_)
  simp only [List.take_zero, List.nil_append, Nat.zero_add, List.drop_succ_cons, List.drop_zero, List.drop_nil, List.append_nil] at h2
  refine ldn_here h2 (.head _) (vs := Pk.cells .a) (by rw [List.drop_zero]; rfl) rfl ?_
  exact k _ h2.drop
theorem second_spec (h : Ow B w H) (k : ∀ w', Ow B w' H → K (.agg (Pk.cells .b).toArray) w') : callW PG N.instr_second [] K PK w := by
  refine instr_second.ok ?_
  unfold instr_second.C
  refine al_rule h (l := zpart) (by kernel_rfl) (fun b w1 h1 => ?_)
  refine pu_build (Pk.cells .b) (by kernel_rfl) ?_
  refine st_here (A := []) h1 (Pk.cells .b) rfl rfl (pk_plain _) (by simp) (fun w2 h2 => ?_)
  simp only [List.take_zero, List.nil_append, Nat.zero_add, List.drop_succ_cons, List.drop_zero, List.drop_nil, List.append_nil] at h2
  refine ldn_here h2 (.head _) (vs := Pk.cells .b) (by rw [List.drop_zero]; rfl) rfl ?_
  exact k _ h2.drop
theorem third_spec (h : Ow B w H) (k : ∀ w', Ow B w' H → K (.agg (Pk.cells .c).toArray) w') : callW PG N.instr_third [] K PK w := by
  refine instr_third.ok ?_
  unfold instr_third.C
  refine al_rule h (l := zpart) (by kernel_rfl) (fun b w1 h1 => ?_)
  refine pu_build (Pk.cells .c) (by kernel_rfl) ?_
  refine st_here (A := []) h1 (Pk.cells .c) rfl rfl (pk_plain _) (by simp) (fun w2 h2 => ?_)
  simp only [List.take_zero, List.nil_append, Nat.zero_add, List.drop_succ_cons, List.drop_zero, List.drop_nil, List.append_nil] at h2
  refine ldn_here h2 (.head _) (vs := Pk.cells .c) (by rw [List.drop_zero]; rfl) rfl ?_
  exact k _ h2.drop
theorem imm_spec {m : List Nat} (h : Ow B w H) (k : ∀ w', Ow B w' H → K (.agg (Pk.cells (.i m)).toArray) w') : callW PG N.instr_imm [.string (bs m)] K PK w := by
  refine instr_imm.ok ?_
  unfold instr_imm.C
  refine al_rule h (l := zpart) (by kernel_rfl) (fun b w1 h1 => ?_)
  refine pu_build (Pk.cells (.i m)) (by kernel_rfl) ?_
  refine st_here (A := []) h1 (Pk.cells (.i m)) rfl rfl (pk_plain _) (by simp) (fun w2 h2 => ?_)
  simp only [List.take_zero, List.nil_append, Nat.zero_add, List.drop_succ_cons, List.drop_zero, List.drop_nil, List.append_nil] at h2
  refine ldn_here h2 (.head _) (vs := Pk.cells (.i m)) (by rw [List.drop_zero]; rfl) rfl ?_
  exact k _ h2.drop
theorem many_spec (h : Ow B w H) (k : ∀ w', Ow B w' H → K (.agg (Pk.cells .n).toArray) w') : callW PG N.instr_many [] K PK w := by
  refine instr_many.ok ?_
  unfold instr_many.C
  refine al_rule h (l := zpart) (by kernel_rfl) (fun b w1 h1 => ?_)
  refine third_spec h1 (fun w2 h2 => ?_)
  refine al_rule h2 (l := zpart) (by kernel_rfl) (fun b2 w3 h3 => ?_)
  refine st_here (A := []) h3 (Pk.cells .c) rfl rfl (pk_plain _) (by simp) (fun w4 h4 => ?_)
  simp only [List.take_zero, List.nil_append, Nat.zero_add, List.drop_succ_cons, List.drop_zero, List.drop_nil, List.append_nil] at h4
  repeat (first | refine pu_not ?_ | refine pu_eql ?_ | refine pu_neq ?_ | refine pu_lss ?_ | refine pu_leq ?_ | refine pu_gtr ?_ | refine pu_geq ?_ | refine pu_add ?_ | refine pu_sub ?_ | refine pu_mul ?_ | refine pu_neg ?_ | refine fa_at ?_ | refine nl_ptr ?_ | refine ex20 ?_ | refine ex21 ?_ | refine ex30 ?_ | refine ex31 ?_ | refine ex32 ?_ | refine ln_rule ?_ | refine lnT_rule ?_ | refine pu_and ?_ | refine pu_or ?_ | refine pu_xor ?_ | refine pu_seq ?_ | refine pu_sne ?_)
  refine st1_here (A := []) h4 rfl rfl (by simp [Pk.cells]) (fun w5 h5 => ?_)
  have e : (Pk.cells .c).set (0 + 1) (.string (bs [])) = Pk.cells .n := rfl
  rw [e] at h5
  refine ldn_here h5 (.head _) (vs := Pk.cells .n) (by rw [List.drop_zero]; rfl) rfl ?_
  refine st_here (A := [_]) h5 (Pk.cells .n) rfl rfl (pk_plain _) (by simp) (fun w6 h6 => ?_)
  simp only [List.take_zero, List.nil_append, Nat.zero_add, List.drop_succ_cons, List.drop_zero, List.drop_nil, List.append_nil] at h6
  refine ldn_here h6 (.tail _ (.head _)) (vs := Pk.cells .n) (by rw [List.drop_zero]; rfl) rfl ?_
  exact k _ h6.drop.drop
end
end Go.Proofs.YtkkkcafkepnecaaGreat
