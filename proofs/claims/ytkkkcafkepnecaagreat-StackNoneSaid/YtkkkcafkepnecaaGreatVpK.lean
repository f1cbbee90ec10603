/- Programs: copies. -/
import Derived.Test.YtkkkcafkepnecaaGreatVpJ
set_option linter.unusedVariables false
set_option linter.unusedSimpArgs false
namespace Go.Proofs.YtkkkcafkepnecaaGreat.Vc
open Go Go.RowKit
section
variable {P : Program} {B w : World} {H : Hp} {K : Value → Prop} {KU : World → Prop} {t e : TypeId}
theorem eq_slnil {t e : TypeId} (ht : P.underlying t = some (.slice e)) (a : Option Addr) (n c : Nat) (w : World) : (Op.equal t (.slice a n c) (.slice none 0 0)).run P w = .ok a.isNone w := by
  have : ∀ d, (Op.equalIn (d + 1) t (.slice a n c) (.slice none 0 0)).run P w = .ok a.isNone w := fun d => by cases a <;> simp only [Op.equalIn, Sem.run_bind, run_und ht, Result.andThen, Sem.run_pure, Option.isNone]
  exact this 9999
theorem pu_slnil {t e : TypeId} {c : Bool} {KK : Value → Prop} (ht : P.underlying t = some (.slice e)) {a : Option Addr} {n cc : Nat} (k : KK (vB a.isNone)) : pu P (binV .eql t c (.slice a n cc) (.slice none 0 0)) KK :=
  pu_of (binV_run rfl (fun w => run_eqB (eq_slnil ht a n cc w))) k
theorem flatten_len' {size : Nat} : ∀ {rows : List (List Value)}, (∀ x ∈ rows, x.length = size) → rows.flatten.length = rows.length * size
  | [], _ => by simp
  | x :: rows, h => by
    rw [List.flatten_cons, List.length_append, h x (.head _), flatten_len' fun y hy => h y (.tail _ hy), List.length_cons, Nat.add_mul, Nat.one_mul]
    omega
theorem flatten_setf {size j : Nat} {x : Value} {r : List Value} : ∀ {rows : List (List Value)} {i : Nat}, (∀ x ∈ rows, x.length = size) → rows[i]? = some r → j < size → rows.flatten.set (i * size + j) x = (rows.set i (r.set j x)).flatten
  | [], i, _, h, _ => by simp at h
  | z :: rows, 0, hz, h, hj => by
    simp only [List.getElem?_cons_zero, Option.some.injEq] at h
    subst h
    have hl := hz z (.head _)
    rw [List.flatten_cons, List.set_cons_zero, List.flatten_cons, Nat.zero_mul, Nat.zero_add, List.set_append_left _ _ (by omega)]
  | z :: rows, i + 1, hz, h, hj => by
    have hzl := hz z (.head _)
    have e : (i + 1) * size + j = size + (i * size + j) := by rw [Nat.add_mul, Nat.one_mul]; omega
    rw [List.flatten_cons, List.set_cons_succ, List.flatten_cons, List.set_append_right _ _ (by omega), hzl, e, Nat.add_sub_cancel_left, flatten_setf (fun x hx => hz x (.tail _ hx)) (by simpa using h) hj]
/-- A write at a field of an element of an own slice. -/
theorem own_setf {A C S : Hp} {v x : Value} {size j : Nat} {rows : List (List Value)} {r : List Value} {i : Int} {kd : IntKind} (h : Ow B w (A ++ S ++ C)) (ho : Own S e size v rows.length rows.flatten) (hl : ∀ x ∈ rows, x.length = size) (h0 : 0 ≤ i) (hr : rows[i.toNat]? = some r) (hj : j < size)
    (hc : x.cells = #[x]) (hp : plainV x = true) (k : ∀ S' w', Ow B w' (A ++ S' ++ C) → Own S' e size v rows.length (rows.set i.toNat (r.set j x)).flatten → KU w') : ixS size v (.int kd i) fun p => faW j p fun q => stW 1 q x KU w := by
  have hlt := (List.getElem?_eq_some_iff.1 hr).1
  have hfl := flatten_len' hl
  obtain ⟨hl0, ⟨rfl, rfl, h00⟩ | ⟨g, cap, l, rfl, rfl, hcap, hm, hlen, hx⟩⟩ := ho
  · omega
  · have hb : i.toNat * size + j < rows.length * size := by
      have : (i.toNat + 1) * size ≤ rows.length * size := Nat.mul_le_mul_right _ hlt
      rw [Nat.add_mul, Nat.one_mul] at this
      omega
    have hcs : rows.length * size ≤ cap * size := Nat.mul_le_mul_right _ hcap
    refine ixS_at h0 (by omega) ?_
    refine fa_at ?_
    have h' : Ow B w (A ++ (g, cel l e) :: C) := by simpa using h
    refine st1_here h' hc hp (by omega) (fun w' hw' => ?_)
    simp only [Nat.zero_add] at hw'
    refine k [(g, cel (l.set (i.toNat * size + j) x) e)] w' (by simpa using hw') ?_
    refine Own.mk hcap hm (by simpa using hlen) ?_
    rw [List.take_set, hx, flatten_setf hl hr hj]
end
end Go.Proofs.YtkkkcafkepnecaaGreat.Vc
namespace Go.Proofs.YtkkkcafkepnecaaGreat
open Go Go.RowKit Vc
attribute [local irreducible] binV Op.unary convert nlW faW ldS ldW ixS ixA ixV ixT exW lnS lnT pu stW alW opW opU bsW mkW

section
variable {B w : World} {H X : Hp} {K : Value → World → Prop} {PK : List PanicEntry → World → Prop} {KK : Value → Prop} {v v' : Value} {p q : Pr}
theorem info_func : (PG.info? T.t_api_Func).map (fun i => (i.zero, i.size, i.bytes)) = some (some (.agg #[vI 0, .slice none 0 0]), 2, 32) := by kernel_rfl
theorem info_ins : (PG.info? T.t_api_Ins).map (fun i => (i.zero, i.size, i.bytes)) = some (some (.agg #[vI 0, vI 0, vI 0, vI 0, .int .u32 0]), 5, 40) := by kernel_rfl
theorem cloneF_spec {s : Value} {rows : List (List Value)} (h : Ow B w H) (hs : Sls X s 2 rows) (hp : rows.flatten.all plainV = true) (hX : ∀ x, x ∈ X → x ∈ H) (hl : rows.length ≤ 1000) (k : ∀ S v w', Ow B w' (S ++ H) → Vc.Own S T.t_api_Func 2 v rows.length rows.flatten → K v w') : callW PG N.slices_Clone_sl_api_Func_api_Func [s] K PK w := by
  refine slices_Clone_sl_api_Func_api_Func.ok ?_
  unfold slices_Clone_sl_api_Func_api_Func.C
  obtain ⟨a, cap, hse, q1, q2, q3, q4⟩ := id hs
  have hgoal : ∀ (KK : Value → Prop), KK (vB a.isNone) → pu PG (binV .eql T.t_sl_api_Func true s (.slice none 0 0)) KK := fun KK k => by
    rw [hse]; exact pu_slnil und_slfunc k
  refine hgoal _ ?_
  refine cnd (fun hn => ?_) (fun hn => ?_)
  · have ha : a = none := by simpa using hn
    have : rows = [] := by
      cases rows with
      | nil => rfl
      | cons x l => obtain ⟨p, hp, _⟩ := q4 0 x rfl; rw [ha] at hp; cases hp
    subst this
    exact k [] _ _ h (own_none _ _)
  · refine bs_rule h [] (by kernel_rfl) (fun b1 w1 h1 => ?_)
    obtain ⟨inf, i1, i2, i3, i4⟩ := info_of info_func
    have hfl := flatten_len' q3
    refine app_rule (A := []) (S := [(b1, cel [] T.t_api_Func)]) (xs := []) (n := 0) (m := rows.length) (ys := rows.flatten) (H := X) h1 (Own.mk (n := 0) (cap := 0) (xs := []) (Nat.le_refl _) (Nat.zero_le _) rfl rfl) ⟨hfl, a, cap, hse, fun j y hj => ?_⟩ (fun y hy => .tail _ (hX y hy)) hp und_slfunc i1 i2 i3 i4 rfl (by omega) (by simp [maxLen]; omega) (by omega) (fun S p w2 h2 ho => ?_)
    · have hjl := (List.getElem?_eq_some_iff.1 hj).1
      have hd : j / 2 < rows.length := by omega
      obtain ⟨p, hpa, hc⟩ := q4 (j / 2) rows[j / 2] (List.getElem?_eq_getElem hd)
      refine ⟨p, hpa, ?_⟩
      have hxl := q3 _ (List.getElem_mem hd)
      have hr : rows[j / 2][j % 2]? = some (rows[j / 2][j % 2]'(by omega)) := List.getElem?_eq_getElem _
      have := flatten_at hr rows (j / 2) q3 (List.getElem?_eq_getElem hd)
      rw [show j / 2 * 2 + j % 2 = j by omega, hj] at this
      have h2 := hc (j % 2) _ hr
      rw [show j / 2 * 2 + j % 2 = j by omega, ← Option.some.inj this] at h2
      exact h2
    · refine k S p w2 h2 ?_
      simpa using ho
theorem cloneI_spec {s : Value} {rows : List (List Value)} (h : Ow B w H) (hs : Sls X s 5 rows) (hp : rows.flatten.all plainV = true) (hX : ∀ x, x ∈ X → x ∈ H) (hl : rows.length ≤ 2000) (k : ∀ S v w', Ow B w' (S ++ H) → Vc.Own S T.t_api_Ins 5 v rows.length rows.flatten → K v w') : callW PG N.slices_Clone_sl_api_Ins_api_Ins [s] K PK w := by
  refine slices_Clone_sl_api_Ins_api_Ins.ok ?_
  unfold slices_Clone_sl_api_Ins_api_Ins.C
  obtain ⟨a, cap, hse, q1, q2, q3, q4⟩ := id hs
  have hgoal : ∀ (KK : Value → Prop), KK (vB a.isNone) → pu PG (binV .eql T.t_sl_api_Ins true s (.slice none 0 0)) KK := fun KK k => by
    rw [hse]; exact pu_slnil und_slins k
  refine hgoal _ ?_
  refine cnd (fun hn => ?_) (fun hn => ?_)
  · have ha : a = none := by simpa using hn
    have : rows = [] := by
      cases rows with
      | nil => rfl
      | cons x l => obtain ⟨p, hp, _⟩ := q4 0 x rfl; rw [ha] at hp; cases hp
    subst this
    exact k [] _ _ h (own_none _ _)
  · refine bs_rule h [] (by kernel_rfl) (fun b1 w1 h1 => ?_)
    obtain ⟨inf, i1, i2, i3, i4⟩ := info_of info_ins
    have hfl := flatten_len' q3
    refine app_rule (A := []) (S := [(b1, cel [] T.t_api_Ins)]) (xs := []) (n := 0) (m := rows.length) (ys := rows.flatten) (H := X) h1 (Own.mk (n := 0) (cap := 0) (xs := []) (Nat.le_refl _) (Nat.zero_le _) rfl rfl) ⟨hfl, a, cap, hse, fun j y hj => ?_⟩ (fun y hy => .tail _ (hX y hy)) hp und_slins i1 i2 i3 i4 rfl (by omega) (by simp [maxLen]; omega) (by omega) (fun S p w2 h2 ho => ?_)
    · have hjl := (List.getElem?_eq_some_iff.1 hj).1
      have hd : j / 5 < rows.length := by omega
      obtain ⟨p, hpa, hc⟩ := q4 (j / 5) rows[j / 5] (List.getElem?_eq_getElem hd)
      refine ⟨p, hpa, ?_⟩
      have hxl := q3 _ (List.getElem_mem hd)
      have hr : rows[j / 5][j % 5]? = some (rows[j / 5][j % 5]'(by omega)) := List.getElem?_eq_getElem _
      have := flatten_at hr rows (j / 5) q3 (List.getElem?_eq_getElem hd)
      rw [show j / 5 * 5 + j % 5 = j by omega, hj] at this
      have h2 := hc (j % 5) _ hr
      rw [show j / 5 * 5 + j % 5 = j by omega, ← Option.some.inj this] at h2
      exact h2
    · refine k S p w2 h2 ?_
      simpa using ho
/-- A function that is owned. -/
structure CE where
  S : Hp
  c : Value
  f : Fun
def CE.ok (e : CE) : Prop := Vc.Own e.S T.t_api_Ins 5 e.c (icode e.f.code).length (icode e.f.code).flatten
def crow (e : CE) : List Value := [vI e.f.regs, e.c]
def crows (es : List CE) : List (List Value) := es.map crow
def cfoot (es : List CE) : Hp := es.flatMap CE.S
theorem crows_two (es : List CE) : ∀ x ∈ crows es, x.length = 2 := fun x hx => by
  obtain ⟨e, _, rfl⟩ := List.mem_map.1 hx
  rfl
theorem icode_five (l : List Ins) : ∀ x ∈ icode l, x.length = 5 := fun x hx => by
  obtain ⟨e, _, rfl⟩ := List.mem_map.1 hx
  rfl
theorem icode_plain (l : List Ins) : (icode l).flatten.all plainV = true := by
  refine List.all_eq_true.2 fun u hu => ?_
  obtain ⟨x, hx, hu⟩ := List.mem_flatten.1 hu
  obtain ⟨i, _, rfl⟩ := List.mem_map.1 hx
  exact List.all_eq_true.1 (ins_plain i) u hu
theorem frows_two (ps : List (Value × Fun)) : ∀ x ∈ frows ps, x.length = 2 := fun x hx => by
  obtain ⟨e, _, rfl⟩ := List.mem_map.1 hx
  rfl
theorem CE.sls {e : CE} (h : e.ok) : Sls e.S e.c 5 (icode e.f.code) := own_sls (icode_five _) h
/-- A program's functions, all of them owned. -/
def CpP (F : Hp) (v : Value) (fs : List Fun) : Prop := ∃ (Sf : Hp) (es : List CE), es.map CE.f = fs ∧ (∀ e ∈ es, e.ok) ∧ Vc.Own Sf T.t_api_Func 2 v (crows es).length (crows es).flatten ∧ F = Sf ++ cfoot es
theorem CpP.ins {F : Hp} {fs : List Fun} (h : CpP F v fs) (hm : ∀ f ∈ fs, immOk f.code) : fsIn F v fs := by
  obtain ⟨Sf, es, h1, h2, h3, rfl⟩ := h
  refine ⟨es.map fun e => (e.c, e.f), ?_, ?_, ?_⟩
  · rw [List.map_map, ← h1]; rfl
  · have : frows (es.map fun e => (e.c, e.f)) = crows es := by
      unfold frows crows
      rw [List.map_map]; rfl
    rw [this]
    exact (own_sls (crows_two es) h3).mono fun x hx => List.mem_append_left _ hx
  · intro q hq
    obtain ⟨e, he, rfl⟩ := List.mem_map.1 hq
    exact ⟨(CE.sls (h2 e he)).mono fun x hx => List.mem_append_right _ (List.mem_flatMap.2 ⟨e, he, hx⟩), hm _ (by rw [← h1]; exact List.mem_map_of_mem he)⟩
theorem copy_spec (hv : fsIn X v p.fs) (hX : ∀ x, x ∈ X → x ∈ H) (hlen : p.fs.length ≤ 1000) (hc : ∀ f ∈ p.fs, f.code.length ≤ 2000) (h : Ow B w H) (k : ∀ F v' w', CpP F v' p.fs → Ow B w' (F ++ H) → K (.agg (p.cells v').toArray) w') : callW PG N.program_Copy [.agg (p.cells v).toArray] K PK w := by
  refine program_Copy.ok ?_
  unfold program_Copy.C
  obtain ⟨ps, e1, e2, e3⟩ := hv
  have hpl : ps.length = p.fs.length := by rw [← e1]; simp
  have hfl : (frows ps).length = ps.length := by simp [frows]
  refine al_rule h (l := p.cells v) rfl (fun b2 w1 h1 => ?_)
  refine al_rule h1 (l := [.slice none 0 0, vI 0, vI 0, vI 0]) (by kernel_rfl) (fun b4 w2 h2 => ?_)
  repeat (first | refine pu_not ?_ | refine pu_eql ?_ | refine pu_neq ?_ | refine pu_lss ?_ | refine pu_leq ?_ | refine pu_gtr ?_ | refine pu_geq ?_ | refine pu_add ?_ | refine pu_sub ?_ | refine pu_mul ?_ | refine pu_neg ?_ | refine fa_at ?_ | refine nl_ptr ?_ | refine ex20 ?_ | refine ex21 ?_ | refine ex30 ?_ | refine ex31 ?_ | refine ex32 ?_ | refine ln_rule ?_ | refine lnT_rule ?_ | refine pu_and ?_ | refine pu_or ?_ | refine pu_xor ?_ | refine pu_seq ?_ | refine pu_sne ?_)
  refine ld_here h2 (.tail _ (.head _)) (v := v) rfl ?_
  have hfp : (frows ps).flatten.all plainV = true := by
    refine List.all_eq_true.2 fun u hu => ?_
    obtain ⟨x, hx, hu⟩ := List.mem_flatten.1 hu
    obtain ⟨q, hq, rfl⟩ := List.mem_map.1 hx
    rcases List.mem_cons.1 hu with rfl | hu
    · rfl
    · rw [List.mem_singleton.1 hu]; exact sls_plain (e3 q hq).1
  refine cloneF_spec h2 e2 hfp (fun x hx => .tail _ (.tail _ (hX x hx))) (by omega) (fun S v' w3 h3 ho => ?_)
  obtain ⟨a0, c0, hv'⟩ := ho.len
  have hvp : plainV v' = true := by rw [hv']; rfl
  have hvc : v'.cells = #[v'] := by rw [hv']; rfl
  repeat (first | refine pu_not ?_ | refine pu_eql ?_ | refine pu_neq ?_ | refine pu_lss ?_ | refine pu_leq ?_ | refine pu_gtr ?_ | refine pu_geq ?_ | refine pu_add ?_ | refine pu_sub ?_ | refine pu_mul ?_ | refine pu_neg ?_ | refine fa_at ?_ | refine nl_ptr ?_ | refine ex20 ?_ | refine ex21 ?_ | refine ex30 ?_ | refine ex31 ?_ | refine ex32 ?_ | refine ln_rule ?_ | refine lnT_rule ?_ | refine pu_and ?_ | refine pu_or ?_ | refine pu_xor ?_ | refine pu_seq ?_ | refine pu_sne ?_)
  have h3 : Ow B w3 ((S ++ [(b4, cel [.slice none 0 0, vI 0, vI 0, vI 0] T.t_api_Program)]) ++ (b2, cel (p.cells v) T.t_api_Program) :: H) := by simpa using h3
  refine st1_here h3 hvc hvp (by simp [Pr.cells]) (fun w4 h4 => ?_)
  have e4 : (p.cells v).set (0 + 0) v' = p.cells v' := rfl
  rw [e4] at h4
  have h4 : Ow B w4 (S ++ ([] ++ ((b4, cel [.slice none 0 0, vI 0, vI 0, vI 0] T.t_api_Program) :: (b2, cel (p.cells v') T.t_api_Program) :: H))) := by simpa using h4
  repeat (first | refine pu_not ?_ | refine pu_eql ?_ | refine pu_neq ?_ | refine pu_lss ?_ | refine pu_leq ?_ | refine pu_gtr ?_ | refine pu_geq ?_ | refine pu_add ?_ | refine pu_sub ?_ | refine pu_mul ?_ | refine pu_neg ?_ | refine fa_at ?_ | refine nl_ptr ?_ | refine ex20 ?_ | refine ex21 ?_ | refine ex30 ?_ | refine ex31 ?_ | refine ex32 ?_ | refine ln_rule ?_ | refine lnT_rule ?_ | refine pu_and ?_ | refine pu_or ?_ | refine pu_xor ?_ | refine pu_seq ?_ | refine pu_sne ?_)
  refine ld_here h4 (List.mem_append_right _ (.tail _ (.head _))) (v := v') rfl ?_
  have hln : ∀ KK : Value → Prop, KK (vI ps.length) → lnS v' KK := fun KK kk => by rw [hv', ← hfl] at *; exact ln_rule kk
  refine hln _ ?_
  generalize hR : (b4, cel [.slice none 0 0, vI 0, vI 0, vI 0] T.t_api_Program) :: (b2, cel (p.cells v') T.t_api_Program) :: H = R at *
  have m2 : (b2, cel (p.cells v') T.t_api_Program) ∈ R := by rw [← hR]; exact .tail _ (.head _)
  have mX : ∀ x, x ∈ X → x ∈ R := fun x hx => by rw [← hR]; exact .tail _ (.tail _ (hX x hx))
  refine ⟨fun l w => ∃ (n : Nat) (Sf : Hp) (don : List CE), l = [vI n] ∧ n ≤ ps.length ∧ don.length = n ∧ don.map CE.f = p.fs.take n ∧ (∀ e ∈ don, e.ok) ∧ Vc.Own Sf T.t_api_Func 2 v' (crows don ++ (frows ps).drop n).length (crows don ++ (frows ps).drop n).flatten ∧ Ow B w (Sf ++ (cfoot don ++ R)),
    fun l _ => match l with | [.int _ q] => ps.length - q.toNat | _ => 0, ⟨0, S, [], rfl, Nat.zero_le _, rfl, rfl, by simp, by simpa [crows] using ho, h4⟩, ?_⟩
  clear h4 h3 h2 h1 ho
  rintro l w5 ⟨n, Sf, don, rfl, hn, hdl, hdf, hdo, ho, h5⟩ j
  have two : ∀ x ∈ crows don ++ (frows ps).drop n, x.length = 2 := fun x hx => (List.mem_append.1 hx).elim (crows_two don x) fun h => frows_two ps x (List.mem_of_mem_drop h)
  have hcl : (crows don).length = n := by simp [crows, hdl]
  repeat (first | refine pu_not ?_ | refine pu_eql ?_ | refine pu_neq ?_ | refine pu_lss ?_ | refine pu_leq ?_ | refine pu_gtr ?_ | refine pu_geq ?_ | refine pu_add ?_ | refine pu_sub ?_ | refine pu_mul ?_ | refine pu_neg ?_ | refine fa_at ?_ | refine nl_ptr ?_ | refine ex20 ?_ | refine ex21 ?_ | refine ex30 ?_ | refine ex31 ?_ | refine ex32 ?_ | refine ln_rule ?_ | refine lnT_rule ?_ | refine pu_and ?_ | refine pu_or ?_ | refine pu_xor ?_ | refine pu_seq ?_ | refine pu_sne ?_)
  refine cnd (fun hlt => ?_) (fun hlt => ?_)
  · have hlt : n < ps.length := by simpa using hlt
    obtain ⟨⟨c, f⟩, hq⟩ : ∃ q, ps[n]? = some q := ⟨_, List.getElem?_eq_getElem hlt⟩
    have hf : p.fs[n]? = some f := by rw [← e1, List.getElem?_map, hq]; rfl
    obtain ⟨q1, q2⟩ := e3 _ (List.mem_of_getElem? hq)
    have hdrop : (frows ps).drop n = [vI f.regs, c] :: (frows ps).drop (n + 1) := by
      rw [List.drop_eq_getElem_cons (by omega)]
      congr 1
      have : (frows ps)[n]? = some [vI f.regs, c] := by rw [frows, List.getElem?_map, hq]; rfl
      rw [List.getElem?_eq_getElem (by omega)] at this
      exact Option.some.inj this
    have hat : (crows don ++ (frows ps).drop n)[(n : Int).toNat]? = some [vI f.regs, c] := by
      rw [Int.toNat_natCast, List.getElem?_append_right (by omega), hcl, Nat.sub_self, hdrop]; rfl
    refine sls_ld h5 ((own_sls two ho).mono fun x hx => List.mem_append_left _ hx) (by omega) hat ?_
    refine al_rule h5 (l := [vI 0, .slice none 0 0]) (by kernel_rfl) (fun b6 w6 h6 => ?_)
    refine st_here (A := []) h6 [vI f.regs, c] rfl rfl (by simp only [List.all_cons, sls_plain q1]; rfl) (by simp) (fun w7 h7 => ?_)
    simp only [List.take_zero, List.nil_append, Nat.zero_add, List.drop_succ_cons, List.drop_zero, List.drop_nil, List.append_nil] at h7
    have hsub : ∀ (S : Hp) (w : World), Ow B w (S ++ ((b6, cel [vI f.regs, c] T.t_api_Func) :: (Sf ++ (cfoot don ++ R)))) → Ow B w ((b6, cel [vI f.regs, c] T.t_api_Func) :: R) := fun S w h => h.sub ((List.Sublist.cons_cons _ ((List.sublist_append_right _ _).trans (List.sublist_append_right _ _))).trans (List.sublist_append_right _ _))
    refine ⟨fun w => Ow B w ((b6, cel [vI f.regs, c] T.t_api_Func) :: R), hsub [] _ h7.drew, ?_⟩
    repeat (first | refine pu_not ?_ | refine pu_eql ?_ | refine pu_neq ?_ | refine pu_lss ?_ | refine pu_leq ?_ | refine pu_gtr ?_ | refine pu_geq ?_ | refine pu_add ?_ | refine pu_sub ?_ | refine pu_mul ?_ | refine pu_neg ?_ | refine fa_at ?_ | refine nl_ptr ?_ | refine ex20 ?_ | refine ex21 ?_ | refine ex30 ?_ | refine ex31 ?_ | refine ex32 ?_ | refine ln_rule ?_ | refine lnT_rule ?_ | refine pu_and ?_ | refine pu_or ?_ | refine pu_xor ?_ | refine pu_seq ?_ | refine pu_sne ?_)
    refine lds_here (fun w h => h) (.tail _ m2) (v := v') rfl ?_
    repeat (first | refine pu_not ?_ | refine pu_eql ?_ | refine pu_neq ?_ | refine pu_lss ?_ | refine pu_leq ?_ | refine pu_gtr ?_ | refine pu_geq ?_ | refine pu_add ?_ | refine pu_sub ?_ | refine pu_mul ?_ | refine pu_neg ?_ | refine fa_at ?_ | refine nl_ptr ?_ | refine ex20 ?_ | refine ex21 ?_ | refine ex30 ?_ | refine ex31 ?_ | refine ex32 ?_ | refine ln_rule ?_ | refine lnT_rule ?_ | refine pu_and ?_ | refine pu_or ?_ | refine pu_xor ?_ | refine pu_seq ?_ | refine pu_sne ?_)
    refine lds_here (fun w h => h) (.head _) (v := c) rfl ?_
    refine cloneI_spec h7.drew q1 (icode_plain _) (fun x hx => .tail _ (List.mem_append_right _ (List.mem_append_right _ (mX x hx)))) (by rw [icode_len]; exact hc f (List.mem_of_getElem? hf)) (fun S' c' w8 h8 ho' => ?_)
    refine ⟨hsub S' _ h8, ?_⟩
    obtain ⟨a9, c9, hc9⟩ := ho'.len
    have h8 : Ow B w8 ((S' ++ [(b6, cel [vI f.regs, c] T.t_api_Func)]) ++ Sf ++ (cfoot don ++ R)) := by simpa using h8
    refine own_setf (j := 1) h8 ho two (by omega) hat (by omega) (by rw [hc9]; rfl) (by rw [hc9]; rfl) (fun Sf' w9 h9 ho9 => ?_)
    repeat (first | refine pu_not ?_ | refine pu_eql ?_ | refine pu_neq ?_ | refine pu_lss ?_ | refine pu_leq ?_ | refine pu_gtr ?_ | refine pu_geq ?_ | refine pu_add ?_ | refine pu_sub ?_ | refine pu_mul ?_ | refine pu_neg ?_ | refine fa_at ?_ | refine nl_ptr ?_ | refine ex20 ?_ | refine ex21 ?_ | refine ex30 ?_ | refine ex31 ?_ | refine ex32 ?_ | refine ln_rule ?_ | refine lnT_rule ?_ | refine pu_and ?_ | refine pu_or ?_ | refine pu_xor ?_ | refine pu_seq ?_ | refine pu_sne ?_)
    rw [wrap64_in (by omega) (by omega)]
    have hset : (crows don ++ (frows ps).drop n).set (n : Int).toNat ([vI f.regs, c].set 1 c') = crows (don ++ [⟨S', c', f⟩]) ++ (frows ps).drop (n + 1) := by
      rw [Int.toNat_natCast, List.set_append_right _ _ (by omega), hcl, Nat.sub_self, hdrop]
      unfold crows
      rw [List.map_append, List.append_assoc]
      rfl
    rw [hset] at ho9
    refine ⟨⟨n + 1, Sf', don ++ [⟨S', c', f⟩], rfl, hlt, by simp [hdl], ?_, ?_, ?_, ?_⟩, by simp; omega⟩
    · rw [List.map_append, hdf, List.take_add_one, hf]; rfl
    · intro e he
      rcases List.mem_append.1 he with he | he
      · exact hdo e he
      · rw [List.mem_singleton.1 he]; exact ho'
    · have hl2 : (crows don ++ (frows ps).drop n).length = (crows (don ++ [⟨S', c', f⟩]) ++ (frows ps).drop (n + 1)).length := by rw [← hset, List.length_set]
      rw [← hl2]; exact ho9
    · have h10 : Ow B w9 (S' ++ (Sf' ++ (cfoot don ++ R))) := h9.sub (by
        rw [List.append_assoc, List.append_assoc]
        exact (List.Sublist.refl S').append (.cons _ (.refl _)))
      have hcf : cfoot (don ++ [⟨S', c', f⟩]) = cfoot don ++ S' := by simp [cfoot]
      rw [hcf, List.append_assoc]
      refine h10.perm ((List.perm_append_comm_assoc S' Sf' _).trans (List.Perm.append_left Sf' (List.perm_append_comm_assoc S' (cfoot don) R)))
  · obtain rfl : n = ps.length := by simp at hlt; omega
    have hdn : (frows ps).drop ps.length = [] := List.drop_eq_nil_of_le (by omega)
    rw [hdn, List.append_nil] at ho
    rw [hpl, List.take_length] at hdf
    rw [← hR] at h5
    refine ldn_here h5 (List.mem_append_right _ (List.mem_append_right _ (.tail _ (.head _)))) (vs := p.cells v') rfl rfl ?_
    have h5 : Ow B w5 ((Sf ++ cfoot don) ++ (b4, cel [.slice none 0 0, vI 0, vI 0, vI 0] T.t_api_Program) :: (b2, cel (p.cells v') T.t_api_Program) :: H) := by simpa using h5
    refine st_here h5 (p.cells v') rfl rfl (by simp only [Pr.cells, List.all_cons, hvp]; rfl) (by simp) (fun w6 h6 => ?_)
    simp only [List.take_zero, List.nil_append, Nat.zero_add, List.drop_succ_cons, List.drop_zero, List.drop_nil, List.append_nil] at h6
    refine ldn_here h6 (List.mem_append_right _ (.head _)) (vs := p.cells v') rfl rfl ?_
    exact k (Sf ++ cfoot don) v' _ ⟨Sf, don, hdf, hdo, ho, rfl⟩ (h6.sub ((List.Sublist.refl _).append (.cons _ (.cons _ (.refl _)))))
end
end Go.Proofs.YtkkkcafkepnecaaGreat
