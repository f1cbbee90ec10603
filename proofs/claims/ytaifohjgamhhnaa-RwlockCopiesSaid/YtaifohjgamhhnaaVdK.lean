/- Locks: Copy; Taken. -/
import Derived.Test.YtaifohjgamhhnaaVdJ
set_option linter.unusedVariables false
set_option linter.unusedSimpArgs false
namespace Go.Proofs.Ytaifohjgamhhnaa
open Go Go.RowKit Vc Vd
attribute [local irreducible] binV Op.unary convert nlW faW ldS ldW ixS ixA ixV ixT exW lnS lnT pu stW alW opW opU bsW mkW

section
variable {B w : World} {H X F : Hp} {K : Value → World → Prop} {PK : List PanicEntry → World → Prop} {KK : Value → Prop} {L : List Lk} {m b : Nat} {i y : Int} {s : Value}
theorem cells_plain {e : Ent} (h : e.ok) : e.cells.all plainV = true := by
  simp only [Ent.cells, List.all_cons, sl_plain (RdS.sl h)]
  rfl
theorem lcells_plain {es : List Ent} (h : ∀ e ∈ es, e.ok) : (lcells es).all plainV = true := by
  refine List.all_eq_true.2 fun v hv => ?_
  obtain ⟨e, he, hv⟩ := List.mem_flatMap.1 hv
  exact List.all_eq_true.1 (cells_plain (h e he)) v hv
abbrev e0 : Ent := ⟨[], .slice none 0 0, emp⟩
theorem cp_next {S R : Hp} {bo : Nat} {don rest : List Ent} {v : Value} {k : Lk} {t : List Value} {T : TypeId} (h : Ow B w (S ++ (bo, cel (lcells (don ++ ⟨S, v, k⟩ :: rest) ++ t) T) :: (foot don ++ R))) :
    Ow B w ((bo, cel (lcells ((don ++ [⟨S, v, k⟩]) ++ rest) ++ t) T) :: (foot (don ++ [⟨S, v, k⟩]) ++ R)) := by
  have e : foot (don ++ [⟨S, v, k⟩]) ++ R = foot don ++ (S ++ R) := by rw [foot_app]; simp [foot]
  rw [e, List.append_assoc]
  exact h.perm (List.perm_middle.trans ((List.perm_append_comm_assoc S (foot don) R).cons _))
theorem copy_nil (h : Ow B w H) (k : ∀ w', Ow B w' H → K (.pointer none) w') : callW PG N.rwlock_Locks_Copy [.pointer none] K PK w := by
  refine rwlock_Locks_Copy.ok ?_
  unfold rwlock_Locks_Copy.C
  refine none_nil h (fun w1 h1 => ?_)
  refine cnd_t rfl ?_
  exact k _ h1
/-- The clones' loop. -/
def cpI (B : World) (H : Hp) (es : List Ent) (many : Int) (b bo : Nat) (t : List Value) (U : TypeId) (i : Nat) (w : World) : Prop :=
  ∃ don : List Ent, don.length = i ∧ don.map Ent.k = (es.map Ent.k).take i ∧ (∀ e ∈ don, e.ok) ∧ Ow B w ((bo, cel (lcells (don ++ es.drop i) ++ t) U) :: (foot don ++ ((b, obj es many) :: (foot es ++ H))))
theorem cp_step {es : List Ent} {many : Int} {bo i : Nat} {t : List Value} {U : TypeId} (hes : ∀ e ∈ es, e.ok) (hw : ∀ e ∈ es, e.k.rd.length < 1000000) (hi : i < es.length) (h : cpI B H es many b bo t U i w) {PK : List PanicEntry → World → Prop} {KW : Value → World → Prop}
    (off : Nat) (ho : off = i * 3) (k : ∀ v w2, (∀ (KU : World → Prop) (off' : Nat), off' = i * 3 → (∀ w', cpI B H es many b bo t U (i + 1) w' → KU w') → stW 1 (ptr bo off') v KU w2) → KW v w2) :
    ldW none (ptr bo off) w fun t28 => callW PG N.slices_Clone_sl_int_int [t28] KW PK w := by
  obtain ⟨don, d1, d2, d3, hd⟩ := h
  subst ho
  obtain ⟨e, he⟩ : ∃ e, es[i]? = some e := ⟨_, List.getElem?_eq_getElem hi⟩
  have hdr : es.drop i = e :: es.drop (i + 1) := by
    rw [List.drop_eq_getElem_cons hi]
    rw [List.getElem?_eq_getElem hi] at he
    rw [Option.some.inj he]
  have hem := List.mem_of_getElem? he
  have hok : RdS T.t_int e.S e.v (iv e.k.rd) := hes e hem
  have hln := hw e hem
  rw [hdr] at hd
  refine ld_here hd (.head _) (v := e.v) ?_ ?_
  · rw [← d1]; exact at_rd
  refine clone_spec hd hok.sl (iv_plain _) (fun x hx => .tail _ (List.mem_append_right _ (.tail _ (List.mem_append_left _ (List.mem_flatMap.2 ⟨e, hem, hx⟩))))) (by simpa using hln) (fun S v w1 h1 ho => ?_)
  refine k v w1 fun KU off' ho' k => ?_
  subst ho'
  refine st1_here (A := S) h1 (sl_cells ho.sl) (sl_plain ho.sl) (by rw [List.length_append, lcells_len, List.length_append, List.length_cons]; omega) (fun w2 h2 => ?_)
  have es2 : (lcells (don ++ e :: es.drop (i + 1)) ++ t).set (i * 3) v = lcells (don ++ ⟨S, v, e.k⟩ :: es.drop (i + 1)) ++ t := by
    rw [← d1]
    exact lcells_set (e := e) (e' := ⟨S, v, e.k⟩) (j := 0) (by omega) rfl
  rw [es2] at h2
  refine k w2 ⟨don ++ [⟨S, v, e.k⟩], by simp [d1], ?_, ?_, cp_next h2⟩
  · rw [List.map_append, d2, List.take_add_one, List.getElem?_map, he]; rfl
  · intro x hx
    rcases List.mem_append.1 hx with hx | hx
    · exact d3 x hx
    · rw [List.mem_singleton.1 hx]; exact .inl ho
theorem copy_spec (lp : LP L m b F) (hm : m < 1000000) (h : Ow B w (F ++ H)) (k : ∀ b' F' w', LP L m b' F' → Ow B w' (F' ++ (F ++ H)) → K (ptr b') w') : callW PG N.rwlock_Locks_Copy [ptr b] K PK w := by
  refine rwlock_Locks_Copy.ok ?_
  unfold rwlock_Locks_Copy.C
  refine none_spec lp h (fun x hx => List.mem_append_left _ hx) (fun w1 h1 => ?_)
  refine cnd_f rfl ?_
  obtain ⟨es, q2, q3, q4, rfl⟩ := lp
  have hl := es_len q2 q4
  have hrd : ∀ e ∈ es, e.k.rd.length < 1000000 := fun e he => by
    have : e.k ∈ full L := by rw [← q2]; exact List.mem_map_of_mem he
    rcases List.mem_append.1 this with h | h
    · have := q4.ks _ h; omega
    · obtain ⟨_, h⟩ := List.mem_replicate.1 h; rw [h]; simp [emp]
  repeat (first | refine pu_not ?_ | refine pu_eql ?_ | refine pu_neq ?_ | refine pu_lss ?_ | refine pu_leq ?_ | refine pu_gtr ?_ | refine pu_geq ?_ | refine pu_add ?_ | refine pu_sub ?_ | refine pu_mul ?_ | refine pu_neg ?_ | refine fa_at ?_ | refine nl_ptr ?_ | refine ex20 ?_ | refine ex21 ?_ | refine ex30 ?_ | refine ex31 ?_ | refine ex32 ?_ | refine ln_rule ?_ | refine lnT_rule ?_ | refine pu_and ?_ | refine pu_or ?_ | refine pu_xor ?_ | refine pu_seq ?_ | refine pu_sne ?_)
  refine ldn_here h1 (.head _) (vs := lcells es ++ tail L.length) (by rw [List.drop_zero, List.take_of_length_le (by rw [obj_len hl]; omega)]) (obj_len hl) ?_
  refine al_rule h1 (l := lcells (List.replicate 64 e0) ++ [vI 0, vB false]) (by kernel_rfl) (fun bo w2 h2 => ?_)
  refine st_here (A := []) h2 (lcells es ++ tail L.length) rfl (obj_len hl) (by rw [List.all_append, lcells_plain q3]; rfl) (by rw [List.length_append, lcells_len]; simp) (fun w3 h3 => ?_)
  have e3 : (lcells (List.replicate 64 e0) ++ [vI 0, vB false]).drop (0 + 194) = [] := List.drop_eq_nil_of_le (by rw [List.length_append, lcells_len]; simp)
  rw [e3, List.take_zero, List.nil_append, List.append_nil] at h3
  refine ⟨fun l w => ∃ i : Nat, l = [vI i] ∧ i ≤ 64 ∧ cpI B H es L.length b bo (tail L.length) T.t_rwlock_Locks i w, fun l _ => match l with | [.int _ n] => 64 - n.toNat | _ => 0, ⟨0, rfl, by omega, [], rfl, by simp, by simp, h3⟩, ?_⟩
  rintro l w4 ⟨i, rfl, hi, h4⟩ j
  repeat (first | refine pu_not ?_ | refine pu_eql ?_ | refine pu_neq ?_ | refine pu_lss ?_ | refine pu_leq ?_ | refine pu_gtr ?_ | refine pu_geq ?_ | refine pu_add ?_ | refine pu_sub ?_ | refine pu_mul ?_ | refine pu_neg ?_ | refine fa_at ?_ | refine nl_ptr ?_ | refine ex20 ?_ | refine ex21 ?_ | refine ex30 ?_ | refine ex31 ?_ | refine ex32 ?_ | refine ln_rule ?_ | refine lnT_rule ?_ | refine pu_and ?_ | refine pu_or ?_ | refine pu_xor ?_ | refine pu_seq ?_ | refine pu_sne ?_)
  refine cnd (fun hlt => ?_) (fun hlt => ?_)
  · have hlt : i < 64 := by simp at hlt; omega
    repeat (first | refine pu_not ?_ | refine pu_eql ?_ | refine pu_neq ?_ | refine pu_lss ?_ | refine pu_leq ?_ | refine pu_gtr ?_ | refine pu_geq ?_ | refine pu_add ?_ | refine pu_sub ?_ | refine pu_mul ?_ | refine pu_neg ?_ | refine fa_at ?_ | refine nl_ptr ?_ | refine ex20 ?_ | refine ex21 ?_ | refine ex30 ?_ | refine ex31 ?_ | refine ex32 ?_ | refine ln_rule ?_ | refine lnT_rule ?_ | refine pu_and ?_ | refine pu_or ?_ | refine pu_xor ?_ | refine pu_seq ?_ | refine pu_sne ?_)
    refine ixA_at (by omega) (by omega) ?_
    repeat (first | refine pu_not ?_ | refine pu_eql ?_ | refine pu_neq ?_ | refine pu_lss ?_ | refine pu_leq ?_ | refine pu_gtr ?_ | refine pu_geq ?_ | refine pu_add ?_ | refine pu_sub ?_ | refine pu_mul ?_ | refine pu_neg ?_ | refine fa_at ?_ | refine nl_ptr ?_ | refine ex20 ?_ | refine ex21 ?_ | refine ex30 ?_ | refine ex31 ?_ | refine ex32 ?_ | refine ln_rule ?_ | refine lnT_rule ?_ | refine pu_and ?_ | refine pu_or ?_ | refine pu_xor ?_ | refine pu_seq ?_ | refine pu_sne ?_)
    refine cp_step q3 hrd (by omega) h4 _ (by simp) (fun v w5 hst => ?_)
    repeat (first | refine pu_not ?_ | refine pu_eql ?_ | refine pu_neq ?_ | refine pu_lss ?_ | refine pu_leq ?_ | refine pu_gtr ?_ | refine pu_geq ?_ | refine pu_add ?_ | refine pu_sub ?_ | refine pu_mul ?_ | refine pu_neg ?_ | refine fa_at ?_ | refine nl_ptr ?_ | refine ex20 ?_ | refine ex21 ?_ | refine ex30 ?_ | refine ex31 ?_ | refine ex32 ?_ | refine ln_rule ?_ | refine lnT_rule ?_ | refine pu_and ?_ | refine pu_or ?_ | refine pu_xor ?_ | refine pu_seq ?_ | refine pu_sne ?_)
    refine ixA_at (by omega) (by omega) ?_
    repeat (first | refine pu_not ?_ | refine pu_eql ?_ | refine pu_neq ?_ | refine pu_lss ?_ | refine pu_leq ?_ | refine pu_gtr ?_ | refine pu_geq ?_ | refine pu_add ?_ | refine pu_sub ?_ | refine pu_mul ?_ | refine pu_neg ?_ | refine fa_at ?_ | refine nl_ptr ?_ | refine ex20 ?_ | refine ex21 ?_ | refine ex30 ?_ | refine ex31 ?_ | refine ex32 ?_ | refine ln_rule ?_ | refine lnT_rule ?_ | refine pu_and ?_ | refine pu_or ?_ | refine pu_xor ?_ | refine pu_seq ?_ | refine pu_sne ?_)
    refine hst _ _ (by simp) (fun w6 h6 => ?_)
    repeat (first | refine pu_not ?_ | refine pu_eql ?_ | refine pu_neq ?_ | refine pu_lss ?_ | refine pu_leq ?_ | refine pu_gtr ?_ | refine pu_geq ?_ | refine pu_add ?_ | refine pu_sub ?_ | refine pu_mul ?_ | refine pu_neg ?_ | refine fa_at ?_ | refine nl_ptr ?_ | refine ex20 ?_ | refine ex21 ?_ | refine ex30 ?_ | refine ex31 ?_ | refine ex32 ?_ | refine ln_rule ?_ | refine lnT_rule ?_ | refine pu_and ?_ | refine pu_or ?_ | refine pu_xor ?_ | refine pu_seq ?_ | refine pu_sne ?_)
    rw [wrap64_in (by omega) (by omega)]
    exact ⟨⟨i + 1, rfl, hlt, h6⟩, by simp; omega⟩
  · obtain rfl : i = 64 := by simp at hlt; omega
    obtain ⟨don, d1, d2, d3, hd⟩ := h4
    have hdr : es.drop 64 = [] := List.drop_eq_nil_of_le (by omega)
    rw [hdr, List.append_nil] at hd
    refine k bo ((bo, obj don L.length) :: foot don) _ ⟨don, ?_, d3, q4, rfl⟩ ?_
    · rw [d2, List.take_of_length_le (by rw [List.length_map]; omega), q2]
    · simpa using hd
end
end Go.Proofs.Ytaifohjgamhhnaa
