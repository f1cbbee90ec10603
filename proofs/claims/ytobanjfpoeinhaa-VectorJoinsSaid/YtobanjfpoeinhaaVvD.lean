/- Contracts of package vector and its reference, second part. -/
import Derived.Test.YtobanjfpoeinhaaVvC
set_option linter.unusedVariables false
set_option linter.unusedSimpArgs false
namespace Go.Proofs.Ytobanjfpoeinhaa
open Go Go.RowKit Vc Vx
attribute [local irreducible] binV Op.unary convert nlW faW ldS ldW ixS ixA ixV ixT exW lnS lnT pu stW alW opW opU bsW mkW

section
variable {B w : World} {H : Hp} {K : Value → World → Prop} {PK : List PanicEntry → World → Prop}
/-! ### Has, Epoch -/
theorem gi_of (l : List Nat) (i : Nat) : gi l ((i : Nat) : Int) = gt l i := gi_nat l i
theorem has_spec {s : Value} {l : List Nat} {e : Nat} (h : Ow B w H) (hs : Cl H s l) (he : e < 18446744073709551616) (k : ∀ w', Ow B w' H → K (vB (has l e)) w') : callW PG N.vector_Has [s, v64 e] K PK w := by
  refine vector_Has.ok ?_
  unfold vector_Has.C
  refine parts_spec h he (fun w1 h1 => ?_)
  repeat (first | refine pu_not ?_ | refine pu_eql ?_ | refine pu_neq ?_ | refine pu_lss ?_ | refine pu_leq ?_ | refine pu_gtr ?_ | refine pu_geq ?_ | refine pu_add ?_ | refine pu_sub ?_ | refine pu_mul ?_ | refine pu_neg ?_ | refine fa_at ?_ | refine nl_ptr ?_ | refine ex20 ?_ | refine ex21 ?_ | refine ex30 ?_ | refine ex31 ?_ | refine ex32 ?_ | refine ln_rule ?_ | refine lnT_rule ?_ | refine pu_and ?_ | refine pu_or ?_ | refine pu_xor ?_ | refine pu_seq ?_ | refine pu_sne ?_)
  refine get_spec h1 hs (fun w2 h2 => ?_)
  rw [gi_nat]
  repeat (first | refine pu_not ?_ | refine pu_eql ?_ | refine pu_neq ?_ | refine pu_lss ?_ | refine pu_leq ?_ | refine pu_gtr ?_ | refine pu_geq ?_ | refine pu_add ?_ | refine pu_sub ?_ | refine pu_mul ?_ | refine pu_neg ?_ | refine fa_at ?_ | refine nl_ptr ?_ | refine ex20 ?_ | refine ex21 ?_ | refine ex30 ?_ | refine ex31 ?_ | refine ex32 ?_ | refine ln_rule ?_ | refine lnT_rule ?_ | refine pu_and ?_ | refine pu_or ?_ | refine pu_xor ?_ | refine pu_seq ?_ | refine pu_sne ?_)
  have e1 : decide (((e % 281474976710656 : Nat) : Int) ≤ ((gt l (e / 281474976710656) : Nat) : Int)) = has l e := by
    unfold has
    congr 1
    simp only [eq_iff_iff]
    generalize gt l (e / 281474976710656) = q
    omega
  rw [e1]
  exact k _ h2
theorem rhas_spec {s : Value} {l : List Nat} {e : Nat} (h : Ow B w H) (hs : Cl H s l) (he : e < 18446744073709551616) (k : K (vB (has l e)) w) : callW PG N.linesmanref04_Has [s, v64 e] K PK w := by
  refine linesmanref04_Has.ok ?_
  unfold linesmanref04_Has.C
  refine rparts_spec he ?_
  repeat (first | refine pu_not ?_ | refine pu_eql ?_ | refine pu_neq ?_ | refine pu_lss ?_ | refine pu_leq ?_ | refine pu_gtr ?_ | refine pu_geq ?_ | refine pu_add ?_ | refine pu_sub ?_ | refine pu_mul ?_ | refine pu_neg ?_ | refine fa_at ?_ | refine nl_ptr ?_ | refine ex20 ?_ | refine ex21 ?_ | refine ex30 ?_ | refine ex31 ?_ | refine ex32 ?_ | refine ln_rule ?_ | refine lnT_rule ?_ | refine pu_and ?_ | refine pu_or ?_ | refine pu_xor ?_ | refine pu_seq ?_ | refine pu_sne ?_)
  refine rget_spec h hs ?_
  rw [gi_nat]
  repeat (first | refine pu_not ?_ | refine pu_eql ?_ | refine pu_neq ?_ | refine pu_lss ?_ | refine pu_leq ?_ | refine pu_gtr ?_ | refine pu_geq ?_ | refine pu_add ?_ | refine pu_sub ?_ | refine pu_mul ?_ | refine pu_neg ?_ | refine fa_at ?_ | refine nl_ptr ?_ | refine ex20 ?_ | refine ex21 ?_ | refine ex30 ?_ | refine ex31 ?_ | refine ex32 ?_ | refine ln_rule ?_ | refine lnT_rule ?_ | refine pu_and ?_ | refine pu_or ?_ | refine pu_xor ?_ | refine pu_seq ?_ | refine pu_sne ?_)
  have e1 : decide (((e % 281474976710656 : Nat) : Int) ≤ ((gt l (e / 281474976710656) : Nat) : Int)) = has l e := by
    unfold has
    congr 1
    simp only [eq_iff_iff]
    generalize gt l (e / 281474976710656) = q
    omega
  rw [e1]
  exact k
theorem gi_lt {l : List Nat} (h : Qd l) (id : Int) : gi l id < 18446744073709551616 := by
  unfold gi
  split
  · decide
  · exact gt_lt h _
theorem epoch_spec {s : Value} {l : List Nat} {id : Int} (h : Ow B w H) (hs : Cl H s l) (hq : Qd l) (hl : l.length < 2 ^ 62) (hid : id < 9223372036854775808) (k : ∀ w', Ow B w' H → K (.tuple #[v64 (epo l id).1, vI (epo l id).2]) w') : callW PG N.vector_Epoch [s, vI id] K PK w := by
  refine vector_Epoch.ok ?_
  unfold vector_Epoch.C
  refine check_spec h hs hl (fun w1 h1 => ?_)
  repeat (first | refine pu_not ?_ | refine pu_eql ?_ | refine pu_neq ?_ | refine pu_lss ?_ | refine pu_leq ?_ | refine pu_gtr ?_ | refine pu_geq ?_ | refine pu_add ?_ | refine pu_sub ?_ | refine pu_mul ?_ | refine pu_neg ?_ | refine fa_at ?_ | refine nl_ptr ?_ | refine ex20 ?_ | refine ex21 ?_ | refine ex30 ?_ | refine ex31 ?_ | refine ex32 ?_ | refine ln_rule ?_ | refine lnT_rule ?_ | refine pu_and ?_ | refine pu_or ?_ | refine pu_xor ?_ | refine pu_seq ?_ | refine pu_sne ?_)
  by_cases hr : right l = true
  · rw [if_pos hr]
    refine cnd_f rfl ?_
    refine get_spec h1 hs (fun w2 h2 => ?_)
    refine pack_spec h2 hid (gi_lt hq id) (fun w3 h3 => ?_)
    repeat (first | refine pu_not ?_ | refine pu_eql ?_ | refine pu_neq ?_ | refine pu_lss ?_ | refine pu_leq ?_ | refine pu_gtr ?_ | refine pu_geq ?_ | refine pu_add ?_ | refine pu_sub ?_ | refine pu_mul ?_ | refine pu_neg ?_ | refine fa_at ?_ | refine nl_ptr ?_ | refine ex20 ?_ | refine ex21 ?_ | refine ex30 ?_ | refine ex31 ?_ | refine ex32 ?_ | refine ln_rule ?_ | refine lnT_rule ?_ | refine pu_and ?_ | refine pu_or ?_ | refine pu_xor ?_ | refine pu_seq ?_ | refine pu_sne ?_)
    have e : epo l id = pack id (gi l id) := by unfold epo; rw [if_pos hr]
    rw [e] at k
    exact k _ h3
  · rw [if_neg hr]
    refine cnd_t rfl ?_
    have e : epo l id = (0, 2) := by unfold epo; rw [if_neg hr]
    rw [e] at k
    exact k _ h1
theorem repoch_spec {s : Value} {l : List Nat} {id : Int} (h : Ow B w H) (hs : Cl H s l) (hq : Qd l) (hl : l.length < 2 ^ 62) (hid : id < 9223372036854775808) (k : ∀ w', Ow B w' H → K (.tuple #[v64 (epo l id).1, vI (epo l id).2]) w') : callW PG N.linesmanref04_Epoch [s, vI id] K PK w := by
  refine linesmanref04_Epoch.ok ?_
  unfold linesmanref04_Epoch.C
  refine rright_spec h hs hl (fun w1 h1 => ?_)
  repeat (first | refine pu_not ?_ | refine pu_eql ?_ | refine pu_neq ?_ | refine pu_lss ?_ | refine pu_leq ?_ | refine pu_gtr ?_ | refine pu_geq ?_ | refine pu_add ?_ | refine pu_sub ?_ | refine pu_mul ?_ | refine pu_neg ?_ | refine fa_at ?_ | refine nl_ptr ?_ | refine ex20 ?_ | refine ex21 ?_ | refine ex30 ?_ | refine ex31 ?_ | refine ex32 ?_ | refine ln_rule ?_ | refine lnT_rule ?_ | refine pu_and ?_ | refine pu_or ?_ | refine pu_xor ?_ | refine pu_seq ?_ | refine pu_sne ?_)
  refine cnd (fun hr => ?_) (fun hr => ?_)
  · have e : epo l id = (0, 2) := by unfold epo; rw [if_neg (by simpa using hr)]
    rw [e] at k
    exact k _ h1
  · have hr : right l = true := by simpa using hr
    have e : epo l id = pack id (gi l id) := by unfold epo; rw [if_pos hr]
    rw [e] at k
    repeat (first | refine pu_not ?_ | refine pu_eql ?_ | refine pu_neq ?_ | refine pu_lss ?_ | refine pu_leq ?_ | refine pu_gtr ?_ | refine pu_geq ?_ | refine pu_add ?_ | refine pu_sub ?_ | refine pu_mul ?_ | refine pu_neg ?_ | refine fa_at ?_ | refine nl_ptr ?_ | refine ex20 ?_ | refine ex21 ?_ | refine ex30 ?_ | refine ex31 ?_ | refine ex32 ?_ | refine ln_rule ?_ | refine lnT_rule ?_ | refine pu_and ?_ | refine pu_or ?_ | refine pu_xor ?_ | refine pu_seq ?_ | refine pu_sne ?_)
    refine cnd (fun hlt => ?_) (fun hge => ?_)
    · have e : pack id (gi l id) = (0, 2) := by unfold pack; rw [if_neg]; simp at hlt; omega
      rw [e] at k
      exact k _ h1
    · repeat (first | refine pu_not ?_ | refine pu_eql ?_ | refine pu_neq ?_ | refine pu_lss ?_ | refine pu_leq ?_ | refine pu_gtr ?_ | refine pu_geq ?_ | refine pu_add ?_ | refine pu_sub ?_ | refine pu_mul ?_ | refine pu_neg ?_ | refine fa_at ?_ | refine nl_ptr ?_ | refine ex20 ?_ | refine ex21 ?_ | refine ex30 ?_ | refine ex31 ?_ | refine ex32 ?_ | refine ln_rule ?_ | refine lnT_rule ?_ | refine pu_and ?_ | refine pu_or ?_ | refine pu_xor ?_ | refine pu_seq ?_ | refine pu_sne ?_)
      refine cnd (fun hlt => ?_) (fun hle => ?_)
      · have e : pack id (gi l id) = (0, 2) := by unfold pack; rw [if_neg]; simp at hlt; omega
        rw [e] at k
        exact k _ h1
      · refine rget_spec h1 hs ?_
        refine rpack_spec hid (gi_lt hq id) ?_
        repeat (first | refine pu_not ?_ | refine pu_eql ?_ | refine pu_neq ?_ | refine pu_lss ?_ | refine pu_leq ?_ | refine pu_gtr ?_ | refine pu_geq ?_ | refine pu_add ?_ | refine pu_sub ?_ | refine pu_mul ?_ | refine pu_neg ?_ | refine fa_at ?_ | refine nl_ptr ?_ | refine ex20 ?_ | refine ex21 ?_ | refine ex30 ?_ | refine ex31 ?_ | refine ex32 ?_ | refine ln_rule ?_ | refine lnT_rule ?_ | refine pu_and ?_ | refine pu_or ?_ | refine pu_xor ?_ | refine pu_seq ?_ | refine pu_sne ?_)
        exact k _ h1
/-! ### Copies, trimmed -/
theorem eq_slnil {t e : TypeId} (ht : PG.underlying t = some (.slice e)) (a : Option Addr) (n c : Nat) (w : World) : (Op.equal t (.slice a n c) (.slice none 0 0)).run PG w = .ok a.isNone w := by
  have : ∀ d, (Op.equalIn (d + 1) t (.slice a n c) (.slice none 0 0)).run PG w = .ok a.isNone w := fun d => by cases a <;> simp only [Op.equalIn, Sem.run_bind, run_und ht, Result.andThen, Sem.run_pure, Option.isNone]
  exact this 9999
theorem pu_slnil {t e : TypeId} {c : Bool} {KK : Value → Prop} (ht : PG.underlying t = some (.slice e)) {a : Option Addr} {n cc : Nat} (k : KK (vB a.isNone)) : pu PG (binV .eql t c (.slice a n cc) (.slice none 0 0)) KK :=
  pu_of (binV_run rfl (fun w => run_eqB (eq_slnil ht a n cc w))) k
theorem clone_spec {s : Value} {xs : List Nat} {X0 : Hp} (h : Ow B w H) (hs : Cl X0 s xs) (hX : ∀ x, x ∈ X0 → x ∈ H) (hl : xs.length < 1000000) (k : ∀ S v w', Ow B w' (S ++ H) → Vc.Own S T.t_uint64 1 v xs.length (qv xs) → K v w') : callW PG N.slices_Clone_api_Clock_uint64 [s] K PK w := by
  refine slices_Clone_api_Clock_uint64.ok ?_
  unfold slices_Clone_api_Clock_uint64.C
  obtain ⟨a, c, hse, hc⟩ := Sl.cap hs
  have hcase : a = none → xs = [] := fun ha => by
    obtain ⟨a', c', he, _, hx⟩ := hs
    rw [hse] at he
    cases he
    cases xs with
    | nil => rfl
    | cons x l => obtain ⟨p, hp, _⟩ := hx 0 _ rfl; rw [ha] at hp; cases hp
  have hgoal : ∀ (KK : Value → Prop), KK (vB a.isNone) → pu PG (binV .eql T.t_api_Clock true s (.slice none 0 0)) KK := fun KK k => by
    rw [hse]; exact pu_slnil und_clk k
  refine hgoal _ ?_
  refine cnd (fun hn => ?_) (fun hn => ?_)
  · have ha : a = none := by simpa using hn
    have := hcase ha
    subst this
    exact k [] _ _ h (own_none _ _)
  · refine bs_rule h [] (by kernel_rfl) (fun b1 w1 h1 => ?_)
    refine app1 (A := []) (S := [(b1, cel [] T.t_uint64)]) (z := v64 0) (bytes := 8) h1 (Own.mk (n := 0) (cap := 0) (xs := []) (Nat.le_refl _) (Nat.zero_le _) rfl rfl) hs (fun y hy => .tail _ (hX y hy)) (by simp [plainV]) und_clk info_u64 rfl (by simp [maxLen]; omega) (by simp; omega) (fun S p w2 h2 ho => ?_)
    refine k S p w2 h2 ?_
    simpa using ho
theorem trim_spec {s : Value} {xs : List Nat} {X0 : Hp} (h : Ow B w H) (hs : Cl X0 s xs) (hX : ∀ x, x ∈ X0 → x ∈ H) (hl : xs.length < 1000000) (k : ∀ S v w', Ow B w' (S ++ H) → Cl S v (trim xs) → K v w') : callW PG N.vector_Trim [s] K PK w := by
  refine vector_Trim.ok ?_
  unfold vector_Trim.C
  refine clone_spec h hs hX hl (fun S v w1 h1 ho => ?_)
  refine ⟨fun l' w => ∃ (n : Nat) (u : Value), l' = [u] ∧ n ≤ xs.length ∧ (∀ i, n ≤ i → i < xs.length → gt xs i = 0) ∧ Cl S u (xs.take n) ∧ Ow B w (S ++ H), fun l' _ => match l' with | [.slice _ n _] => n | _ => 0, ⟨xs.length, v, rfl, Nat.le_refl _, fun i h1 h2 => absurd h2 (by omega), by rw [List.take_length]; exact ho.sl, h1⟩, ?_⟩
  rintro l' w2 ⟨n, u, rfl, hn, hz, hu, h2⟩ j
  have hun : ((xs.take n).length : Nat) = n := by rw [List.length_take]; omega
  refine sl_ln hu ?_
  rw [List.length_map, hun]
  repeat (first | refine pu_not ?_ | refine pu_eql ?_ | refine pu_neq ?_ | refine pu_lss ?_ | refine pu_leq ?_ | refine pu_gtr ?_ | refine pu_geq ?_ | refine pu_add ?_ | refine pu_sub ?_ | refine pu_mul ?_ | refine pu_neg ?_ | refine fa_at ?_ | refine nl_ptr ?_ | refine ex20 ?_ | refine ex21 ?_ | refine ex30 ?_ | refine ex31 ?_ | refine ex32 ?_ | refine ln_rule ?_ | refine lnT_rule ?_ | refine pu_and ?_ | refine pu_or ?_ | refine pu_xor ?_ | refine pu_seq ?_ | refine pu_sne ?_)
  refine cnd (fun hp => ?_) (fun hp => ?_)
  · have hp : 0 < n := by simp at hp; omega
    refine sl_ln hu ?_
    rw [List.length_map, hun]
    repeat (first | refine pu_not ?_ | refine pu_eql ?_ | refine pu_neq ?_ | refine pu_lss ?_ | refine pu_leq ?_ | refine pu_gtr ?_ | refine pu_geq ?_ | refine pu_add ?_ | refine pu_sub ?_ | refine pu_mul ?_ | refine pu_neg ?_ | refine fa_at ?_ | refine nl_ptr ?_ | refine ex20 ?_ | refine ex21 ?_ | refine ex30 ?_ | refine ex31 ?_ | refine ex32 ?_ | refine ln_rule ?_ | refine lnT_rule ?_ | refine pu_and ?_ | refine pu_or ?_ | refine pu_xor ?_ | refine pu_seq ?_ | refine pu_sne ?_)
    rw [wrap64_in (by omega) (by omega)]
    have hi : ((n : Int) - 1).toNat = n - 1 := by omega
    refine sl_ld (v := v64 (gt xs (n - 1))) h2 (hu.mono fun x hx => List.mem_append_left _ hx) (by omega) (by rw [hi, qv_at (by rw [hun]; omega), gt_take, if_pos (by omega)]) ?_
    repeat (first | refine pu_not ?_ | refine pu_eql ?_ | refine pu_neq ?_ | refine pu_lss ?_ | refine pu_leq ?_ | refine pu_gtr ?_ | refine pu_geq ?_ | refine pu_add ?_ | refine pu_sub ?_ | refine pu_mul ?_ | refine pu_neg ?_ | refine fa_at ?_ | refine nl_ptr ?_ | refine ex20 ?_ | refine ex21 ?_ | refine ex30 ?_ | refine ex31 ?_ | refine ex32 ?_ | refine ln_rule ?_ | refine lnT_rule ?_ | refine pu_and ?_ | refine pu_or ?_ | refine pu_xor ?_ | refine pu_seq ?_ | refine pu_sne ?_)
    refine cnd (fun hzr => ?_) (fun hzr => ?_)
    · have hzr : gt xs (n - 1) = 0 := by simp at hzr; omega
      refine sl_ln hu ?_
      rw [List.length_map, hun]
      repeat (first | refine pu_not ?_ | refine pu_eql ?_ | refine pu_neq ?_ | refine pu_lss ?_ | refine pu_leq ?_ | refine pu_gtr ?_ | refine pu_geq ?_ | refine pu_add ?_ | refine pu_sub ?_ | refine pu_mul ?_ | refine pu_neg ?_ | refine fa_at ?_ | refine nl_ptr ?_ | refine ex20 ?_ | refine ex21 ?_ | refine ex30 ?_ | refine ex31 ?_ | refine ex32 ?_ | refine ln_rule ?_ | refine lnT_rule ?_ | refine pu_and ?_ | refine pu_or ?_ | refine pu_xor ?_ | refine pu_seq ?_ | refine pu_sne ?_)
      rw [wrap64_in (by omega) (by omega)]
      refine cutH hu (by omega) (by rw [List.length_map, hun]; omega) (fun c hc => ?_)
      have hu2 := sl_cut (l := 0) (h := n - 1) (m := c) hu (by omega) (by rw [List.length_map, hun]; omega) (by omega)
      rw [List.drop_zero, ← List.map_take, List.take_take, Nat.min_eq_left (by omega)] at hu2
      rw [hi]
      refine ⟨⟨n - 1, _, rfl, by omega, fun i h1 h3 => ?_, hu2, h2⟩, ?_⟩
      · by_cases he : i = n - 1
        · subst he; exact hzr
        · exact hz i (by omega) h3
      · obtain ⟨a, cc, he⟩ := hu2.len
        have hul : (qv (xs.take (n - 1))).length = n - 1 := by rw [List.length_map, List.length_take]; omega
        rw [hul] at he
        obtain ⟨a', cc', he'⟩ := hu.len
        rw [List.length_map, hun] at he'
        show (match [cut u 0 (n - 1) c] with | [.slice _ n _] => n | _ => 0) < (match [u] with | [.slice _ n _] => n | _ => 0)
        rw [he, he']
        show n - 1 < n
        omega
    · have hzr : gt xs (n - 1) ≠ 0 := by simp at hzr; omega
      have ht := trim_of hn hz (.inr hzr)
      refine sl_ln hu ?_
      rw [List.length_map, hun]
      repeat (first | refine pu_not ?_ | refine pu_eql ?_ | refine pu_neq ?_ | refine pu_lss ?_ | refine pu_leq ?_ | refine pu_gtr ?_ | refine pu_geq ?_ | refine pu_add ?_ | refine pu_sub ?_ | refine pu_mul ?_ | refine pu_neg ?_ | refine fa_at ?_ | refine nl_ptr ?_ | refine ex20 ?_ | refine ex21 ?_ | refine ex30 ?_ | refine ex31 ?_ | refine ex32 ?_ | refine ln_rule ?_ | refine lnT_rule ?_ | refine pu_and ?_ | refine pu_or ?_ | refine pu_xor ?_ | refine pu_seq ?_ | refine pu_sne ?_)
      refine cnd (fun h0 => ?_) (fun h0 => ?_)
      · have h0 : n = 0 := by simp at h0; omega
        subst h0
        refine k [] _ _ (h2.sub (List.sublist_append_right _ _)) ?_
        rw [← ht]
        exact ⟨none, 0, rfl, Nat.le_refl _, by simp⟩
      · refine k S u _ h2 ?_
        rw [← ht]
        exact hu
  · have hp : n = 0 := by simp at hp; omega
    have ht := trim_of hn hz (.inl hp)
    refine sl_ln hu ?_
    rw [List.length_map, hun]
    repeat (first | refine pu_not ?_ | refine pu_eql ?_ | refine pu_neq ?_ | refine pu_lss ?_ | refine pu_leq ?_ | refine pu_gtr ?_ | refine pu_geq ?_ | refine pu_add ?_ | refine pu_sub ?_ | refine pu_mul ?_ | refine pu_neg ?_ | refine fa_at ?_ | refine nl_ptr ?_ | refine ex20 ?_ | refine ex21 ?_ | refine ex30 ?_ | refine ex31 ?_ | refine ex32 ?_ | refine ln_rule ?_ | refine lnT_rule ?_ | refine pu_and ?_ | refine pu_or ?_ | refine pu_xor ?_ | refine pu_seq ?_ | refine pu_sne ?_)
    refine cnd (fun h0 => ?_) (fun h0 => ?_)
    · have h0 : n = 0 := by simp at h0; omega
      subst h0
      refine k [] _ _ (h2.sub (List.sublist_append_right _ _)) ?_
      rw [← ht]
      exact ⟨none, 0, rfl, Nat.le_refl _, by simp⟩
    · refine k S u _ h2 ?_
      rw [← ht]
      exact hu
theorem rtrim_spec {s : Value} {xs : List Nat} {X0 : Hp} (h : Ow B w H) (hs : Cl X0 s xs) (hX : ∀ x, x ∈ X0 → x ∈ H) (hl : xs.length < 1000000) (k : ∀ S v w', Ow B w' (S ++ H) → Cl S v (trim xs) → K v w') : callW PG N.linesmanref04_Trim [s] K PK w := by
  refine linesmanref04_Trim.ok ?_
  unfold linesmanref04_Trim.C
  refine sl_ln hs ?_
  rw [List.length_map]
  refine ⟨fun l' w => ∃ n : Nat, l' = [vI n] ∧ n ≤ xs.length ∧ (∀ i, n ≤ i → i < xs.length → gt xs i = 0) ∧ Ow B w H, fun l' _ => match l' with | [.int _ n] => n.toNat | _ => 0, ⟨xs.length, rfl, Nat.le_refl _, fun i h1 h2 => absurd h2 (by omega), h⟩, ?_⟩
  rintro l' w2 ⟨n, rfl, hn, hz, h2⟩ j
  repeat (first | refine pu_not ?_ | refine pu_eql ?_ | refine pu_neq ?_ | refine pu_lss ?_ | refine pu_leq ?_ | refine pu_gtr ?_ | refine pu_geq ?_ | refine pu_add ?_ | refine pu_sub ?_ | refine pu_mul ?_ | refine pu_neg ?_ | refine fa_at ?_ | refine nl_ptr ?_ | refine ex20 ?_ | refine ex21 ?_ | refine ex30 ?_ | refine ex31 ?_ | refine ex32 ?_ | refine ln_rule ?_ | refine lnT_rule ?_ | refine pu_and ?_ | refine pu_or ?_ | refine pu_xor ?_ | refine pu_seq ?_ | refine pu_sne ?_)
  refine cnd (fun hp => ?_) (fun hp => ?_)
  · have hp : 0 < n := by simp at hp; omega
    repeat (first | refine pu_not ?_ | refine pu_eql ?_ | refine pu_neq ?_ | refine pu_lss ?_ | refine pu_leq ?_ | refine pu_gtr ?_ | refine pu_geq ?_ | refine pu_add ?_ | refine pu_sub ?_ | refine pu_mul ?_ | refine pu_neg ?_ | refine fa_at ?_ | refine nl_ptr ?_ | refine ex20 ?_ | refine ex21 ?_ | refine ex30 ?_ | refine ex31 ?_ | refine ex32 ?_ | refine ln_rule ?_ | refine lnT_rule ?_ | refine pu_and ?_ | refine pu_or ?_ | refine pu_xor ?_ | refine pu_seq ?_ | refine pu_sne ?_)
    rw [wrap64_in (by omega) (by omega)]
    have hi : ((n : Int) - 1).toNat = n - 1 := by omega
    refine sl_ld (v := v64 (gt xs (n - 1))) h2 (hs.mono hX) (by omega) (by rw [hi]; exact qv_at (by omega)) ?_
    repeat (first | refine pu_not ?_ | refine pu_eql ?_ | refine pu_neq ?_ | refine pu_lss ?_ | refine pu_leq ?_ | refine pu_gtr ?_ | refine pu_geq ?_ | refine pu_add ?_ | refine pu_sub ?_ | refine pu_mul ?_ | refine pu_neg ?_ | refine fa_at ?_ | refine nl_ptr ?_ | refine ex20 ?_ | refine ex21 ?_ | refine ex30 ?_ | refine ex31 ?_ | refine ex32 ?_ | refine ln_rule ?_ | refine lnT_rule ?_ | refine pu_and ?_ | refine pu_or ?_ | refine pu_xor ?_ | refine pu_seq ?_ | refine pu_sne ?_)
    refine cnd (fun hzr => ?_) (fun hzr => ?_)
    · have hzr : gt xs (n - 1) = 0 := by simp at hzr; omega
      repeat (first | refine pu_not ?_ | refine pu_eql ?_ | refine pu_neq ?_ | refine pu_lss ?_ | refine pu_leq ?_ | refine pu_gtr ?_ | refine pu_geq ?_ | refine pu_add ?_ | refine pu_sub ?_ | refine pu_mul ?_ | refine pu_neg ?_ | refine fa_at ?_ | refine nl_ptr ?_ | refine ex20 ?_ | refine ex21 ?_ | refine ex30 ?_ | refine ex31 ?_ | refine ex32 ?_ | refine ln_rule ?_ | refine lnT_rule ?_ | refine pu_and ?_ | refine pu_or ?_ | refine pu_xor ?_ | refine pu_seq ?_ | refine pu_sne ?_)
      rw [wrap64_in (by omega) (by omega)]
      refine ⟨⟨n - 1, ?_, by omega, fun i h1 h3 => ?_, h2⟩, by simp; omega⟩
      · have : ((n : Int) - 1) = ((n - 1 : Nat) : Int) := by omega
        rw [this]
      · by_cases he : i = n - 1
        · subst he; exact hzr
        · exact hz i (by omega) h3
    · have hzr : gt xs (n - 1) ≠ 0 := by simp at hzr; omega
      have ht := trim_of hn hz (.inr hzr)
      refine cutH hs (by omega) (by rw [List.length_map]; omega) (fun c hc => ?_)
      have hu2 := sl_cut (l := 0) (h := n) (m := c) hs (by omega) (by rw [List.length_map]; omega) (by omega)
      rw [List.drop_zero, ← List.map_take, ht] at hu2
      rw [Int.toNat_natCast]
      have htl := trim_len xs
      refine app1 (A := []) (S := []) (z := v64 0) (bytes := 8) h2 (own_none _ _) hu2 (fun y hy => hX y hy) (by simp [plainV]) und_clk info_u64 rfl (by simp [maxLen]; omega) (by simp; omega) (fun S p w3 h3 ho => ?_)
      refine k S p w3 h3 ?_
      simpa using ho.sl
  · have hp : n = 0 := by simp at hp; omega
    have ht := trim_of hn hz (.inl hp)
    refine cutH hs (by omega) (by rw [List.length_map]; omega) (fun c hc => ?_)
    have hu2 := sl_cut (l := 0) (h := n) (m := c) hs (by omega) (by rw [List.length_map]; omega) (by omega)
    rw [List.drop_zero, ← List.map_take, ht] at hu2
    rw [Int.toNat_natCast]
    have htl := trim_len xs
    refine app1 (A := []) (S := []) (z := v64 0) (bytes := 8) h2 (own_none _ _) hu2 (fun y hy => hX y hy) (by simp [plainV]) und_clk info_u64 rfl (by simp [maxLen]; omega) (by simp; omega) (fun S p w3 h3 ho => ?_)
    refine k S p w3 h3 ?_
    simpa using ho.sl
/-! ### How two stand -/
theorem rels_spec (h : Ow B w H) (k : ∀ w', Ow B w' H → K (.agg #[vI 4, vI 3, vI 2, vI 1]) w') : callW PG N.vector_rels [] K PK w := by
  refine vector_rels.ok ?_
  unfold vector_rels.C
  refine al_rule h (l := [vI 0, vI 0, vI 0, vI 0]) (by kernel_rfl) (fun b w1 h1 => ?_)
  refine pu_build [vI 4, vI 3] (by kernel_rfl) ?_
  refine pu_build [vI 2, vI 1] (by kernel_rfl) ?_
  refine pu_build [vI 4, vI 3, vI 2, vI 1] (by kernel_rfl) ?_
  refine st_here (A := []) h1 [vI 4, vI 3, vI 2, vI 1] rfl rfl rfl (by simp) (fun w2 h2 => ?_)
  refine ldn_here h2 (.head _) (vs := [vI 4, vI 3, vI 2, vI 1]) rfl rfl ?_
  exact k _ h2.drop
theorem one_spec {b : Bool} (k : K (vI (if b = true then 1 else 0)) w) : callW PG N.vector_one [vB b] K PK w := by
  refine vector_one.ok ?_
  unfold vector_one.C
  cases b
  · refine cnd_f rfl ?_
    exact k
  · refine cnd_t rfl ?_
    exact k
theorem ixV_agg {len size : Nat} {l vs : List Value} {n : Int} {kd : IntKind} {KK : Value → Prop} (h0 : 0 ≤ n) (h1 : n < (len : Int)) (hv : (l.drop (n.toNat * size)).take size = vs) (k : KK (.agg vs.toArray)) : ixV len size true (.agg l.toArray) (.int kd n) KK := by
  unfold ixV
  exact ⟨_, _, rfl, h0, h1, ptn_at hv k⟩
theorem stands_spec {s t : Value} {a b : List Nat} (h : Ow B w H) (hs : Cl H s a) (ht : Cl H t b) (ha : a.length < 2 ^ 62) (hb : b.length < 2 ^ 62) (k : ∀ w', Ow B w' H → K (vI (stands a b)) w') : callW PG N.vector_Stands [s, t] K PK w := by
  refine vector_Stands.ok ?_
  unfold vector_Stands.C
  refine rels_spec h.drew (fun w1 h1 => ?_)
  refine of_spec h1 hs (fun w2 h2 => ?_)
  refine upTo_spec h2 hs ht ha (fun w3 h3 => ?_)
  refine one_spec ?_
  by_cases h4 : upTo a b = true
  · rw [if_pos h4]
    refine ixV_agg (l := [vI 4, vI 3, vI 2, vI 1]) (vs := [vI 2, vI 1]) (by omega) (by omega) rfl ?_
    refine of_spec h3 ht (fun w5 h5 => ?_)
    refine upTo_spec h5 ht hs hb (fun w6 h6 => ?_)
    refine one_spec ?_
    by_cases h7 : upTo b a = true
    · rw [if_pos h7]
      refine ixV_rule (l := [vI 2, vI 1]) (by omega) (by omega) rfl ?_
      have e : stands a b = 1 := by unfold stands; rw [if_pos h4, if_pos h7]
      rw [e] at k; exact k _ h6
    · rw [if_neg h7]
      refine ixV_rule (l := [vI 2, vI 1]) (by omega) (by omega) rfl ?_
      have e : stands a b = 2 := by unfold stands; rw [if_pos h4, if_neg h7]
      rw [e] at k; exact k _ h6
  · rw [if_neg h4]
    refine ixV_agg (l := [vI 4, vI 3, vI 2, vI 1]) (vs := [vI 4, vI 3]) (by omega) (by omega) rfl ?_
    refine of_spec h3 ht (fun w5 h5 => ?_)
    refine upTo_spec h5 ht hs hb (fun w6 h6 => ?_)
    refine one_spec ?_
    by_cases h7 : upTo b a = true
    · rw [if_pos h7]
      refine ixV_rule (l := [vI 4, vI 3]) (by omega) (by omega) rfl ?_
      have e : stands a b = 3 := by unfold stands; rw [if_neg h4, if_pos h7]
      rw [e] at k; exact k _ h6
    · rw [if_neg h7]
      refine ixV_rule (l := [vI 4, vI 3]) (by omega) (by omega) rfl ?_
      have e : stands a b = 4 := by unfold stands; rw [if_neg h4, if_neg h7]
      rw [e] at k; exact k _ h6
theorem rstands_spec {s t : Value} {a b : List Nat} (h : Ow B w H) (hs : Cl H s a) (ht : Cl H t b) (ha : a.length < 2 ^ 62) (hb : b.length < 2 ^ 62) (k : ∀ w', Ow B w' H → K (vI (stands a b)) w') : callW PG N.linesmanref04_Stands [s, t] K PK w := by
  refine linesmanref04_Stands.ok ?_
  unfold linesmanref04_Stands.C
  refine rupTo_spec h hs ht ha (fun w1 h1 => ?_)
  refine rupTo_spec h1 ht hs hb (fun w2 h2 => ?_)
  unfold stands at k
  refine cnd (fun h4 => ?_) (fun h4 => ?_)
  · rw [if_pos h4] at k
    refine cnd (fun h7 => ?_) (fun h7 => ?_)
    · rw [if_pos h7] at k; exact k _ h2
    · rw [if_neg (by rw [h7]; simp)] at k
      refine cnd_t h4 ?_
      exact k _ h2
  · rw [if_neg (by rw [h4]; simp)] at k
    refine cnd_f h4 ?_
    refine cnd (fun h7 => ?_) (fun h7 => ?_)
    · rw [if_pos h7] at k; exact k _ h2
    · rw [if_neg (by rw [h7]; simp)] at k; exact k _ h2
end
end Go.Proofs.Ytobanjfpoeinhaa
