/- Stacks: clones of registers and of frames. -/
import Derived.Test.YtkkkcafkepnecaaGreatVsI
import Derived.Test.YtkkkcafkepnecaaGreatVpK
set_option linter.unusedVariables false
set_option linter.unusedSimpArgs false
namespace Go.Proofs.YtkkkcafkepnecaaGreat.Vc
open Go Go.RowKit
section
variable {P : Program} {B w : World} {H : Hp} {K : Value → Prop} {KU : World → Prop} {t e : TypeId}
theorem Sls.src {X : Hp} {s : Value} {size : Nat} {rows : List (List Value)} (hs : Sls X s size rows) (h0 : 0 < size) : Src X s rows.length size rows.flatten := by
  obtain ⟨a, cap, hse, q1, q2, q3, q4⟩ := id hs
  have hfl := flatten_len' q3
  refine ⟨hfl, a, cap, hse, fun j y hj => ?_⟩
  have hjl := (List.getElem?_eq_some_iff.1 hj).1
  have hd : j / size < rows.length := Nat.div_lt_of_lt_mul (by rw [Nat.mul_comm]; omega)
  have hm := Nat.mod_lt j h0
  have hjj : j / size * size + j % size = j := by rw [Nat.mul_comm]; exact Nat.div_add_mod j size
  obtain ⟨p, hpa, hc⟩ := q4 (j / size) rows[j / size] (List.getElem?_eq_getElem hd)
  refine ⟨p, hpa, ?_⟩
  have hxl := q3 _ (List.getElem_mem hd)
  have hr : rows[j / size][j % size]? = some (rows[j / size][j % size]'(by omega)) := List.getElem?_eq_getElem _
  have := flatten_at hr rows (j / size) q3 (List.getElem?_eq_getElem hd)
  rw [hjj, hj] at this
  have h2 := hc (j % size) _ hr
  rw [hjj, ← Option.some.inj this] at h2
  exact h2
theorem flatten_setr {size : Nat} {r' : List Value} : ∀ {rows : List (List Value)} {i : Nat}, (∀ x ∈ rows, x.length = size) → i < rows.length → rows.flatten.take (i * size) ++ r' ++ rows.flatten.drop (i * size + size) = (rows.set i r').flatten
  | [], i, _, h => by simp at h
  | z :: rows, 0, hz, h => by
    have hl := hz z (.head _)
    simp only [Nat.zero_mul, List.take_zero, List.nil_append, Nat.zero_add, List.flatten_cons, List.set_cons_zero]
    rw [List.drop_left' hl]
  | z :: rows, i + 1, hz, h => by
    have hl := hz z (.head _)
    have e : (i + 1) * size = z.length + i * size := by rw [hl, Nat.add_mul, Nat.one_mul]; omega
    have ih := flatten_setr (r' := r') (fun x hx => hz x (.tail _ hx)) (i := i) (by simpa using h)
    rw [List.flatten_cons, List.set_cons_succ, List.flatten_cons, e, List.take_length_add_append, Nat.add_assoc, List.drop_length_add_append, ← ih]
    simp only [List.append_assoc]
/-- A write of an element of an own slice. -/
theorem own_setr {A C S : Hp} {v : Value} {size : Nat} {rows : List (List Value)} {r' : List Value} {i : Int} {kd : IntKind} (h : Ow B w (A ++ S ++ C)) (ho : Own S e size v rows.length rows.flatten) (hl : ∀ x ∈ rows, x.length = size) (h0 : 0 ≤ i) (hi : i.toNat < rows.length) (hr : r'.length = size)
    (hp : r'.all plainV = true) (k : ∀ S' w', Ow B w' (A ++ S' ++ C) → Own S' e size v rows.length (rows.set i.toNat r').flatten → KU w') : ixS size v (.int kd i) fun p => stW size p (.agg r'.toArray) KU w := by
  have hfl := flatten_len' hl
  obtain ⟨hl0, ⟨rfl, rfl, h00⟩ | ⟨g, cap, l, rfl, rfl, hcap, hm, hlen, hx⟩⟩ := ho
  · omega
  · have hb : i.toNat * size + size ≤ rows.length * size := by
      have : (i.toNat + 1) * size ≤ rows.length * size := Nat.mul_le_mul_right _ hi
      rw [Nat.add_mul, Nat.one_mul] at this
      omega
    have hcs : rows.length * size ≤ cap * size := Nat.mul_le_mul_right _ hcap
    refine ixS_at h0 (by omega) ?_
    have h' : Ow B w (A ++ (g, cel l e) :: C) := by simpa using h
    refine st_here h' r' rfl hr hp (by omega) (fun w' hw' => ?_)
    simp only [Nat.zero_add] at hw'
    refine k [(g, cel (l.take (i.toNat * size) ++ r' ++ l.drop (i.toNat * size + size)) e)] w' (by simpa using hw') ?_
    refine Own.mk hcap hm ?_ ?_
    · simp only [List.length_append, List.length_take, List.length_drop, hr]
      omega
    · rw [← flatten_setr (r' := r') hl hi, ← hx]
      generalize rows.length * size = N at *
      generalize i.toNat * size = a at *
      apply List.ext_getElem?
      intro j
      simp only [List.getElem?_append, List.getElem?_take, List.getElem?_drop, List.length_take, List.length_append]
      grind
end
end Go.Proofs.YtkkkcafkepnecaaGreat.Vc
namespace Go.Proofs.YtkkkcafkepnecaaGreat
open Go Go.RowKit Vc Ar
attribute [local irreducible] binV Op.unary convert nlW faW ldS ldW ixS ixA ixV ixT exW lnS lnT pu stW alW opW opU bsW mkW

section
variable {B w : World} {H X F Q R : Hp} {K : Value → World → Prop} {PK : List PanicEntry → World → Prop} {KK : Value → Prop} {p : Pr} {s : SK} {m : Frm} {c : Value}
theorem cloneU_spec {s : Value} {ws : List Int} (h : Ow B w H) (hs : Sl X s (rgs ws)) (hX : ∀ x, x ∈ X → x ∈ H) (hl : ws.length ≤ 1000000) (k : ∀ S v w', Ow B w' (S ++ H) → Vc.Own S T.t_uint32 1 v ws.length (rgs ws) → K v w') : callW PG N.slices_Clone_sl_uint32_uint32 [s] K PK w := by
  refine slices_Clone_sl_uint32_uint32.ok ?_
  unfold slices_Clone_sl_uint32_uint32.C
  obtain ⟨a, cap, hse, q1, q2⟩ := id hs
  have hwl : (rgs ws).length = ws.length := by simp [rgs]
  have hgoal : ∀ (KK : Value → Prop), KK (vB a.isNone) → pu PG (binV .eql T.t_sl_uint32 true s (.slice none 0 0)) KK := fun KK k => by
    rw [hse]; exact pu_slnil und_slu k
  refine hgoal _ ?_
  refine cnd (fun hn => ?_) (fun hn => ?_)
  · have ha : a = none := by simpa using hn
    have : ws = [] := by
      cases ws with
      | nil => rfl
      | cons x l => obtain ⟨p, hp, _⟩ := q2 0 _ rfl; rw [ha] at hp; cases hp
    subst this
    exact k [] _ _ h (own_none _ _)
  · refine bs_rule h [] (by kernel_rfl) (fun b1 w1 h1 => ?_)
    refine app1 (A := []) (S := [(b1, cel [] T.t_uint32)]) (xs := []) (n := 0) h1 (Own.mk (n := 0) (cap := 0) (xs := []) (Nat.le_refl _) (Nat.zero_le _) rfl rfl) hs (fun y hy => .tail _ (hX y hy)) (rgs_plain ws) und_slu info_u rfl (by rw [hwl]; simp [maxLen]; omega) (by rw [hwl]; omega) (fun S v w2 h2 ho => ?_)
    refine k S v w2 h2 ?_
    simpa [hwl] using ho
theorem fr_plain {S : Hp} {n : Nat} {l : List Value} {c : Value} (m : Frm) (h : Vc.Own S T.t_uint32 1 c n l) : (frow m c).all plainV = true := by
  obtain ⟨a, c', rfl⟩ := h.len
  rfl
theorem fr_plain' {l : List Value} {c : Value} (m : Frm) (h : Sl X c l) : (frow m c).all plainV = true := by
  obtain ⟨a, c', rfl⟩ := h.len
  rfl
/-- A function value that tells a frame with own registers. -/
def Cloner (B : World) (g : Value) : Prop := ∀ (H X : Hp) (K : Value → World → Prop) (PK : List PanicEntry → World → Prop) (w : World) (m : Frm) (c : Value), Ow B w H → Sl X c (rgs m.regs) → (∀ x, x ∈ X → x ∈ H) → m.regs.length ≤ 1000 →
  (∀ S c' w', Ow B w' (S ++ H) → ({ S := S, c := c', m := m } : FE).ok → K (.agg (frow m c').toArray) w') → callV PG g [.agg (frow m c).toArray] K PK w
theorem cloned_spec (h : Ow B w H) (hc : Sl X c (rgs m.regs)) (hX : ∀ x, x ∈ X → x ∈ H) (hl : m.regs.length ≤ 1000) (k : ∀ S c' w', Ow B w' (S ++ H) → ({ S := S, c := c', m := m } : FE).ok → K (.agg (frow m c').toArray) w') : callW PG N.stack_cloned [.agg (frow m c).toArray] K PK w := by
  refine stack_cloned.ok ?_
  unfold stack_cloned.C
  refine al_rule h (l := frow m c) rfl (fun b1 w1 h1 => ?_)
  refine al_rule h1 (l := zfrm) (by kernel_rfl) (fun b2 w2 h2 => ?_)
  repeat (first | refine pu_not ?_ | refine pu_eql ?_ | refine pu_neq ?_ | refine pu_lss ?_ | refine pu_leq ?_ | refine pu_gtr ?_ | refine pu_geq ?_ | refine pu_add ?_ | refine pu_sub ?_ | refine pu_mul ?_ | refine pu_neg ?_ | refine fa_at ?_ | refine nl_ptr ?_ | refine ex20 ?_ | refine ex21 ?_ | refine ex30 ?_ | refine ex31 ?_ | refine ex32 ?_ | refine ln_rule ?_ | refine lnT_rule ?_ | refine pu_and ?_ | refine pu_or ?_ | refine pu_xor ?_ | refine pu_seq ?_ | refine pu_sne ?_)
  refine ld_here h2 (.tail _ (.head _)) (v := c) rfl ?_
  refine cloneU_spec h2 hc (fun x hx => .tail _ (.tail _ (hX x hx))) (by omega) (fun S c' w3 h3 ho => ?_)
  obtain ⟨a0, n0, hc'⟩ := ho.len
  repeat (first | refine pu_not ?_ | refine pu_eql ?_ | refine pu_neq ?_ | refine pu_lss ?_ | refine pu_leq ?_ | refine pu_gtr ?_ | refine pu_geq ?_ | refine pu_add ?_ | refine pu_sub ?_ | refine pu_mul ?_ | refine pu_neg ?_ | refine fa_at ?_ | refine nl_ptr ?_ | refine ex20 ?_ | refine ex21 ?_ | refine ex30 ?_ | refine ex31 ?_ | refine ex32 ?_ | refine ln_rule ?_ | refine lnT_rule ?_ | refine pu_and ?_ | refine pu_or ?_ | refine pu_xor ?_ | refine pu_seq ?_ | refine pu_sne ?_)
  have h3 : Ow B w3 ((S ++ [(b2, cel zfrm T.t_api_Frame)]) ++ (b1, cel (frow m c) T.t_api_Frame) :: H) := by simpa using h3
  refine st1_here h3 (by rw [hc']; rfl) (by rw [hc']; rfl) (by simp [frow]) (fun w4 h4 => ?_)
  have e4 : (frow m c).set (0 + 3) c' = frow m c' := rfl
  rw [e4] at h4
  refine ldn_here h4 (List.mem_append_right _ (.head _)) (vs := frow m c') rfl rfl ?_
  have h4 : Ow B w4 (S ++ (b2, cel zfrm T.t_api_Frame) :: (b1, cel (frow m c') T.t_api_Frame) :: H) := by simpa using h4
  refine st_here h4 (frow m c') rfl rfl (fr_plain m ho) (by simp) (fun w5 h5 => ?_)
  simp only [List.take_zero, List.nil_append, Nat.zero_add, List.drop_succ_cons, List.drop_zero, List.drop_nil, List.append_nil] at h5
  refine ldn_here h5 (List.mem_append_right _ (.head _)) (vs := frow m c') rfl rfl ?_
  exact k S c' w5 (h5.sub ((List.Sublist.refl _).append (.cons _ (.cons _ (.refl _))))) ho
theorem cloned_cl : Cloner B (fnc N.stack_cloned #[]) := fun H X K PK w m c h hc hX hl k => callV_fn stack_cloned.okf (cloned_spec h hc hX hl k)
theorem frames1_cl : Cloner B (fnc N.stack_Stack_Frames_1 #[]) := fun H X K PK w m c h hc hX hl k => by
  refine callV_fn stack_Stack_Frames_1.okf (stack_Stack_Frames_1.ok ?_)
  unfold stack_Stack_Frames_1.C
  refine al_rule h (l := frow m c) rfl (fun b1 w1 h1 => ?_)
  refine al_rule h1 (l := zfrm) (by kernel_rfl) (fun b2 w2 h2 => ?_)
  refine ldn_here h2 (.tail _ (.head _)) (vs := frow m c) rfl rfl ?_
  refine cloned_spec h2 hc (fun x hx => .tail _ (.tail _ (hX x hx))) hl (fun S c' w3 h3 ho => ?_)
  refine st_here h3 (frow m c') rfl rfl (fr_plain m ho) (by simp) (fun w5 h5 => ?_)
  simp only [List.take_zero, List.nil_append, Nat.zero_add, List.drop_succ_cons, List.drop_zero, List.drop_nil, List.append_nil] at h5
  refine ldn_here h5 (List.mem_append_right _ (.head _)) (vs := frow m c') rfl rfl ?_
  exact k S c' w5 (h5.sub ((List.Sublist.refl _).append (.cons _ (.cons _ (.refl _))))) ho
/-- Frames as they lie in memory. -/
def lrows (L : List (Value × Frm)) : List (List Value) := L.map fun q => frow q.2 q.1
def drows (l : List FE) : List (List Value) := l.map FE.row
theorem lrows_four (L : List (Value × Frm)) : ∀ x ∈ lrows L, x.length = 4 := fun x hx => by
  obtain ⟨e, _, rfl⟩ := List.mem_map.1 hx
  rfl
theorem drows_four (L : List FE) : ∀ x ∈ drows L, x.length = 4 := fun x hx => by
  obtain ⟨e, _, rfl⟩ := List.mem_map.1 hx
  rfl
theorem cloneFr_spec {s : Value} {rows : List (List Value)} (h : Ow B w H) (hs : Sls X s 4 rows) (hp : rows.flatten.all plainV = true) (hX : ∀ x, x ∈ X → x ∈ H) (hl : rows.length ≤ 1000) (k : ∀ S v w', Ow B w' (S ++ H) → Vc.Own S T.t_api_Frame 4 v rows.length rows.flatten → K v w') : callW PG N.slices_Clone_sl_api_Frame_api_Frame [s] K PK w := by
  refine slices_Clone_sl_api_Frame_api_Frame.ok ?_
  unfold slices_Clone_sl_api_Frame_api_Frame.C
  obtain ⟨a, cap, hse, q1, q2, q3, q4⟩ := id hs
  have hgoal : ∀ (KK : Value → Prop), KK (vB a.isNone) → pu PG (binV .eql T.t_sl_api_Frame true s (.slice none 0 0)) KK := fun KK k => by
    rw [hse]; exact pu_slnil und_slfrm k
  refine hgoal _ ?_
  refine cnd (fun hn => ?_) (fun hn => ?_)
  · have ha : a = none := by simpa using hn
    have : rows = [] := by
      cases rows with
      | nil => rfl
      | cons x l => obtain ⟨p, hp, _⟩ := q4 0 x rfl; rw [ha] at hp; cases hp
    subst this
    exact k [] _ _ h (own_none _ _)
  · refine bs_rule h [] (by kernel_rfl) (fun b1 w1 h1 => ?_)
    obtain ⟨inf, i1, i2, i3, i4⟩ := info_of info_frm
    refine app_rule (A := []) (S := [(b1, cel [] T.t_api_Frame)]) (xs := []) (n := 0) h1 (Own.mk (n := 0) (cap := 0) (xs := []) (Nat.le_refl _) (Nat.zero_le _) rfl rfl) (Sls.src hs (by omega)) (fun y hy => .tail _ (hX y hy)) hp und_slfrm i1 i2 i3 i4 rfl (by omega) (by simp [maxLen]; omega) (by omega) (fun S v w2 h2 ho => ?_)
    refine k S v w2 h2 ?_
    simpa using ho
theorem copied_spec {s g : Value} {L : List (Value × Frm)} (h : Ow B w H) (hs : Sls X s 4 (lrows L)) (hc : ∀ q ∈ L, Sl X q.1 (rgs q.2.regs) ∧ q.2.regs.length ≤ 1000) (hX : ∀ x, x ∈ X → x ∈ H) (hlen : L.length ≤ 1000) (hg : Cloner B g)
    (k : ∀ Sf v' don w', don.map FE.m = L.map Prod.snd → (∀ e ∈ don, e.ok) → Vc.Own Sf T.t_api_Frame 4 v' (drows don).length (drows don).flatten → Ow B w' (Sf ++ (ffoot don ++ H)) → K v' w') : callW PG N.stack_copied_api_Frame [s, g] K PK w := by
  refine stack_copied_api_Frame.ok ?_
  unfold stack_copied_api_Frame.C
  have hfl : (lrows L).length = L.length := by simp [lrows]
  have hfp : (lrows L).flatten.all plainV = true := by
    refine List.all_eq_true.2 fun u hu => ?_
    obtain ⟨x, hx, hu⟩ := List.mem_flatten.1 hu
    obtain ⟨q, hq, rfl⟩ := List.mem_map.1 hx
    exact List.all_eq_true.1 (fr_plain' q.2 (hc q hq).1) u hu
  refine cloneFr_spec h hs hfp hX (by omega) (fun S v' w3 h3 ho => ?_)
  obtain ⟨a0, c0, hv'⟩ := ho.len
  have hln : ∀ KK : Value → Prop, KK (vI L.length) → lnS v' KK := fun KK kk => by rw [hv', ← hfl] at *; exact ln_rule kk
  refine hln _ ?_
  refine ⟨fun l w => ∃ (n : Nat) (Sf : Hp) (don : List FE), l = [vI n] ∧ n ≤ L.length ∧ don.length = n ∧ don.map FE.m = (L.map Prod.snd).take n ∧ (∀ e ∈ don, e.ok) ∧ Vc.Own Sf T.t_api_Frame 4 v' (drows don ++ (lrows L).drop n).length (drows don ++ (lrows L).drop n).flatten ∧ Ow B w (Sf ++ (ffoot don ++ H)),
    fun l _ => match l with | [.int _ q] => L.length - q.toNat | _ => 0, ⟨0, S, [], rfl, Nat.zero_le _, rfl, rfl, by simp, by simpa [drows] using ho, h3⟩, ?_⟩
  clear h3 ho
  rintro l w5 ⟨n, Sf, don, rfl, hn, hdl, hdf, hdo, ho, h5⟩ j
  have two : ∀ x ∈ drows don ++ (lrows L).drop n, x.length = 4 := fun x hx => (List.mem_append.1 hx).elim (drows_four don x) fun h => lrows_four L x (List.mem_of_mem_drop h)
  have hcl : (drows don).length = n := by simp [drows, hdl]
  repeat (first | refine pu_not ?_ | refine pu_eql ?_ | refine pu_neq ?_ | refine pu_lss ?_ | refine pu_leq ?_ | refine pu_gtr ?_ | refine pu_geq ?_ | refine pu_add ?_ | refine pu_sub ?_ | refine pu_mul ?_ | refine pu_neg ?_ | refine fa_at ?_ | refine nl_ptr ?_ | refine ex20 ?_ | refine ex21 ?_ | refine ex30 ?_ | refine ex31 ?_ | refine ex32 ?_ | refine ln_rule ?_ | refine lnT_rule ?_ | refine pu_and ?_ | refine pu_or ?_ | refine pu_xor ?_ | refine pu_seq ?_ | refine pu_sne ?_)
  refine cnd (fun hlt => ?_) (fun hlt => ?_)
  · have hlt : n < L.length := by simpa using hlt
    obtain ⟨⟨c, f⟩, hq⟩ : ∃ q, L[n]? = some q := ⟨_, List.getElem?_eq_getElem hlt⟩
    obtain ⟨q1, q2⟩ := hc _ (List.mem_of_getElem? hq)
    have hdrop : (lrows L).drop n = frow f c :: (lrows L).drop (n + 1) := by
      rw [List.drop_eq_getElem_cons (by omega)]
      congr 1
      have : (lrows L)[n]? = some (frow f c) := by rw [lrows, List.getElem?_map, hq]; rfl
      rw [List.getElem?_eq_getElem (by omega)] at this
      exact Option.some.inj this
    have hat : (drows don ++ (lrows L).drop n)[(n : Int).toNat]? = some (frow f c) := by
      rw [Int.toNat_natCast, List.getElem?_append_right (by omega), hcl, Nat.sub_self, hdrop]; rfl
    refine sls_ld h5 ((own_sls two ho).mono fun x hx => List.mem_append_left _ hx) (by omega) hat ?_
    refine al_rule h5 (l := zfrm) (by kernel_rfl) (fun b6 w6 h6 => ?_)
    refine st_here (A := []) h6 (frow f c) rfl rfl (fr_plain' f q1) (by simp) (fun w7 h7 => ?_)
    simp only [List.take_zero, List.nil_append, Nat.zero_add, List.drop_succ_cons, List.drop_zero, List.drop_nil, List.append_nil] at h7
    refine ldn_here h7 (.head _) (vs := frow f c) rfl rfl ?_
    refine hg _ X _ _ _ f c h7 q1 (fun x hx => .tail _ (List.mem_append_right _ (List.mem_append_right _ (hX x hx)))) q2 (fun S' c' w8 h8 ho' => ?_)
    have h8 : Ow B w8 ((S' ++ [(b6, cel (frow f c) T.t_api_Frame)]) ++ Sf ++ (ffoot don ++ H)) := by simpa using h8
    refine own_setr (r' := frow f c') h8 ho two (by omega) ((List.getElem?_eq_some_iff.1 hat).1) rfl (fr_plain f ho') (fun Sf' w9 h9 ho9 => ?_)
    repeat (first | refine pu_not ?_ | refine pu_eql ?_ | refine pu_neq ?_ | refine pu_lss ?_ | refine pu_leq ?_ | refine pu_gtr ?_ | refine pu_geq ?_ | refine pu_add ?_ | refine pu_sub ?_ | refine pu_mul ?_ | refine pu_neg ?_ | refine fa_at ?_ | refine nl_ptr ?_ | refine ex20 ?_ | refine ex21 ?_ | refine ex30 ?_ | refine ex31 ?_ | refine ex32 ?_ | refine ln_rule ?_ | refine lnT_rule ?_ | refine pu_and ?_ | refine pu_or ?_ | refine pu_xor ?_ | refine pu_seq ?_ | refine pu_sne ?_)
    rw [wrap64_in (by omega) (by omega)]
    have hset : (drows don ++ (lrows L).drop n).set (n : Int).toNat (frow f c') = drows (don ++ [⟨S', c', f⟩]) ++ (lrows L).drop (n + 1) := by
      rw [Int.toNat_natCast, List.set_append_right _ _ (by omega), hcl, Nat.sub_self, hdrop]
      unfold drows
      rw [List.map_append, List.append_assoc]
      rfl
    rw [hset] at ho9
    refine ⟨⟨n + 1, Sf', don ++ [⟨S', c', f⟩], rfl, hlt, by simp [hdl], ?_, ?_, ?_, ?_⟩, by simp; omega⟩
    · rw [List.map_append, hdf, List.take_add_one, List.getElem?_map, hq]; rfl
    · intro e he
      rcases List.mem_append.1 he with he | he
      · exact hdo e he
      · rw [List.mem_singleton.1 he]; exact ho'
    · have hl2 : (drows don ++ (lrows L).drop n).length = (drows (don ++ [⟨S', c', f⟩]) ++ (lrows L).drop (n + 1)).length := by rw [← hset, List.length_set]
      rw [← hl2]; exact ho9
    · have h10 : Ow B w9 (S' ++ (Sf' ++ (ffoot don ++ H))) := h9.sub (by
        rw [List.append_assoc, List.append_assoc]
        exact (List.Sublist.refl S').append (.cons _ (.refl _)))
      have hcf : ffoot (don ++ [⟨S', c', f⟩]) = ffoot don ++ S' := by simp [ffoot]
      rw [hcf, List.append_assoc]
      refine h10.perm ((List.perm_append_comm_assoc S' Sf' _).trans (List.Perm.append_left Sf' (List.perm_append_comm_assoc S' (ffoot don) H)))
  · obtain rfl : n = L.length := by simp at hlt; omega
    have hdn : (lrows L).drop L.length = [] := List.drop_eq_nil_of_le (by omega)
    rw [hdn, List.append_nil] at ho
    have hdf : don.map FE.m = L.map Prod.snd := by rw [hdf]; exact List.take_of_length_le (by simp)
    exact k Sf v' don _ hdf hdo ho h5
end
end Go.Proofs.YtkkkcafkepnecaaGreat
