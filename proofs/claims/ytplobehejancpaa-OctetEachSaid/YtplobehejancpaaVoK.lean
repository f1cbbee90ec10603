/- The law DigestSteps: its walk. -/
import Derived.Test.YtplobehejancpaaVoJ
set_option linter.unusedVariables false
set_option linter.unusedSimpArgs false
namespace Go.Proofs.Ytplobehejancpaa
open Go Go.RowKit Vc Oc Dg
attribute [local irreducible] binV Op.unary convert nlW faW ldS ldW ixS ixA ixV ixT exW lnS lnT pu stW alW opW opU bsW mkW dgC tabV

def mkB (ms : List Nat) : Hp := ms.map fun b => (b, .deferred (some []))
def mkD (ms : List Nat) : D := ms.map fun b => { target := .collected b, args := #[] }
section
variable {B w : World} {H : Hp} {K : Value → World → Prop} {PK : List PanicEntry → World → Prop}
theorem lv_rets {XK : World → Prop} {RE : Ending → World → Prop} {C : Hp} : ∀ {ms : List Nat} {w : World}, Ow B w (mkB ms ++ C) → (∀ w', Ow B w' C → XK w') → LvW PG (mkD ms) .returning w (endV XK RE)
  | [], w, h, k => k w h
  | b :: ms, w, h, k => ⟨by simp, .inl ⟨b, rfl, h.mem _ _ List.mem_cons_self, lv_rets (h.put (A := []) (.deferred none)).drop k⟩⟩
theorem eq_slnil {t e : TypeId} (ht : PG.underlying t = some (.slice e)) (a : Option Addr) (n c : Nat) (w : World) : (Op.equal t (.slice a n c) (.slice none 0 0)).run PG w = .ok a.isNone w := by
  have : ∀ d, (Op.equalIn (d + 1) t (.slice a n c) (.slice none 0 0)).run PG w = .ok a.isNone w := fun d => by cases a <;> simp only [Op.equalIn, Sem.run_bind, run_und ht, Result.andThen, Sem.run_pure, Option.isNone]
  exact this 9999
theorem pu_slnil {t e : TypeId} {c : Bool} {KK : Value → Prop} (ht : PG.underlying t = some (.slice e)) {a : Option Addr} {n cc : Nat} (k : KK (vB a.isNone)) : pu PG (binV .eql t c (.slice a n cc) (.slice none 0 0)) KK :=
  pu_of (binV_run rfl (fun w => run_eqB (eq_slnil ht a n cc w))) k
theorem clone_spec {s : Value} {xs : List Nat} {X0 : Hp} (h : Ow B w H) (hs : Sl X0 s (bv xs)) (hX : ∀ x, x ∈ X0 → x ∈ H) (hl : xs.length < 1000000) (k : ∀ S v w', Ow B w' (S ++ H) → Vc.Own S T.t_uint8 1 v xs.length (bv xs) → K v w') : callW PG N.slices_Clone_sl_byte_byte [s] K PK w := by
  refine slices_Clone_sl_byte_byte.ok ?_
  unfold slices_Clone_sl_byte_byte.C
  obtain ⟨a, c, hse, hc⟩ := Sl.cap hs
  have hcase : a = none → xs = [] := fun ha => by
    obtain ⟨a', c', he, _, hx⟩ := hs
    rw [hse] at he
    cases he
    cases xs with
    | nil => rfl
    | cons x l => obtain ⟨p, hp, _⟩ := hx 0 _ rfl; rw [ha] at hp; cases hp
  have hgoal : ∀ (KK : Value → Prop), KK (vB a.isNone) → pu PG (binV .eql T.t_sl_uint8 true s (.slice none 0 0)) KK := fun KK k => by
    rw [hse]; exact pu_slnil und_slb k
  refine hgoal _ ?_
  refine cnd (fun hn => ?_) (fun hn => ?_)
  · have ha : a = none := by simpa using hn
    have := hcase ha
    subst this
    exact k [] _ _ h (own_none _ _)
  · refine bs_rule h [] (by kernel_rfl) (fun b1 w1 h1 => ?_)
    refine app1 (A := []) (S := [(b1, cel [] T.t_uint8)]) (z := v8 0) (bytes := 1) h1 (Own.mk (n := 0) (cap := 0) (xs := []) (Nat.le_refl _) (Nat.zero_le _) rfl rfl) hs (fun y hy => .tail _ (hX y hy)) (by simp [plainV]) und_slb info_u8 rfl (by simp [maxLen]; omega) (by simp; omega) (fun S p w2 h2 ho => ?_)
    refine k S p w2 h2 ?_
    simpa using ho

def stepL (l : List Nat) : List (List Value) := (List.range (l.length + 1)).map fun i : Nat => [vI i, v64 (sum (l.take i))]
theorem stepL_at {l : List Nat} {i : Nat} (h : i ≤ l.length) : (stepL l)[i]? = some [vI i, v64 (sum (l.take i))] := by
  have : i < l.length + 1 := by omega
  simp [stepL, this]
theorem stepL_len (l : List Nat) : (stepL l).length = l.length + 1 := by simp [stepL]
theorem stepL_of {l : List Nat} {i : Nat} {args : List Value} (h : (stepL l)[i]? = some args) : i ≤ l.length ∧ args = [vI i, v64 (sum (l.take i))] := by
  have hlt := (List.getElem?_eq_some_iff.1 h).1
  rw [stepL_len] at hlt
  rw [stepL_at (by omega)] at h
  exact ⟨by omega, (Option.some.inj h).symm⟩
theorem stepL_two {l : List Nat} : ∀ args ∈ stepL l, args.length = 2 := fun a ha => by
  obtain ⟨i, hi⟩ := List.getElem?_of_mem ha
  obtain ⟨_, rfl⟩ := stepL_of hi
  rfl
theorem devery_seq {b : Nat} {s : Value} {l : List Nat} (hm : (b, cel [s] T.t_sl_uint8) ∈ H) (hs : Sl H s (bv l)) (hb : Byt l) (hlen : l.length < 2 ^ 60) : Seq PG B H (fnv N.digest_every_1 #[ptr b]) (stepL l) := by
  refine Seq.fn digest_every_1.okf ?_
  intro y J Z K PK w X hy hw j0 hr he
  refine digest_every_1.ok ?_
  unfold digest_every_1.C
  refine dnew_spec hw (fun bd w1 h1 => ?_)
  refine ⟨fun l' w => ∃ (i : Nat) (X : Hp), l' = [vI i] ∧ i ≤ l.length ∧ J i X ∧ Ow B w (X ++ (bd, dg (fold top (l.take i)) i) :: H), fun l' _ => match l' with | [.int _ n] => l.length + 1 - n.toNat | _ => 0, ⟨0, X, rfl, Nat.zero_le _, j0, h1.perm List.perm_middle.symm⟩, ?_⟩
  rintro l' w2 ⟨i, X, rfl, hi, hj, h2⟩ j1
  have hfl := fold_lt (l.take i) (s := top) (by decide) (hb.take i)
  refine dsum_spec h2 (List.mem_append_right _ (.head _)) hfl (fun w3 h3 => ?_)
  refine hr i _ X ((bd, dg (fold top (l.take i)) i) :: H) _ _ w3 (stepL_at hi) hj (fun x hx => .tail _ hx) h3 (fun X' w4 h4 hj4 => ?_) (fun X' w4 h4 hz4 => ?_)
  · refine cnd_t rfl ?_
    refine ld_here h4 (List.mem_append_right _ (.tail _ hm)) rfl ?_
    refine sl_ln hs ?_
    rw [List.length_map]
    repeat (first | refine pu_not ?_ | refine pu_eql ?_ | refine pu_neq ?_ | refine pu_lss ?_ | refine pu_leq ?_ | refine pu_gtr ?_ | refine pu_geq ?_ | refine pu_add ?_ | refine pu_sub ?_ | refine pu_mul ?_ | refine pu_neg ?_ | refine fa_at ?_ | refine nl_ptr ?_ | refine ex20 ?_ | refine ex21 ?_ | refine ex30 ?_ | refine ex31 ?_ | refine ex32 ?_ | refine ln_rule ?_ | refine lnT_rule ?_ | refine pu_and ?_ | refine pu_or ?_ | refine pu_xor ?_ | refine pu_seq ?_ | refine pu_sne ?_)
    refine cnd (fun hlt => ?_) (fun hlt => ?_)
    · have hlt : i < l.length := by simpa using hlt
      refine ld_here h4 (List.mem_append_right _ (.tail _ hm)) rfl ?_
      repeat (first | refine pu_not ?_ | refine pu_eql ?_ | refine pu_neq ?_ | refine pu_lss ?_ | refine pu_leq ?_ | refine pu_gtr ?_ | refine pu_geq ?_ | refine pu_add ?_ | refine pu_sub ?_ | refine pu_mul ?_ | refine pu_neg ?_ | refine fa_at ?_ | refine nl_ptr ?_ | refine ex20 ?_ | refine ex21 ?_ | refine ex30 ?_ | refine ex31 ?_ | refine ex32 ?_ | refine ln_rule ?_ | refine lnT_rule ?_ | refine pu_and ?_ | refine pu_or ?_ | refine pu_xor ?_ | refine pu_seq ?_ | refine pu_sne ?_)
      rw [wrap64_in (by omega) (by omega)]
      refine cutLHM hs (by omega) (by omega) (by omega) (by rw [List.length_map]; omega) ?_
      have e1 : ((i : Int)).toNat = i := Int.toNat_natCast _
      have e2 : ((i : Int) + 1).toNat = i + 1 := by omega
      rw [e1, e2]
      have hs2 := sl_cut (l := i) (h := i + 1) (m := i + 1) hs (by omega) (by rw [List.length_map]; omega) (Nat.le_refl _)
      have e3 : ((bv l).take (i + 1)).drop i = bv [l.getD i 0] := by
        unfold bv
        rw [← List.map_take, ← List.map_drop, List.take_add_one, List.getElem?_eq_getElem hlt, List.drop_left' (by rw [List.length_take]; omega)]
        simp [List.getD, hlt]
      rw [e3] at hs2
      have hat : l[i]? = some (l.getD i 0) := by simp [List.getD, hlt]
      have hc := hb.at hat
      refine bs_rule h4 [cut s i (i + 1) (i + 1)] (bsw1 hs2) (fun b5 w5 h5 => ?_)
      have hW : Wr ((b5, cel [cut s i (i + 1) (i + 1)] T.t_sl_uint8) :: H) (.slice (some ⟨b5, 0, none⟩) 1 1) [[l.getD i 0]] := ⟨_, sl_here (l := [cut s i (i + 1) (i + 1)]) (.head _), ⟨hs2.cons, by intro x hx; simp at hx; subst hx; exact hc⟩, trivial⟩
      refine write_spec (A := (b5, cel [cut s i (i + 1) (i + 1)] T.t_sl_uint8) :: X') h5 hfl hW (fun y hy => by
        rcases List.mem_cons.1 hy with rfl | hy
        · exact .head _
        · exact .tail _ (List.mem_append_right X' hy)) (by omega) (by simp; omega) (by simp) (fun w6 h6 => ?_)
      have e4 : fold (fold top (l.take i)) [[l.getD i 0]].flatten = fold top (l.take (i + 1)) := by
        rw [List.take_add_one, hat, Option.toList, fold_app]; rfl
      rw [e4] at h6
      have h6 : Ow B w6 (X' ++ (bd, dg (fold top (l.take (i + 1))) ((i : Int) + 1)) :: H) := h6.drop
      repeat (first | refine pu_not ?_ | refine pu_eql ?_ | refine pu_neq ?_ | refine pu_lss ?_ | refine pu_leq ?_ | refine pu_gtr ?_ | refine pu_geq ?_ | refine pu_add ?_ | refine pu_sub ?_ | refine pu_mul ?_ | refine pu_neg ?_ | refine fa_at ?_ | refine nl_ptr ?_ | refine ex20 ?_ | refine ex21 ?_ | refine ex30 ?_ | refine ex31 ?_ | refine ex32 ?_ | refine ln_rule ?_ | refine lnT_rule ?_ | refine pu_and ?_ | refine pu_or ?_ | refine pu_xor ?_ | refine pu_seq ?_ | refine pu_sne ?_)
      rw [wrap64_in (by omega) (by omega)]
      exact ⟨⟨i + 1, X', rfl, hlt, hj4, h6⟩, by simp; omega⟩
    · have hlt : i = l.length := by simp at hlt; omega
      subst hlt
      refine he _ X' w4 (h4.sub ((List.Sublist.refl X').append (.cons _ (.refl _)))) (.inl ?_)
      rw [stepL_len]
      exact hj4
  · refine cnd_f rfl ?_
    exact he _ X' w4 (h4.sub ((List.Sublist.refl X').append (.cons _ (.refl _)))) (.inr hz4)
theorem dsteps_seq {b : Nat} {s : Value} {l : List Nat} (hm : (b, cel [s] T.t_sl_uint8) ∈ H) (hs : Sl H s (bv l)) (hb : Byt l) (hlen : l.length < 2 ^ 60) : Seq PG B H (fnv N.digest_Steps_1 #[ptr b]) (stepL l) := by
  refine Seq.fn digest_Steps_1.okf ?_
  intro y J Z K PK w X hy hw j0 hr he
  refine digest_Steps_1.ok ?_
  unfold digest_Steps_1.C
  refine al_rule hw (l := [y]) (fn_cells hy) (fun b2 w1 h1 => ?_)
  refine ld_here h1 (.tail _ (List.mem_append_right _ hm)) rfl ?_
  refine digest_every.ok ?_
  unfold digest_every.C
  refine al_rule h1 (l := [s]) (sl_cells hs) (fun b3 w2 h2 => ?_)
  have h2 : Ow B w2 (X ++ ((b3, cel [s] T.t_sl_uint8) :: (b2, cel [y] T.t_func_int_uint64_bool) :: H)) := h2.perm (List.perm_append_comm_assoc [_, _] X H)
  refine range_fn (X := X) (H := (b3, cel [s] T.t_sl_uint8) :: (b2, cel [y] T.t_func_int_uint64_bool) :: H) (A := digest_Steps_1.note) (fuel := 400) mixed (devery_seq (.head _) hs.cons.cons hb hlen) (by simp) stepL_two h2
    J (fun j Y => j = .exit 0 ∧ Z Y) j0 ?_ ?_ ?_
  · rintro lp r n args Y F R w4 hL hj hF h4 k1 k2 u
    obtain ⟨hlt, rfl⟩ := stepL_of hL
    refine Eq.mpr (digest_Steps_1.Rd0_eq lp R _ _ _ w4 u) ?_
    unfold digest_Steps_1.Rd0
    refine rbeg h4 (fun w5 h5 => ?_)
    refine ld_here h5 (.tail _ (List.mem_append_right _ (hF _ (.tail _ (.head _))))) rfl ?_
    refine hr n _ Y ((lp, recB r) :: F) _ _ w5 (stepL_at hlt) hj (fun x hx => .tail _ (hF x (.tail _ (.tail _ hx)))) (h5.perm List.perm_middle.symm) (fun X' w6 h6 hj6 => ?_) (fun X' w6 h6 hz6 => ?_)
    · repeat (first | refine pu_not ?_ | refine pu_eql ?_ | refine pu_neq ?_ | refine pu_lss ?_ | refine pu_leq ?_ | refine pu_gtr ?_ | refine pu_geq ?_ | refine pu_add ?_ | refine pu_sub ?_ | refine pu_mul ?_ | refine pu_neg ?_ | refine fa_at ?_ | refine nl_ptr ?_ | refine ex20 ?_ | refine ex21 ?_ | refine ex30 ?_ | refine ex31 ?_ | refine ex32 ?_ | refine ln_rule ?_ | refine lnT_rule ?_ | refine pu_and ?_ | refine pu_or ?_ | refine pu_xor ?_ | refine pu_seq ?_ | refine pu_sne ?_)
      refine cnd_f rfl ?_
      exact rend_go (h6.perm List.perm_middle) (fun w7 h7 => k1 X' w7 hj6 h7)
    · repeat (first | refine pu_not ?_ | refine pu_eql ?_ | refine pu_neq ?_ | refine pu_lss ?_ | refine pu_leq ?_ | refine pu_gtr ?_ | refine pu_geq ?_ | refine pu_add ?_ | refine pu_sub ?_ | refine pu_mul ?_ | refine pu_neg ?_ | refine fa_at ?_ | refine nl_ptr ?_ | refine ex20 ?_ | refine ex21 ?_ | refine ex30 ?_ | refine ex31 ?_ | refine ex32 ?_ | refine ln_rule ?_ | refine lnT_rule ?_ | refine pu_and ?_ | refine pu_or ?_ | refine pu_xor ?_ | refine pu_seq ?_ | refine pu_sne ?_)
      refine cnd_t rfl ?_
      exact rend_stop (h6.perm List.perm_middle) (fun w7 h7 => k2 _ X' w7 ⟨rfl, hz6⟩ h7)
  · rintro mk Y w4 hj h4
    refine lv_ret h4 (fun w8 h8 => ?_)
    exact he _ Y w8 (h8.sub ((List.Sublist.refl Y).append (.cons _ (.cons _ (.refl _))))) (.inl hj)
  · rintro mk j Y w4 ⟨rfl, hz⟩ h4
    refine lv_ret h4 (fun w8 h8 => ?_)
    exact he _ Y w8 (h8.sub ((List.Sublist.refl Y).append (.cons _ (.cons _ (.refl _))))) (.inr hz)
theorem dsteps_spec {s : Value} {l : List Nat} {X0 : Hp} (h : Ow B w H) (hs : Sl X0 s (bv l)) (hX : ∀ x, x ∈ X0 → x ∈ H) (hl : l.length < 1000000) (k : ∀ S b v w', Sl S v (bv l) → Ow B w' ((b, cel [v] T.t_sl_uint8) :: (S ++ H)) → K (fnv N.digest_Steps_1 #[ptr b]) w') : callW PG N.digest_Steps [s] K PK w := by
  refine digest_Steps.ok ?_
  unfold digest_Steps.C
  refine clone_spec h hs hX hl (fun S v w1 h1 ho => ?_)
  refine al_rule h1 (l := [.slice none 0 0]) (by kernel_rfl) (fun b w2 h2 => ?_)
  refine st1_here (A := []) h2 (sl_cells ho.sl) (sl_plain ho.sl) (by simp) (fun w3 h3 => ?_)
  exact k S b v _ ho.sl h3

theorem DigestSteps.law {v0 v1 : Value} (g0 : FitV PG H T.t_sl_uint8 v0) (g1 : FitV PG H T.t_int v1) (h : Ow B w H) (k : ∀ w', Ow B w' H → K (vB true) w') : callW PG N.linesmanlaw02_DigestSteps [v0, v1] K PK w := by
  obtain ⟨l, hl, hlm, hb⟩ := bytes_of g0
  obtain ⟨many, rfl, hmany⟩ := g1.int und_int
  have hmany := wf_i64 hmany
  clear g0 g1
  refine linesmanlaw02_DigestSteps.ok ?_
  unfold linesmanlaw02_DigestSteps.C
  refine al_rule h (l := [v0]) (sl_cells hl) (fun bx w1 h1 => ?_)
  refine al_rule h1 (l := [vI many]) rfl (fun bm w2 h2 => ?_)
  refine al_rule h2 (l := [vB false]) (by kernel_rfl) (fun br w3 h3 => ?_)
  refine ld_here h3 (.tail _ (.tail _ (.head _))) rfl ?_
  refine sl_ln hl ?_
  rw [List.length_map]
  repeat (first | refine pu_not ?_ | refine pu_eql ?_ | refine pu_neq ?_ | refine pu_lss ?_ | refine pu_leq ?_ | refine pu_gtr ?_ | refine pu_geq ?_ | refine pu_add ?_ | refine pu_sub ?_ | refine pu_mul ?_ | refine pu_neg ?_ | refine fa_at ?_ | refine nl_ptr ?_ | refine ex20 ?_ | refine ex21 ?_ | refine ex30 ?_ | refine ex31 ?_ | refine ex32 ?_ | refine ln_rule ?_ | refine lnT_rule ?_ | refine pu_and ?_ | refine pu_or ?_ | refine pu_xor ?_ | refine pu_seq ?_ | refine pu_sne ?_)
  refine cnd (fun _ => ?_) (fun hle => ?_)
  · refine dworks_spec h3 (fun w4 h4 => ?_)
    refine st1_here (A := []) h4 rfl rfl (by simp) (fun w5 h5 => ?_)
    refine ld_here h5 (.head _) rfl ?_
    exact k _ h5.drop.drop.drop
  have hle : l.length ≤ 60 := by simp at hle; omega
  refine ld_here h3 (.tail _ (.tail _ (.head _))) rfl ?_
  refine dsteps_spec h3 hl (fun x hx => .tail _ (.tail _ (.tail _ hx))) (by omega) (fun S bs v w4 hv h4 => ?_)
  refine pu_fnl (by kernel_rfl) ?_
  refine cnd_f rfl ?_
  refine al_rule h4 (l := [vI 0]) (by kernel_rfl) (fun bt w5 h5 => ?_)
  refine st1_here (A := []) h5 rfl rfl (by simp) (fun w7 h7 => ?_)
  simp only [List.nil_append, List.set_cons_zero] at h7
  generalize hD : ((bs, cel [v] T.t_sl_uint8) :: (S ++ (br, cel [vB false] T.t_bool) :: (bm, cel [vI many] T.t_int) :: (bx, cel [v0] T.t_sl_uint8) :: H) : Hp) = D0 at h7
  have mS0 : (bs, cel [v] T.t_sl_uint8) ∈ D0 := by rw [← hD]; exact .head _
  have mV0 : ∀ x, x ∈ S → x ∈ D0 := by rw [← hD]; exact fun x hx => .tail _ (List.mem_append_left _ hx)
  have mR0 : (br, cel [vB false] T.t_bool) ∈ D0 := by rw [← hD]; exact .tail _ (List.mem_append_right _ (.head _))
  have mM0 : (bm, cel [vI many] T.t_int) ∈ D0 := by rw [← hD]; exact .tail _ (List.mem_append_right _ (.tail _ (.head _)))
  have mX0 : (bx, cel [v0] T.t_sl_uint8) ∈ D0 := by rw [← hD]; exact .tail _ (List.mem_append_right _ (.tail _ (.tail _ (.head _))))
  have mH0 : ∀ x, x ∈ H → x ∈ D0 := by rw [← hD]; exact fun x hx => .tail _ (List.mem_append_right _ (.tail _ (.tail _ (.tail _ hx))))
  refine ⟨fun l' d w => ∃ (bt : Nat) (t : Nat) (ms : List Nat), l' = [ptr bt] ∧ d = mkD ms ∧ ms.length = t ∧ t ≤ 2 ∧ Ow B w ((bt, cel [vI t] T.t_int) :: (mkB ms ++ D0)), fun l d w => 2 - d.length,
    ⟨bt, 0, [], rfl, rfl, rfl, by omega, h7⟩, ?_⟩
  rintro l' d w8 ⟨bt, t, ms, rfl, rfl, hms, ht, h8⟩ j0
  refine ld_here h8 (.head _) rfl ?_
  repeat (first | refine pu_not ?_ | refine pu_eql ?_ | refine pu_neq ?_ | refine pu_lss ?_ | refine pu_leq ?_ | refine pu_gtr ?_ | refine pu_geq ?_ | refine pu_add ?_ | refine pu_sub ?_ | refine pu_mul ?_ | refine pu_neg ?_ | refine fa_at ?_ | refine nl_ptr ?_ | refine ex20 ?_ | refine ex21 ?_ | refine ex30 ?_ | refine ex31 ?_ | refine ex32 ?_ | refine ln_rule ?_ | refine lnT_rule ?_ | refine pu_and ?_ | refine pu_or ?_ | refine pu_xor ?_ | refine pu_seq ?_ | refine pu_sne ?_)
  refine cnd (fun hlt => ?_) (fun hlt => ?_)
  · have hlt : t < 2 := by simp at hlt; omega
    refine al_rule h8 (l := [vI 0]) (by kernel_rfl) (fun bk w9 h9 => ?_)
    refine st1_here (A := []) h9 rfl rfl (by simp) (fun w10 h10 => ?_)
    refine range_fn (X := [(bk, cel [vI 0] T.t_int)]) (H := (bt, cel [vI t] T.t_int) :: (mkB ms ++ D0)) (A := linesmanlaw02_DigestSteps.note) (fuel := 400) mixed
      (dsteps_seq (l := l) (.tail _ (List.mem_append_right _ mS0)) (hv.mono fun x hx => .tail _ (List.mem_append_right _ (mV0 x hx))) hb (by omega)) (by simp) stepL_two h10
      (fun i Y => Y = [(bk, cel [vI i] T.t_int)] ∧ i ≤ l.length + 1 ∧ (t = 0 → i = 0 ∨ (i : Int) < many))
      (fun j Y => j = .exit 2 ∧ ∃ i : Nat, Y = [(bk, cel [vI i] T.t_int)] ∧ 1 ≤ i ∧ i ≤ l.length + 1 ∧ t = 0 ∧ many ≤ i ∧ (i = 1 ∨ (i : Int) - 1 < many)) ⟨rfl, by omega, fun _ => .inl rfl⟩ ?_ ?_ ?_
    · rintro lp r n args Y F R w4 hL ⟨rfl, hn, hnm⟩ hF h4 k1 k2 u
      obtain ⟨hnl, rfl⟩ := stepL_of hL
      refine Eq.mpr (linesmanlaw02_DigestSteps.Rd0_eq lp R _ _ _ _ _ _ _ w4 u) ?_
      unfold linesmanlaw02_DigestSteps.Rd0
      refine rbeg h4 (fun w5 h5 => ?_)
      have mX : (bx, cel [v0] T.t_sl_uint8) ∈ F := hF _ (.tail _ (List.mem_append_right _ mX0))
      have mM : (bm, cel [vI many] T.t_int) ∈ F := hF _ (.tail _ (List.mem_append_right _ mM0))
      have mT : (bt, cel [vI t] T.t_int) ∈ F := hF _ (.head _)
      have mH : ∀ x, x ∈ H → x ∈ F := fun x hx => hF _ (.tail _ (List.mem_append_right _ (mH0 x hx)))
      refine ld_here h5 (.tail _ (.head _)) rfl ?_
      repeat (first | refine pu_not ?_ | refine pu_eql ?_ | refine pu_neq ?_ | refine pu_lss ?_ | refine pu_leq ?_ | refine pu_gtr ?_ | refine pu_geq ?_ | refine pu_add ?_ | refine pu_sub ?_ | refine pu_mul ?_ | refine pu_neg ?_ | refine fa_at ?_ | refine nl_ptr ?_ | refine ex20 ?_ | refine ex21 ?_ | refine ex30 ?_ | refine ex31 ?_ | refine ex32 ?_ | refine ln_rule ?_ | refine lnT_rule ?_ | refine pu_and ?_ | refine pu_or ?_ | refine pu_xor ?_ | refine pu_seq ?_ | refine pu_sne ?_)
      refine cnd_f (by simp) ?_
      refine ld_here h5 (.tail _ (.head _)) rfl ?_
      refine ld_here h5 (.tail _ (.tail _ mX)) rfl ?_
      refine sl_ln hl ?_
      rw [List.length_map]
      repeat (first | refine pu_not ?_ | refine pu_eql ?_ | refine pu_neq ?_ | refine pu_lss ?_ | refine pu_leq ?_ | refine pu_gtr ?_ | refine pu_geq ?_ | refine pu_add ?_ | refine pu_sub ?_ | refine pu_mul ?_ | refine pu_neg ?_ | refine fa_at ?_ | refine nl_ptr ?_ | refine ex20 ?_ | refine ex21 ?_ | refine ex30 ?_ | refine ex31 ?_ | refine ex32 ?_ | refine ln_rule ?_ | refine lnT_rule ?_ | refine pu_and ?_ | refine pu_or ?_ | refine pu_xor ?_ | refine pu_seq ?_ | refine pu_sne ?_)
      refine cnd_f (by simp; omega) ?_
      refine ld_here h5 (.tail _ (.tail _ mX)) rfl ?_
      refine ld_here h5 (.tail _ (.head _)) rfl ?_
      refine cutH hl (by omega) (by rw [List.length_map]; omega) (fun c hc => ?_)
      rw [Int.toNat_natCast]
      have hs2 := sl_cut (l := 0) (h := n) (m := c) hl (by omega) (by rw [List.length_map]; omega) (by omega)
      rw [List.drop_zero, ← List.map_take] at hs2
      refine rof_spec (l := l.take n) h5 (hs2.mono fun x hx => .tail _ (.tail _ (mH x hx))) (hb.take n) (by simp; omega) (fun w5 h5 => ?_)
      repeat (first | refine pu_not ?_ | refine pu_eql ?_ | refine pu_neq ?_ | refine pu_lss ?_ | refine pu_leq ?_ | refine pu_gtr ?_ | refine pu_geq ?_ | refine pu_add ?_ | refine pu_sub ?_ | refine pu_mul ?_ | refine pu_neg ?_ | refine fa_at ?_ | refine nl_ptr ?_ | refine ex20 ?_ | refine ex21 ?_ | refine ex30 ?_ | refine ex31 ?_ | refine ex32 ?_ | refine ln_rule ?_ | refine lnT_rule ?_ | refine pu_and ?_ | refine pu_or ?_ | refine pu_xor ?_ | refine pu_seq ?_ | refine pu_sne ?_)
      refine cnd_f (by simp) ?_
      refine ld_here h5 (.tail _ (.head _)) rfl ?_
      repeat (first | refine pu_not ?_ | refine pu_eql ?_ | refine pu_neq ?_ | refine pu_lss ?_ | refine pu_leq ?_ | refine pu_gtr ?_ | refine pu_geq ?_ | refine pu_add ?_ | refine pu_sub ?_ | refine pu_mul ?_ | refine pu_neg ?_ | refine fa_at ?_ | refine nl_ptr ?_ | refine ex20 ?_ | refine ex21 ?_ | refine ex30 ?_ | refine ex31 ?_ | refine ex32 ?_ | refine ln_rule ?_ | refine lnT_rule ?_ | refine pu_and ?_ | refine pu_or ?_ | refine pu_xor ?_ | refine pu_seq ?_ | refine pu_sne ?_)
      rw [wrap64_in (by omega) (by omega)]
      refine st1_here (A := [_]) h5 rfl rfl (by simp) (fun w6 h6 => ?_)
      refine ld_here h6 (.tail _ (.tail _ mT)) rfl ?_
      repeat (first | refine pu_not ?_ | refine pu_eql ?_ | refine pu_neq ?_ | refine pu_lss ?_ | refine pu_leq ?_ | refine pu_gtr ?_ | refine pu_geq ?_ | refine pu_add ?_ | refine pu_sub ?_ | refine pu_mul ?_ | refine pu_neg ?_ | refine fa_at ?_ | refine nl_ptr ?_ | refine ex20 ?_ | refine ex21 ?_ | refine ex30 ?_ | refine ex31 ?_ | refine ex32 ?_ | refine ln_rule ?_ | refine lnT_rule ?_ | refine pu_and ?_ | refine pu_or ?_ | refine pu_xor ?_ | refine pu_seq ?_ | refine pu_sne ?_)
      refine cnd (fun ht0 => ?_) (fun ht0 => ?_)
      · have ht0 : t = 0 := by simp at ht0; omega
        refine ld_here h6 (.tail _ (.head _)) rfl ?_
        refine ld_here h6 (.tail _ (.tail _ mM)) rfl ?_
        repeat (first | refine pu_not ?_ | refine pu_eql ?_ | refine pu_neq ?_ | refine pu_lss ?_ | refine pu_leq ?_ | refine pu_gtr ?_ | refine pu_geq ?_ | refine pu_add ?_ | refine pu_sub ?_ | refine pu_mul ?_ | refine pu_neg ?_ | refine fa_at ?_ | refine nl_ptr ?_ | refine ex20 ?_ | refine ex21 ?_ | refine ex30 ?_ | refine ex31 ?_ | refine ex32 ?_ | refine ln_rule ?_ | refine lnT_rule ?_ | refine pu_and ?_ | refine pu_or ?_ | refine pu_xor ?_ | refine pu_seq ?_ | refine pu_sne ?_)
        refine cnd (fun hge => ?_) (fun hge => ?_)
        · have hge : many ≤ (n : Int) + 1 := by simpa using hge
          refine rend_stop h6 (fun w7 h7 => k2 _ _ w7 ⟨rfl, n + 1, rfl, by omega, by omega, ht0, by omega, ?_⟩ h7)
          rcases hnm ht0 with h0 | h0
          · left; omega
          · right; omega
        · have hge : ¬ many ≤ (n : Int) + 1 := by simpa using hge
          exact rend_go h6 (fun w7 h7 => k1 _ w7 ⟨rfl, by omega, fun _ => .inr (by omega)⟩ h7)
      · have ht0 : ¬ t = 0 := by simp at ht0; omega
        exact rend_go h6 (fun w7 h7 => k1 _ w7 ⟨rfl, by omega, fun h => absurd h ht0⟩ h7)
    · rintro mk Y w9 ⟨rfl, hn, hnm⟩ h9
      have hv0 : t = 0 → ((l.length + 1 : Nat) : Int) = if (if many > 1 then many else 1) < ((l.length + 1 : Nat) : Int) then (if many > 1 then many else 1) else ((l.length + 1 : Nat) : Int) := fun h0 => by
        have := hnm h0
        rw [stepL_len] at this
        split <;> split at * <;> omega
      have hv1 : t = 1 → ((l.length + 1 : Nat) : Int) = (l.length : Int) + 1 := fun _ => by omega
      rw [stepL_len] at h9
      refine ld_here h9 (.tail _ (.tail _ (.head _))) rfl ?_
      repeat (first | refine pu_not ?_ | refine pu_eql ?_ | refine pu_neq ?_ | refine pu_lss ?_ | refine pu_leq ?_ | refine pu_gtr ?_ | refine pu_geq ?_ | refine pu_add ?_ | refine pu_sub ?_ | refine pu_mul ?_ | refine pu_neg ?_ | refine fa_at ?_ | refine nl_ptr ?_ | refine ex20 ?_ | refine ex21 ?_ | refine ex30 ?_ | refine ex31 ?_ | refine ex32 ?_ | refine ln_rule ?_ | refine lnT_rule ?_ | refine pu_and ?_ | refine pu_or ?_ | refine pu_xor ?_ | refine pu_seq ?_ | refine pu_sne ?_)
      refine cnd (fun ht0 => ?_) (fun ht0 => ?_)
      · have ht0 : t = 0 := by simp at ht0; omega
        refine ld_here h9 (.tail _ (.head _)) rfl ?_
        refine ld_here h9 (.tail _ (.tail _ (.tail _ (List.mem_append_right _ mX0)))) rfl ?_
        refine sl_ln hl ?_
        rw [List.length_map]
        repeat (first | refine pu_not ?_ | refine pu_eql ?_ | refine pu_neq ?_ | refine pu_lss ?_ | refine pu_leq ?_ | refine pu_gtr ?_ | refine pu_geq ?_ | refine pu_add ?_ | refine pu_sub ?_ | refine pu_mul ?_ | refine pu_neg ?_ | refine fa_at ?_ | refine nl_ptr ?_ | refine ex20 ?_ | refine ex21 ?_ | refine ex30 ?_ | refine ex31 ?_ | refine ex32 ?_ | refine ln_rule ?_ | refine lnT_rule ?_ | refine pu_and ?_ | refine pu_or ?_ | refine pu_xor ?_ | refine pu_seq ?_ | refine pu_sne ?_)
        rw [wrap64_in (by omega) (by omega)]
        refine ld_here h9 (.tail _ (.tail _ (.tail _ (List.mem_append_right _ mM0)))) rfl ?_
        refine pu_max2 ?_
        refine pu_min2 ?_
        repeat (first | refine pu_not ?_ | refine pu_eql ?_ | refine pu_neq ?_ | refine pu_lss ?_ | refine pu_leq ?_ | refine pu_gtr ?_ | refine pu_geq ?_ | refine pu_add ?_ | refine pu_sub ?_ | refine pu_mul ?_ | refine pu_neg ?_ | refine fa_at ?_ | refine nl_ptr ?_ | refine ex20 ?_ | refine ex21 ?_ | refine ex30 ?_ | refine ex31 ?_ | refine ex32 ?_ | refine ln_rule ?_ | refine lnT_rule ?_ | refine pu_and ?_ | refine pu_or ?_ | refine pu_xor ?_ | refine pu_seq ?_ | refine pu_sne ?_)
        refine cnd_f ?_ ?_
        · have := hv0 ht0
          simp only [bne_eq_false_iff_eq]
          split <;> split at this <;> split at * <;> omega
        refine ld_here h9 (.tail _ (.tail _ (.head _))) rfl ?_
        repeat (first | refine pu_not ?_ | refine pu_eql ?_ | refine pu_neq ?_ | refine pu_lss ?_ | refine pu_leq ?_ | refine pu_gtr ?_ | refine pu_geq ?_ | refine pu_add ?_ | refine pu_sub ?_ | refine pu_mul ?_ | refine pu_neg ?_ | refine fa_at ?_ | refine nl_ptr ?_ | refine ex20 ?_ | refine ex21 ?_ | refine ex30 ?_ | refine ex31 ?_ | refine ex32 ?_ | refine ln_rule ?_ | refine lnT_rule ?_ | refine pu_and ?_ | refine pu_or ?_ | refine pu_xor ?_ | refine pu_seq ?_ | refine pu_sne ?_)
        refine cnd_f (by simp; omega) ?_
        refine ld_here h9 (.tail _ (.tail _ (.head _))) rfl ?_
        refine al_rule h9 (l := [vI 0]) (by kernel_rfl) (fun bt' w10 h10 => ?_)
        refine st1_here (A := []) h10 rfl rfl (by simp) (fun w11 h11 => ?_)
        refine ld_here h11 (.head _) rfl ?_
        repeat (first | refine pu_not ?_ | refine pu_eql ?_ | refine pu_neq ?_ | refine pu_lss ?_ | refine pu_leq ?_ | refine pu_gtr ?_ | refine pu_geq ?_ | refine pu_add ?_ | refine pu_sub ?_ | refine pu_mul ?_ | refine pu_neg ?_ | refine fa_at ?_ | refine nl_ptr ?_ | refine ex20 ?_ | refine ex21 ?_ | refine ex30 ?_ | refine ex31 ?_ | refine ex32 ?_ | refine ln_rule ?_ | refine lnT_rule ?_ | refine pu_and ?_ | refine pu_or ?_ | refine pu_xor ?_ | refine pu_seq ?_ | refine pu_sne ?_)
        rw [wrap64_in (by omega) (by omega)]
        refine st1_here (A := []) h11 rfl rfl (by simp) (fun w12 h12 => ?_)
        exact ⟨⟨bt', t + 1, mk :: ms, rfl, rfl, by simp; omega, by omega, h12.sub (.cons_cons _ (.cons_cons _ (.cons _ (.cons _ (.refl _)))))⟩, by simp [mkD]; omega⟩
      · have ht0 : t = 1 := by simp at ht0; omega
        refine ld_here h9 (.tail _ (.tail _ (.head _))) rfl ?_
        repeat (first | refine pu_not ?_ | refine pu_eql ?_ | refine pu_neq ?_ | refine pu_lss ?_ | refine pu_leq ?_ | refine pu_gtr ?_ | refine pu_geq ?_ | refine pu_add ?_ | refine pu_sub ?_ | refine pu_mul ?_ | refine pu_neg ?_ | refine fa_at ?_ | refine nl_ptr ?_ | refine ex20 ?_ | refine ex21 ?_ | refine ex30 ?_ | refine ex31 ?_ | refine ex32 ?_ | refine ln_rule ?_ | refine lnT_rule ?_ | refine pu_and ?_ | refine pu_or ?_ | refine pu_xor ?_ | refine pu_seq ?_ | refine pu_sne ?_)
        refine cnd_t (by simp; omega) ?_
        refine ld_here h9 (.tail _ (.head _)) rfl ?_
        refine ld_here h9 (.tail _ (.tail _ (.tail _ (List.mem_append_right _ mX0)))) rfl ?_
        refine sl_ln hl ?_
        rw [List.length_map]
        repeat (first | refine pu_not ?_ | refine pu_eql ?_ | refine pu_neq ?_ | refine pu_lss ?_ | refine pu_leq ?_ | refine pu_gtr ?_ | refine pu_geq ?_ | refine pu_add ?_ | refine pu_sub ?_ | refine pu_mul ?_ | refine pu_neg ?_ | refine fa_at ?_ | refine nl_ptr ?_ | refine ex20 ?_ | refine ex21 ?_ | refine ex30 ?_ | refine ex31 ?_ | refine ex32 ?_ | refine ln_rule ?_ | refine lnT_rule ?_ | refine pu_and ?_ | refine pu_or ?_ | refine pu_xor ?_ | refine pu_seq ?_ | refine pu_sne ?_)
        rw [wrap64_in (by omega) (by omega)]
        refine cnd_f (by have := hv1 ht0; simp <;> omega) ?_
        refine ld_here h9 (.tail _ (.tail _ (.head _))) rfl ?_
        refine al_rule h9 (l := [vI 0]) (by kernel_rfl) (fun bt' w10 h10 => ?_)
        refine st1_here (A := []) h10 rfl rfl (by simp) (fun w11 h11 => ?_)
        refine ld_here h11 (.head _) rfl ?_
        repeat (first | refine pu_not ?_ | refine pu_eql ?_ | refine pu_neq ?_ | refine pu_lss ?_ | refine pu_leq ?_ | refine pu_gtr ?_ | refine pu_geq ?_ | refine pu_add ?_ | refine pu_sub ?_ | refine pu_mul ?_ | refine pu_neg ?_ | refine fa_at ?_ | refine nl_ptr ?_ | refine ex20 ?_ | refine ex21 ?_ | refine ex30 ?_ | refine ex31 ?_ | refine ex32 ?_ | refine ln_rule ?_ | refine lnT_rule ?_ | refine pu_and ?_ | refine pu_or ?_ | refine pu_xor ?_ | refine pu_seq ?_ | refine pu_sne ?_)
        rw [wrap64_in (by omega) (by omega)]
        refine st1_here (A := []) h11 rfl rfl (by simp) (fun w12 h12 => ?_)
        exact ⟨⟨bt', t + 1, mk :: ms, rfl, rfl, by simp; omega, by omega, h12.sub (.cons_cons _ (.cons_cons _ (.cons _ (.cons _ (.refl _)))))⟩, by simp [mkD]; omega⟩
    · rintro mk j Y w9 ⟨rfl, i, rfl, hi1, hi2, ht, hmi, hi⟩ h9
      have hv0 : t = 0 → (i : Int) = if (if many > 1 then many else 1) < ((l.length + 1 : Nat) : Int) then (if many > 1 then many else 1) else ((l.length + 1 : Nat) : Int) := fun h0 => by
        split <;> split at * <;> omega
      have hv1 : t = 1 → (i : Int) = (l.length : Int) + 1 := fun h1 => by omega
      refine ld_here h9 (.tail _ (.tail _ (.head _))) rfl ?_
      repeat (first | refine pu_not ?_ | refine pu_eql ?_ | refine pu_neq ?_ | refine pu_lss ?_ | refine pu_leq ?_ | refine pu_gtr ?_ | refine pu_geq ?_ | refine pu_add ?_ | refine pu_sub ?_ | refine pu_mul ?_ | refine pu_neg ?_ | refine fa_at ?_ | refine nl_ptr ?_ | refine ex20 ?_ | refine ex21 ?_ | refine ex30 ?_ | refine ex31 ?_ | refine ex32 ?_ | refine ln_rule ?_ | refine lnT_rule ?_ | refine pu_and ?_ | refine pu_or ?_ | refine pu_xor ?_ | refine pu_seq ?_ | refine pu_sne ?_)
      refine cnd (fun ht0 => ?_) (fun ht0 => ?_)
      · have ht0 : t = 0 := by simp at ht0; omega
        refine ld_here h9 (.tail _ (.head _)) rfl ?_
        refine ld_here h9 (.tail _ (.tail _ (.tail _ (List.mem_append_right _ mX0)))) rfl ?_
        refine sl_ln hl ?_
        rw [List.length_map]
        repeat (first | refine pu_not ?_ | refine pu_eql ?_ | refine pu_neq ?_ | refine pu_lss ?_ | refine pu_leq ?_ | refine pu_gtr ?_ | refine pu_geq ?_ | refine pu_add ?_ | refine pu_sub ?_ | refine pu_mul ?_ | refine pu_neg ?_ | refine fa_at ?_ | refine nl_ptr ?_ | refine ex20 ?_ | refine ex21 ?_ | refine ex30 ?_ | refine ex31 ?_ | refine ex32 ?_ | refine ln_rule ?_ | refine lnT_rule ?_ | refine pu_and ?_ | refine pu_or ?_ | refine pu_xor ?_ | refine pu_seq ?_ | refine pu_sne ?_)
        rw [wrap64_in (by omega) (by omega)]
        refine ld_here h9 (.tail _ (.tail _ (.tail _ (List.mem_append_right _ mM0)))) rfl ?_
        refine pu_max2 ?_
        refine pu_min2 ?_
        repeat (first | refine pu_not ?_ | refine pu_eql ?_ | refine pu_neq ?_ | refine pu_lss ?_ | refine pu_leq ?_ | refine pu_gtr ?_ | refine pu_geq ?_ | refine pu_add ?_ | refine pu_sub ?_ | refine pu_mul ?_ | refine pu_neg ?_ | refine fa_at ?_ | refine nl_ptr ?_ | refine ex20 ?_ | refine ex21 ?_ | refine ex30 ?_ | refine ex31 ?_ | refine ex32 ?_ | refine ln_rule ?_ | refine lnT_rule ?_ | refine pu_and ?_ | refine pu_or ?_ | refine pu_xor ?_ | refine pu_seq ?_ | refine pu_sne ?_)
        refine cnd_f ?_ ?_
        · have := hv0 ht0
          simp only [bne_eq_false_iff_eq]
          split <;> split at this <;> split at * <;> omega
        refine ld_here h9 (.tail _ (.tail _ (.head _))) rfl ?_
        repeat (first | refine pu_not ?_ | refine pu_eql ?_ | refine pu_neq ?_ | refine pu_lss ?_ | refine pu_leq ?_ | refine pu_gtr ?_ | refine pu_geq ?_ | refine pu_add ?_ | refine pu_sub ?_ | refine pu_mul ?_ | refine pu_neg ?_ | refine fa_at ?_ | refine nl_ptr ?_ | refine ex20 ?_ | refine ex21 ?_ | refine ex30 ?_ | refine ex31 ?_ | refine ex32 ?_ | refine ln_rule ?_ | refine lnT_rule ?_ | refine pu_and ?_ | refine pu_or ?_ | refine pu_xor ?_ | refine pu_seq ?_ | refine pu_sne ?_)
        refine cnd_f (by simp; omega) ?_
        refine ld_here h9 (.tail _ (.tail _ (.head _))) rfl ?_
        refine al_rule h9 (l := [vI 0]) (by kernel_rfl) (fun bt' w10 h10 => ?_)
        refine st1_here (A := []) h10 rfl rfl (by simp) (fun w11 h11 => ?_)
        refine ld_here h11 (.head _) rfl ?_
        repeat (first | refine pu_not ?_ | refine pu_eql ?_ | refine pu_neq ?_ | refine pu_lss ?_ | refine pu_leq ?_ | refine pu_gtr ?_ | refine pu_geq ?_ | refine pu_add ?_ | refine pu_sub ?_ | refine pu_mul ?_ | refine pu_neg ?_ | refine fa_at ?_ | refine nl_ptr ?_ | refine ex20 ?_ | refine ex21 ?_ | refine ex30 ?_ | refine ex31 ?_ | refine ex32 ?_ | refine ln_rule ?_ | refine lnT_rule ?_ | refine pu_and ?_ | refine pu_or ?_ | refine pu_xor ?_ | refine pu_seq ?_ | refine pu_sne ?_)
        rw [wrap64_in (by omega) (by omega)]
        refine st1_here (A := []) h11 rfl rfl (by simp) (fun w12 h12 => ?_)
        exact ⟨⟨bt', t + 1, mk :: ms, rfl, rfl, by simp; omega, by omega, h12.sub (.cons_cons _ (.cons_cons _ (.cons _ (.cons _ (.refl _)))))⟩, by simp [mkD]; omega⟩
      · have ht0 : t = 1 := by simp at ht0; omega
        refine ld_here h9 (.tail _ (.tail _ (.head _))) rfl ?_
        repeat (first | refine pu_not ?_ | refine pu_eql ?_ | refine pu_neq ?_ | refine pu_lss ?_ | refine pu_leq ?_ | refine pu_gtr ?_ | refine pu_geq ?_ | refine pu_add ?_ | refine pu_sub ?_ | refine pu_mul ?_ | refine pu_neg ?_ | refine fa_at ?_ | refine nl_ptr ?_ | refine ex20 ?_ | refine ex21 ?_ | refine ex30 ?_ | refine ex31 ?_ | refine ex32 ?_ | refine ln_rule ?_ | refine lnT_rule ?_ | refine pu_and ?_ | refine pu_or ?_ | refine pu_xor ?_ | refine pu_seq ?_ | refine pu_sne ?_)
        refine cnd_t (by simp; omega) ?_
        refine ld_here h9 (.tail _ (.head _)) rfl ?_
        refine ld_here h9 (.tail _ (.tail _ (.tail _ (List.mem_append_right _ mX0)))) rfl ?_
        refine sl_ln hl ?_
        rw [List.length_map]
        repeat (first | refine pu_not ?_ | refine pu_eql ?_ | refine pu_neq ?_ | refine pu_lss ?_ | refine pu_leq ?_ | refine pu_gtr ?_ | refine pu_geq ?_ | refine pu_add ?_ | refine pu_sub ?_ | refine pu_mul ?_ | refine pu_neg ?_ | refine fa_at ?_ | refine nl_ptr ?_ | refine ex20 ?_ | refine ex21 ?_ | refine ex30 ?_ | refine ex31 ?_ | refine ex32 ?_ | refine ln_rule ?_ | refine lnT_rule ?_ | refine pu_and ?_ | refine pu_or ?_ | refine pu_xor ?_ | refine pu_seq ?_ | refine pu_sne ?_)
        rw [wrap64_in (by omega) (by omega)]
        refine cnd_f (by have := hv1 ht0; simp <;> omega) ?_
        refine ld_here h9 (.tail _ (.tail _ (.head _))) rfl ?_
        refine al_rule h9 (l := [vI 0]) (by kernel_rfl) (fun bt' w10 h10 => ?_)
        refine st1_here (A := []) h10 rfl rfl (by simp) (fun w11 h11 => ?_)
        refine ld_here h11 (.head _) rfl ?_
        repeat (first | refine pu_not ?_ | refine pu_eql ?_ | refine pu_neq ?_ | refine pu_lss ?_ | refine pu_leq ?_ | refine pu_gtr ?_ | refine pu_geq ?_ | refine pu_add ?_ | refine pu_sub ?_ | refine pu_mul ?_ | refine pu_neg ?_ | refine fa_at ?_ | refine nl_ptr ?_ | refine ex20 ?_ | refine ex21 ?_ | refine ex30 ?_ | refine ex31 ?_ | refine ex32 ?_ | refine ln_rule ?_ | refine lnT_rule ?_ | refine pu_and ?_ | refine pu_or ?_ | refine pu_xor ?_ | refine pu_seq ?_ | refine pu_sne ?_)
        rw [wrap64_in (by omega) (by omega)]
        refine st1_here (A := []) h11 rfl rfl (by simp) (fun w12 h12 => ?_)
        exact ⟨⟨bt', t + 1, mk :: ms, rfl, rfl, by simp; omega, by omega, h12.sub (.cons_cons _ (.cons_cons _ (.cons _ (.cons _ (.refl _)))))⟩, by simp [mkD]; omega⟩
  · obtain rfl : t = 2 := by simp at hlt; omega
    rw [← hD] at h8
    have h9 := h8.drop
    refine dworks_spec h9 (fun w10 h10 => ?_)
    refine st1_here (A := mkB ms ++ (bs, cel [v] T.t_sl_uint8) :: S) (by simpa using h10) rfl rfl (by simp) (fun w11 h11 => ?_)
    refine lv_rets (C := ((bs, cel [v] T.t_sl_uint8) :: S) ++ _) (by rw [← List.append_assoc]; exact h11) (fun w12 h12 => ?_)
    refine ld_here h12 (List.mem_append_right _ (.head _)) rfl ?_
    exact k w12 (h12.sub (List.sublist_append_right _ _)).drop.drop.drop
end
end Go.Proofs.Ytplobehejancpaa
