/- The law OctetEach: its walk. -/
import Derived.Test.YtplobehejancpaaVoK
set_option linter.unusedVariables false
set_option linter.unusedSimpArgs false
namespace Go.Proofs.Ytplobehejancpaa
open Go Go.RowKit Vc Oc Dg
attribute [local irreducible] binV Op.unary convert nlW faW ldS ldW ixS ixA ixV ixT exW lnS lnT pu stW alW opW opU bsW mkW

section
variable {B w : World} {H : Hp} {K : Value → World → Prop} {PK : List PanicEntry → World → Prop}
theorem info_int : (PG.info? T.t_int).map (fun i => (i.zero, i.size, i.bytes)) = some (some (vI 0), 1, 8) := by kernel_rfl
theorem info_u64 : (PG.info? T.t_uint64).map (fun i => (i.zero, i.size, i.bytes)) = some (some (v64 0), 1, 8) := by kernel_rfl
theorem und_sli : PG.underlying T.t_sl_int = some (.slice T.t_int) := by kernel_rfl
theorem und_slu : PG.underlying T.t_sl_uint64 = some (.slice T.t_uint64) := by kernel_rfl
/-- How many numbers of a width there are. -/
def cn (l : List Nat) (x : Int) : Nat := if right x = true then l.length / x.toNat else 0
def nAt (l : List Nat) (W i : Nat) : Nat := val ((l.drop (i * W)).take W)
def eachL (l : List Nat) (x : Int) : List (List Value) := (List.range (cn l x)).map fun i : Nat => [vI ((i * x.toNat : Nat) : Int), v64 (nAt l x.toNat i)]
theorem eachL_len (l : List Nat) (x : Int) : (eachL l x).length = cn l x := by simp [eachL]
theorem eachL_at {l : List Nat} {x : Int} {i : Nat} (h : i < cn l x) : (eachL l x)[i]? = some [vI ((i * x.toNat : Nat) : Int), v64 (nAt l x.toNat i)] := by simp [eachL, h]
theorem eachL_of {l : List Nat} {x : Int} {i : Nat} {args : List Value} (h : (eachL l x)[i]? = some args) : i < cn l x ∧ args = [vI ((i * x.toNat : Nat) : Int), v64 (nAt l x.toNat i)] := by
  have hlt := (List.getElem?_eq_some_iff.1 h).1
  rw [eachL_len] at hlt
  rw [eachL_at hlt] at h
  exact ⟨hlt, (Option.some.inj h).symm⟩
theorem eachL_two {l : List Nat} {x : Int} : ∀ args ∈ eachL l x, args.length = 2 := fun a ha => by
  obtain ⟨i, hi⟩ := List.getElem?_of_mem ha
  obtain ⟨_, rfl⟩ := eachL_of hi
  rfl
/-- What is read at the i-th place. -/
theorem rf_at {l : List Nat} {x : Int} {i : Nat} (h : i ≤ cn l x) : i * x.toNat ≤ l.length ∧
    ((i < cn l x ∧ 1 ≤ x.toNat ∧ x = (x.toNat : Int) ∧ x.toNat ≤ 8 ∧ (i + 1) * x.toNat ≤ l.length ∧ rfR (l.drop (i * x.toNat)) x = (nAt l x.toNat i, 0)) ∨ (i = cn l x ∧ (rfR (l.drop (i * x.toNat)) x).2 ≠ 0)) := by
  unfold cn at *
  by_cases hr : right x = true
  · rw [if_pos hr] at *
    obtain ⟨W, rfl, hW, hW8⟩ : ∃ W : Nat, x = W ∧ 1 ≤ W ∧ W ≤ 8 := by
      rcases right_cases hr with rfl | rfl | rfl | rfl
      · exact ⟨1, rfl, by omega, by omega⟩
      · exact ⟨2, rfl, by omega, by omega⟩
      · exact ⟨4, rfl, by omega, by omega⟩
      · exact ⟨8, rfl, by omega, by omega⟩
    rw [Int.toNat_natCast] at *
    have h1 : i * W ≤ l.length := Nat.le_trans (Nat.mul_le_mul_right W h) (Nat.div_mul_le_self _ _)
    refine ⟨h1, ?_⟩
    by_cases hlt : i < l.length / W
    · have h2 : (i + 1) * W ≤ l.length := Nat.le_trans (Nat.mul_le_mul_right W hlt) (Nat.div_mul_le_self _ _)
      refine .inl ⟨hlt, hW, rfl, hW8, h2, ?_⟩
      unfold rfR nAt
      rw [if_neg (by rw [hr]; simp), Int.toNat_natCast, if_neg]
      rw [Nat.succ_mul] at h2
      rw [List.length_drop]
      omega
    · have he : i = l.length / W := by omega
      refine .inr ⟨he, ?_⟩
      have h3 : l.length < (i + 1) * W := by
        rw [he, Nat.mul_comm]
        exact Nat.lt_mul_div_succ _ (by omega)
      unfold rfR
      rw [if_neg (by rw [hr]; simp), Int.toNat_natCast, if_pos]
      · simp
      rw [Nat.succ_mul] at h3
      rw [List.length_drop]
      omega
  · rw [if_neg hr] at *
    obtain rfl : i = 0 := by omega
    refine ⟨by simp, .inr ⟨rfl, ?_⟩⟩
    unfold rfR
    rw [if_pos (by simpa using hr)]
    simp
theorem nAt_lt {l : List Nat} (hb : Byt l) {W : Nat} (hW : W ≤ 8) (i : Nat) : nAt l W i < 18446744073709551616 := by
  have h1 := val_lt ((l.drop (i * W)).take W) ((hb.drop _).take _)
  have h2 : 256 ^ ((l.drop (i * W)).take W).length ≤ 256 ^ 8 := Nat.pow_le_pow_right (by omega) (by rw [List.length_take]; omega)
  have h3 : (256 : Nat) ^ 8 = 18446744073709551616 := by decide
  unfold nAt
  omega
theorem oevery_seq {b b2 : Nat} {s : Value} {l : List Nat} {x : Int} (hm : (b, cel [s] T.t_sl_uint8) ∈ H) (hm2 : (b2, cel [vI x] T.t_int) ∈ H) (hs : Sl H s (bv l)) (hb : Byt l) (hlen : l.length < 2 ^ 60) : Seq PG B H (fnv N.octet_every_1 #[ptr b, ptr b2]) (eachL l x) := by
  refine Seq.fn octet_every_1.okf ?_
  intro y J Z K PK w X hy hw j0 hr he
  refine octet_every_1.ok ?_
  unfold octet_every_1.C
  refine ⟨fun l' w => ∃ (i : Nat) (X : Hp), l' = [vI ((i * x.toNat : Nat) : Int)] ∧ i ≤ cn l x ∧ J i X ∧ Ow B w (X ++ H), fun l' _ => match l' with | [.int _ n] => l.length + 1 - n.toNat | _ => 0, ⟨0, X, by simp, Nat.zero_le _, j0, hw⟩, ?_⟩
  rintro l' w2 ⟨i, X, rfl, hi, hj, h2⟩ j1
  obtain ⟨hle, hcase⟩ := rf_at hi
  refine ld_here h2 (List.mem_append_right _ hm) rfl ?_
  refine sl_ln hs ?_
  rw [List.length_map]
  generalize hat : i * x.toNat = at' at *
  repeat (first | refine pu_not ?_ | refine pu_eql ?_ | refine pu_neq ?_ | refine pu_lss ?_ | refine pu_leq ?_ | refine pu_gtr ?_ | refine pu_geq ?_ | refine pu_add ?_ | refine pu_sub ?_ | refine pu_mul ?_ | refine pu_neg ?_ | refine fa_at ?_ | refine nl_ptr ?_ | refine ex20 ?_ | refine ex21 ?_ | refine ex30 ?_ | refine ex31 ?_ | refine ex32 ?_ | refine ln_rule ?_ | refine lnT_rule ?_ | refine pu_and ?_ | refine pu_or ?_ | refine pu_xor ?_ | refine pu_seq ?_ | refine pu_sne ?_)
  refine cnd_t (by simp; omega) ?_
  refine ⟨fun w => Ow B w (X ++ H), h2.drew, ?_⟩
  refine lds_here (fun w h => h) (List.mem_append_right _ hm) rfl ?_
  refine cutL hs (by omega) (by rw [List.length_map]; omega) (fun c hc => ?_)
  have hs2 := sl_cut (l := at') (h := (bv l).length) (m := c) hs (by rw [List.length_map]; omega) (Nat.le_refl _) hc
  rw [List.take_length, ← List.map_drop] at hs2
  rw [Int.toNat_natCast]
  refine lds_here (fun w h => h) (List.mem_append_right _ hm2) rfl ?_
  refine readFixed_spec (l := l.drop at') h2.drew (hs2.mono fun x hx => List.mem_append_right _ hx) (hb.drop _) (by rw [List.length_drop]; omega) (fun w3 h3 => ?_)
  repeat (first | refine pu_not ?_ | refine pu_eql ?_ | refine pu_neq ?_ | refine pu_lss ?_ | refine pu_leq ?_ | refine pu_gtr ?_ | refine pu_geq ?_ | refine pu_add ?_ | refine pu_sub ?_ | refine pu_mul ?_ | refine pu_neg ?_ | refine fa_at ?_ | refine nl_ptr ?_ | refine ex20 ?_ | refine ex21 ?_ | refine ex30 ?_ | refine ex31 ?_ | refine ex32 ?_ | refine ln_rule ?_ | refine lnT_rule ?_ | refine pu_and ?_ | refine pu_or ?_ | refine pu_xor ?_ | refine pu_seq ?_ | refine pu_sne ?_)
  rcases hcase with ⟨hlt, hW, hx, hW8, hn, hrf⟩ | ⟨hlt, hrf⟩
  · rw [hrf]
    refine cnd_f rfl ?_
    have hat2 := eachL_at hlt
    rw [hat] at hat2
    refine hr i _ X H _ _ w3 hat2 hj (fun x hx => hx) h3 (fun X' w4 h4 hj4 => ?_) (fun X' w4 h4 hz4 => ?_)
    · repeat (first | refine pu_not ?_ | refine pu_eql ?_ | refine pu_neq ?_ | refine pu_lss ?_ | refine pu_leq ?_ | refine pu_gtr ?_ | refine pu_geq ?_ | refine pu_add ?_ | refine pu_sub ?_ | refine pu_mul ?_ | refine pu_neg ?_ | refine fa_at ?_ | refine nl_ptr ?_ | refine ex20 ?_ | refine ex21 ?_ | refine ex30 ?_ | refine ex31 ?_ | refine ex32 ?_ | refine ln_rule ?_ | refine lnT_rule ?_ | refine pu_and ?_ | refine pu_or ?_ | refine pu_xor ?_ | refine pu_seq ?_ | refine pu_sne ?_)
      refine cnd_f rfl ?_
      refine ld_here h4 (List.mem_append_right _ hm2) rfl ?_
      repeat (first | refine pu_not ?_ | refine pu_eql ?_ | refine pu_neq ?_ | refine pu_lss ?_ | refine pu_leq ?_ | refine pu_gtr ?_ | refine pu_geq ?_ | refine pu_add ?_ | refine pu_sub ?_ | refine pu_mul ?_ | refine pu_neg ?_ | refine fa_at ?_ | refine nl_ptr ?_ | refine ex20 ?_ | refine ex21 ?_ | refine ex30 ?_ | refine ex31 ?_ | refine ex32 ?_ | refine ln_rule ?_ | refine lnT_rule ?_ | refine pu_and ?_ | refine pu_or ?_ | refine pu_xor ?_ | refine pu_seq ?_ | refine pu_sne ?_)
      rw [wrap64_in (by omega) (by omega)]
      rw [Nat.succ_mul, hat] at hn
      refine ⟨⟨i + 1, X', ?_, hlt, hj4, h4⟩, by simp; omega⟩
      rw [Nat.succ_mul, hat]
      have : (at' : Int) + x = ((at' + x.toNat : Nat) : Int) := by omega
      rw [this]
    · repeat (first | refine pu_not ?_ | refine pu_eql ?_ | refine pu_neq ?_ | refine pu_lss ?_ | refine pu_leq ?_ | refine pu_gtr ?_ | refine pu_geq ?_ | refine pu_add ?_ | refine pu_sub ?_ | refine pu_mul ?_ | refine pu_neg ?_ | refine fa_at ?_ | refine nl_ptr ?_ | refine ex20 ?_ | refine ex21 ?_ | refine ex30 ?_ | refine ex31 ?_ | refine ex32 ?_ | refine ln_rule ?_ | refine lnT_rule ?_ | refine pu_and ?_ | refine pu_or ?_ | refine pu_xor ?_ | refine pu_seq ?_ | refine pu_sne ?_)
      refine cnd_t rfl ?_
      exact he _ X' w4 h4 (.inr hz4)
  · refine cnd_t (by simpa using hrf) ?_
    refine he _ X w3 h3 (.inl ?_)
    rw [eachL_len, ← hlt]
    exact hj
theorem oeach_seq {b b2 : Nat} {s : Value} {l : List Nat} {x : Int} (hm : (b, cel [s] T.t_sl_uint8) ∈ H) (hm2 : (b2, cel [vI x] T.t_int) ∈ H) (hs : Sl H s (bv l)) (hb : Byt l) (hlen : l.length < 2 ^ 60) : Seq PG B H (fnv N.octet_Each_1 #[ptr b, ptr b2]) (eachL l x) := by
  refine Seq.fn octet_Each_1.okf ?_
  intro y J Z K PK w X hy hw j0 hr he
  refine octet_Each_1.ok ?_
  unfold octet_Each_1.C
  refine al_rule hw (l := [y]) (fn_cells hy) (fun b3 w1 h1 => ?_)
  refine ld_here h1 (.tail _ (List.mem_append_right _ hm)) rfl ?_
  refine ld_here h1 (.tail _ (List.mem_append_right _ hm2)) rfl ?_
  refine octet_every.ok ?_
  unfold octet_every.C
  refine al_rule h1 (l := [s]) (sl_cells hs) (fun b4 w2 h2 => ?_)
  refine al_rule h2 (l := [vI x]) rfl (fun b5 w3 h3 => ?_)
  have h3 : Ow B w3 (X ++ ((b5, cel [vI x] T.t_int) :: (b4, cel [s] T.t_sl_uint8) :: (b3, cel [y] T.t_func_int_uint64_bool) :: H)) := h3.perm (List.perm_append_comm_assoc [_, _, _] X H)
  refine range_fn (X := X) (H := (b5, cel [vI x] T.t_int) :: (b4, cel [s] T.t_sl_uint8) :: (b3, cel [y] T.t_func_int_uint64_bool) :: H) (A := octet_Each_1.note) (fuel := 400) mixed (oevery_seq (.tail _ (.head _)) (.head _) hs.cons.cons.cons hb hlen) (by simp) eachL_two h3
    J (fun j Y => j = .exit 0 ∧ Z Y) j0 ?_ ?_ ?_
  · rintro lp r n args Y F R w4 hL hj hF h4 k1 k2 u
    obtain ⟨hlt, rfl⟩ := eachL_of hL
    refine Eq.mpr (octet_Each_1.Rd0_eq lp R _ _ _ w4 u) ?_
    unfold octet_Each_1.Rd0
    refine rbeg h4 (fun w5 h5 => ?_)
    refine ld_here h5 (.tail _ (List.mem_append_right _ (hF _ (.tail _ (.tail _ (.head _)))))) rfl ?_
    refine hr n _ Y ((lp, recB r) :: F) _ _ w5 (eachL_at hlt) hj (fun x hx => .tail _ (hF x (.tail _ (.tail _ (.tail _ hx))))) (h5.perm List.perm_middle.symm) (fun X' w6 h6 hj6 => ?_) (fun X' w6 h6 hz6 => ?_)
    · repeat (first | refine pu_not ?_ | refine pu_eql ?_ | refine pu_neq ?_ | refine pu_lss ?_ | refine pu_leq ?_ | refine pu_gtr ?_ | refine pu_geq ?_ | refine pu_add ?_ | refine pu_sub ?_ | refine pu_mul ?_ | refine pu_neg ?_ | refine fa_at ?_ | refine nl_ptr ?_ | refine ex20 ?_ | refine ex21 ?_ | refine ex30 ?_ | refine ex31 ?_ | refine ex32 ?_ | refine ln_rule ?_ | refine lnT_rule ?_ | refine pu_and ?_ | refine pu_or ?_ | refine pu_xor ?_ | refine pu_seq ?_ | refine pu_sne ?_)
      refine cnd_f rfl ?_
      exact rend_go (h6.perm List.perm_middle) (fun w7 h7 => k1 X' w7 hj6 h7)
    · repeat (first | refine pu_not ?_ | refine pu_eql ?_ | refine pu_neq ?_ | refine pu_lss ?_ | refine pu_leq ?_ | refine pu_gtr ?_ | refine pu_geq ?_ | refine pu_add ?_ | refine pu_sub ?_ | refine pu_mul ?_ | refine pu_neg ?_ | refine fa_at ?_ | refine nl_ptr ?_ | refine ex20 ?_ | refine ex21 ?_ | refine ex30 ?_ | refine ex31 ?_ | refine ex32 ?_ | refine ln_rule ?_ | refine lnT_rule ?_ | refine pu_and ?_ | refine pu_or ?_ | refine pu_xor ?_ | refine pu_seq ?_ | refine pu_sne ?_)
      refine cnd_t rfl ?_
      exact rend_stop (h6.perm List.perm_middle) (fun w7 h7 => k2 _ X' w7 ⟨rfl, hz6⟩ h7)
  · rintro mk Y w4 hj h4
    refine lv_ret h4 (fun w8 h8 => ?_)
    exact he _ Y w8 (h8.sub ((List.Sublist.refl Y).append (.cons _ (.cons _ (.cons _ (.refl _)))))) (.inl hj)
  · rintro mk j Y w4 ⟨rfl, hz⟩ h4
    refine lv_ret h4 (fun w8 h8 => ?_)
    exact he _ Y w8 (h8.sub ((List.Sublist.refl Y).append (.cons _ (.cons _ (.cons _ (.refl _)))))) (.inr hz)
theorem oeach_spec {s : Value} {l : List Nat} {x : Int} {X0 : Hp} (h : Ow B w H) (hs : Sl X0 s (bv l)) (hX : ∀ x, x ∈ X0 → x ∈ H) (hl : l.length < 1000000)
    (k : ∀ S b b2 v w', Sl S v (bv l) → Ow B w' ((b, cel [v] T.t_sl_uint8) :: (S ++ (b2, cel [vI x] T.t_int) :: H)) → K (fnv N.octet_Each_1 #[ptr b, ptr b2]) w') : callW PG N.octet_Each [s, vI x] K PK w := by
  refine octet_Each.ok ?_
  unfold octet_Each.C
  refine al_rule h (l := [vI x]) rfl (fun b2 w0 h0 => ?_)
  refine clone_spec h0 hs (fun x hx => .tail _ (hX x hx)) hl (fun S v w1 h1 ho => ?_)
  refine al_rule h1 (l := [.slice none 0 0]) (by kernel_rfl) (fun b w2 h2 => ?_)
  refine st1_here (A := []) h2 (sl_cells ho.sl) (sl_plain ho.sl) (by simp) (fun w3 h3 => ?_)
  exact k S b b2 v _ ho.sl h3
theorem cut0 {q : Value} {a : Option Addr} {n0 c0 : Nat} (hq : q = .slice a n0 c0) (n c : Nat) : cut q 0 n c = .slice a n c := by
  subst hq
  unfold cut
  cases a <;> simp [Addr.add]
theorem recut {X : Hp} {s : Value} {xs : List Value} {KK : Value → Prop} {n c : Nat} (hs : Sl X s xs) (hn : n < xs.length) (hc : xs.length ≤ c) (k : ∀ u, Sl X u (xs.take (n + 1)) → KK u) : pu PG (Instr.sliceAt T.t_sl_uint8 (cut s 0 n c) none (some (vI ((n : Int) + 1))) none) KK := by
  obtain ⟨a, c0, hq, _⟩ := Sl.cap hs
  rw [cut0 hq]
  refine pu_cutH und_slb one_u8 (by omega) (by omega) ?_
  have h2 := sl_cut (l := 0) (h := n + 1) (m := c) hs (by omega) (by omega) (by omega)
  rw [List.drop_zero, cut0 hq] at h2
  rw [cut0 rfl, show ((n : Int) + 1).toNat = n + 1 by omega]
  exact k _ h2
theorem cutH2 {X : Hp} {s : Value} {xs : List Value} {KK : Value → Prop} {h : Int} (hs : Sl X s xs) (h0 : 0 ≤ h) (h3 : h ≤ xs.length) (k : ∀ c : Nat, xs.length ≤ c → KK (cut s 0 h.toNat c)) : pu PG (Instr.sliceAt T.t_sl_uint8 s none (some (vI h)) none) KK := by
  obtain ⟨a, c, rfl, hc⟩ := Sl.cap hs
  exact pu_cutH und_slb one_u8 h0 (by omega) (k c hc)
def atV (W i : Nat) : List Value := (List.range i).map fun q : Nat => vI ((q * W : Nat) : Int)
def wnV (l : List Nat) (W i : Nat) : List Value := (List.range i).map fun q : Nat => v64 (nAt l W q)
theorem atV_succ (W i : Nat) : atV W (i + 1) = atV W i ++ [vI ((i * W : Nat) : Int)] := by simp [atV, List.range_succ]
theorem wnV_succ (l : List Nat) (W i : Nat) : wnV l W (i + 1) = wnV l W i ++ [v64 (nAt l W i)] := by simp [wnV, List.range_succ]
theorem atV_len (W i : Nat) : (atV W i).length = i := by simp [atV]
theorem wnV_len (l : List Nat) (W i : Nat) : (wnV l W i).length = i := by simp [wnV]
theorem atV_at {W i n : Nat} (h : i < n) : (atV W n)[i]? = some (vI ((i * W : Nat) : Int)) := by simp [atV, h]
theorem wnV_at {l : List Nat} {W i n : Nat} (h : i < n) : (wnV l W n)[i]? = some (v64 (nAt l W i)) := by simp [wnV, h]

theorem OctetEach.law {v0 v1 v2 : Value} (g0 : FitV PG H T.t_sl_uint8 v0) (g1 : FitV PG H T.t_int v1) (g2 : FitV PG H T.t_int v2) (h : Ow B w H) (k : ∀ w', Ow B w' H → K (vB true) w') : callW PG N.linesmanlaw01_OctetEach [v0, v1, v2] K PK w := by
  obtain ⟨l, hl, hlm, hb⟩ := bytes_of g0
  obtain ⟨x, rfl, hxw⟩ := g1.int und_int
  obtain ⟨many, rfl, hmany⟩ := g2.int und_int
  have hmany := wf_i64 hmany
  have hxw := wf_i64 hxw
  clear g0 g1 g2
  refine linesmanlaw01_OctetEach.ok ?_
  unfold linesmanlaw01_OctetEach.C
  refine al_rule h (l := [vI many]) rfl (fun bm w1 h1 => ?_)
  refine al_rule h1 (l := [vB false]) (by kernel_rfl) (fun br w2 h2 => ?_)
  refine sl_ln hl ?_
  rw [List.length_map]
  repeat (first | refine pu_not ?_ | refine pu_eql ?_ | refine pu_neq ?_ | refine pu_lss ?_ | refine pu_leq ?_ | refine pu_gtr ?_ | refine pu_geq ?_ | refine pu_add ?_ | refine pu_sub ?_ | refine pu_mul ?_ | refine pu_neg ?_ | refine fa_at ?_ | refine nl_ptr ?_ | refine ex20 ?_ | refine ex21 ?_ | refine ex30 ?_ | refine ex31 ?_ | refine ex32 ?_ | refine ln_rule ?_ | refine lnT_rule ?_ | refine pu_and ?_ | refine pu_or ?_ | refine pu_xor ?_ | refine pu_seq ?_ | refine pu_sne ?_)
  refine cnd (fun _ => ?_) (fun hle => ?_)
  · refine oworks_spec h2 (fun w6 h6 => ?_)
    refine st1_here (A := []) h6 rfl rfl (by simp) (fun w7 h7 => ?_)
    refine ld_here h7 (.head _) rfl ?_
    exact k _ h7.drop.drop
  have hle : l.length ≤ 300 := by simp at hle; omega
  refine al_rule h2 (l := [.slice none 0 0]) (by kernel_rfl) (fun ba w3 h3 => ?_)
  refine al_rule h3 (l := [.slice none 0 0]) (by kernel_rfl) (fun bw w4 h4 => ?_)
  have hcn : cn l x ≤ l.length := by
    unfold cn
    split
    · exact Nat.div_le_self _ _
    · omega
  refine ⟨fun l' w => ∃ (i : Nat) (S1 S2 : Hp) (u1 u2 : Value), l' = [vI ((i * x.toNat : Nat) : Int)] ∧ i ≤ cn l x ∧ Vc.Own S1 T.t_int 1 u1 i (atV x.toNat i) ∧ Vc.Own S2 T.t_uint64 1 u2 i (wnV l x.toNat i) ∧
      Ow B w ((bw, cel [u2] T.t_sl_uint64) :: (ba, cel [u1] T.t_sl_int) :: (S1 ++ (S2 ++ ((br, cel [vB false] T.t_bool) :: (bm, cel [vI many] T.t_int) :: H)))),
    fun l' _ => match l' with | [.int _ n] => l.length + 1 - n.toNat | _ => 0, ⟨0, [], [], _, _, by simp, Nat.zero_le _, own_none _ _, own_none _ _, h4⟩, ?_⟩
  clear h4 h3
  rintro l' w5 ⟨i, S1, S2, u1, u2, rfl, hi, ho1, ho2, h5⟩ j
  obtain ⟨hlw, hcase⟩ := rf_at hi
  have mH5 : ∀ {a b : Nat × Obj} {S1 S2 : Hp}, ∀ y, y ∈ H → y ∈ a :: b :: (S1 ++ (S2 ++ ((br, cel [vB false] T.t_bool) :: (bm, cel [vI many] T.t_int) :: H))) := fun y hy => .tail _ (.tail _ (List.mem_append_right _ (List.mem_append_right _ (.tail _ (.tail _ hy)))))
  refine sl_ln hl ?_
  rw [List.length_map]
  generalize hat : i * x.toNat = at' at *
  repeat (first | refine pu_not ?_ | refine pu_eql ?_ | refine pu_neq ?_ | refine pu_lss ?_ | refine pu_leq ?_ | refine pu_gtr ?_ | refine pu_geq ?_ | refine pu_add ?_ | refine pu_sub ?_ | refine pu_mul ?_ | refine pu_neg ?_ | refine fa_at ?_ | refine nl_ptr ?_ | refine ex20 ?_ | refine ex21 ?_ | refine ex30 ?_ | refine ex31 ?_ | refine ex32 ?_ | refine ln_rule ?_ | refine lnT_rule ?_ | refine pu_and ?_ | refine pu_or ?_ | refine pu_xor ?_ | refine pu_seq ?_ | refine pu_sne ?_)
  refine cnd_t (by simp; omega) ?_
  refine cutL hl (by omega) (by rw [List.length_map]; omega) (fun c hc => ?_)
  have hs2 := sl_cut (l := at') (h := (bv l).length) (m := c) hl (by rw [List.length_map]; omega) (Nat.le_refl _) hc
  rw [List.take_length, ← List.map_drop] at hs2
  rw [Int.toNat_natCast]
  refine rreadFixed_spec (l := l.drop at') h5 (hs2.mono mH5) (hb.drop _) (by rw [List.length_drop]; omega) (fun w6 h6 => ?_)
  repeat (first | refine pu_not ?_ | refine pu_eql ?_ | refine pu_neq ?_ | refine pu_lss ?_ | refine pu_leq ?_ | refine pu_gtr ?_ | refine pu_geq ?_ | refine pu_add ?_ | refine pu_sub ?_ | refine pu_mul ?_ | refine pu_neg ?_ | refine fa_at ?_ | refine nl_ptr ?_ | refine ex20 ?_ | refine ex21 ?_ | refine ex30 ?_ | refine ex31 ?_ | refine ex32 ?_ | refine ln_rule ?_ | refine lnT_rule ?_ | refine pu_and ?_ | refine pu_or ?_ | refine pu_xor ?_ | refine pu_seq ?_ | refine pu_sne ?_)
  rcases hcase with ⟨hlt, hW, hx, hW8, hn, hrf⟩ | ⟨hlt, hrf⟩
  · rw [hrf]
    refine cnd_f rfl ?_
    have hnl := nAt_lt hb hW8 i
    generalize hbase : ((br, cel [vB false] T.t_bool) :: (bm, cel [vI many] T.t_int) :: H : Hp) = base at *
    refine ⟨fun w => Ow B w ((bw, cel [u2] T.t_sl_uint64) :: (ba, cel [u1] T.t_sl_int) :: base), h6.drew.sub (.cons_cons _ (.cons_cons _ ((List.sublist_append_right _ _).trans (List.sublist_append_right _ _)))), ?_⟩
    have h6 := h6.drew
    refine lds_here (fun w h => h) (.tail _ (.head _)) rfl ?_
    refine lds_here (fun w h => h) (.head _) rfl ?_
    have toB : ∀ {w} {P Q S1 S2 : Hp}, Ow B w (P ++ ((bw, cel [u2] T.t_sl_uint64) :: (ba, cel [u1] T.t_sl_int) :: (S1 ++ (S2 ++ base)))) → Ow B w ((bw, cel [u2] T.t_sl_uint64) :: (ba, cel [u1] T.t_sl_int) :: base) := fun h =>
      (h.sub (List.sublist_append_right _ _)).sub (.cons_cons _ (.cons_cons _ ((List.sublist_append_right _ _).trans (List.sublist_append_right _ _))))
    refine ⟨?_, ?_⟩
    · refine bs_rule h6 [vI (at' : Int)] (by kernel_rfl) (fun p1 w7 h7 => ?_)
      refine ⟨toB (P := [_]) (Q := []) h7, ?_⟩
      refine ⟨?_, ?_⟩
      · refine app1 (A := [_, _, _]) (C := S2 ++ base) (z := vI 0) (bytes := 8) h7 ho1 (sl_here (b := p1) (l := [vI (at' : Int)]) (e := T.t_int) (.head _)) (fun y hy => hy) rfl und_sli info_int rfl (by simp [maxLen]; omega) (by simp; omega) (fun S1' u1' w8 h8 ho1' => ?_)
        have h8 : Ow B w8 ((p1, cel [vI (at' : Int)] T.t_int) :: (bw, cel [u2] T.t_sl_uint64) :: (ba, cel [u1] T.t_sl_int) :: (S1' ++ (S2 ++ base))) := by simpa using h8
        refine ⟨toB (P := [_]) (Q := []) h8, ?_⟩
        refine bs_rule h8 [v64 (nAt l x.toNat i)] (by kernel_rfl) (fun p2 w9 h9 => ?_)
        refine ⟨toB (P := [_, _]) (Q := []) h9, ?_⟩
        refine app1 (A := (p2, cel [v64 (nAt l x.toNat i)] T.t_uint64) :: (p1, cel [vI (at' : Int)] T.t_int) :: (bw, cel [u2] T.t_sl_uint64) :: (ba, cel [u1] T.t_sl_int) :: S1') (C := base) (z := v64 0) (bytes := 8) (by simpa using h9) ho2 (sl_here (b := p2) (l := [v64 (nAt l x.toNat i)]) (e := T.t_uint64) (H := [(p2, cel [v64 (nAt l x.toNat i)] T.t_uint64)]) (.head _)) (fun y hy => by simp at hy; subst hy; simp) rfl und_slu info_u64 rfl (by simp [maxLen]; omega) (by simp; omega) (fun S2' u2' wz h20 ho2' => ?_)
        have h20 : Ow B wz ([(p2, cel [v64 (nAt l x.toNat i)] T.t_uint64), (p1, cel [vI (at' : Int)] T.t_int)] ++ ((bw, cel [u2] T.t_sl_uint64) :: (ba, cel [u1] T.t_sl_int) :: (S1' ++ (S2' ++ base)))) := by simpa using h20
        have hz : Ow B wz ((bw, cel [u2] T.t_sl_uint64) :: (ba, cel [u1] T.t_sl_int) :: (S1' ++ (S2' ++ base))) := by simpa using (h20.sub (List.sublist_append_right [_, _] _))
        refine st1_here (A := [_]) hz (sl_cells ho1'.sl) (sl_plain ho1'.sl) (by simp) (fun w21 h21 => ?_)
        refine st1_here (A := []) h21 (sl_cells ho2'.sl) (sl_plain ho2'.sl) (by simp) (fun w22 h22 => ?_)
        refine pu_max2 ?_
        have e1 : (if x > 1 then x else 1) = (x.toNat : Int) := by split <;> omega
        rw [e1]
        repeat (first | refine pu_not ?_ | refine pu_eql ?_ | refine pu_neq ?_ | refine pu_lss ?_ | refine pu_leq ?_ | refine pu_gtr ?_ | refine pu_geq ?_ | refine pu_add ?_ | refine pu_sub ?_ | refine pu_mul ?_ | refine pu_neg ?_ | refine fa_at ?_ | refine nl_ptr ?_ | refine ex20 ?_ | refine ex21 ?_ | refine ex30 ?_ | refine ex31 ?_ | refine ex32 ?_ | refine ln_rule ?_ | refine lnT_rule ?_ | refine pu_and ?_ | refine pu_or ?_ | refine pu_xor ?_ | refine pu_seq ?_ | refine pu_sne ?_)
        rw [Nat.succ_mul, hat] at hn
        rw [wrap64_in (by omega) (by omega)]
        refine ⟨⟨i + 1, S1', S2', _, _, ?_, hlt, ?_, ?_, h22⟩, by simp; omega⟩
        · rw [Nat.succ_mul, hat]; rfl
        · rw [atV_succ, hat]; simpa using ho1'
        · rw [wnV_succ]; simpa using ho2'
      · refine bs_rule h7 [v64 (nAt l x.toNat i)] (by kernel_rfl) (fun p2 w8 h8 => ?_)
        refine ⟨toB (P := [_, _]) (Q := []) h8, ?_⟩
        refine app1 (A := [_, _, _, _]) (C := S2 ++ base) (z := vI 0) (bytes := 8) h8 ho1 (sl_here (b := p1) (l := [vI (at' : Int)]) (e := T.t_int) (.tail _ (.head _))) (fun y hy => hy) rfl und_sli info_int rfl (by simp [maxLen]; omega) (by simp; omega) (fun S1' u1' w9 h9 ho1' => ?_)
        have h9 : Ow B w9 ((p2, cel [v64 (nAt l x.toNat i)] T.t_uint64) :: (p1, cel [vI (at' : Int)] T.t_int) :: (bw, cel [u2] T.t_sl_uint64) :: (ba, cel [u1] T.t_sl_int) :: (S1' ++ (S2 ++ base))) := by simpa using h9
        refine ⟨toB (P := [_, _]) (Q := []) h9, ?_⟩
        refine app1 (A := (p2, cel [v64 (nAt l x.toNat i)] T.t_uint64) :: (p1, cel [vI (at' : Int)] T.t_int) :: (bw, cel [u2] T.t_sl_uint64) :: (ba, cel [u1] T.t_sl_int) :: S1') (C := base) (z := v64 0) (bytes := 8) (by simpa using h9) ho2 (sl_here (b := p2) (l := [v64 (nAt l x.toNat i)]) (e := T.t_uint64) (H := [(p2, cel [v64 (nAt l x.toNat i)] T.t_uint64)]) (.head _)) (fun y hy => by simp at hy; subst hy; simp) rfl und_slu info_u64 rfl (by simp [maxLen]; omega) (by simp; omega) (fun S2' u2' wz h20 ho2' => ?_)
        have h20 : Ow B wz ([(p2, cel [v64 (nAt l x.toNat i)] T.t_uint64), (p1, cel [vI (at' : Int)] T.t_int)] ++ ((bw, cel [u2] T.t_sl_uint64) :: (ba, cel [u1] T.t_sl_int) :: (S1' ++ (S2' ++ base)))) := by simpa using h20
        have hz : Ow B wz ((bw, cel [u2] T.t_sl_uint64) :: (ba, cel [u1] T.t_sl_int) :: (S1' ++ (S2' ++ base))) := by simpa using (h20.sub (List.sublist_append_right [_, _] _))
        refine st1_here (A := [_]) hz (sl_cells ho1'.sl) (sl_plain ho1'.sl) (by simp) (fun w21 h21 => ?_)
        refine st1_here (A := []) h21 (sl_cells ho2'.sl) (sl_plain ho2'.sl) (by simp) (fun w22 h22 => ?_)
        refine pu_max2 ?_
        have e1 : (if x > 1 then x else 1) = (x.toNat : Int) := by split <;> omega
        rw [e1]
        repeat (first | refine pu_not ?_ | refine pu_eql ?_ | refine pu_neq ?_ | refine pu_lss ?_ | refine pu_leq ?_ | refine pu_gtr ?_ | refine pu_geq ?_ | refine pu_add ?_ | refine pu_sub ?_ | refine pu_mul ?_ | refine pu_neg ?_ | refine fa_at ?_ | refine nl_ptr ?_ | refine ex20 ?_ | refine ex21 ?_ | refine ex30 ?_ | refine ex31 ?_ | refine ex32 ?_ | refine ln_rule ?_ | refine lnT_rule ?_ | refine pu_and ?_ | refine pu_or ?_ | refine pu_xor ?_ | refine pu_seq ?_ | refine pu_sne ?_)
        rw [Nat.succ_mul, hat] at hn
        rw [wrap64_in (by omega) (by omega)]
        refine ⟨⟨i + 1, S1', S2', _, _, ?_, hlt, ?_, ?_, h22⟩, by simp; omega⟩
        · rw [Nat.succ_mul, hat]; rfl
        · rw [atV_succ, hat]; simpa using ho1'
        · rw [wnV_succ]; simpa using ho2'
    · refine bs_rule h6 [v64 (nAt l x.toNat i)] (by kernel_rfl) (fun p2 w7 h7 => ?_)
      refine ⟨toB (P := [_]) (Q := []) h7, ?_⟩
      refine bs_rule h7 [vI (at' : Int)] (by kernel_rfl) (fun p1 w8 h8 => ?_)
      refine ⟨toB (P := [_, _]) (Q := []) h8, ?_⟩
      refine app1 (A := [_, _, _, _]) (C := S2 ++ base) (z := vI 0) (bytes := 8) h8 ho1 (sl_here (b := p1) (l := [vI (at' : Int)]) (e := T.t_int) (.head _)) (fun y hy => hy) rfl und_sli info_int rfl (by simp [maxLen]; omega) (by simp; omega) (fun S1' u1' w9 h9 ho1' => ?_)
      have h9 : Ow B w9 ((p1, cel [vI (at' : Int)] T.t_int) :: (p2, cel [v64 (nAt l x.toNat i)] T.t_uint64) :: (bw, cel [u2] T.t_sl_uint64) :: (ba, cel [u1] T.t_sl_int) :: (S1' ++ (S2 ++ base))) := by simpa using h9
      refine ⟨toB (P := [_, _]) (Q := []) h9, ?_⟩
      refine app1 (A := (p1, cel [vI (at' : Int)] T.t_int) :: (p2, cel [v64 (nAt l x.toNat i)] T.t_uint64) :: (bw, cel [u2] T.t_sl_uint64) :: (ba, cel [u1] T.t_sl_int) :: S1') (C := base) (z := v64 0) (bytes := 8) (by simpa using h9) ho2 (sl_here (b := p2) (l := [v64 (nAt l x.toNat i)]) (e := T.t_uint64) (H := [(p2, cel [v64 (nAt l x.toNat i)] T.t_uint64)]) (.head _)) (fun y hy => by simp at hy; subst hy; simp) rfl und_slu info_u64 rfl (by simp [maxLen]; omega) (by simp; omega) (fun S2' u2' wz h20 ho2' => ?_)
      have h20 : Ow B wz ([(p1, cel [vI (at' : Int)] T.t_int), (p2, cel [v64 (nAt l x.toNat i)] T.t_uint64)] ++ ((bw, cel [u2] T.t_sl_uint64) :: (ba, cel [u1] T.t_sl_int) :: (S1' ++ (S2' ++ base)))) := by simpa using h20
      have hz : Ow B wz ((bw, cel [u2] T.t_sl_uint64) :: (ba, cel [u1] T.t_sl_int) :: (S1' ++ (S2' ++ base))) := by simpa using (h20.sub (List.sublist_append_right [_, _] _))
      refine st1_here (A := [_]) hz (sl_cells ho1'.sl) (sl_plain ho1'.sl) (by simp) (fun w21 h21 => ?_)
      refine st1_here (A := []) h21 (sl_cells ho2'.sl) (sl_plain ho2'.sl) (by simp) (fun w22 h22 => ?_)
      refine pu_max2 ?_
      have e1 : (if x > 1 then x else 1) = (x.toNat : Int) := by split <;> omega
      rw [e1]
      repeat (first | refine pu_not ?_ | refine pu_eql ?_ | refine pu_neq ?_ | refine pu_lss ?_ | refine pu_leq ?_ | refine pu_gtr ?_ | refine pu_geq ?_ | refine pu_add ?_ | refine pu_sub ?_ | refine pu_mul ?_ | refine pu_neg ?_ | refine fa_at ?_ | refine nl_ptr ?_ | refine ex20 ?_ | refine ex21 ?_ | refine ex30 ?_ | refine ex31 ?_ | refine ex32 ?_ | refine ln_rule ?_ | refine lnT_rule ?_ | refine pu_and ?_ | refine pu_or ?_ | refine pu_xor ?_ | refine pu_seq ?_ | refine pu_sne ?_)
      rw [Nat.succ_mul, hat] at hn
      rw [wrap64_in (by omega) (by omega)]
      refine ⟨⟨i + 1, S1', S2', _, _, ?_, hlt, ?_, ?_, h22⟩, by simp; omega⟩
      · rw [Nat.succ_mul, hat]; rfl
      · rw [atV_succ, hat]; simpa using ho1'
      · rw [wnV_succ]; simpa using ho2'
  · refine cnd_t (by simpa using hrf) ?_
    have hat1 := ho1.sl
    have hwn := ho2.sl
    rw [hlt] at hat1 hwn
    refine bs_rule h6 [] (by kernel_rfl) (fun b7 w7 h7 => ?_)
    refine app1 (A := []) (S := [(b7, cel [] T.t_uint8)]) (z := v8 0) (bytes := 1) h7 (Own.mk (n := 0) (cap := 0) (xs := []) (Nat.le_refl _) (Nat.zero_le _) rfl rfl) hl (fun y hy => .tail _ (mH5 y hy)) (by simp [plainV]) und_slb info_u8 rfl (by simp [maxLen]; omega) (by simp; omega) (fun S7 p w8 h8 ho8 => ?_)
    refine bs_rule h8 [v8 77] (by kernel_rfl) (fun b9 w9 h9 => ?_)
    refine app1 (A := [_]) (z := v8 0) (bytes := 1) h9 ho8 (sl_here (b := b9) (l := [v8 77]) (e := T.t_uint8) (.head _)) (fun y hy => hy) rfl und_slb info_u8 rfl (by simp [maxLen]; omega) (by simp; omega) (fun SC q w10 h10 hoc => ?_)
    have h10 := (show Ow B w10 ((b9, cel [v8 77] T.t_uint8) :: (SC ++ _)) by simpa using h10).drop
    have hqs : Sl SC q (bv (l ++ [77])) := by simpa [bv] using hoc.sl
    refine sl_ln hl ?_
    rw [List.length_map]
    refine cutH2 hqs (by omega) (by simp; omega) (fun cc hcc => ?_)
    have hcc : l.length + 1 ≤ cc := by simpa using hcc
    rw [Int.toNat_natCast]
    have hb0 := sl_cut (l := 0) (h := l.length) (m := cc) hqs (by omega) (by simp) (by omega)
    have hcs : Sl SC (cut q 0 l.length cc) (bv l) := by
      rw [List.drop_zero, ← List.map_take, List.take_left' rfl] at hb0
      exact hb0
    refine oeach_spec (x := x) h10 hcs (fun y hy => List.mem_append_left _ hy) (by omega) (fun S4 bs bW v w11 hv h11 => ?_)
    refine pu_fnl (by kernel_rfl) ?_
    refine cnd_f rfl ?_
    refine al_rule h11 (l := [vI 0]) (by kernel_rfl) (fun bt w12 h12 => ?_)
    refine st1_here (A := []) h12 rfl rfl (by simp) (fun w13 h13 => ?_)
    simp only [List.nil_append, List.set_cons_zero] at h13
    generalize hD : ((bs, cel [v] T.t_sl_uint8) :: (S4 ++ (bW, cel [vI x] T.t_int) :: (SC ++ (bw, cel [u2] T.t_sl_uint64) :: (ba, cel [u1] T.t_sl_int) :: (S1 ++ (S2 ++ (br, cel [vB false] T.t_bool) :: (bm, cel [vI many] T.t_int) :: H)))) : Hp) = D0 at h13
    have mS0 : (bs, cel [v] T.t_sl_uint8) ∈ D0 := by rw [← hD]; exact .head _
    have mV0 : ∀ x, x ∈ S4 → x ∈ D0 := by rw [← hD]; exact fun x hx => .tail _ (List.mem_append_left _ hx)
    have mWd0 : (bW, cel [vI x] T.t_int) ∈ D0 := by rw [← hD]; exact .tail _ (List.mem_append_right _ (.head _))
    have mC0 : ∀ x, x ∈ SC → x ∈ D0 := by rw [← hD]; exact fun x hx => .tail _ (List.mem_append_right _ (.tail _ (List.mem_append_left _ hx)))
    have mW0 : (bw, cel [u2] T.t_sl_uint64) ∈ D0 := by rw [← hD]; exact .tail _ (List.mem_append_right _ (.tail _ (List.mem_append_right _ (.head _))))
    have mA0 : (ba, cel [u1] T.t_sl_int) ∈ D0 := by rw [← hD]; exact .tail _ (List.mem_append_right _ (.tail _ (List.mem_append_right _ (.tail _ (.head _)))))
    have mO1 : ∀ x, x ∈ S1 → x ∈ D0 := by rw [← hD]; exact fun x hx => .tail _ (List.mem_append_right _ (.tail _ (List.mem_append_right _ (.tail _ (.tail _ (List.mem_append_left _ hx))))))
    have mO2 : ∀ x, x ∈ S2 → x ∈ D0 := by rw [← hD]; exact fun x hx => .tail _ (List.mem_append_right _ (.tail _ (List.mem_append_right _ (.tail _ (.tail _ (List.mem_append_right _ (List.mem_append_left _ hx)))))))
    have mM0 : (bm, cel [vI many] T.t_int) ∈ D0 := by rw [← hD]; exact .tail _ (List.mem_append_right _ (.tail _ (List.mem_append_right _ (.tail _ (.tail _ (List.mem_append_right _ (List.mem_append_right _ (.tail _ (.head _)))))))))
    have mH0 : ∀ x, x ∈ H → x ∈ D0 := by rw [← hD]; exact fun x hx => .tail _ (List.mem_append_right _ (.tail _ (List.mem_append_right _ (.tail _ (.tail _ (List.mem_append_right _ (List.mem_append_right _ (.tail _ (.tail _ hx)))))))))
    have hcn64 : cn l x < 2 ^ 62 := by omega
    refine ⟨fun l' d w => ∃ (bt : Nat) (t : Nat) (ms : List Nat), l' = [ptr bt] ∧ d = mkD ms ∧ ms.length = t ∧ t ≤ 2 ∧ Ow B w ((bt, cel [vI t] T.t_int) :: (mkB ms ++ D0)), fun l d w => 2 - d.length,
      ⟨bt, 0, [], rfl, rfl, rfl, by omega, h13⟩, ?_⟩
    clear h13 h12 h11 h10 h9 h8 h7 h6 h5
    rintro l' d w8 ⟨bt, t, ms, rfl, rfl, hms, ht, h8⟩ j0
    refine ld_here h8 (.head _) rfl ?_
    repeat (first | refine pu_not ?_ | refine pu_eql ?_ | refine pu_neq ?_ | refine pu_lss ?_ | refine pu_leq ?_ | refine pu_gtr ?_ | refine pu_geq ?_ | refine pu_add ?_ | refine pu_sub ?_ | refine pu_mul ?_ | refine pu_neg ?_ | refine fa_at ?_ | refine nl_ptr ?_ | refine ex20 ?_ | refine ex21 ?_ | refine ex30 ?_ | refine ex31 ?_ | refine ex32 ?_ | refine ln_rule ?_ | refine lnT_rule ?_ | refine pu_and ?_ | refine pu_or ?_ | refine pu_xor ?_ | refine pu_seq ?_ | refine pu_sne ?_)
    refine cnd (fun hlt2 => ?_) (fun hlt2 => ?_)
    · have hlt2 : t < 2 := by simp at hlt2; omega
      refine al_rule h8 (l := [vI 0]) (by kernel_rfl) (fun bk w9 h9 => ?_)
      refine st1_here (A := []) h9 rfl rfl (by simp) (fun w10 h10 => ?_)
      refine range_fn (X := [(bk, cel [vI 0] T.t_int)]) (H := (bt, cel [vI t] T.t_int) :: (mkB ms ++ D0)) (A := linesmanlaw01_OctetEach.note) (fuel := 400) mixed
        (oeach_seq (l := l) (x := x) (.tail _ (List.mem_append_right _ mS0)) (.tail _ (List.mem_append_right _ mWd0)) (hv.mono fun x hx => .tail _ (List.mem_append_right _ (mV0 x hx))) hb (by omega)) (by simp) eachL_two h10
        (fun i Y => Y = [(bk, cel [vI i] T.t_int)] ∧ i ≤ cn l x ∧ (t = 0 → i = 0 ∨ (i : Int) < many))
        (fun j Y => j = .exit 4 ∧ ∃ i : Nat, Y = [(bk, cel [vI i] T.t_int)] ∧ 1 ≤ i ∧ i ≤ cn l x ∧ t = 0 ∧ many ≤ i ∧ (i = 1 ∨ (i : Int) - 1 < many)) ⟨rfl, by omega, fun _ => .inl rfl⟩ ?_ ?_ ?_
      · rintro lp r n args Y F R w4 hL ⟨rfl, hn, hnm⟩ hF h4 k1 k2 u
        obtain ⟨hnl, rfl⟩ := eachL_of hL
        refine Eq.mpr (linesmanlaw01_OctetEach.Rd0_eq lp R _ _ _ _ _ _ _ _ w4 u) ?_
        unfold linesmanlaw01_OctetEach.Rd0
        refine rbeg h4 (fun w5 h5 => ?_)
        have mWn : (bw, cel [u2] T.t_sl_uint64) ∈ F := hF _ (.tail _ (List.mem_append_right _ mW0))
        have mA : (ba, cel [u1] T.t_sl_int) ∈ F := hF _ (.tail _ (List.mem_append_right _ mA0))
        have mM : (bm, cel [vI many] T.t_int) ∈ F := hF _ (.tail _ (List.mem_append_right _ mM0))
        have mT : (bt, cel [vI t] T.t_int) ∈ F := hF _ (.head _)
        have hatF : Sl ((lp, recB r) :: (bk, cel [vI n] T.t_int) :: F) u1 (atV x.toNat (cn l x)) := hat1.mono fun x hx => .tail _ (.tail _ (hF _ (.tail _ (List.mem_append_right _ (mO1 x hx)))))
        have hwnF : Sl ((lp, recB r) :: (bk, cel [vI n] T.t_int) :: F) u2 (wnV l x.toNat (cn l x)) := hwn.mono fun x hx => .tail _ (.tail _ (hF _ (.tail _ (List.mem_append_right _ (mO2 x hx)))))
        refine ld_here h5 (.tail _ (.head _)) rfl ?_
        refine ld_here h5 (.tail _ (.tail _ mWn)) rfl ?_
        refine sl_ln hwn ?_
        rw [wnV_len]
        repeat (first | refine pu_not ?_ | refine pu_eql ?_ | refine pu_neq ?_ | refine pu_lss ?_ | refine pu_leq ?_ | refine pu_gtr ?_ | refine pu_geq ?_ | refine pu_add ?_ | refine pu_sub ?_ | refine pu_mul ?_ | refine pu_neg ?_ | refine fa_at ?_ | refine nl_ptr ?_ | refine ex20 ?_ | refine ex21 ?_ | refine ex30 ?_ | refine ex31 ?_ | refine ex32 ?_ | refine ln_rule ?_ | refine lnT_rule ?_ | refine pu_and ?_ | refine pu_or ?_ | refine pu_xor ?_ | refine pu_seq ?_ | refine pu_sne ?_)
        refine cnd_f (by simp; omega) ?_
        refine ld_here h5 (.tail _ (.tail _ mA)) rfl ?_
        refine ld_here h5 (.tail _ (.head _)) rfl ?_
        refine sl_ld h5 hatF (by omega) (by rw [Int.toNat_natCast]; exact atV_at hnl) ?_
        repeat (first | refine pu_not ?_ | refine pu_eql ?_ | refine pu_neq ?_ | refine pu_lss ?_ | refine pu_leq ?_ | refine pu_gtr ?_ | refine pu_geq ?_ | refine pu_add ?_ | refine pu_sub ?_ | refine pu_mul ?_ | refine pu_neg ?_ | refine fa_at ?_ | refine nl_ptr ?_ | refine ex20 ?_ | refine ex21 ?_ | refine ex30 ?_ | refine ex31 ?_ | refine ex32 ?_ | refine ln_rule ?_ | refine lnT_rule ?_ | refine pu_and ?_ | refine pu_or ?_ | refine pu_xor ?_ | refine pu_seq ?_ | refine pu_sne ?_)
        refine cnd_f (by simp) ?_
        refine ld_here h5 (.tail _ (.tail _ mWn)) rfl ?_
        refine ld_here h5 (.tail _ (.head _)) rfl ?_
        refine sl_ld h5 hwnF (by omega) (by rw [Int.toNat_natCast]; exact wnV_at hnl) ?_
        repeat (first | refine pu_not ?_ | refine pu_eql ?_ | refine pu_neq ?_ | refine pu_lss ?_ | refine pu_leq ?_ | refine pu_gtr ?_ | refine pu_geq ?_ | refine pu_add ?_ | refine pu_sub ?_ | refine pu_mul ?_ | refine pu_neg ?_ | refine fa_at ?_ | refine nl_ptr ?_ | refine ex20 ?_ | refine ex21 ?_ | refine ex30 ?_ | refine ex31 ?_ | refine ex32 ?_ | refine ln_rule ?_ | refine lnT_rule ?_ | refine pu_and ?_ | refine pu_or ?_ | refine pu_xor ?_ | refine pu_seq ?_ | refine pu_sne ?_)
        refine cnd_f (by simp) ?_
        refine ld_here h5 (.tail _ (.head _)) rfl ?_
        repeat (first | refine pu_not ?_ | refine pu_eql ?_ | refine pu_neq ?_ | refine pu_lss ?_ | refine pu_leq ?_ | refine pu_gtr ?_ | refine pu_geq ?_ | refine pu_add ?_ | refine pu_sub ?_ | refine pu_mul ?_ | refine pu_neg ?_ | refine fa_at ?_ | refine nl_ptr ?_ | refine ex20 ?_ | refine ex21 ?_ | refine ex30 ?_ | refine ex31 ?_ | refine ex32 ?_ | refine ln_rule ?_ | refine lnT_rule ?_ | refine pu_and ?_ | refine pu_or ?_ | refine pu_xor ?_ | refine pu_seq ?_ | refine pu_sne ?_)
        rw [wrap64_in (by omega) (by omega)]
        refine st1_here (A := [_]) h5 rfl rfl (by simp) (fun w6 h6 => ?_)
        refine ld_here h6 (.tail _ (.tail _ mT)) rfl ?_
        repeat (first | refine pu_not ?_ | refine pu_eql ?_ | refine pu_neq ?_ | refine pu_lss ?_ | refine pu_leq ?_ | refine pu_gtr ?_ | refine pu_geq ?_ | refine pu_add ?_ | refine pu_sub ?_ | refine pu_mul ?_ | refine pu_neg ?_ | refine fa_at ?_ | refine nl_ptr ?_ | refine ex20 ?_ | refine ex21 ?_ | refine ex30 ?_ | refine ex31 ?_ | refine ex32 ?_ | refine ln_rule ?_ | refine lnT_rule ?_ | refine pu_and ?_ | refine pu_or ?_ | refine pu_xor ?_ | refine pu_seq ?_ | refine pu_sne ?_)
        refine cnd (fun ht0 => ?_) (fun ht0 => ?_)
        · have ht0 : t = 0 := by simp at ht0; omega
          refine ld_here h6 (.tail _ (.head _)) rfl ?_
          refine ld_here h6 (.tail _ (.tail _ mM)) rfl ?_
          repeat (first | refine pu_not ?_ | refine pu_eql ?_ | refine pu_neq ?_ | refine pu_lss ?_ | refine pu_leq ?_ | refine pu_gtr ?_ | refine pu_geq ?_ | refine pu_add ?_ | refine pu_sub ?_ | refine pu_mul ?_ | refine pu_neg ?_ | refine fa_at ?_ | refine nl_ptr ?_ | refine ex20 ?_ | refine ex21 ?_ | refine ex30 ?_ | refine ex31 ?_ | refine ex32 ?_ | refine ln_rule ?_ | refine lnT_rule ?_ | refine pu_and ?_ | refine pu_or ?_ | refine pu_xor ?_ | refine pu_seq ?_ | refine pu_sne ?_)
          refine cnd (fun hge => ?_) (fun hge => ?_)
          · have hge : many ≤ (n : Int) + 1 := by simpa using hge
            refine rend_stop h6 (fun w7 h7 => k2 _ _ w7 ⟨rfl, n + 1, rfl, by omega, by omega, ht0, by omega, ?_⟩ h7)
            rcases hnm ht0 with h0 | h0
            · left; omega
            · right; omega
          · have hge : ¬ many ≤ (n : Int) + 1 := by simpa using hge
            exact rend_go h6 (fun w7 h7 => k1 _ w7 ⟨rfl, by omega, fun _ => .inr (by omega)⟩ h7)
        · have ht0 : ¬ t = 0 := by simp at ht0; omega
          exact rend_go h6 (fun w7 h7 => k1 _ w7 ⟨rfl, by omega, fun h => absurd h ht0⟩ h7)
      · rintro mk Y w9 ⟨rfl, hn, hnm⟩ h9
        rw [eachL_len] at h9 hnm
        have hv0 : t = 0 → ((cn l x : Nat) : Int) = if (if many > 1 then many else 1) < ((cn l x : Nat) : Int) then (if many > 1 then many else 1) else ((cn l x : Nat) : Int) := fun h0 => by
          have := hnm h0
          split <;> split at * <;> omega
        have hv1 : t = 1 → ((cn l x : Nat) : Int) = ((cn l x : Nat) : Int) := fun _ => rfl
        refine ld_here h9 (.tail _ (.tail _ (.head _))) rfl ?_
        repeat (first | refine pu_not ?_ | refine pu_eql ?_ | refine pu_neq ?_ | refine pu_lss ?_ | refine pu_leq ?_ | refine pu_gtr ?_ | refine pu_geq ?_ | refine pu_add ?_ | refine pu_sub ?_ | refine pu_mul ?_ | refine pu_neg ?_ | refine fa_at ?_ | refine nl_ptr ?_ | refine ex20 ?_ | refine ex21 ?_ | refine ex30 ?_ | refine ex31 ?_ | refine ex32 ?_ | refine ln_rule ?_ | refine lnT_rule ?_ | refine pu_and ?_ | refine pu_or ?_ | refine pu_xor ?_ | refine pu_seq ?_ | refine pu_sne ?_)
        refine cnd (fun ht0 => ?_) (fun ht0 => ?_)
        · have ht0 : t = 0 := by simp at ht0; omega
          refine ld_here h9 (.tail _ (.head _)) rfl ?_
          refine ld_here h9 (.tail _ (.tail _ (.tail _ (List.mem_append_right _ mW0)))) rfl ?_
          refine sl_ln hwn ?_
          rw [wnV_len]
          repeat (first | refine pu_not ?_ | refine pu_eql ?_ | refine pu_neq ?_ | refine pu_lss ?_ | refine pu_leq ?_ | refine pu_gtr ?_ | refine pu_geq ?_ | refine pu_add ?_ | refine pu_sub ?_ | refine pu_mul ?_ | refine pu_neg ?_ | refine fa_at ?_ | refine nl_ptr ?_ | refine ex20 ?_ | refine ex21 ?_ | refine ex30 ?_ | refine ex31 ?_ | refine ex32 ?_ | refine ln_rule ?_ | refine lnT_rule ?_ | refine pu_and ?_ | refine pu_or ?_ | refine pu_xor ?_ | refine pu_seq ?_ | refine pu_sne ?_)
          refine ld_here h9 (.tail _ (.tail _ (.tail _ (List.mem_append_right _ mM0)))) rfl ?_
          refine pu_max2 ?_
          refine pu_min2 ?_
          repeat (first | refine pu_not ?_ | refine pu_eql ?_ | refine pu_neq ?_ | refine pu_lss ?_ | refine pu_leq ?_ | refine pu_gtr ?_ | refine pu_geq ?_ | refine pu_add ?_ | refine pu_sub ?_ | refine pu_mul ?_ | refine pu_neg ?_ | refine fa_at ?_ | refine nl_ptr ?_ | refine ex20 ?_ | refine ex21 ?_ | refine ex30 ?_ | refine ex31 ?_ | refine ex32 ?_ | refine ln_rule ?_ | refine lnT_rule ?_ | refine pu_and ?_ | refine pu_or ?_ | refine pu_xor ?_ | refine pu_seq ?_ | refine pu_sne ?_)
          refine cnd_f ?_ ?_
          · have := hv0 ht0
            simp only [bne_eq_false_iff_eq]
            split <;> split at this <;> split at * <;> omega
          refine ld_here h9 (.tail _ (.tail _ (.head _))) rfl ?_
          repeat (first | refine pu_not ?_ | refine pu_eql ?_ | refine pu_neq ?_ | refine pu_lss ?_ | refine pu_leq ?_ | refine pu_gtr ?_ | refine pu_geq ?_ | refine pu_add ?_ | refine pu_sub ?_ | refine pu_mul ?_ | refine pu_neg ?_ | refine fa_at ?_ | refine nl_ptr ?_ | refine ex20 ?_ | refine ex21 ?_ | refine ex30 ?_ | refine ex31 ?_ | refine ex32 ?_ | refine ln_rule ?_ | refine lnT_rule ?_ | refine pu_and ?_ | refine pu_or ?_ | refine pu_xor ?_ | refine pu_seq ?_ | refine pu_sne ?_)
          refine cnd_f (by simp; omega) ?_
          refine ld_here h9 (.tail _ (.tail _ (.head _))) rfl ?_
          refine al_rule h9 (l := [vI 0]) (by kernel_rfl) (fun bt' w10 h10 => ?_)
          refine st1_here (A := []) h10 rfl rfl (by simp) (fun w11 h11 => ?_)
          refine ld_here h11 (.head _) rfl ?_
          repeat (first | refine pu_not ?_ | refine pu_eql ?_ | refine pu_neq ?_ | refine pu_lss ?_ | refine pu_leq ?_ | refine pu_gtr ?_ | refine pu_geq ?_ | refine pu_add ?_ | refine pu_sub ?_ | refine pu_mul ?_ | refine pu_neg ?_ | refine fa_at ?_ | refine nl_ptr ?_ | refine ex20 ?_ | refine ex21 ?_ | refine ex30 ?_ | refine ex31 ?_ | refine ex32 ?_ | refine ln_rule ?_ | refine lnT_rule ?_ | refine pu_and ?_ | refine pu_or ?_ | refine pu_xor ?_ | refine pu_seq ?_ | refine pu_sne ?_)
          rw [wrap64_in (by omega) (by omega)]
          refine st1_here (A := []) h11 rfl rfl (by simp) (fun w12 h12 => ?_)
          exact ⟨⟨bt', t + 1, mk :: ms, rfl, rfl, by simp; omega, by omega, h12.sub (.cons_cons _ (.cons_cons _ (.cons _ (.cons _ (.refl _)))))⟩, by simp [mkD]; omega⟩
        · have ht0 : t = 1 := by simp at ht0; omega
          refine ld_here h9 (.tail _ (.tail _ (.head _))) rfl ?_
          repeat (first | refine pu_not ?_ | refine pu_eql ?_ | refine pu_neq ?_ | refine pu_lss ?_ | refine pu_leq ?_ | refine pu_gtr ?_ | refine pu_geq ?_ | refine pu_add ?_ | refine pu_sub ?_ | refine pu_mul ?_ | refine pu_neg ?_ | refine fa_at ?_ | refine nl_ptr ?_ | refine ex20 ?_ | refine ex21 ?_ | refine ex30 ?_ | refine ex31 ?_ | refine ex32 ?_ | refine ln_rule ?_ | refine lnT_rule ?_ | refine pu_and ?_ | refine pu_or ?_ | refine pu_xor ?_ | refine pu_seq ?_ | refine pu_sne ?_)
          refine cnd_t (by simp; omega) ?_
          refine ld_here h9 (.tail _ (.head _)) rfl ?_
          refine ld_here h9 (.tail _ (.tail _ (.tail _ (List.mem_append_right _ mW0)))) rfl ?_
          refine sl_ln hwn ?_
          rw [wnV_len]
          repeat (first | refine pu_not ?_ | refine pu_eql ?_ | refine pu_neq ?_ | refine pu_lss ?_ | refine pu_leq ?_ | refine pu_gtr ?_ | refine pu_geq ?_ | refine pu_add ?_ | refine pu_sub ?_ | refine pu_mul ?_ | refine pu_neg ?_ | refine fa_at ?_ | refine nl_ptr ?_ | refine ex20 ?_ | refine ex21 ?_ | refine ex30 ?_ | refine ex31 ?_ | refine ex32 ?_ | refine ln_rule ?_ | refine lnT_rule ?_ | refine pu_and ?_ | refine pu_or ?_ | refine pu_xor ?_ | refine pu_seq ?_ | refine pu_sne ?_)
          refine cnd_f (by have := hv1 ht0; simp <;> omega) ?_
          refine ld_here h9 (.tail _ (.tail _ (.head _))) rfl ?_
          refine al_rule h9 (l := [vI 0]) (by kernel_rfl) (fun bt' w10 h10 => ?_)
          refine st1_here (A := []) h10 rfl rfl (by simp) (fun w11 h11 => ?_)
          refine ld_here h11 (.head _) rfl ?_
          repeat (first | refine pu_not ?_ | refine pu_eql ?_ | refine pu_neq ?_ | refine pu_lss ?_ | refine pu_leq ?_ | refine pu_gtr ?_ | refine pu_geq ?_ | refine pu_add ?_ | refine pu_sub ?_ | refine pu_mul ?_ | refine pu_neg ?_ | refine fa_at ?_ | refine nl_ptr ?_ | refine ex20 ?_ | refine ex21 ?_ | refine ex30 ?_ | refine ex31 ?_ | refine ex32 ?_ | refine ln_rule ?_ | refine lnT_rule ?_ | refine pu_and ?_ | refine pu_or ?_ | refine pu_xor ?_ | refine pu_seq ?_ | refine pu_sne ?_)
          rw [wrap64_in (by omega) (by omega)]
          refine st1_here (A := []) h11 rfl rfl (by simp) (fun w12 h12 => ?_)
          exact ⟨⟨bt', t + 1, mk :: ms, rfl, rfl, by simp; omega, by omega, h12.sub (.cons_cons _ (.cons_cons _ (.cons _ (.cons _ (.refl _)))))⟩, by simp [mkD]; omega⟩
      · rintro mk j Y w9 ⟨rfl, i, rfl, hi1, hi2, ht, hmi, hi⟩ h9
        have hv0 : t = 0 → (i : Int) = if (if many > 1 then many else 1) < ((cn l x : Nat) : Int) then (if many > 1 then many else 1) else ((cn l x : Nat) : Int) := fun h0 => by
          split <;> split at * <;> omega
        have hv1 : t = 1 → (i : Int) = ((cn l x : Nat) : Int) := fun h1 => by omega
        refine ld_here h9 (.tail _ (.tail _ (.head _))) rfl ?_
        repeat (first | refine pu_not ?_ | refine pu_eql ?_ | refine pu_neq ?_ | refine pu_lss ?_ | refine pu_leq ?_ | refine pu_gtr ?_ | refine pu_geq ?_ | refine pu_add ?_ | refine pu_sub ?_ | refine pu_mul ?_ | refine pu_neg ?_ | refine fa_at ?_ | refine nl_ptr ?_ | refine ex20 ?_ | refine ex21 ?_ | refine ex30 ?_ | refine ex31 ?_ | refine ex32 ?_ | refine ln_rule ?_ | refine lnT_rule ?_ | refine pu_and ?_ | refine pu_or ?_ | refine pu_xor ?_ | refine pu_seq ?_ | refine pu_sne ?_)
        refine cnd (fun ht0 => ?_) (fun ht0 => ?_)
        · have ht0 : t = 0 := by simp at ht0; omega
          refine ld_here h9 (.tail _ (.head _)) rfl ?_
          refine ld_here h9 (.tail _ (.tail _ (.tail _ (List.mem_append_right _ mW0)))) rfl ?_
          refine sl_ln hwn ?_
          rw [wnV_len]
          repeat (first | refine pu_not ?_ | refine pu_eql ?_ | refine pu_neq ?_ | refine pu_lss ?_ | refine pu_leq ?_ | refine pu_gtr ?_ | refine pu_geq ?_ | refine pu_add ?_ | refine pu_sub ?_ | refine pu_mul ?_ | refine pu_neg ?_ | refine fa_at ?_ | refine nl_ptr ?_ | refine ex20 ?_ | refine ex21 ?_ | refine ex30 ?_ | refine ex31 ?_ | refine ex32 ?_ | refine ln_rule ?_ | refine lnT_rule ?_ | refine pu_and ?_ | refine pu_or ?_ | refine pu_xor ?_ | refine pu_seq ?_ | refine pu_sne ?_)
          refine ld_here h9 (.tail _ (.tail _ (.tail _ (List.mem_append_right _ mM0)))) rfl ?_
          refine pu_max2 ?_
          refine pu_min2 ?_
          repeat (first | refine pu_not ?_ | refine pu_eql ?_ | refine pu_neq ?_ | refine pu_lss ?_ | refine pu_leq ?_ | refine pu_gtr ?_ | refine pu_geq ?_ | refine pu_add ?_ | refine pu_sub ?_ | refine pu_mul ?_ | refine pu_neg ?_ | refine fa_at ?_ | refine nl_ptr ?_ | refine ex20 ?_ | refine ex21 ?_ | refine ex30 ?_ | refine ex31 ?_ | refine ex32 ?_ | refine ln_rule ?_ | refine lnT_rule ?_ | refine pu_and ?_ | refine pu_or ?_ | refine pu_xor ?_ | refine pu_seq ?_ | refine pu_sne ?_)
          refine cnd_f ?_ ?_
          · have := hv0 ht0
            simp only [bne_eq_false_iff_eq]
            split <;> split at this <;> split at * <;> omega
          refine ld_here h9 (.tail _ (.tail _ (.head _))) rfl ?_
          repeat (first | refine pu_not ?_ | refine pu_eql ?_ | refine pu_neq ?_ | refine pu_lss ?_ | refine pu_leq ?_ | refine pu_gtr ?_ | refine pu_geq ?_ | refine pu_add ?_ | refine pu_sub ?_ | refine pu_mul ?_ | refine pu_neg ?_ | refine fa_at ?_ | refine nl_ptr ?_ | refine ex20 ?_ | refine ex21 ?_ | refine ex30 ?_ | refine ex31 ?_ | refine ex32 ?_ | refine ln_rule ?_ | refine lnT_rule ?_ | refine pu_and ?_ | refine pu_or ?_ | refine pu_xor ?_ | refine pu_seq ?_ | refine pu_sne ?_)
          refine cnd_f (by simp; omega) ?_
          refine ld_here h9 (.tail _ (.tail _ (.head _))) rfl ?_
          refine al_rule h9 (l := [vI 0]) (by kernel_rfl) (fun bt' w10 h10 => ?_)
          refine st1_here (A := []) h10 rfl rfl (by simp) (fun w11 h11 => ?_)
          refine ld_here h11 (.head _) rfl ?_
          repeat (first | refine pu_not ?_ | refine pu_eql ?_ | refine pu_neq ?_ | refine pu_lss ?_ | refine pu_leq ?_ | refine pu_gtr ?_ | refine pu_geq ?_ | refine pu_add ?_ | refine pu_sub ?_ | refine pu_mul ?_ | refine pu_neg ?_ | refine fa_at ?_ | refine nl_ptr ?_ | refine ex20 ?_ | refine ex21 ?_ | refine ex30 ?_ | refine ex31 ?_ | refine ex32 ?_ | refine ln_rule ?_ | refine lnT_rule ?_ | refine pu_and ?_ | refine pu_or ?_ | refine pu_xor ?_ | refine pu_seq ?_ | refine pu_sne ?_)
          rw [wrap64_in (by omega) (by omega)]
          refine st1_here (A := []) h11 rfl rfl (by simp) (fun w12 h12 => ?_)
          exact ⟨⟨bt', t + 1, mk :: ms, rfl, rfl, by simp; omega, by omega, h12.sub (.cons_cons _ (.cons_cons _ (.cons _ (.cons _ (.refl _)))))⟩, by simp [mkD]; omega⟩
        · have ht0 : t = 1 := by simp at ht0; omega
          refine ld_here h9 (.tail _ (.tail _ (.head _))) rfl ?_
          repeat (first | refine pu_not ?_ | refine pu_eql ?_ | refine pu_neq ?_ | refine pu_lss ?_ | refine pu_leq ?_ | refine pu_gtr ?_ | refine pu_geq ?_ | refine pu_add ?_ | refine pu_sub ?_ | refine pu_mul ?_ | refine pu_neg ?_ | refine fa_at ?_ | refine nl_ptr ?_ | refine ex20 ?_ | refine ex21 ?_ | refine ex30 ?_ | refine ex31 ?_ | refine ex32 ?_ | refine ln_rule ?_ | refine lnT_rule ?_ | refine pu_and ?_ | refine pu_or ?_ | refine pu_xor ?_ | refine pu_seq ?_ | refine pu_sne ?_)
          refine cnd_t (by simp; omega) ?_
          refine ld_here h9 (.tail _ (.head _)) rfl ?_
          refine ld_here h9 (.tail _ (.tail _ (.tail _ (List.mem_append_right _ mW0)))) rfl ?_
          refine sl_ln hwn ?_
          rw [wnV_len]
          repeat (first | refine pu_not ?_ | refine pu_eql ?_ | refine pu_neq ?_ | refine pu_lss ?_ | refine pu_leq ?_ | refine pu_gtr ?_ | refine pu_geq ?_ | refine pu_add ?_ | refine pu_sub ?_ | refine pu_mul ?_ | refine pu_neg ?_ | refine fa_at ?_ | refine nl_ptr ?_ | refine ex20 ?_ | refine ex21 ?_ | refine ex30 ?_ | refine ex31 ?_ | refine ex32 ?_ | refine ln_rule ?_ | refine lnT_rule ?_ | refine pu_and ?_ | refine pu_or ?_ | refine pu_xor ?_ | refine pu_seq ?_ | refine pu_sne ?_)
          refine cnd_f (by have := hv1 ht0; simp <;> omega) ?_
          refine ld_here h9 (.tail _ (.tail _ (.head _))) rfl ?_
          refine al_rule h9 (l := [vI 0]) (by kernel_rfl) (fun bt' w10 h10 => ?_)
          refine st1_here (A := []) h10 rfl rfl (by simp) (fun w11 h11 => ?_)
          refine ld_here h11 (.head _) rfl ?_
          repeat (first | refine pu_not ?_ | refine pu_eql ?_ | refine pu_neq ?_ | refine pu_lss ?_ | refine pu_leq ?_ | refine pu_gtr ?_ | refine pu_geq ?_ | refine pu_add ?_ | refine pu_sub ?_ | refine pu_mul ?_ | refine pu_neg ?_ | refine fa_at ?_ | refine nl_ptr ?_ | refine ex20 ?_ | refine ex21 ?_ | refine ex30 ?_ | refine ex31 ?_ | refine ex32 ?_ | refine ln_rule ?_ | refine lnT_rule ?_ | refine pu_and ?_ | refine pu_or ?_ | refine pu_xor ?_ | refine pu_seq ?_ | refine pu_sne ?_)
          rw [wrap64_in (by omega) (by omega)]
          refine st1_here (A := []) h11 rfl rfl (by simp) (fun w12 h12 => ?_)
          exact ⟨⟨bt', t + 1, mk :: ms, rfl, rfl, by simp; omega, by omega, h12.sub (.cons_cons _ (.cons_cons _ (.cons _ (.cons _ (.refl _)))))⟩, by simp [mkD]; omega⟩
    · obtain rfl : t = 2 := by simp at hlt2; omega
      have h9 := h8.drop
      have hcD : Sl (mkB ms ++ D0) (cut q 0 l.length cc) (bv l) := hcs.mono fun x hx => List.mem_append_right _ (mC0 x hx)
      have hlD : Sl (mkB ms ++ D0) v0 (bv l) := hl.mono fun x hx => List.mem_append_right _ (mH0 x hx)
      refine strOf h9 hcD ?_
      refine strOf h9 hlD ?_
      repeat (first | refine pu_not ?_ | refine pu_eql ?_ | refine pu_neq ?_ | refine pu_lss ?_ | refine pu_leq ?_ | refine pu_gtr ?_ | refine pu_geq ?_ | refine pu_add ?_ | refine pu_sub ?_ | refine pu_mul ?_ | refine pu_neg ?_ | refine fa_at ?_ | refine nl_ptr ?_ | refine ex20 ?_ | refine ex21 ?_ | refine ex30 ?_ | refine ex31 ?_ | refine ex32 ?_ | refine ln_rule ?_ | refine lnT_rule ?_ | refine pu_and ?_ | refine pu_or ?_ | refine pu_xor ?_ | refine pu_seq ?_ | refine pu_sne ?_)
      refine cnd_t seqT ?_
      refine sl_ln hl ?_
      rw [List.length_map]
      repeat (first | refine pu_not ?_ | refine pu_eql ?_ | refine pu_neq ?_ | refine pu_lss ?_ | refine pu_leq ?_ | refine pu_gtr ?_ | refine pu_geq ?_ | refine pu_add ?_ | refine pu_sub ?_ | refine pu_mul ?_ | refine pu_neg ?_ | refine fa_at ?_ | refine nl_ptr ?_ | refine ex20 ?_ | refine ex21 ?_ | refine ex30 ?_ | refine ex31 ?_ | refine ex32 ?_ | refine ln_rule ?_ | refine lnT_rule ?_ | refine pu_and ?_ | refine pu_or ?_ | refine pu_xor ?_ | refine pu_seq ?_ | refine pu_sne ?_)
      rw [wrap64_in (by omega) (by omega)]
      refine recut hqs (by simp) (by simpa using hcc) (fun u hu => ?_)
      refine sl_ln hl ?_
      rw [List.length_map]
      refine sl_ld (v := v8 77) h9 (hu.mono fun x hx => List.mem_append_right _ (mC0 x hx)) (by omega) (by rw [Int.toNat_natCast, List.getElem?_take, if_pos (by omega)]; simp [bv]) ?_
      repeat (first | refine pu_not ?_ | refine pu_eql ?_ | refine pu_neq ?_ | refine pu_lss ?_ | refine pu_leq ?_ | refine pu_gtr ?_ | refine pu_geq ?_ | refine pu_add ?_ | refine pu_sub ?_ | refine pu_mul ?_ | refine pu_neg ?_ | refine fa_at ?_ | refine nl_ptr ?_ | refine ex20 ?_ | refine ex21 ?_ | refine ex30 ?_ | refine ex31 ?_ | refine ex32 ?_ | refine ln_rule ?_ | refine lnT_rule ?_ | refine pu_and ?_ | refine pu_or ?_ | refine pu_xor ?_ | refine pu_seq ?_ | refine pu_sne ?_)
      refine cnd_t rfl ?_
      rw [← hD] at h9
      refine oworks_spec h9 (fun w10 h10 => ?_)
      refine st1_here (A := mkB ms ++ (bs, cel [v] T.t_sl_uint8) :: (S4 ++ (bW, cel [vI x] T.t_int) :: (SC ++ (bw, cel [u2] T.t_sl_uint64) :: (ba, cel [u1] T.t_sl_int) :: (S1 ++ S2)))) (by simpa using h10) rfl rfl (by simp) (fun w11 h11 => ?_)
      refine lv_rets (C := ((bs, cel [v] T.t_sl_uint8) :: (S4 ++ (bW, cel [vI x] T.t_int) :: (SC ++ (bw, cel [u2] T.t_sl_uint64) :: (ba, cel [u1] T.t_sl_int) :: (S1 ++ S2)))) ++ _) (by rw [← List.append_assoc]; exact h11) (fun w12 h12 => ?_)
      refine ld_here h12 (List.mem_append_right _ (.head _)) rfl ?_
      exact k w12 (h12.sub (List.sublist_append_right _ _)).drop.drop
end
end Go.Proofs.Ytplobehejancpaa
