/- The law DigestPlays: its walk. -/
import Derived.Test.YtplobehejancpaaVoI
set_option linter.unusedVariables false
set_option linter.unusedSimpArgs false
namespace Go.Proofs.Ytplobehejancpaa
open Go Go.RowKit Vc Oc Dg
attribute [local irreducible] binV Op.unary convert nlW faW ldS ldW ixS ixA ixV ixT exW lnS lnT pu stW alW opW opU bsW mkW dgC tabV

section
variable {B w : World} {H : Hp} {K : Value → World → Prop} {PK : List PanicEntry → World → Prop}
section
variable {KK : Value → Prop} {Q : World → Prop} {s y : Value} {size j : Nat} {xs : List (List Value)} {x : List Value} {n : Int} {kd : IntKind}
theorem sls_fld (h : Ow B w H) (hs : Sls H s size xs) (h0 : 0 ≤ n) (hv : xs[n.toNat]? = some x) (hj : x[j]? = some y) (k : KK y) : ixS size s (.int kd n) fun p => faW j p fun q => ldW none q w KK := by
  obtain ⟨a, cap, rfl, h1, h2, h3, h4⟩ := hs
  obtain ⟨p, rfl, hc⟩ := h4 _ _ hv
  have hlt := (List.getElem?_eq_some_iff.1 hv).1
  refine ixS_rule h0 (by omega) ?_
  refine fa_rule ?_
  rw [Go.Deep.add_add]
  exact ld_cell h (hc j y hj) k
theorem sls_flds (h : ∀ w, Q w → Ow B w H) (hs : Sls H s size xs) (h0 : 0 ≤ n) (hv : xs[n.toNat]? = some x) (hj : x[j]? = some y) (k : KK y) : ixS size s (.int kd n) fun p => faW j p fun q => ldS none q Q KK := by
  obtain ⟨a, cap, rfl, h1, h2, h3, h4⟩ := hs
  obtain ⟨p, rfl, hc⟩ := h4 _ _ hv
  have hlt := (List.getElem?_eq_some_iff.1 hv).1
  refine ixS_rule h0 (by omega) ?_
  refine fa_rule ?_
  rw [Go.Deep.add_add]
  exact lds_cell h (hc j y hj) k
end
theorem Fit.slV {t e : TypeId} {v : Value} (ht : PG.underlying t = some (.slice e)) (h : Fit PG H t [v]) : FitV PG H t v := by
  obtain ⟨u, xs, hc, hs, _⟩ := h.of_slice ht
  cases hc
  obtain ⟨a, cap, rfl, _⟩ := hs
  exact ⟨by simpa [Value.cells] using h, by rw [ht]; rfl⟩
structure AR where
  what : Int
  width : Int
  n : Nat
  v : Value
  b : List Nat
abbrev AR.cells (a : AR) : List Value := [vI a.what, vI a.width, v64 a.n, a.v]
structure AR.Ok (H : Hp) (a : AR) : Prop where
  n : a.n < 18446744073709551616
  sl : Sl H a.v (bv a.b)
  byt : Byt a.b
theorem act_of {cs : List Value} (h : Fit PG H T.t_linesmanlaw02_Act cs) : ∃ a : AR, cs = a.cells ∧ a.Ok H := by
  have hl : cs.length = 4 := h.len (by kernel_rfl) (by kernel_rfl)
  match cs, hl with
  | [x, y, z, u], _ =>
    obtain ⟨a, ha, _⟩ := (h.field (i := 0) (T := T.t_int) (off := 0) (n := 1) (by kernel_rfl)).of_int und_int
    obtain ⟨b, hb, _⟩ := (h.field (i := 1) (T := T.t_int) (off := 1) (n := 1) (by kernel_rfl)).of_int und_int
    obtain ⟨c, hc, hcw⟩ := (h.field (i := 2) (T := T.t_uint64) (off := 2) (n := 1) (by kernel_rfl)).of_int und_u64
    have hd : Fit PG H T.t_sl_uint8 [u] := h.field (i := 3) (T := T.t_sl_uint8) (off := 3) (n := 1) (by kernel_rfl)
    obtain ⟨l, hl1, _, hl3⟩ := bytes_of (Fit.slV und_slb hd)
    have e1 : [x] = [vI a] := ha
    have e2 : [y] = [vI b] := hb
    have e3 : [z] = [.int .u64 c] := hc
    have h64 := wf_u64 hcw
    cases e1; cases e2; cases e3
    refine ⟨⟨a, b, c.toNat, u, l⟩, ?_, ⟨by show c.toNat < _; omega, hl1, hl3⟩⟩
    show [vI a, vI b, .int .u64 c, u] = [vI a, vI b, v64 c.toNat, u]
    rw [v64, Int.toNat_of_nonneg h64.1]
theorem acts_of {v : Value} (h : FitV PG H T.t_sl_linesmanlaw02_Act v) : ∃ l : List AR, Sls H v 4 (l.map AR.cells) ∧ ∀ a ∈ l, a.Ok H := by
  obtain ⟨xs, h1, h2⟩ := h.slice (e := T.t_linesmanlaw02_Act) (by kernel_rfl)
  have : ∃ l : List AR, xs = l.map AR.cells ∧ ∀ a ∈ l, a.Ok H := by
    clear h1
    induction xs with
    | nil => exact ⟨[], rfl, by simp⟩
    | cons x xs ih =>
      obtain ⟨l, hl, hok⟩ := ih fun y hy => h2 y (.tail _ hy)
      obtain ⟨a, ha, hao⟩ := act_of (h2 x (.head _))
      refine ⟨a :: l, by rw [ha, hl]; rfl, fun y hy => ?_⟩
      rcases List.mem_cons.1 hy with rfl | hy
      · exact hao
      · exact hok y hy
  obtain ⟨l, rfl, hok⟩ := this
  have e : PG.cellsOf T.t_linesmanlaw02_Act = 4 := by kernel_rfl
  rw [e] at h1
  exact ⟨l, h1, hok⟩
theorem fxR_len (n : Nat) (x : Int) : (fxR n x).1.length ≤ 8 ∧ Byt (fxR n x).1 := by
  unfold fxR
  split
  · exact ⟨by simp, by simp [Byt]⟩
  · rename_i hr
    have hr : right x = true := by simpa using hr
    split
    · refine ⟨?_, fx_byt n _⟩
      rw [fx_len]
      rcases right_cases hr with rfl | rfl | rfl | rfl <;> decide
    · exact ⟨by simp, by simp [Byt]⟩

theorem DigestPlays.law {v0 : Value} (g0 : FitV PG H T.t_sl_linesmanlaw02_Act v0) (h : Ow B w H) (k : ∀ w', Ow B w' H → K (vB true) w') : callW PG N.linesmanlaw02_DigestPlays [v0] K PK w := by
  obtain ⟨l, hl, hok⟩ := acts_of g0
  clear g0
  refine linesmanlaw02_DigestPlays.ok ?_
  unfold linesmanlaw02_DigestPlays.C
  refine dnew_spec h (fun b0 w0 h0 => ?_)
  have hmx := hl.max
  refine ⟨fun l' w => ∃ (i b : Nat) (S : Hp) (v : Value) (m : List Nat), l' = [ptr b, v, vI i] ∧ i ≤ l.length ∧ i ≤ 20 ∧ Byt m ∧ m.length ≤ 80 * i ∧ Vc.Own S T.t_uint8 1 v m.length (bv m) ∧ Ow B w ((b, dg (fold top m) m.length) :: (S ++ H)),
    fun l' _ => match l' with | [_, _, .int _ n] => l.length - n.toNat | _ => 0, ⟨0, b0, [], _, [], rfl, Nat.zero_le _, by omega, by simp [Byt], by simp, own_none _ _, h0⟩, ?_⟩
  clear h0
  rintro l' w1 ⟨i, b, S, v, m, rfl, hi, hi20, hbm, hml, ho, h1⟩ j
  refine sls_ln hl ?_
  rw [List.length_map]
  repeat (first | refine pu_not ?_ | refine pu_eql ?_ | refine pu_neq ?_ | refine pu_lss ?_ | refine pu_leq ?_ | refine pu_gtr ?_ | refine pu_geq ?_ | refine pu_add ?_ | refine pu_sub ?_ | refine pu_mul ?_ | refine pu_neg ?_ | refine fa_at ?_ | refine nl_ptr ?_ | refine ex20 ?_ | refine ex21 ?_ | refine ex30 ?_ | refine ex31 ?_ | refine ex32 ?_ | refine ln_rule ?_ | refine lnT_rule ?_ | refine pu_and ?_ | refine pu_or ?_ | refine pu_xor ?_ | refine pu_seq ?_ | refine pu_sne ?_)
  refine cnd (fun hlt => ?_) (fun hge => ?_)
  · have hlt : i < l.length := by simpa using hlt
    have hat : (l.map AR.cells)[(i : Int).toNat]? = some l[i].cells := by rw [Int.toNat_natCast, List.getElem?_map, List.getElem?_eq_getElem hlt]; rfl
    have hao := hok l[i] (List.getElem_mem hlt)
    generalize l[i] = a at *
    have hbase : ∀ {w}, Ow B w ((b, dg (fold top m) m.length) :: (S ++ H)) → Ow B w H := fun h => h.drop.sub (List.sublist_append_right _ _)
    have hfl := fold_lt m (s := top) (by decide) hbm
    repeat (first | refine pu_not ?_ | refine pu_eql ?_ | refine pu_neq ?_ | refine pu_lss ?_ | refine pu_leq ?_ | refine pu_gtr ?_ | refine pu_geq ?_ | refine pu_add ?_ | refine pu_sub ?_ | refine pu_mul ?_ | refine pu_neg ?_ | refine fa_at ?_ | refine nl_ptr ?_ | refine ex20 ?_ | refine ex21 ?_ | refine ex30 ?_ | refine ex31 ?_ | refine ex32 ?_ | refine ln_rule ?_ | refine lnT_rule ?_ | refine pu_and ?_ | refine pu_or ?_ | refine pu_xor ?_ | refine pu_seq ?_ | refine pu_sne ?_)
    refine cnd (fun h20 => ?_) (fun h20 => ?_)
    · exact dworks_spec (hbase h1) k
    · have h20 : i < 20 := by simp at h20; omega
      refine sls_fld (hbase h1) hl (by omega) hat rfl ?_
      refine sl_ln hao.sl ?_
      rw [List.length_map]
      repeat (first | refine pu_not ?_ | refine pu_eql ?_ | refine pu_neq ?_ | refine pu_lss ?_ | refine pu_leq ?_ | refine pu_gtr ?_ | refine pu_geq ?_ | refine pu_add ?_ | refine pu_sub ?_ | refine pu_mul ?_ | refine pu_neg ?_ | refine fa_at ?_ | refine nl_ptr ?_ | refine ex20 ?_ | refine ex21 ?_ | refine ex30 ?_ | refine ex31 ?_ | refine ex32 ?_ | refine ln_rule ?_ | refine lnT_rule ?_ | refine pu_and ?_ | refine pu_or ?_ | refine pu_xor ?_ | refine pu_seq ?_ | refine pu_sne ?_)
      refine cnd (fun h40 => ?_) (fun h40 => ?_)
      · exact dworks_spec (hbase h1) k
      · have h40 : a.b.length ≤ 40 := by simp at h40; omega
        refine sls_fld (hbase h1) hl (by omega) hat rfl ?_
        repeat (first | refine pu_not ?_ | refine pu_eql ?_ | refine pu_neq ?_ | refine pu_lss ?_ | refine pu_leq ?_ | refine pu_gtr ?_ | refine pu_geq ?_ | refine pu_add ?_ | refine pu_sub ?_ | refine pu_mul ?_ | refine pu_neg ?_ | refine fa_at ?_ | refine nl_ptr ?_ | refine ex20 ?_ | refine ex21 ?_ | refine ex30 ?_ | refine ex31 ?_ | refine ex32 ?_ | refine ln_rule ?_ | refine lnT_rule ?_ | refine pu_and ?_ | refine pu_or ?_ | refine pu_xor ?_ | refine pu_seq ?_ | refine pu_sne ?_)
        refine cnd (fun hw0 => ?_) (fun hw0 => ?_)
        · refine cnd_t hw0 ?_
          refine ⟨fun w => Ow B w H, hbase h1.drew, ?_⟩
          refine sls_flds (fun w h => h) hl (by omega) hat rfl ?_
          refine sls_flds (fun w h => h) hl (by omega) hat rfl ?_
          refine bs_rule h1.drew [a.v, a.v] (bsw2 hao.sl hao.sl) (fun b2 w2 h2 => ?_)
          have hW : Wr ((b2, cel [a.v, a.v] T.t_sl_uint8) :: H) (.slice (some ⟨b2, 0, none⟩) 2 2) [a.b, a.b] := ⟨_, sl_here (l := [a.v, a.v]) (.head _), ⟨hao.sl.cons, hao.byt⟩, ⟨hao.sl.cons, hao.byt⟩, trivial⟩
          refine write_spec (A := [_]) h2 hfl hW (fun y hy => by
            rcases List.mem_cons.1 hy with rfl | hy
            · exact .head _
            · exact .tail _ (List.mem_append_right S hy)) (by omega) (by simp; omega) (by simp) (fun w3 h3 => ?_)
          have e3 : [a.b, a.b].flatten = a.b ++ a.b := by simp
          rw [e3, ← fold_app] at h3
          have h3 : Ow B w3 ((b, dg (fold top (m ++ (a.b ++ a.b))) (m.length + (a.b ++ a.b).length)) :: (S ++ H)) := h3.drop
          refine dnum_spec ?_
          repeat (first | refine pu_not ?_ | refine pu_eql ?_ | refine pu_neq ?_ | refine pu_lss ?_ | refine pu_leq ?_ | refine pu_gtr ?_ | refine pu_geq ?_ | refine pu_add ?_ | refine pu_sub ?_ | refine pu_mul ?_ | refine pu_neg ?_ | refine fa_at ?_ | refine nl_ptr ?_ | refine ex20 ?_ | refine ex21 ?_ | refine ex30 ?_ | refine ex31 ?_ | refine ex32 ?_ | refine ln_rule ?_ | refine lnT_rule ?_ | refine pu_and ?_ | refine pu_or ?_ | refine pu_xor ?_ | refine pu_seq ?_ | refine pu_sne ?_)
          refine cnd_f rfl ?_
          refine ⟨fun w => Ow B w H, h3.drew.drop.sub (List.sublist_append_right _ _), ?_⟩
          refine sls_flds (fun w h => h) hl (by omega) hat rfl ?_
          refine sls_flds (fun w h => h) hl (by omega) hat rfl ?_
          refine app1 (A := [_]) (z := v8 0) (bytes := 1) h3.drew ho hao.sl (fun y hy => .tail _ (List.mem_append_right _ hy)) (by simp [plainV]) und_slb info_u8 rfl (by simp [maxLen]; omega) (by simp; omega) (fun S4 v4 w4 h4 ho4 => ?_)
          refine ⟨h4.drop.sub (List.sublist_append_right _ _), ?_⟩
          refine app1 (A := [_]) (z := v8 0) (bytes := 1) h4 ho4 hao.sl (fun y hy => .tail _ (List.mem_append_right _ hy)) (by simp [plainV]) und_slb info_u8 rfl (by simp [maxLen]; omega) (by simp; omega) (fun Sz vz w5 hz hoz => ?_)
          obtain ⟨mz, hmz⟩ : ∃ mz, mz = m ++ (a.b ++ a.b) := ⟨_, rfl⟩
          have hmzl : mz.length = m.length + (a.b.length + a.b.length) := by rw [hmz]; simp
          have hoz : Vc.Own Sz T.t_uint8 1 vz mz.length (bv mz) := by rw [hmzl, hmz]; simpa [Nat.add_assoc] using hoz
          have hz : Ow B w5 ((b, dg (fold top mz) mz.length) :: (Sz ++ H)) := by
            have e : ((m.length : Int) + (a.b ++ a.b).length) = (mz.length : Int) := by rw [hmzl, List.length_append]; omega
            rw [e, ← hmz] at hz
            exact hz
          have hbz : Byt mz := by rw [hmz]; exact hbm.app (hao.byt.app hao.byt)
          obtain ⟨bz, hbz'⟩ : ∃ bz, bz = b := ⟨_, rfl⟩
          rw [← hbz'] at hz ⊢
          unfold linesmanlaw02_DigestPlays.k0
          have hzl := fold_lt mz (s := top) (by decide) hbz
          refine dsum_spec hz (.head _) hzl (fun w20 h20' => ?_)
          refine rof_spec h20' (hoz.sl.mono fun x hx => .tail _ (List.mem_append_left _ hx)) hbz (by omega) (fun w21 h21 => ?_)
          repeat (first | refine pu_not ?_ | refine pu_eql ?_ | refine pu_neq ?_ | refine pu_lss ?_ | refine pu_leq ?_ | refine pu_gtr ?_ | refine pu_geq ?_ | refine pu_add ?_ | refine pu_sub ?_ | refine pu_mul ?_ | refine pu_neg ?_ | refine fa_at ?_ | refine nl_ptr ?_ | refine ex20 ?_ | refine ex21 ?_ | refine ex30 ?_ | refine ex31 ?_ | refine ex32 ?_ | refine ln_rule ?_ | refine lnT_rule ?_ | refine pu_and ?_ | refine pu_or ?_ | refine pu_xor ?_ | refine pu_seq ?_ | refine pu_sne ?_)
          refine cnd_f (by simp [sum]) ?_
          refine dlen_spec h21 (.head _) (fun w22 h22 => ?_)
          refine sl_ln hoz.sl ?_
          rw [List.length_map]
          repeat (first | refine pu_not ?_ | refine pu_eql ?_ | refine pu_neq ?_ | refine pu_lss ?_ | refine pu_leq ?_ | refine pu_gtr ?_ | refine pu_geq ?_ | refine pu_add ?_ | refine pu_sub ?_ | refine pu_mul ?_ | refine pu_neg ?_ | refine fa_at ?_ | refine nl_ptr ?_ | refine ex20 ?_ | refine ex21 ?_ | refine ex30 ?_ | refine ex31 ?_ | refine ex32 ?_ | refine ln_rule ?_ | refine lnT_rule ?_ | refine pu_and ?_ | refine pu_or ?_ | refine pu_xor ?_ | refine pu_seq ?_ | refine pu_sne ?_)
          refine cnd_f (by simp) ?_
          repeat (first | refine pu_not ?_ | refine pu_eql ?_ | refine pu_neq ?_ | refine pu_lss ?_ | refine pu_leq ?_ | refine pu_gtr ?_ | refine pu_geq ?_ | refine pu_add ?_ | refine pu_sub ?_ | refine pu_mul ?_ | refine pu_neg ?_ | refine fa_at ?_ | refine nl_ptr ?_ | refine ex20 ?_ | refine ex21 ?_ | refine ex30 ?_ | refine ex31 ?_ | refine ex32 ?_ | refine ln_rule ?_ | refine lnT_rule ?_ | refine pu_and ?_ | refine pu_or ?_ | refine pu_xor ?_ | refine pu_seq ?_ | refine pu_sne ?_)
          rw [wrap64_in (by omega) (by omega)]
          exact ⟨⟨i + 1, bz, Sz, vz, mz, rfl, hlt, by omega, hbz, by omega, hoz, h22⟩, by simp; omega⟩
        · repeat (first | refine pu_not ?_ | refine pu_eql ?_ | refine pu_neq ?_ | refine pu_lss ?_ | refine pu_leq ?_ | refine pu_gtr ?_ | refine pu_geq ?_ | refine pu_add ?_ | refine pu_sub ?_ | refine pu_mul ?_ | refine pu_neg ?_ | refine fa_at ?_ | refine nl_ptr ?_ | refine ex20 ?_ | refine ex21 ?_ | refine ex30 ?_ | refine ex31 ?_ | refine ex32 ?_ | refine ln_rule ?_ | refine lnT_rule ?_ | refine pu_and ?_ | refine pu_or ?_ | refine pu_xor ?_ | refine pu_seq ?_ | refine pu_sne ?_)
          refine cnd (fun hw1 => ?_) (fun hw1 => ?_)
          · refine ⟨fun w => Ow B w H, hbase h1.drew, ?_⟩
            refine sls_flds (fun w h => h) hl (by omega) hat rfl ?_
            refine sls_flds (fun w h => h) hl (by omega) hat rfl ?_
            refine bs_rule h1.drew [a.v, a.v] (bsw2 hao.sl hao.sl) (fun b2 w2 h2 => ?_)
            have hW : Wr ((b2, cel [a.v, a.v] T.t_sl_uint8) :: H) (.slice (some ⟨b2, 0, none⟩) 2 2) [a.b, a.b] := ⟨_, sl_here (l := [a.v, a.v]) (.head _), ⟨hao.sl.cons, hao.byt⟩, ⟨hao.sl.cons, hao.byt⟩, trivial⟩
            refine write_spec (A := [_]) h2 hfl hW (fun y hy => by
              rcases List.mem_cons.1 hy with rfl | hy
              · exact .head _
              · exact .tail _ (List.mem_append_right S hy)) (by omega) (by simp; omega) (by simp) (fun w3 h3 => ?_)
            have e3 : [a.b, a.b].flatten = a.b ++ a.b := by simp
            rw [e3, ← fold_app] at h3
            have h3 : Ow B w3 ((b, dg (fold top (m ++ (a.b ++ a.b))) (m.length + (a.b ++ a.b).length)) :: (S ++ H)) := h3.drop
            refine dnum_spec ?_
            repeat (first | refine pu_not ?_ | refine pu_eql ?_ | refine pu_neq ?_ | refine pu_lss ?_ | refine pu_leq ?_ | refine pu_gtr ?_ | refine pu_geq ?_ | refine pu_add ?_ | refine pu_sub ?_ | refine pu_mul ?_ | refine pu_neg ?_ | refine fa_at ?_ | refine nl_ptr ?_ | refine ex20 ?_ | refine ex21 ?_ | refine ex30 ?_ | refine ex31 ?_ | refine ex32 ?_ | refine ln_rule ?_ | refine lnT_rule ?_ | refine pu_and ?_ | refine pu_or ?_ | refine pu_xor ?_ | refine pu_seq ?_ | refine pu_sne ?_)
            refine cnd_f rfl ?_
            refine ⟨fun w => Ow B w H, h3.drew.drop.sub (List.sublist_append_right _ _), ?_⟩
            refine sls_flds (fun w h => h) hl (by omega) hat rfl ?_
            refine sls_flds (fun w h => h) hl (by omega) hat rfl ?_
            refine app1 (A := [_]) (z := v8 0) (bytes := 1) h3.drew ho hao.sl (fun y hy => .tail _ (List.mem_append_right _ hy)) (by simp [plainV]) und_slb info_u8 rfl (by simp [maxLen]; omega) (by simp; omega) (fun S4 v4 w4 h4 ho4 => ?_)
            refine ⟨h4.drop.sub (List.sublist_append_right _ _), ?_⟩
            refine app1 (A := [_]) (z := v8 0) (bytes := 1) h4 ho4 hao.sl (fun y hy => .tail _ (List.mem_append_right _ hy)) (by simp [plainV]) und_slb info_u8 rfl (by simp [maxLen]; omega) (by simp; omega) (fun Sz vz w5 hz hoz => ?_)
            obtain ⟨mz, hmz⟩ : ∃ mz, mz = m ++ (a.b ++ a.b) := ⟨_, rfl⟩
            have hmzl : mz.length = m.length + (a.b.length + a.b.length) := by rw [hmz]; simp
            have hoz : Vc.Own Sz T.t_uint8 1 vz mz.length (bv mz) := by rw [hmzl, hmz]; simpa [Nat.add_assoc] using hoz
            have hz : Ow B w5 ((b, dg (fold top mz) mz.length) :: (Sz ++ H)) := by
              have e : ((m.length : Int) + (a.b ++ a.b).length) = (mz.length : Int) := by rw [hmzl, List.length_append]; omega
              rw [e, ← hmz] at hz
              exact hz
            have hbz : Byt mz := by rw [hmz]; exact hbm.app (hao.byt.app hao.byt)
            obtain ⟨bz, hbz'⟩ : ∃ bz, bz = b := ⟨_, rfl⟩
            rw [← hbz'] at hz ⊢
            unfold linesmanlaw02_DigestPlays.k0
            have hzl := fold_lt mz (s := top) (by decide) hbz
            refine dsum_spec hz (.head _) hzl (fun w20 h20' => ?_)
            refine rof_spec h20' (hoz.sl.mono fun x hx => .tail _ (List.mem_append_left _ hx)) hbz (by omega) (fun w21 h21 => ?_)
            repeat (first | refine pu_not ?_ | refine pu_eql ?_ | refine pu_neq ?_ | refine pu_lss ?_ | refine pu_leq ?_ | refine pu_gtr ?_ | refine pu_geq ?_ | refine pu_add ?_ | refine pu_sub ?_ | refine pu_mul ?_ | refine pu_neg ?_ | refine fa_at ?_ | refine nl_ptr ?_ | refine ex20 ?_ | refine ex21 ?_ | refine ex30 ?_ | refine ex31 ?_ | refine ex32 ?_ | refine ln_rule ?_ | refine lnT_rule ?_ | refine pu_and ?_ | refine pu_or ?_ | refine pu_xor ?_ | refine pu_seq ?_ | refine pu_sne ?_)
            refine cnd_f (by simp [sum]) ?_
            refine dlen_spec h21 (.head _) (fun w22 h22 => ?_)
            refine sl_ln hoz.sl ?_
            rw [List.length_map]
            repeat (first | refine pu_not ?_ | refine pu_eql ?_ | refine pu_neq ?_ | refine pu_lss ?_ | refine pu_leq ?_ | refine pu_gtr ?_ | refine pu_geq ?_ | refine pu_add ?_ | refine pu_sub ?_ | refine pu_mul ?_ | refine pu_neg ?_ | refine fa_at ?_ | refine nl_ptr ?_ | refine ex20 ?_ | refine ex21 ?_ | refine ex30 ?_ | refine ex31 ?_ | refine ex32 ?_ | refine ln_rule ?_ | refine lnT_rule ?_ | refine pu_and ?_ | refine pu_or ?_ | refine pu_xor ?_ | refine pu_seq ?_ | refine pu_sne ?_)
            refine cnd_f (by simp) ?_
            repeat (first | refine pu_not ?_ | refine pu_eql ?_ | refine pu_neq ?_ | refine pu_lss ?_ | refine pu_leq ?_ | refine pu_gtr ?_ | refine pu_geq ?_ | refine pu_add ?_ | refine pu_sub ?_ | refine pu_mul ?_ | refine pu_neg ?_ | refine fa_at ?_ | refine nl_ptr ?_ | refine ex20 ?_ | refine ex21 ?_ | refine ex30 ?_ | refine ex31 ?_ | refine ex32 ?_ | refine ln_rule ?_ | refine lnT_rule ?_ | refine pu_and ?_ | refine pu_or ?_ | refine pu_xor ?_ | refine pu_seq ?_ | refine pu_sne ?_)
            rw [wrap64_in (by omega) (by omega)]
            exact ⟨⟨i + 1, bz, Sz, vz, mz, rfl, hlt, by omega, hbz, by omega, hoz, h22⟩, by simp; omega⟩
          · repeat (first | refine pu_not ?_ | refine pu_eql ?_ | refine pu_neq ?_ | refine pu_lss ?_ | refine pu_leq ?_ | refine pu_gtr ?_ | refine pu_geq ?_ | refine pu_add ?_ | refine pu_sub ?_ | refine pu_mul ?_ | refine pu_neg ?_ | refine fa_at ?_ | refine nl_ptr ?_ | refine ex20 ?_ | refine ex21 ?_ | refine ex30 ?_ | refine ex31 ?_ | refine ex32 ?_ | refine ln_rule ?_ | refine lnT_rule ?_ | refine pu_and ?_ | refine pu_or ?_ | refine pu_xor ?_ | refine pu_seq ?_ | refine pu_sne ?_)
            refine cnd (fun hw2 => ?_) (fun hw2 => ?_)
            · refine ⟨fun w => Ow B w H, hbase h1.drew, ?_⟩
              refine sls_flds (fun w h => h) hl (by omega) hat rfl ?_
              refine sls_flds (fun w h => h) hl (by omega) hat rfl ?_
              refine rfixed_spec h1.drew hao.n (fun S2 v2 w2 h2 ho2 => ?_)
              have h2 : Ow B w2 ((b, dg (fold top m) m.length) :: (S2 ++ (S ++ H))) := h2.perm List.perm_middle
              repeat (first | refine pu_not ?_ | refine pu_eql ?_ | refine pu_neq ?_ | refine pu_lss ?_ | refine pu_leq ?_ | refine pu_gtr ?_ | refine pu_geq ?_ | refine pu_add ?_ | refine pu_sub ?_ | refine pu_mul ?_ | refine pu_neg ?_ | refine fa_at ?_ | refine nl_ptr ?_ | refine ex20 ?_ | refine ex21 ?_ | refine ex30 ?_ | refine ex31 ?_ | refine ex32 ?_ | refine ln_rule ?_ | refine lnT_rule ?_ | refine pu_and ?_ | refine pu_or ?_ | refine pu_xor ?_ | refine pu_seq ?_ | refine pu_sne ?_)
              refine ⟨fun w => Ow B w H, (h2.drew.drop.sub (List.sublist_append_right _ _)).sub (List.sublist_append_right _ _), ?_⟩
              refine sls_flds (fun w h => h) hl (by omega) hat rfl ?_
              refine sls_flds (fun w h => h) hl (by omega) hat rfl ?_
              refine dnumber_spec h2.drew hfl hao.n (by omega) (by omega) (fun w3 h3 => ?_)
              rw [← fold_app] at h3
              refine dnum_spec ?_
              repeat (first | refine pu_not ?_ | refine pu_eql ?_ | refine pu_neq ?_ | refine pu_lss ?_ | refine pu_leq ?_ | refine pu_gtr ?_ | refine pu_geq ?_ | refine pu_add ?_ | refine pu_sub ?_ | refine pu_mul ?_ | refine pu_neg ?_ | refine fa_at ?_ | refine nl_ptr ?_ | refine ex20 ?_ | refine ex21 ?_ | refine ex30 ?_ | refine ex31 ?_ | refine ex32 ?_ | refine ln_rule ?_ | refine lnT_rule ?_ | refine pu_and ?_ | refine pu_or ?_ | refine pu_xor ?_ | refine pu_seq ?_ | refine pu_sne ?_)
              refine cnd_f (by simp) ?_
              obtain ⟨hr8, hrb⟩ := fxR_len a.n a.width
              generalize (fxR a.n a.width).1 = r at *
              refine app1 (A := (b, dg (fold top (m ++ r)) (m.length + r.length)) :: S2) (C := H) (z := v8 0) (bytes := 1) (by simpa using h3) ho ho2.sl (fun y hy => List.mem_append_left _ (List.mem_append_left _ (.tail _ hy))) (by simp [plainV]) und_slb info_u8 rfl (by simp [maxLen]; omega) (by simp; omega) (fun Sz vz w5 hz hoz => ?_)
              obtain ⟨mz, hmz⟩ : ∃ mz, mz = m ++ r := ⟨_, rfl⟩
              have hmzl : mz.length = m.length + r.length := by rw [hmz]; simp
              have hoz : Vc.Own Sz T.t_uint8 1 vz mz.length (bv mz) := by rw [hmzl, hmz]; simpa using hoz
              have hz : Ow B w5 ((b, dg (fold top mz) mz.length) :: (Sz ++ H)) := by
                have hz : Ow B w5 ((b, dg (fold top (m ++ r)) (m.length + r.length)) :: (S2 ++ (Sz ++ H))) := by simpa using hz
                have e : ((m.length : Int) + r.length) = (mz.length : Int) := by rw [hmzl]; omega
                rw [e, ← hmz] at hz
                exact hz.sub (.cons_cons _ (List.sublist_append_right _ _))
              have hbz : Byt mz := by rw [hmz]; exact hbm.app hrb
              obtain ⟨bz, hbz'⟩ : ∃ bz, bz = b := ⟨_, rfl⟩
              rw [← hbz'] at hz ⊢
              unfold linesmanlaw02_DigestPlays.k0
              have hzl := fold_lt mz (s := top) (by decide) hbz
              refine dsum_spec hz (.head _) hzl (fun w20 h20' => ?_)
              refine rof_spec h20' (hoz.sl.mono fun x hx => .tail _ (List.mem_append_left _ hx)) hbz (by omega) (fun w21 h21 => ?_)
              repeat (first | refine pu_not ?_ | refine pu_eql ?_ | refine pu_neq ?_ | refine pu_lss ?_ | refine pu_leq ?_ | refine pu_gtr ?_ | refine pu_geq ?_ | refine pu_add ?_ | refine pu_sub ?_ | refine pu_mul ?_ | refine pu_neg ?_ | refine fa_at ?_ | refine nl_ptr ?_ | refine ex20 ?_ | refine ex21 ?_ | refine ex30 ?_ | refine ex31 ?_ | refine ex32 ?_ | refine ln_rule ?_ | refine lnT_rule ?_ | refine pu_and ?_ | refine pu_or ?_ | refine pu_xor ?_ | refine pu_seq ?_ | refine pu_sne ?_)
              refine cnd_f (by simp [sum]) ?_
              refine dlen_spec h21 (.head _) (fun w22 h22 => ?_)
              refine sl_ln hoz.sl ?_
              rw [List.length_map]
              repeat (first | refine pu_not ?_ | refine pu_eql ?_ | refine pu_neq ?_ | refine pu_lss ?_ | refine pu_leq ?_ | refine pu_gtr ?_ | refine pu_geq ?_ | refine pu_add ?_ | refine pu_sub ?_ | refine pu_mul ?_ | refine pu_neg ?_ | refine fa_at ?_ | refine nl_ptr ?_ | refine ex20 ?_ | refine ex21 ?_ | refine ex30 ?_ | refine ex31 ?_ | refine ex32 ?_ | refine ln_rule ?_ | refine lnT_rule ?_ | refine pu_and ?_ | refine pu_or ?_ | refine pu_xor ?_ | refine pu_seq ?_ | refine pu_sne ?_)
              refine cnd_f (by simp) ?_
              repeat (first | refine pu_not ?_ | refine pu_eql ?_ | refine pu_neq ?_ | refine pu_lss ?_ | refine pu_leq ?_ | refine pu_gtr ?_ | refine pu_geq ?_ | refine pu_add ?_ | refine pu_sub ?_ | refine pu_mul ?_ | refine pu_neg ?_ | refine fa_at ?_ | refine nl_ptr ?_ | refine ex20 ?_ | refine ex21 ?_ | refine ex30 ?_ | refine ex31 ?_ | refine ex32 ?_ | refine ln_rule ?_ | refine lnT_rule ?_ | refine pu_and ?_ | refine pu_or ?_ | refine pu_xor ?_ | refine pu_seq ?_ | refine pu_sne ?_)
              rw [wrap64_in (by omega) (by omega)]
              exact ⟨⟨i + 1, bz, Sz, vz, mz, rfl, hlt, by omega, hbz, by omega, hoz, h22⟩, by simp; omega⟩
            · refine dcopy_spec h1 (.head _) (fun bz w2 h2 => ?_)
              refine bs_rule h2 (bv [1]) (by kernel_rfl) (fun b3 w3 h3 => ?_)
              have hsl3 : Sl ((b3, cel (bv [1]) T.t_uint8) :: []) (.slice (some ⟨b3, 0, none⟩) 1 1) (bv [1]) := sl_here (l := bv [1]) (.head _)
              refine bs_rule h3 [.slice (some ⟨b3, 0, none⟩) 1 1] (by kernel_rfl) (fun b4 w4 h4 => ?_)
              have hW : Wr ((b4, cel [.slice (some ⟨b3, 0, none⟩) 1 1] T.t_sl_uint8) :: (b3, cel (bv [1]) T.t_uint8) :: []) (.slice (some ⟨b4, 0, none⟩) 1 1) [[1]] := ⟨_, sl_here (l := [.slice (some ⟨b3, 0, none⟩) 1 1]) (.head _), ⟨hsl3.cons, by simp [Byt]⟩, trivial⟩
              refine write_spec (A := [_, _, _]) h4 hfl hW (fun y hy => by
                rcases List.mem_cons.1 hy with rfl | hy
                · exact .head _
                · rcases List.mem_cons.1 hy with rfl | hy
                  · exact .tail _ (.head _)
                  · cases hy) (by omega) (by simp; omega) (by simp) (fun w5 h5 => ?_)
              refine dnum_spec ?_
              repeat (first | refine pu_not ?_ | refine pu_eql ?_ | refine pu_neq ?_ | refine pu_lss ?_ | refine pu_leq ?_ | refine pu_gtr ?_ | refine pu_geq ?_ | refine pu_add ?_ | refine pu_sub ?_ | refine pu_mul ?_ | refine pu_neg ?_ | refine fa_at ?_ | refine nl_ptr ?_ | refine ex20 ?_ | refine ex21 ?_ | refine ex30 ?_ | refine ex31 ?_ | refine ex32 ?_ | refine ln_rule ?_ | refine lnT_rule ?_ | refine pu_and ?_ | refine pu_or ?_ | refine pu_xor ?_ | refine pu_seq ?_ | refine pu_sne ?_)
              refine cnd_f rfl ?_
              have hz : Ow B w5 ((bz, dg (fold top m) m.length) :: (S ++ H)) := h5.sub (.cons _ (.cons _ (.cons_cons _ (.cons _ (.refl _)))))
              obtain ⟨mz, hmz⟩ : ∃ mz, mz = m := ⟨_, rfl⟩
              obtain ⟨Sz, hSz⟩ : ∃ Sz, Sz = S := ⟨_, rfl⟩
              obtain ⟨vz, hvz⟩ : ∃ vz, vz = v := ⟨_, rfl⟩
              have hmzl : mz.length = m.length := by rw [hmz]
              have hoz : Vc.Own Sz T.t_uint8 1 vz mz.length (bv mz) := by rw [hmz, hSz, hvz]; exact ho
              have hbz : Byt mz := by rw [hmz]; exact hbm
              rw [← hmz, ← hSz] at hz
              rw [← hvz]
              unfold linesmanlaw02_DigestPlays.k0
              have hzl := fold_lt mz (s := top) (by decide) hbz
              refine dsum_spec hz (.head _) hzl (fun w20 h20' => ?_)
              refine rof_spec h20' (hoz.sl.mono fun x hx => .tail _ (List.mem_append_left _ hx)) hbz (by omega) (fun w21 h21 => ?_)
              repeat (first | refine pu_not ?_ | refine pu_eql ?_ | refine pu_neq ?_ | refine pu_lss ?_ | refine pu_leq ?_ | refine pu_gtr ?_ | refine pu_geq ?_ | refine pu_add ?_ | refine pu_sub ?_ | refine pu_mul ?_ | refine pu_neg ?_ | refine fa_at ?_ | refine nl_ptr ?_ | refine ex20 ?_ | refine ex21 ?_ | refine ex30 ?_ | refine ex31 ?_ | refine ex32 ?_ | refine ln_rule ?_ | refine lnT_rule ?_ | refine pu_and ?_ | refine pu_or ?_ | refine pu_xor ?_ | refine pu_seq ?_ | refine pu_sne ?_)
              refine cnd_f (by simp [sum]) ?_
              refine dlen_spec h21 (.head _) (fun w22 h22 => ?_)
              refine sl_ln hoz.sl ?_
              rw [List.length_map]
              repeat (first | refine pu_not ?_ | refine pu_eql ?_ | refine pu_neq ?_ | refine pu_lss ?_ | refine pu_leq ?_ | refine pu_gtr ?_ | refine pu_geq ?_ | refine pu_add ?_ | refine pu_sub ?_ | refine pu_mul ?_ | refine pu_neg ?_ | refine fa_at ?_ | refine nl_ptr ?_ | refine ex20 ?_ | refine ex21 ?_ | refine ex30 ?_ | refine ex31 ?_ | refine ex32 ?_ | refine ln_rule ?_ | refine lnT_rule ?_ | refine pu_and ?_ | refine pu_or ?_ | refine pu_xor ?_ | refine pu_seq ?_ | refine pu_sne ?_)
              refine cnd_f (by simp) ?_
              repeat (first | refine pu_not ?_ | refine pu_eql ?_ | refine pu_neq ?_ | refine pu_lss ?_ | refine pu_leq ?_ | refine pu_gtr ?_ | refine pu_geq ?_ | refine pu_add ?_ | refine pu_sub ?_ | refine pu_mul ?_ | refine pu_neg ?_ | refine fa_at ?_ | refine nl_ptr ?_ | refine ex20 ?_ | refine ex21 ?_ | refine ex30 ?_ | refine ex31 ?_ | refine ex32 ?_ | refine ln_rule ?_ | refine lnT_rule ?_ | refine pu_and ?_ | refine pu_or ?_ | refine pu_xor ?_ | refine pu_seq ?_ | refine pu_sne ?_)
              rw [wrap64_in (by omega) (by omega)]
              exact ⟨⟨i + 1, bz, Sz, vz, mz, rfl, hlt, by omega, hbz, by omega, hoz, h22⟩, by simp; omega⟩
  · exact dworks_spec (h1.drop.sub (List.sublist_append_right _ _)) k
end
end Go.Proofs.Ytplobehejancpaa
