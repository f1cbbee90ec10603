/- Stacks: what is told of them; frames that are entered. -/
import Derived.Test.YtkkkcafkepnecaaGreatVsC
set_option linter.unusedVariables false
set_option linter.unusedSimpArgs false
namespace Go.Proofs.YtkkkcafkepnecaaGreat
open Go Go.RowKit Vc Ar
attribute [local irreducible] binV Op.unary convert nlW faW ldS ldW ixS ixA ixV ixT exW lnS lnT pu stW alW opW opU bsW mkW

section
variable {B w : World} {H X F : Hp} {K : Value → World → Prop} {PK : List PanicEntry → World → Prop} {KK : Value → Prop} {e : Int} {b n cap g : Nat} {l lf : List Value}
theorem must_t (k : K (.tuple #[]) w) : callW PG N.stack_must [vB true, vI e] K PK w := by
  refine stack_must.ok ?_
  unfold stack_must.C
  refine pu_not (cnd_f rfl k)
theorem must_f (k : PK (pan e) w) : callW PG N.stack_must [vB false, vI e] K PK w := by
  refine stack_must.ok ?_
  unfold stack_must.C
  refine pu_not (cnd_t rfl k)
theorem must_b {c : Bool} (kt : c = true → K (.tuple #[]) w) (kf : c = false → PK (pan e) w) : callW PG N.stack_must [vB c, vI e] K PK w := by
  cases c
  · exact must_f (kf rfl)
  · exact must_t (kt rfl)
theorem und_ptr : PG.underlying T.t_ptr_stack_Stack = some (.pointer T.t_stack_Stack) := by kernel_rfl
theorem none_nil (k : K (vB true) w) : callW PG N.stack_Stack_none [.pointer none] K PK w := by
  refine stack_Stack_none.ok ?_
  unfold stack_Stack_none.C
  exact pu_pnil und_ptr (cnd_t rfl k)
abbrev stO (l : List Value) : Obj := cel l T.t_stack_Stack
theorem none_at {m : Bool} (h : Ow B w H) (hm : (b, stO l) ∈ H) (h6 : l[6]? = some (vB m)) (k : K (vB !m) w) : callW PG N.stack_Stack_none [ptr b] K PK w := by
  refine stack_Stack_none.ok ?_
  unfold stack_Stack_none.C
  refine pu_pnil und_ptr (cnd_f rfl ?_)
  repeat (first | refine pu_not ?_ | refine pu_eql ?_ | refine pu_neq ?_ | refine pu_lss ?_ | refine pu_leq ?_ | refine pu_gtr ?_ | refine pu_geq ?_ | refine pu_add ?_ | refine pu_sub ?_ | refine pu_mul ?_ | refine pu_neg ?_ | refine fa_at ?_ | refine nl_ptr ?_ | refine ex20 ?_ | refine ex21 ?_ | refine ex30 ?_ | refine ex31 ?_ | refine ex32 ?_ | refine ln_rule ?_ | refine lnT_rule ?_ | refine pu_and ?_ | refine pu_or ?_ | refine pu_xor ?_ | refine pu_seq ?_ | refine pu_sne ?_)
  refine ld_here h hm h6 ?_
  repeat (first | refine pu_not ?_ | refine pu_eql ?_ | refine pu_neq ?_ | refine pu_lss ?_ | refine pu_leq ?_ | refine pu_gtr ?_ | refine pu_geq ?_ | refine pu_add ?_ | refine pu_sub ?_ | refine pu_mul ?_ | refine pu_neg ?_ | refine fa_at ?_ | refine nl_ptr ?_ | refine ex20 ?_ | refine ex21 ?_ | refine ex30 ?_ | refine ex31 ?_ | refine ex32 ?_ | refine ln_rule ?_ | refine lnT_rule ?_ | refine pu_and ?_ | refine pu_or ?_ | refine pu_xor ?_ | refine pu_seq ?_ | refine pu_sne ?_)
  exact k
/-- A stack that is none: nil, or one that New has not made. -/
def Nost (H : Hp) (s : Value) : Prop := s = .pointer none ∨ ∃ b l, s = ptr b ∧ (b, stO l) ∈ H ∧ l[6]? = some (vB false)
theorem nost_spec {s : Value} (h : Ow B w H) (hs : Nost H s) (k : K (vB true) w) : callW PG N.stack_Stack_none [s] K PK w := by
  rcases hs with rfl | ⟨b, l, rfl, hm, h6⟩
  · exact none_nil k
  · exact none_at h hm h6 k
theorem top_none {s : Value} (h : Ow B w H) (hs : Nost H s) (k : PK (pan 1) w) : callW PG N.stack_Stack_top [s] K PK w := by
  refine stack_Stack_top.ok ?_
  unfold stack_Stack_top.C
  refine nost_spec h hs ?_
  repeat (first | refine pu_not ?_ | refine pu_eql ?_ | refine pu_neq ?_ | refine pu_lss ?_ | refine pu_leq ?_ | refine pu_gtr ?_ | refine pu_geq ?_ | refine pu_add ?_ | refine pu_sub ?_ | refine pu_mul ?_ | refine pu_neg ?_ | refine fa_at ?_ | refine nl_ptr ?_ | refine ex20 ?_ | refine ex21 ?_ | refine ex30 ?_ | refine ex31 ?_ | refine ex32 ?_ | refine ln_rule ?_ | refine lnT_rule ?_ | refine pu_and ?_ | refine pu_or ?_ | refine pu_xor ?_ | refine pu_seq ?_ | refine pu_sne ?_)
  exact must_f k
theorem top_end {a : Option Addr} {c : Nat} (h : Ow B w H) (hm : (b, stO l) ∈ H) (h6 : l[6]? = some (vB true)) (h4 : l[4]? = some (.slice a 0 c)) (k : PK (pan 220) w) : callW PG N.stack_Stack_top [ptr b] K PK w := by
  refine stack_Stack_top.ok ?_
  unfold stack_Stack_top.C
  refine none_at h hm h6 ?_
  repeat (first | refine pu_not ?_ | refine pu_eql ?_ | refine pu_neq ?_ | refine pu_lss ?_ | refine pu_leq ?_ | refine pu_gtr ?_ | refine pu_geq ?_ | refine pu_add ?_ | refine pu_sub ?_ | refine pu_mul ?_ | refine pu_neg ?_ | refine fa_at ?_ | refine nl_ptr ?_ | refine ex20 ?_ | refine ex21 ?_ | refine ex30 ?_ | refine ex31 ?_ | refine ex32 ?_ | refine ln_rule ?_ | refine lnT_rule ?_ | refine pu_and ?_ | refine pu_or ?_ | refine pu_xor ?_ | refine pu_seq ?_ | refine pu_sne ?_)
  refine must_t ?_
  repeat (first | refine pu_not ?_ | refine pu_eql ?_ | refine pu_neq ?_ | refine pu_lss ?_ | refine pu_leq ?_ | refine pu_gtr ?_ | refine pu_geq ?_ | refine pu_add ?_ | refine pu_sub ?_ | refine pu_mul ?_ | refine pu_neg ?_ | refine fa_at ?_ | refine nl_ptr ?_ | refine ex20 ?_ | refine ex21 ?_ | refine ex30 ?_ | refine ex31 ?_ | refine ex32 ?_ | refine ln_rule ?_ | refine lnT_rule ?_ | refine pu_and ?_ | refine pu_or ?_ | refine pu_xor ?_ | refine pu_seq ?_ | refine pu_sne ?_)
  refine ld_here h hm h4 ?_
  repeat (first | refine pu_not ?_ | refine pu_eql ?_ | refine pu_neq ?_ | refine pu_lss ?_ | refine pu_leq ?_ | refine pu_gtr ?_ | refine pu_geq ?_ | refine pu_add ?_ | refine pu_sub ?_ | refine pu_mul ?_ | refine pu_neg ?_ | refine fa_at ?_ | refine nl_ptr ?_ | refine ex20 ?_ | refine ex21 ?_ | refine ex30 ?_ | refine ex31 ?_ | refine ex32 ?_ | refine ln_rule ?_ | refine lnT_rule ?_ | refine pu_and ?_ | refine pu_or ?_ | refine pu_xor ?_ | refine pu_seq ?_ | refine pu_sne ?_)
  exact must_f k
theorem top_at (h : Ow B w H) (hm : (b, stO l) ∈ H) (h6 : l[6]? = some (vB true)) (h4 : l[4]? = some (.slice (some ⟨g, 0, none⟩) (n + 1) cap)) (hn : n < 1000000) (k : ∀ w', Ow B w' H → K (ptr g (n * 4)) w') : callW PG N.stack_Stack_top [ptr b] K PK w := by
  refine stack_Stack_top.ok ?_
  unfold stack_Stack_top.C
  refine none_at h hm h6 ?_
  repeat (first | refine pu_not ?_ | refine pu_eql ?_ | refine pu_neq ?_ | refine pu_lss ?_ | refine pu_leq ?_ | refine pu_gtr ?_ | refine pu_geq ?_ | refine pu_add ?_ | refine pu_sub ?_ | refine pu_mul ?_ | refine pu_neg ?_ | refine fa_at ?_ | refine nl_ptr ?_ | refine ex20 ?_ | refine ex21 ?_ | refine ex30 ?_ | refine ex31 ?_ | refine ex32 ?_ | refine ln_rule ?_ | refine lnT_rule ?_ | refine pu_and ?_ | refine pu_or ?_ | refine pu_xor ?_ | refine pu_seq ?_ | refine pu_sne ?_)
  refine must_t ?_
  repeat (first | refine pu_not ?_ | refine pu_eql ?_ | refine pu_neq ?_ | refine pu_lss ?_ | refine pu_leq ?_ | refine pu_gtr ?_ | refine pu_geq ?_ | refine pu_add ?_ | refine pu_sub ?_ | refine pu_mul ?_ | refine pu_neg ?_ | refine fa_at ?_ | refine nl_ptr ?_ | refine ex20 ?_ | refine ex21 ?_ | refine ex30 ?_ | refine ex31 ?_ | refine ex32 ?_ | refine ln_rule ?_ | refine lnT_rule ?_ | refine pu_and ?_ | refine pu_or ?_ | refine pu_xor ?_ | refine pu_seq ?_ | refine pu_sne ?_)
  refine ld_here h hm h4 ?_
  repeat (first | refine pu_not ?_ | refine pu_eql ?_ | refine pu_neq ?_ | refine pu_lss ?_ | refine pu_leq ?_ | refine pu_gtr ?_ | refine pu_geq ?_ | refine pu_add ?_ | refine pu_sub ?_ | refine pu_mul ?_ | refine pu_neg ?_ | refine fa_at ?_ | refine nl_ptr ?_ | refine ex20 ?_ | refine ex21 ?_ | refine ex30 ?_ | refine ex31 ?_ | refine ex32 ?_ | refine ln_rule ?_ | refine lnT_rule ?_ | refine pu_and ?_ | refine pu_or ?_ | refine pu_xor ?_ | refine pu_seq ?_ | refine pu_sne ?_)
  have e1 : decide (((n + 1 : Nat) : Int) > 0) = true := by simp
  rw [e1]
  refine must_t ?_
  refine ⟨fun w => Ow B w H, h.drew, ?_⟩
  repeat (first | refine pu_not ?_ | refine pu_eql ?_ | refine pu_neq ?_ | refine pu_lss ?_ | refine pu_leq ?_ | refine pu_gtr ?_ | refine pu_geq ?_ | refine pu_add ?_ | refine pu_sub ?_ | refine pu_mul ?_ | refine pu_neg ?_ | refine fa_at ?_ | refine nl_ptr ?_ | refine ex20 ?_ | refine ex21 ?_ | refine ex30 ?_ | refine ex31 ?_ | refine ex32 ?_ | refine ln_rule ?_ | refine lnT_rule ?_ | refine pu_and ?_ | refine pu_or ?_ | refine pu_xor ?_ | refine pu_seq ?_ | refine pu_sne ?_)
  refine lds_here (fun w h => h) hm h4 ?_
  repeat (first | refine pu_not ?_ | refine pu_eql ?_ | refine pu_neq ?_ | refine pu_lss ?_ | refine pu_leq ?_ | refine pu_gtr ?_ | refine pu_geq ?_ | refine pu_add ?_ | refine pu_sub ?_ | refine pu_mul ?_ | refine pu_neg ?_ | refine fa_at ?_ | refine nl_ptr ?_ | refine ex20 ?_ | refine ex21 ?_ | refine ex30 ?_ | refine ex31 ?_ | refine ex32 ?_ | refine ln_rule ?_ | refine lnT_rule ?_ | refine pu_and ?_ | refine pu_or ?_ | refine pu_xor ?_ | refine pu_seq ?_ | refine pu_sne ?_)
  refine lds_here (fun w h => h) hm h4 ?_
  repeat (first | refine pu_not ?_ | refine pu_eql ?_ | refine pu_neq ?_ | refine pu_lss ?_ | refine pu_leq ?_ | refine pu_gtr ?_ | refine pu_geq ?_ | refine pu_add ?_ | refine pu_sub ?_ | refine pu_mul ?_ | refine pu_neg ?_ | refine fa_at ?_ | refine nl_ptr ?_ | refine ex20 ?_ | refine ex21 ?_ | refine ex30 ?_ | refine ex31 ?_ | refine ex32 ?_ | refine ln_rule ?_ | refine lnT_rule ?_ | refine pu_and ?_ | refine pu_or ?_ | refine pu_xor ?_ | refine pu_seq ?_ | refine pu_sne ?_)
  have e2 : IntKind.i64.wrap (((n + 1 : Nat) : Int) - 1) = (n : Int) := by rw [wrap64_in (by omega) (by omega)]; omega
  rw [e2]
  refine ixS_at (by omega) (by omega) ?_
  rw [Int.toNat_natCast, Nat.zero_add]
  exact k _ h.drew
/-! ### Frames -/
structure Frm where
  fn : Nat
  pc : Nat
  dest : Nat
  regs : List Int
deriving DecidableEq
abbrev rgs (l : List Int) : List Value := l.map vU
structure FE where
  S : Hp
  c : Value
  m : Frm
def FE.ok (e : FE) : Prop := Vc.Own e.S T.t_uint32 1 e.c e.m.regs.length (rgs e.m.regs)
def frow (m : Frm) (c : Value) : List Value := [vI m.fn, vI m.pc, vI m.dest, c]
def FE.row (e : FE) : List Value := frow e.m e.c
/-- The rows of frames, the top first; in memory the top is last. -/
def frw (es : List FE) : List (List Value) := (es.map FE.row).reverse
def ffoot (es : List FE) : Hp := es.flatMap FE.S
theorem frw_cons (t : FE) (lo : List FE) : frw (t :: lo) = frw lo ++ [t.row] := by simp [frw]
theorem frw_len (es : List FE) : (frw es).length = es.length := by simp [frw]
theorem und_slfrm : PG.underlying T.t_sl_api_Frame = some (.slice T.t_api_Frame) := by kernel_rfl
theorem und_slu : PG.underlying T.t_sl_uint32 = some (.slice T.t_uint32) := by kernel_rfl
theorem info_u : (PG.info? T.t_uint32).map (fun i => (i.zero, i.size, i.bytes)) = some (some (vU 0), 1, 4) := by kernel_rfl
theorem info_frm : (PG.info? T.t_api_Frame).map (fun i => (i.zero, i.size, i.bytes)) = some (some (.agg #[vI 0, vI 0, vI 0, .slice none 0 0]), 4, 48) := by kernel_rfl
theorem size_u : (PG.info? T.t_uint32).map (·.size) = some 1 := by kernel_rfl
abbrev zfrm : List Value := [vI 0, vI 0, vI 0, .slice none 0 0]
/-- Words, then zeros. -/
def padd (ws : List Int) (n : Nat) : List Int := ws ++ List.replicate (n - ws.length) 0
theorem padd_len {ws : List Int} {n : Nat} (h : ws.length ≤ n) : (padd ws n).length = n := by simp [padd]; omega
theorem rgs_plain (l : List Int) : (rgs l).all plainV = true := by simp [rgs, plainV]
theorem entered_spec {f regs dest : Nat} {a : Value} {ws : List Int} (h : Ow B w H) (hs : Sl X a (rgs ws)) (hX : ∀ x, x ∈ X → x ∈ H) (hl : ws.length ≤ regs) (hr : regs ≤ 1000) (k : ∀ S c w', Ow B w' (S ++ H) → Vc.Own S T.t_uint32 1 c regs (rgs (padd ws regs)) → K (.agg #[vI f, vI 0, vI dest, c]) w') :
    callW PG N.stack_entered [vI f, vI regs, vI dest, a] K PK w := by
  refine stack_entered.ok ?_
  unfold stack_entered.C
  refine al_rule h (l := zfrm) (by kernel_rfl) (fun bf w1 h1 => ?_)
  refine mkW_rule h1 (z := vU 0) (by kernel_rfl) (n := regs) (m := regs) rfl rfl (Nat.le_refl _) (by omega) (by omega) (fun g w2 h2 => ?_)
  have hz : (List.range (regs * 1)).map ((vU 0).cells[· % (vU 0).cells.size]!) = List.replicate regs (vU 0) := zeros_one rfl regs
  rw [hz] at h2
  refine cp_rule (A := []) h2 hs (fun x hx => .tail _ (.tail _ (hX x hx))) (by simpa using hl) (by simp) (fun v hv => ?_) und_slu size_u (fun r w3 h3 => ?_)
  · obtain ⟨x, _, rfl⟩ := List.mem_map.1 hv; rfl
  have e1 : rgs ws ++ (List.replicate regs (vU 0)).drop (rgs ws).length = rgs (padd ws regs) := by simp [rgs, padd]
  rw [e1] at h3
  refine pu_build [vI f, vI 0, vI dest, .slice (some ⟨g, 0, none⟩) regs regs] (by kernel_rfl) ?_
  refine st_here (A := [_]) h3 [vI f, vI 0, vI dest, .slice (some ⟨g, 0, none⟩) regs regs] rfl rfl rfl (by simp) (fun w4 h4 => ?_)
  simp only [List.take_zero, List.nil_append, Nat.zero_add, List.drop_succ_cons, List.drop_zero, List.drop_nil, List.append_nil] at h4
  refine ldn_here h4 (.tail _ (.head _)) (vs := [vI f, vI 0, vI dest, .slice (some ⟨g, 0, none⟩) regs regs]) rfl rfl ?_
  refine k [(g, cel (rgs (padd ws regs)) T.t_uint32)] _ _ (h4.sub (.cons_cons _ (.cons _ (.refl _)))) ?_
  refine Own.mk (Nat.le_refl _) (by simp only [maxLen]; omega) (by simp [rgs, padd_len hl]) ?_
  rw [Nat.mul_one]
  exact List.take_of_length_le (by simp [rgs, padd_len hl])
/-! ### What is told -/
theorem depth_none {s : Value} (h : Ow B w H) (hs : Nost H s) (k : K (vI 0) w) : callW PG N.stack_Stack_Depth [s] K PK w := by
  refine stack_Stack_Depth.ok ?_
  unfold stack_Stack_Depth.C
  exact nost_spec h hs (cnd_t rfl k)
theorem result_none {s : Value} (h : Ow B w H) (hs : Nost H s) (k : K (vU 0) w) : callW PG N.stack_Stack_Result [s] K PK w := by
  refine stack_Stack_Result.ok ?_
  unfold stack_Stack_Result.C
  exact nost_spec h hs (cnd_t rfl k)
theorem reg_none {s : Value} {i : Int} (h : Ow B w H) (hs : Nost H s) (k : K (vU 0) w) : callW PG N.stack_Stack_Reg [s, vI i] K PK w := by
  refine stack_Stack_Reg.ok ?_
  unfold stack_Stack_Reg.C
  refine depth_none h hs ?_
  repeat (first | refine pu_not ?_ | refine pu_eql ?_ | refine pu_neq ?_ | refine pu_lss ?_ | refine pu_leq ?_ | refine pu_gtr ?_ | refine pu_geq ?_ | refine pu_add ?_ | refine pu_sub ?_ | refine pu_mul ?_ | refine pu_neg ?_ | refine fa_at ?_ | refine nl_ptr ?_ | refine ex20 ?_ | refine ex21 ?_ | refine ex30 ?_ | refine ex31 ?_ | refine ex32 ?_ | refine ln_rule ?_ | refine lnT_rule ?_ | refine pu_and ?_ | refine pu_or ?_ | refine pu_xor ?_ | refine pu_seq ?_ | refine pu_sne ?_)
  exact cnd_t rfl k
theorem next_none {s : Value} (h : Ow B w H) (hs : Nost H s) (k : ∀ w', Ow B w' H → K (.tuple #[.agg (bare 0).cells.toArray, .agg #[vI 0, vI 0], vB false]) w') : callW PG N.stack_Stack_Next [s] K PK w := by
  refine stack_Stack_Next.ok ?_
  unfold stack_Stack_Next.C
  refine al_rule h (l := (bare 0).cells) zins (fun b1 w1 h1 => ?_)
  refine al_rule h1 (l := [vI 0, vI 0]) (by kernel_rfl) (fun b2 w2 h2 => ?_)
  have hs2 : Nost ((b2, cel [vI 0, vI 0] T.t_api_Site) :: (b1, cel (bare 0).cells T.t_api_Ins) :: H) s := by
    rcases hs with rfl | ⟨b, l, rfl, hm, h6⟩
    · exact .inl rfl
    · exact .inr ⟨b, l, rfl, .tail _ (.tail _ hm), h6⟩
  refine depth_none h2 hs2 ?_
  repeat (first | refine pu_not ?_ | refine pu_eql ?_ | refine pu_neq ?_ | refine pu_lss ?_ | refine pu_leq ?_ | refine pu_gtr ?_ | refine pu_geq ?_ | refine pu_add ?_ | refine pu_sub ?_ | refine pu_mul ?_ | refine pu_neg ?_ | refine fa_at ?_ | refine nl_ptr ?_ | refine ex20 ?_ | refine ex21 ?_ | refine ex30 ?_ | refine ex31 ?_ | refine ex32 ?_ | refine ln_rule ?_ | refine lnT_rule ?_ | refine pu_and ?_ | refine pu_or ?_ | refine pu_xor ?_ | refine pu_seq ?_ | refine pu_sne ?_)
  refine cnd_t rfl ?_
  refine pu_build (bare 0).cells (by kernel_rfl) ?_
  refine pu_build [vI 0, vI 0] (by kernel_rfl) ?_
  refine st_here (A := [_]) h2 (bare 0).cells rfl rfl (ins_plain _) (by simp [Ins.cells]) (fun w3 h3 => ?_)
  have e3 : (bare 0).cells.take 0 ++ (bare 0).cells ++ (bare 0).cells.drop (0 + 5) = (bare 0).cells := rfl
  rw [e3] at h3
  refine st_here (A := []) h3 [vI 0, vI 0] rfl rfl rfl (by simp) (fun w4 h4 => ?_)
  refine ldn_here h4 (.tail _ (.head _)) (vs := (bare 0).cells) rfl rfl ?_
  refine ldn_here h4 (.head _) (vs := [vI 0, vI 0]) rfl rfl ?_
  exact k _ (Ow.drop (Ow.drop h4))
theorem copy_none {s : Value} (h : Ow B w H) (hs : Nost H s) (k : K (.pointer none) w) : callW PG N.stack_Stack_Copy [s] K PK w := by
  refine stack_Stack_Copy.ok ?_
  unfold stack_Stack_Copy.C
  exact nost_spec h hs (cnd_t rfl k)
theorem same_none {s s' : Value} (h : Ow B w H) (hs : Nost H s) (hs' : Nost H s') (k : K (vB true) w) : callW PG N.stack_Same [s, s'] K PK w := by
  refine stack_Same.ok ?_
  unfold stack_Same.C
  refine nost_spec h hs (cnd_t rfl ?_)
  refine nost_spec h hs (cnd_t rfl ?_)
  exact nost_spec h hs' k
theorem same_one {s' : Value} (h : Ow B w H) (hm : (b, stO l) ∈ H) (h6 : l[6]? = some (vB true)) (hs' : Nost H s') (k : K (vB false) w) : callW PG N.stack_Same [ptr b, s'] K PK w := by
  refine stack_Same.ok ?_
  unfold stack_Same.C
  refine none_at h hm h6 (cnd_f rfl ?_)
  refine nost_spec h hs' (cnd_t rfl ?_)
  refine none_at h hm h6 (cnd_f rfl ?_)
  exact k
/-- Step, Pass: of none. -/
theorem step_none {s : Value} {most : Int} (h : Ow B w H) (hs : Nost H s) (k : ∀ w', Ow B w' H → K (vI 1) w') : callW PG N.stack_Stack_Step [s, vI most] K PK w := by
  refine stack_Stack_Step.ok ?_
  unfold stack_Stack_Step.C
  refine al_rule h (l := [vI 0]) (by kernel_rfl) (fun b1 w1 h1 => ?_)
  have hs2 : Nost ((b1, cel [vI 0] T.t_api_Errno) :: H) s := by
    rcases hs with rfl | ⟨b, l, rfl, hm, h6⟩
    · exact .inl rfl
    · exact .inr ⟨b, l, rfl, .tail _ hm, h6⟩
  refine nost_spec h1 hs2 ?_
  repeat (first | refine pu_not ?_ | refine pu_eql ?_ | refine pu_neq ?_ | refine pu_lss ?_ | refine pu_leq ?_ | refine pu_gtr ?_ | refine pu_geq ?_ | refine pu_add ?_ | refine pu_sub ?_ | refine pu_mul ?_ | refine pu_neg ?_ | refine fa_at ?_ | refine nl_ptr ?_ | refine ex20 ?_ | refine ex21 ?_ | refine ex30 ?_ | refine ex31 ?_ | refine ex32 ?_ | refine ln_rule ?_ | refine lnT_rule ?_ | refine pu_and ?_ | refine pu_or ?_ | refine pu_xor ?_ | refine pu_seq ?_ | refine pu_sne ?_)
  refine must_f ?_
  refine stack_lv_pan (A := []) h1 (fun w2 h2 => ?_)
  refine ld_here h2 (.head _) rfl ?_
  exact k _ (Ow.drop h2)
theorem pass_none {s : Value} {r wd : Int} (h : Ow B w H) (hs : Nost H s) (k : ∀ w', Ow B w' H → K (vI 1) w') : callW PG N.stack_Stack_Pass [s, vI r, vU wd] K PK w := by
  refine stack_Stack_Pass.ok ?_
  unfold stack_Stack_Pass.C
  refine al_rule h (l := [vI 0]) (by kernel_rfl) (fun b1 w1 h1 => ?_)
  have hs2 : Nost ((b1, cel [vI 0] T.t_api_Errno) :: H) s := by
    rcases hs with rfl | ⟨b, l, rfl, hm, h6⟩
    · exact .inl rfl
    · exact .inr ⟨b, l, rfl, .tail _ hm, h6⟩
  refine top_none h1 hs2 ?_
  refine stack_lv_pan (A := []) h1 (fun w2 h2 => ?_)
  refine ld_here h2 (.head _) rfl ?_
  exact k _ (Ow.drop h2)
end
end Go.Proofs.YtkkkcafkepnecaaGreat
