/-
  The laws by which a body is walked over values without memory: each operation as its next step, so that what follows is not looked into. Conditions: those that each theorem states. More of the kind.
-/
import Derived.Test.YtcoflmckbcnlpaaGreatDoorGAbt
namespace Go.Proofs.YtcoflmckbcnlpaaGreatDoor
open Go.RowKit
set_option maxRecDepth 100000
def asB (u : AV) (k : Bool → Prop) : Prop := match u with | .ex (.bool t) => k t | _ => False
def asI (u : AV) (k : IntKind → Int → Prop) : Prop := match u with | .ex (.int kd n) => k kd n | _ => False
def opt {α : Type} (x : Option α) (k : α → Prop) : Prop := match x with | some y => k y | none => False
def aif (c : Bool) (A B : Prop) : Prop := (c = true → A) ∧ (c = false → B)
theorem aif_true (A B : Prop) : aif true A B = A := by simp [aif]
theorem aif_false (A B : Prop) : aif false A B = B := by simp [aif]
theorem asB_b (t : Bool) (k : Bool → Prop) : asB (.ex (.bool t)) k = k t := rfl
theorem asI_i (kd : IntKind) (n : Int) (k : IntKind → Int → Prop) : asI (.ex (.int kd n)) k = k kd n := rfl
theorem opt_some {α : Type} (y : α) (k : α → Prop) : opt (some y) k = k y := rfl
@[congr] theorem aif_congr {c c' : Bool} {A B : Prop} (h : c = c') : aif c A B = aif c' A B := by rw [h]
@[congr] theorem asB_congr {u u' : AV} {k : Bool → Prop} (h : u = u') : asB u k = asB u' k := by rw [h]
@[congr] theorem asI_congr {u u' : AV} {k : IntKind → Int → Prop} (h : u = u') : asI u k = asI u' k := by rw [h]
@[congr] theorem opt_congr {α : Type} {x x' : Option α} {k : α → Prop} (h : x = x') : opt x k = opt x' k := by rw [h]
theorem asB_ex {u : AV} {k : Bool → Prop} : (∃ t, u = .ex (.bool t) ∧ k t) = asB u k := by
  apply propext
  unfold asB
  constructor
  · rintro ⟨t, rfl, h⟩; exact h
  · intro h
    split at h
    · exact ⟨_, rfl, h⟩
    · exact h.elim
theorem asI_ex {u : AV} {k : IntKind → Int → Prop} : (∃ kd n, u = .ex (.int kd n) ∧ k kd n) = asI u k := by
  apply propext
  unfold asI
  constructor
  · rintro ⟨kd, n, rfl, h⟩; exact h
  · intro h
    split at h
    · exact ⟨_, _, rfl, h⟩
    · exact h.elim
theorem opt_ex {α : Type} {x : Option α} {k : α → Prop} : (∃ y, x = some y ∧ k y) = opt x k := by
  apply propext
  unfold opt
  constructor
  · rintro ⟨y, rfl, h⟩; exact h
  · intro h
    split at h
    · exact ⟨_, rfl, h⟩
    · exact h.elim
section
variable {P : Program} {C : World → Prop} {id : Nat} {ty : Nat} {ev : Operand → AV} {hp : Nat → Option Row1} {k : AV → Eff → Prop}
@[congr] theorem awp_congr {c : Code} {Q : Exit → AS → Prop} {σ σ' : AS} (h : σ = σ') : awp P C c Q σ = awp P C c Q σ' := by rw [h]
@[congr] theorem aops_congr {ops : Array Oper} {nd b i : Nat} {l : List Oper} {K : AS → Prop} {σ σ' : AS} (h : σ = σ') : aops P C ops nd b i l K σ = aops P C ops nd b i l K σ' := by rw [h]
@[congr] theorem aval_congr {id' : Nat} {op : Op} (h : id = id') : aval P C id op ty ev hp k = aval P C id' op ty ev hp k := by rw [h]
@[congr] theorem opCall_congr {f : Nat} {args args' : List AV} (h : args = args') : opCall P C id f hp args k = opCall P C id f hp args' k := by rw [h]
@[congr] theorem opBin_congr {op : BinOp} {t : Nat} {x x' y y' : AV} (h : x = x') (h' : y = y') : opBin P op t x y k = opBin P op t x' y' k := by rw [h, h']
@[congr] theorem opUn_congr {op : UnOp} {x x' : AV} (h : x = x') : opUn op x k = opUn op x' k := by rw [h]
@[congr] theorem opConv_congr {s d : Nat} {x x' : AV} (h : x = x') : opConv P hp s d x k = opConv P hp s d x' k := by rw [h]
@[congr] theorem ldCell_congr {t off off' : Nat} {cs cs' : List AV} (h : cs = cs') (h' : off = off') : ldCell P t cs off k = ldCell P t cs' off' k := by rw [h, h']
@[congr] theorem opLen_congr {t : Nat} {x x' : AV} (h : x = x') : opLen P hp t x k = opLen P hp t x' k := by rw [h]
@[congr] theorem opApp_congr {e : Nat} {s s' : AV} {ns ns' : List (List AV)} (h : s = s') (h' : ns = ns') : opApp P hp id e s ns k = opApp P hp id e s' ns' k := by rw [h, h']
@[congr] theorem opIx_congr {t n n' : Nat} {x x' : AV} (h : x = x') (h' : n = n') : opIx P hp t x n k = opIx P hp t x' n' k := by rw [h, h']
@[congr] theorem opSlice_congr {t : Nat} {x x' : AV} {lo hi mx : Option Operand} (h : x = x') : opSlice P hp id t x ev lo hi mx k = opSlice P hp id t x' ev lo hi mx k := by rw [h]
theorem ev_pick {c a b : Operand} : aval P C id (.pick c a b) ty ev hp k = asB (ev c) fun t => k (if t then ev a else ev b) .none := asB_ex
theorem ev_box {t : Nat} {x : Operand} : aval P C id (.box t x) ty ev hp k = opt (ev x).cells fun cs => (cs.length = (aty P t).sz ∧ 0 < cs.length) ∧ k (.pt id 0 0) (.new ⟨t, [cs], true⟩) := opt_ex
def plc (hp : Nat → Option Row1) (u : AV) (k : List AV → Nat → Prop) : Prop := match u with
  | .rp cs off => k cs off
  | .pt b j off => opt (hp b) fun β => opt β.es[j]? fun e => k e off
  | _ => False
theorem plc_pt (b j off : Nat) (kk : List AV → Nat → Prop) : plc hp (.pt b j off) kk = opt (hp b) fun β => opt β.es[j]? fun e => kk e off := rfl
@[congr] theorem plc_congr {u u' : AV} {kk : List AV → Nat → Prop} (h : u = u') : plc hp u kk = plc hp u' kk := by rw [h]
theorem ev_load {t : Nat} {x : Operand} : aval P C id (.load t x) ty ev hp k = plc hp (ev x) fun cs off => ldCell P t cs off k := by
  unfold aval
  dsimp only
  generalize ev x = u
  cases u <;> try rfl
  rename_i b j off
  apply propext
  rw [plc_pt, ← opt_ex]
  constructor
  · rintro ⟨β, e, h1, h2, h3⟩; exact ⟨β, h1, by rw [← opt_ex]; exact ⟨e, h2, h3⟩⟩
  · rintro ⟨β, h1, h2⟩; rw [← opt_ex] at h2; obtain ⟨e, h2, h3⟩ := h2; exact ⟨β, e, h1, h2, h3⟩
def sto (hp : Nat → Option Row1) (u : AV) (k : Nat → Nat → Nat → Row1 → List AV → Prop) : Prop := match u with
  | .pt b j off => opt (hp b) fun β => opt β.es[j]? fun e => k b j off β e
  | _ => False
theorem sto_pt (b j off : Nat) (kk : Nat → Nat → Nat → Row1 → List AV → Prop) : sto hp (.pt b j off) kk = opt (hp b) fun β => opt β.es[j]? fun e => kk b j off β e := rfl
@[congr] theorem sto_congr {u u' : AV} {kk : Nat → Nat → Nat → Row1 → List AV → Prop} (h : u = u') : sto hp u kk = sto hp u' kk := by rw [h]
theorem ev_store {t : Nat} {x v : Operand} : aval P C id (.store t x v) ty ev hp k = sto hp (ev x) fun b j off β e => opt (ev v).cells fun cs => (β.mu = true ∧ cs.length = (aty P t).sz ∧ 0 < cs.length ∧ off + cs.length ≤ e.length) ∧
    k .junk (.set b ⟨β.ty, β.es.set j (e.take off ++ cs ++ e.drop (off + cs.length)), true⟩) := by
  unfold aval
  dsimp only
  generalize ev x = u
  cases u <;> try rfl
  rename_i b j off
  apply propext
  rw [sto_pt, ← opt_ex]
  constructor
  · rintro ⟨β, e, cs, h1, h2, h3, h4, ⟨h5, h6, h7⟩, h8⟩
    refine ⟨β, h1, ?_⟩
    rw [← opt_ex]
    refine ⟨e, h3, ?_⟩
    rw [← opt_ex]
    exact ⟨cs, h4, ⟨h2, h5, h6, h7⟩, h8⟩
  · rintro ⟨β, h1, h2⟩
    rw [← opt_ex] at h2
    obtain ⟨e, h3, h2⟩ := h2
    rw [← opt_ex] at h2
    obtain ⟨cs, h4, ⟨h2, h5, h6, h7⟩, h8⟩ := h2
    exact ⟨β, e, cs, h1, h2, h3, h4, ⟨h5, h6, h7⟩, h8⟩
theorem ev_makeSlice {t : Nat} {x y : Operand} : aval P C id (.makeSlice t x y) ty ev hp k = asI (ev x) fun kx n => asI (ev y) fun ky c => (kx = .i64 ∧ ky = .i64) ∧ match (aty P t).k with
    | .slice e => ((aty P e).zero.length = (aty P e).sz ∧ 0 < (aty P e).sz ∧ 1 ≤ (aty P e).bytes ∧ (aty P e).zero.all (·.oneCell') = true) ∧ if n = 0 then (n = 0 ∧ 0 ≤ c ∧ (aty P e).bytes * c.toNat ≤ 140737488355328) ∧ k (.own id) (.new ⟨e, [], true⟩)
        else (0 ≤ n ∧ n = c ∧ (aty P e).bytes * n.toNat ≤ 140737488355328) ∧ k (.own id) (.new ⟨e, List.replicate n.toNat ((aty P e).zero.map .ex), true⟩)
    | _ => False := by
  apply propext
  rw [← asI_ex]
  unfold aval
  dsimp only
  constructor
  · rintro ⟨n, c, h1, h2, h3⟩
    refine ⟨_, n, h1, ?_⟩
    rw [← asI_ex]
    exact ⟨_, c, h2, ⟨rfl, rfl⟩, h3⟩
  · rintro ⟨kx, n, h1, h2⟩
    rw [← asI_ex] at h2
    obtain ⟨ky, c, h2, ⟨rfl, rfl⟩, h3⟩ := h2
    exact ⟨n, c, h1, h2, h3⟩
def fld (u : AV) (o : Nat) (k : AV → Eff → Prop) : Prop := match u with
  | .rp cs off => k (.rp cs (off + o)) .none
  | .pt b j off => k (.pt b j (off + o)) .none
  | _ => False
theorem fld_rp (cs : List AV) (off o : Nat) : fld (.rp cs off) o k = k (.rp cs (off + o)) .none := rfl
theorem fld_pt (b j off o : Nat) : fld (.pt b j off) o k = k (.pt b j (off + o)) .none := rfl
@[congr] theorem fld_congr {u u' : AV} {o : Nat} (h : u = u') : fld u o k = fld u' o k := by rw [h]
theorem ev_fieldAddr {s : Nat} {x : Operand} {f : Nat} : aval P C id (.fieldAddr s x f) ty ev hp k = opt (aty P s).flds[f]? fun p => (aty P p.2).sz ≠ 0 ∧ fld (ev x) p.1 k := by
  apply propext
  rw [← opt_ex]
  unfold aval fld
  dsimp only
  constructor
  · rintro ⟨o, ft, h1, h2, h3⟩; exact ⟨(o, ft), h1, h2, h3⟩
  · rintro ⟨⟨o, ft⟩, h1, h2, h3⟩; exact ⟨o, ft, h1, h2, h3⟩
def agc (u : AV) (k : List AV → Prop) : Prop := match u with | .agg cs => k cs | _ => False
theorem agc_a (cs : List AV) (kk : List AV → Prop) : agc (.agg cs) kk = kk cs := rfl
@[congr] theorem agc_congr {u u' : AV} {kk : List AV → Prop} (h : u = u') : agc u kk = agc u' kk := by rw [h]
theorem ev_field {s : Nat} {x : Operand} {f : Nat} : aval P C id (.field s x f) ty ev hp k = opt (aty P s).flds[f]? fun p => agc (ev x) fun cs => ldCell P p.2 cs p.1 k := by
  apply propext
  rw [← opt_ex]
  unfold aval agc
  dsimp only
  constructor
  · rintro ⟨o, ft, h1, h3⟩; exact ⟨(o, ft), h1, h3⟩
  · rintro ⟨⟨o, ft⟩, h1, h3⟩; exact ⟨o, ft, h1, h3⟩
theorem ev_indexAddr {t : Nat} {x i : Operand} : aval P C id (.indexAddr t x i) ty ev hp k = asI (ev i) fun _ n => 0 ≤ n ∧ opIx P hp t (ev x) n.toNat k := asI_ex
def opIxv (P : Program) (t : TypeId) (u : AV) (n : Nat) (k : AV → Eff → Prop) : Prop := match (aty P t).k, u with
    | .str, .ex (.string s) => ∃ h : n < s.size, k (.ex (.int .u8 (s[n]'h).toNat)) .none
    | .arr len e, .agg cs => 0 < (aty P e).sz ∧ n < len ∧ ldCell P e cs (n * (aty P e).sz) k
    | _, _ => False
@[congr] theorem opIxv_congr {t n n' : Nat} {x x' : AV} (h : x = x') (h' : n = n') : opIxv P t x n k = opIxv P t x' n' k := by rw [h, h']
theorem ev_index {t : Nat} {x i : Operand} : aval P C id (.index t x i) ty ev hp k = asI (ev i) fun _ n => 0 ≤ n ∧ opIxv P t (ev x) n.toNat k := asI_ex
def tupc (u : AV) (k : List AV → Prop) : Prop := match u with | .tup cs => k cs | _ => False
theorem tupc_a (cs : List AV) (kk : List AV → Prop) : tupc (.tup cs) kk = kk cs := rfl
@[congr] theorem tupc_congr {u u' : AV} {kk : List AV → Prop} (h : u = u') : tupc u kk = tupc u' kk := by rw [h]
theorem ev_extract {x : Operand} {i : Nat} : aval P C id (.extract x i) ty ev hp k = tupc (ev x) fun vs => opt vs[i]? fun u => k u .none := by
  unfold aval
  dsimp only
  generalize ev x = u
  cases u <;> try rfl
  exact opt_ex
theorem ev_callf {f : Nat} {args : Array Operand} {tys : Array Nat} : aval P C id (.call ⟨.value (.func f), args, tys⟩) ty ev hp k = opCall P C id f hp (args.toList.map ev) k := rfl
def fnv (u : AV) (kk : Nat → List AV → Prop) : Prop := match u with
  | .fn f caps => kk f caps
  | .ex (.func (.func f) a b) => (a = #[] ∧ b = #[]) ∧ kk f []
  | _ => False
@[congr] theorem fnv_congr {u u' : AV} {kk : Nat → List AV → Prop} (h : u = u') : fnv u kk = fnv u' kk := by rw [h]
theorem fnv_fn {f : Nat} {caps : List AV} {kk : Nat → List AV → Prop} : fnv (.fn f caps) kk = kk f caps := rfl
theorem fnv_func {f : Nat} {kk : Nat → List AV → Prop} : fnv (.ex (.func (.func f) #[] #[])) kk = kk f [] := by simp [fnv]
def kfn (P : Program) (C : World → Prop) (id : Nat) (hp : Nat → Option Row1) (args : List AV) (k : AV → Eff → Prop) (f : Nat) (caps : List AV) : Prop := opCall P C id f hp (args ++ caps) k
theorem kfn_at {args : List AV} {f : Nat} {caps : List AV} : kfn P C id hp args k f caps = opCall P C id f hp (args ++ caps) k := rfl
theorem ev_callv {t : Nat} {args : Array Operand} {tys : Array Nat} : aval P C id (.call ⟨.value (.tmp t), args, tys⟩) ty ev hp k = fnv (ev (.tmp t)) (kfn P C id hp (args.toList.map ev) k) := by
  unfold aval fnv
  dsimp only
  generalize ev (.tmp t) = u
  cases u with
  | ex v =>
    cases v with
    | func fn a b => cases fn <;> simp [kfn]
    | _ => rfl
  | fn f caps => rfl
  | _ => rfl
theorem ev_mkf {f : Nat} {caps : Array Operand} : aval P C id (.makeFunc (.func f) #[] caps) ty ev hp k = k (.fn f (caps.toList.map ev)) .none := by simp [aval]
theorem ev_len {x : Operand} {t : Nat} : aval P C id (.call ⟨.builtin .len, #[x], #[t]⟩) ty ev hp k = opLen P hp t (ev x) k := rfl
def rdApp (hp : Nat → Option Row1) : AV → Option (List (List AV))
  | .ex (.string _) => none
  | u => rdSl hp u
theorem ev_app {s x : Operand} {t t2 : Nat} : aval P C id (.call ⟨.builtin .append, #[s, x], #[t, t2]⟩) ty ev hp k = match (aty P t).k with
        | .slice e => t2 = t ∧ opt (rdApp hp (ev x)) fun ns => opApp P hp id e (ev s) ns k
        | _ => False := by
  unfold aval
  dsimp only
  cases (aty P t).k <;> try rfl
  dsimp only
  apply propext
  rw [← opt_ex]
  constructor
  · intro h
    split at h
    · exact h.elim
    · rename_i hne
      obtain ⟨h1, ns, h2, h3⟩ := h
      refine ⟨h1, ns, ?_, h3⟩
      unfold rdApp
      split
      · rename_i q heq; exact absurd heq (hne q)
      · exact h2
  · rintro ⟨h1, ns, h2, h3⟩
    unfold rdApp at h2
    split at h2
    · cases h2
    · rename_i hne
      split
      · rename_i q heq; exact absurd heq (hne q)
      · exact ⟨h1, ns, h2, h3⟩
theorem ev_min {x y : Operand} {tys : Array Nat} : aval P C id (.call ⟨.builtin .min, #[x, y], tys⟩) ty ev hp k = asI (ev x) fun kd a => asI (ev y) fun _ b => k (.ex (.int kd (if b < a then b else a))) .none := by
  apply propext
  rw [← asI_ex]
  constructor
  · rintro ⟨kd, p, kd', q, h1, h2, h3⟩
    refine ⟨kd, p, h1, ?_⟩
    rw [← asI_ex]
    exact ⟨kd', q, h2, h3⟩
  · rintro ⟨kd, p, h1, h2⟩
    rw [← asI_ex] at h2
    obtain ⟨kd', q, h2, h3⟩ := h2
    exact ⟨kd, p, kd', q, h1, h2, h3⟩
theorem ev_max {x y : Operand} {tys : Array Nat} : aval P C id (.call ⟨.builtin .max, #[x, y], tys⟩) ty ev hp k = asI (ev x) fun kd a => asI (ev y) fun _ b => k (.ex (.int kd (if a < b then b else a))) .none := by
  apply propext
  rw [← asI_ex]
  constructor
  · rintro ⟨kd, p, kd', q, h1, h2, h3⟩
    refine ⟨kd, p, h1, ?_⟩
    rw [← asI_ex]
    exact ⟨kd', q, h2, h3⟩
  · rintro ⟨kd, p, h1, h2⟩
    rw [← asI_ex] at h2
    obtain ⟨kd', q, h2, h3⟩ := h2
    exact ⟨kd, p, kd', q, h1, h2, h3⟩
end
end Go.Proofs.YtcoflmckbcnlpaaGreatDoor
namespace Go.Proofs.YtcoflmckbcnlpaaGreatDoor
open Go.RowKit
set_option maxRecDepth 100000
section
variable {P : Program} {C : World → Prop} {id : Nat} {ty : Nat} {ev : Operand → AV} {hp : Nat → Option Row1} {k : AV → Eff → Prop}
theorem ev_move {x : Operand} : aval P C id (.move x) ty ev hp k = k (ev x) .none := rfl
theorem ev_assign_tmp {t : Nat} : aval P C id (.assign (.tmp t)) ty ev hp k = k (ev (.tmp t)) .none := by
  unfold aval
  simp only [nilConst]
theorem ev_assign_const {v : Value} : aval P C id (.assign (.const v)) ty ev hp k = match nilConst (.const v), (aty P ty).k with
    | true, .slice e => k (.own id) (.new ⟨e, [], true⟩)
    | _, _ => k (ev (.const v)) .none := rfl
theorem nilConst_int (kd : IntKind) (n : Int) : nilConst (.const (.int kd n)) = false := rfl
theorem nilConst_bool (b : Bool) : nilConst (.const (.bool b)) = false := rfl
theorem nilConst_str (s : ByteArray) : nilConst (.const (.string s)) = false := rfl
theorem nilConst_nil : nilConst (.const (.slice none 0 0)) = true := rfl
theorem ev_alloc {t : Nat} : aval P C id (.alloc t) ty ev hp k = (((aty P t).zero.length = (aty P t).sz ∧ 0 < (aty P t).sz ∧ (aty P t).zero.all (·.oneCell') = true) ∧ k (.pt id 0 0) (.alc t ((aty P t).zero.map .ex))) := rfl
theorem ev_nilCheck {x : Operand} : aval P C id (.nilCheck x) ty ev hp k = fld (ev x) 0 k := by
  unfold aval fld
  dsimp only
  generalize ev x = u
  cases u <;> rfl
theorem ev_bin {op : BinOp} {t ty' : Nat} {x y : Operand} : aval P C id (.binOp op t x y ty') ty ev hp k = opBin P op t (ev x) (ev y) k := rfl
theorem ev_un {op : UnOp} {t : Nat} {x : Operand} : aval P C id (.unOp op t x) ty ev hp k = opUn op (ev x) k := rfl
theorem ev_conv {s d : Nat} {x : Operand} : aval P C id (.convert s d x) ty ev hp k = opConv P hp s d (ev x) k := rfl
theorem ev_slice {t : Nat} {x : Operand} {lo hi mx : Option Operand} : aval P C id (.slice t x lo hi mx) ty ev hp k = opSlice P hp id t (ev x) ev lo hi mx k := rfl
theorem ev_build {t : Nat} {parts : List (Nat × Operand)} : aval P C id (.build t parts.toArray) ty ev hp k = (((aty P t).zero.length = (aty P t).sz ∧ 0 < (aty P t).sz ∧ (aty P t).zero.all (·.oneCell') = true) ∧ match (aty P t).k with
    | .struct => ((aty P t).flds.all fun f => decide (0 < (aty P f.2).sz)) = true ∧ opt (fillA (fun i => ((aty P t).flds.map fun f => (f.1, (aty P f.2).sz))[i]?) ((aty P t).zero.map .ex) (parts.map fun x => (x.1, ev x.2))) fun cs => k (.agg cs) .none
    | .arr _ e => 0 < (aty P e).sz ∧ opt (fillA (fun i => some (i * (aty P e).sz, (aty P e).sz)) ((aty P t).zero.map .ex) (parts.map fun x => (x.1, ev x.2))) fun cs => k (.agg cs) .none
    | _ => False) := by
  unfold aval
  dsimp only
  congr 1
  cases (aty P t).k <;> first | rfl | (dsimp only; congr 1; exact opt_ex)
theorem ev_buildSlice {t len : Nat} {parts : List (Nat × Operand)} : aval P C id (.buildSlice t len parts.toArray) ty ev hp k = match (aty P t).k with
    | .slice e => ((aty P e).zero.length = (aty P e).sz ∧ 0 < (aty P e).sz ∧ len * (aty P e).sz ≤ 16777216 ∧ (aty P e).zero.all (·.oneCell') = true) ∧
        (parts.map (·.1) = List.range len ∧ (parts.all fun x => ((ev x.2).cells.map (·.length)) == some (aty P e).sz) = true) ∧
          (k (.own id) (.new ⟨e, parts.filterMap (fun x => (ev x.2).cells), true⟩) ∨ (len = 0 ∧ k .em .none))
    | _ => False := rfl
section
variable {t : Nat} {kd : IntKind} {a b : Int}
theorem bin_add : opBin P .add t (.ex (.int kd a)) (.ex (.int kd b)) k = k (.ex (.int kd (kd.wrap (a + b)))) .none := by simp [opBin, opInt]
theorem bin_sub : opBin P .sub t (.ex (.int kd a)) (.ex (.int kd b)) k = k (.ex (.int kd (kd.wrap (a - b)))) .none := by simp [opBin, opInt]
theorem bin_mul : opBin P .mul t (.ex (.int kd a)) (.ex (.int kd b)) k = k (.ex (.int kd (kd.wrap (a * b)))) .none := by simp [opBin, opInt]
theorem bin_quo : opBin P .quo t (.ex (.int kd a)) (.ex (.int kd b)) k = (b ≠ 0 ∧ k (.ex (.int kd (kd.wrap (a.tdiv b)))) .none) := by simp [opBin, opInt]
theorem bin_rem : opBin P .rem t (.ex (.int kd a)) (.ex (.int kd b)) k = (b ≠ 0 ∧ k (.ex (.int kd (a.tmod b))) .none) := by simp [opBin, opInt]
theorem bin_xor : opBin P .xor t (.ex (.int kd a)) (.ex (.int kd b)) k = k (.ex (.int kd (kd.wrap (BitVec.ofInt kd.bits a ^^^ BitVec.ofInt kd.bits b).toNat))) .none := by simp [opBin, opInt]
theorem bin_and : opBin P .and t (.ex (.int kd a)) (.ex (.int kd b)) k = k (.ex (.int kd (kd.wrap (BitVec.ofInt kd.bits a &&& BitVec.ofInt kd.bits b).toNat))) .none := by simp [opBin, opInt]
theorem bin_or : opBin P .or t (.ex (.int kd a)) (.ex (.int kd b)) k = k (.ex (.int kd (kd.wrap (BitVec.ofInt kd.bits a ||| BitVec.ofInt kd.bits b).toNat))) .none := by simp [opBin, opInt]
theorem bin_eql : opBin P .eql t (.ex (.int kd a)) (.ex (.int kd b)) k = k (.ex (.bool (decide (a = b)))) .none := by simp [opBin, opInt]
theorem bin_neq : opBin P .neq t (.ex (.int kd a)) (.ex (.int kd b)) k = k (.ex (.bool (!decide (a = b)))) .none := by simp [opBin, opInt]
theorem bin_lss : opBin P .lss t (.ex (.int kd a)) (.ex (.int kd b)) k = k (.ex (.bool (decide (a < b)))) .none := by simp [opBin, opInt]
theorem bin_leq : opBin P .leq t (.ex (.int kd a)) (.ex (.int kd b)) k = k (.ex (.bool (decide (a ≤ b)))) .none := by simp [opBin, opInt]
theorem bin_gtr : opBin P .gtr t (.ex (.int kd a)) (.ex (.int kd b)) k = k (.ex (.bool (decide (b < a)))) .none := by simp [opBin, opInt]
theorem bin_geq : opBin P .geq t (.ex (.int kd a)) (.ex (.int kd b)) k = k (.ex (.bool (decide (b ≤ a)))) .none := by simp [opBin, opInt]
theorem bin_shl {kb : IntKind} : opBin P .shl t (.ex (.int kd a)) (.ex (.int kb b)) k = (0 ≤ b ∧ k (.ex (.int kd (kd.wrap (a * 2 ^ (min b.toNat kd.bits))))) .none) := by simp [opBin]
theorem bin_shr {kb : IntKind} : opBin P .shr t (.ex (.int kd a)) (.ex (.int kb b)) k = (0 ≤ b ∧ k (.ex (.int kd (a.fdiv (2 ^ (min b.toNat kd.bits))))) .none) := by simp [opBin]
theorem bin_sadd {x y : ByteArray} : opBin P .add t (.ex (.string x)) (.ex (.string y)) k = (x.size + y.size ≤ 9223372036854775807 ∧ k (.ex (.string (x ++ y))) .none) := by simp [opBin, opStr]
theorem bin_seql {x y : ByteArray} : opBin P .eql t (.ex (.string x)) (.ex (.string y)) k = k (.ex (.bool (decide (x = y)))) .none := by simp [opBin, opStr]
theorem bin_sneq {x y : ByteArray} : opBin P .neq t (.ex (.string x)) (.ex (.string y)) k = k (.ex (.bool (!decide (x = y)))) .none := by simp [opBin, opStr]
theorem bin_slss {x y : ByteArray} : opBin P .lss t (.ex (.string x)) (.ex (.string y)) k = k (.ex (.bool (Op.bytesLess x.data.toList y.data.toList))) .none := by simp [opBin, opStr]
theorem bin_sgtr {x y : ByteArray} : opBin P .gtr t (.ex (.string x)) (.ex (.string y)) k = k (.ex (.bool (!(Op.bytesLess x.data.toList y.data.toList || decide (x = y))))) .none := by simp [opBin, opStr]
theorem bin_beql {x y : Bool} : opBin P .eql t (.ex (.bool x)) (.ex (.bool y)) k = ((aty P t).k = .bool ∧ k (.ex (.bool (x == y))) .none) := by simp [opBin, and_comm]
theorem bin_bneq {x y : Bool} : opBin P .neq t (.ex (.bool x)) (.ex (.bool y)) k = ((aty P t).k = .bool ∧ k (.ex (.bool (x != y))) .none) := by simp [opBin, and_comm]
theorem bin_aeql {x y : List AV} : opBin P .eql t (.agg x) (.agg y) k = ∃ b, AggEq P t x y b ∧ k (.ex (.bool b)) .none := by simp [opBin]
theorem bin_aneq {x y : List AV} : opBin P .neq t (.agg x) (.agg y) k = ∃ b, AggEq P t x y b ∧ k (.ex (.bool (!b))) .none := by simp [opBin]
theorem bin_seq {es : List (List AV)} : opBin P .eql t (.sl es) (.ex (.slice none 0 0)) k = ((match (aty P t).k with | .slice _ => True | _ => False) ∧ k (.nq es) .none) := propext and_comm
theorem bin_ieql {x : Nat} {v : Value} : opBin P .eql t (.ex (.iface x v)) (.ex .nilIface) k = ((aty P t).k = .iface ∧ k (.ex (.bool false)) .none) := by simp [opBin, and_comm]
theorem bin_ineq {x : Nat} {v : Value} : opBin P .neq t (.ex (.iface x v)) (.ex .nilIface) k = ((aty P t).k = .iface ∧ k (.ex (.bool true)) .none) := by simp [opBin, and_comm]
theorem un_not {b : Bool} : opUn .not (.ex (.bool b)) k = k (.ex (.bool (!b))) .none := rfl
theorem un_neg : opUn .neg (.ex (.int kd a)) k = k (.ex (.int kd (kd.wrap (0 - a)))) .none := rfl
theorem un_xor : opUn .xor (.ex (.int kd a)) k = k (.ex (.int kd (kd.wrap (BitVec.ofInt kd.bits (if kd.signed then -1 else kd.max) ^^^ BitVec.ofInt kd.bits a).toNat))) .none := rfl
end
theorem conv_int {s d : Nat} {kd : IntKind} {n : Int} : opConv P hp s d (.ex (.int kd n)) k = match (aty P d).k with
    | .int kd' => (aty P s).known = true ∧ k (.ex (.int kd' (kd'.wrap n))) .none
    | .str => (match (aty P s).k with | .slice e => (match (aty P e).k with | .int .u8 => True | _ => False) | _ => False) ∧ ∃ l, rdSl hp (.ex (.int kd n)) = some (bcells l) ∧ k (.ex (.string ⟨l.toArray⟩)) .none
    | _ => False := by
  unfold opConv
  cases (aty P d).k <;> rfl
theorem conv_str {s d : Nat} {x : ByteArray} : opConv P hp s d (.ex (.string x)) k = match (aty P d).k with
    | .str => (aty P s).k = .str ∧ k (.ex (.string x)) .none
    | .slice e => (aty P s).k = .str ∧ (match (aty P e).k with | .int .u8 => x.size ≤ maxLen ∧ k (.sl (bcells x.data.toList)) .none | _ => False)
    | _ => False := by
  unfold opConv
  cases (aty P d).k <;> rfl
def toStr (hp : Nat → Option Row1) (u : AV) (k : ByteArray → Prop) : Prop := ∃ l, rdSl hp u = some (bcells l) ∧ k ⟨l.toArray⟩
@[congr] theorem toStr_congr {u u' : AV} {kk : ByteArray → Prop} (h : u = u') : toStr hp u kk = toStr hp u' kk := by rw [h]
theorem bcells_inj : ∀ {l l' : List UInt8}, bcells l = bcells l' → l = l'
  | [], [], _ => rfl
  | [], _ :: _, h => by simp [bcells] at h
  | _ :: _, [], h => by simp [bcells] at h
  | c :: l, c' :: l', h => by
    simp only [bcells, List.map_cons, List.cons.injEq, AV.ex.injEq, Value.int.injEq, true_and, and_true] at h
    obtain ⟨h1, h2⟩ := h
    have : c = c' := UInt8.toNat_inj.1 (by omega)
    have ih := bcells_inj (l := l) (l' := l') (by simpa [bcells] using h2)
    rw [this, ih]
theorem toStr_sl {l : List UInt8} {kk : ByteArray → Prop} : toStr hp (.sl (bcells l)) kk = kk ⟨l.toArray⟩ := by
  apply propext
  unfold toStr
  simp only [rdSl, Option.some.injEq]
  constructor
  · rintro ⟨l', h1, h2⟩; cases bcells_inj h1; exact h2
  · intro h; exact ⟨l, rfl, h⟩
theorem conv_sl {s d : Nat} {es : List (List AV)} : opConv P hp s d (.sl es) k = match (aty P d).k with
    | .str => (match (aty P s).k with | .slice e => (match (aty P e).k with | .int .u8 => True | _ => False) | _ => False) ∧ toStr hp (.sl es) fun x => k (.ex (.string x)) .none
    | _ => False := by
  unfold opConv
  cases (aty P d).k <;> rfl
theorem conv_ow {s d : Nat} {b : Nat} : opConv P hp s d (.own b) k = match (aty P d).k with
    | .str => (match (aty P s).k with | .slice e => (match (aty P e).k with | .int .u8 => True | _ => False) | _ => False) ∧ toStr hp (.own b) fun x => k (.ex (.string x)) .none
    | _ => False := by
  unfold opConv
  cases (aty P d).k <;> rfl
theorem len_str {t : Nat} {x : ByteArray} : opLen P hp t (.ex (.string x)) k = match (aty P t).k with
    | .str => k (.ex (.int .i64 x.size)) .none
    | .arr n _ => k (.ex (.int .i64 n)) .none
    | .slice _ => opt (rdSl hp (.ex (.string x))) fun es => k (.ex (.int .i64 es.length)) .none
    | _ => False := by
  unfold opLen
  cases (aty P t).k <;> first | rfl | exact opt_ex
theorem len_sl {t : Nat} {es : List (List AV)} : opLen P hp t (.sl es) k = match (aty P t).k with
    | .arr n _ => k (.ex (.int .i64 n)) .none
    | .slice _ => k (.ex (.int .i64 es.length)) .none
    | _ => False := by
  unfold opLen
  cases (aty P t).k <;> first | rfl | (dsimp only; rw [opt_ex]; rfl)
theorem len_own {t : Nat} {b : Nat} : opLen P hp t (.own b) k = match (aty P t).k with
    | .arr n _ => k (.ex (.int .i64 n)) .none
    | .slice _ => opt (hp b) fun β => k (.ex (.int .i64 β.es.length)) .none
    | _ => False := by
  unfold opLen
  cases (aty P t).k <;> first
    | rfl
    | (dsimp only
       rw [opt_ex]
       simp only [rdSl]
       cases hp b <;> rfl)
theorem ix_own {t b n : Nat} : opIx P hp t (.own b) n k = match (aty P t).k with
    | .slice e => opt (hp b) fun β => ((β.ty = e ∧ 0 < (aty P e).sz) ∧ n < β.es.length) ∧ k (.pt b n 0) .none
    | _ => False := by
  unfold opIx
  cases (aty P t).k <;> try rfl
  apply propext
  dsimp only
  rw [← opt_ex]
  constructor
  · rintro ⟨β, h1, h2, h3, h4⟩; exact ⟨β, h1, ⟨h2, h3⟩, h4⟩
  · rintro ⟨β, h1, ⟨h2, h3⟩, h4⟩; exact ⟨β, h1, h2, h3, h4⟩
theorem ix_sl {t n : Nat} {es : List (List AV)} : opIx P hp t (.sl es) n k = match (aty P t).k with
    | .slice e => opt es[n]? fun x => (0 < (aty P e).sz ∧ x.length = (aty P e).sz) ∧ k (.rp x 0) .none
    | _ => False := by
  unfold opIx
  cases (aty P t).k <;> try rfl
  apply propext
  dsimp only
  rw [← opt_ex]
  constructor
  · rintro ⟨h1, h2, h3, h4⟩; exact ⟨es[n], List.getElem?_eq_getElem h2, ⟨h1, h3⟩, h4⟩
  · rintro ⟨x, h1, ⟨h2, h3⟩, h4⟩
    obtain ⟨h5, h6⟩ := List.getElem?_eq_some_iff.1 h1
    subst h6
    exact ⟨h2, h5, h3, h4⟩
theorem ix_rp {t n off : Nat} {cs : List AV} : opIx P hp t (.rp cs off) n k = match (aty P t).k with
    | .arr len e => 0 < (aty P e).sz ∧ n < len ∧ k (.rp cs (off + n * (aty P e).sz)) .none
    | _ => False := by
  unfold opIx
  cases (aty P t).k <;> rfl
theorem ix_pt {t n b j off : Nat} : opIx P hp t (.pt b j off) n k = match (aty P t).k with
    | .arr len e => 0 < (aty P e).sz ∧ n < len ∧ k (.pt b j (off + n * (aty P e).sz)) .none
    | _ => False := by
  unfold opIx
  cases (aty P t).k <;> rfl
theorem ixv_str {t n : Nat} {x : ByteArray} : opIxv P t (.ex (.string x)) n k = match (aty P t).k with
    | .str => ∃ h : n < x.size, k (.ex (.int .u8 (x[n]'h).toNat)) .none
    | _ => False := by
  unfold opIxv
  cases (aty P t).k <;> rfl
theorem ixv_agg {t n : Nat} {cs : List AV} : opIxv P t (.agg cs) n k = match (aty P t).k with
    | .arr len e => 0 < (aty P e).sz ∧ n < len ∧ ldCell P e cs (n * (aty P e).sz) k
    | _ => False := by
  unfold opIxv
  cases (aty P t).k <;> rfl
theorem slice_str {t : Nat} {x : ByteArray} {lo hi mx : Option Operand} : opSlice P hp id t (.ex (.string x)) ev lo hi mx k = match (aty P t).k with
    | .str => mx = none ∧ bnd 0 ev lo fun l => bnd x.size ev hi fun h => l ≤ h ∧ h ≤ x.size ∧ k (.ex (.string (x.extract l h))) .none
    | _ => False := by
  unfold opSlice
  cases (aty P t).k <;> rfl
theorem slice_sl {t : Nat} {es : List (List AV)} {lo hi mx : Option Operand} : opSlice P hp id t (.sl es) ev lo hi mx k = match (aty P t).k with
    | .slice e => (0 < (aty P e).sz ∧ (hi = none → mx = none) ∧ ∀ x ∈ es, x.length = (aty P e).sz) ∧ bnd 0 ev lo fun l => bnd es.length ev hi fun h => bnd es.length ev mx fun m => l ≤ h ∧ h ≤ m ∧ m ≤ es.length ∧ k (.sl ((es.take h).drop l)) .none
    | _ => False := by
  unfold opSlice
  cases (aty P t).k <;> rfl
theorem app_own {e b : Nat} {ns : List (List AV)} : opApp P hp id e (.own b) ns k = (((aty P e).zero.length = (aty P e).sz ∧ 0 < (aty P e).sz ∧ 1 ≤ (aty P e).bytes ∧ ∀ n ∈ ns, n.length = (aty P e).sz) ∧
    opt (hp b) fun β => (β.mu = true ∧ β.ty = e ∧ (β.es.length + ns.length) * (aty P e).bytes ≤ 140737488355328) ∧ k (.own id) (.grow b ⟨e, β.es ++ ns, true⟩)) := by
  apply propext
  unfold opApp
  rw [← opt_ex]
  constructor
  · rintro ⟨h0, β, h1, h2, h3, h4, h5⟩; exact ⟨h0, β, h1, ⟨h2, h3, h4⟩, h5⟩
  · rintro ⟨h0, β, h1, ⟨h2, h3, h4⟩, h5⟩; exact ⟨h0, β, h1, h2, h3, h4, h5⟩
theorem app_nil {e : Nat} {ns : List (List AV)} : opApp P hp id e (.ex (.slice none 0 0)) ns k = (((aty P e).zero.length = (aty P e).sz ∧ 0 < (aty P e).sz ∧ 1 ≤ (aty P e).bytes ∧ ∀ n ∈ ns, n.length = (aty P e).sz) ∧
    ns.length * (aty P e).bytes ≤ 140737488355328 ∧ k (.own id) (.new ⟨e, ns, true⟩)) := rfl
theorem rdApp_own {b : Nat} : rdApp hp (.own b) = (hp b).map (·.es) := rfl
theorem rdApp_sl {es : List (List AV)} : rdApp hp (.sl es) = some es := rfl
section
variable {ops : Array Oper} {nd b i : Nat} {K : AS → Prop} {σ : AS}
theorem ops_nil : aops P C ops nd b i [] K σ = K σ := rfl
def asBU (u : AV) (kt : Bool → Prop) (ku : Prop) : Prop := match u with
  | .ex (.bool t) => kt t
  | .und => ku
  | _ => False
@[congr] theorem asBU_congr {u u' : AV} {kt : Bool → Prop} {ku : Prop} (h : u = u') : asBU u kt ku = asBU u' kt ku := by rw [h]
theorem asBU_b {t : Bool} {kt : Bool → Prop} {ku : Prop} : asBU (.ex (.bool t)) kt ku = kt t := rfl
theorem asBU_u {kt : Bool → Prop} {ku : Prop} : asBU .und kt ku = ku := rfl
theorem ops_guard {dst : Option Tmp} {op : Op} {type : Nat} {pos : String} {after : Array Edge} {g : Nat} {want : Bool} {rest : List Oper} : aops P C ops nd b i (⟨dst, op, type, pos, after, some (g, want)⟩ :: rest) K σ =
    opt ((ops[g]?).bind (·.dst)) fun d => asBU (σ.tm d) (fun t => aif (t == want) (aval P C (b + i) op type σ.ev σ.hp fun u f => (decide (i < nd) = true → dok (decide (i + 1 = nd)) σ.hp f) ∧ aops P C ops nd b (i + 1) rest K ({ σ with hp := (f.md (decide (i < nd))).app (b + i) σ.hp }.put dst u))
      (aops P C ops nd b (i + 1) rest K (σ.put dst .und))) (aops P C ops nd b (i + 1) rest K (σ.put dst .und)) := by
  have e : aops P C ops nd b i (⟨dst, op, type, pos, after, some (g, want)⟩ :: rest) K σ = ((∃ t, (((ops[g]?).bind (·.dst)).map σ.tm) = some (.ex (.bool t)) ∧
      if t = want then (aval P C (b + i) op type σ.ev σ.hp fun u f => (decide (i < nd) = true → dok (decide (i + 1 = nd)) σ.hp f) ∧ aops P C ops nd b (i + 1) rest K ({ σ with hp := (f.md (decide (i < nd))).app (b + i) σ.hp }.put dst u)) else aops P C ops nd b (i + 1) rest K (σ.put dst .und)) ∨
      ((((ops[g]?).bind (·.dst)).map σ.tm) = some .und ∧ aops P C ops nd b (i + 1) rest K (σ.put dst .und))) := rfl
  rw [e]
  apply propext
  rw [← opt_ex]
  have key : ∀ (t : Bool) (A B : Prop), (if t = want then A else B) ↔ aif (t == want) A B := by
    intro t A B
    unfold aif
    by_cases h : t = want
    · simp [h]
    · simp [h]
  constructor
  · rintro (⟨t, h1, h2⟩ | ⟨h1, h2⟩)
    · cases hb : (ops[g]?).bind (·.dst) with
      | none => rw [hb] at h1; cases h1
      | some d =>
        rw [hb] at h1
        have h3 : σ.tm d = .ex (.bool t) := by simpa using h1
        exact ⟨d, rfl, by rw [h3, asBU_b]; exact (key _ _ _).1 h2⟩
    · cases hb : (ops[g]?).bind (·.dst) with
      | none => rw [hb] at h1; cases h1
      | some d =>
        rw [hb] at h1
        have h3 : σ.tm d = .und := by simpa using h1
        exact ⟨d, rfl, by rw [h3, asBU_u]; exact h2⟩
  · rintro ⟨d, h1, h2⟩
    unfold asBU at h2
    split at h2
    · rename_i t h3
      exact .inl ⟨t, by rw [h1]; simp [h3], (key _ _ _).2 h2⟩
    · rename_i h3
      exact .inr ⟨by rw [h1]; simp [h3], h2⟩
    · exact h2.elim
end
section
variable {Q : Exit → AS → Prop} {σ : AS}
theorem awp_seq {a b : Code} (h : awp P C a (athen (awp P C b Q) Q) σ) : awp P C (.seq a b) Q σ := h
theorem awp_block {i : Nat} {c : Code} (h : awp P C c (ablock i Q) σ) : awp P C (.block i c) Q σ := h
theorem awp_skip (h : Q .normal σ) : awp P C .skip Q σ := h
theorem awp_exit {i : Nat} (h : Q (.exit i) σ) : awp P C (.exit i) Q σ := h
theorem awp_ret (h : Q .ret σ) : awp P C .ret Q σ := h
theorem awp_plain {i : Nat} {l : List Oper} (h : aops P C l.toArray 0 σ.nx 0 l (fun σ' => Q .normal { σ' with nx := σ.nx + l.length }) σ) : awp P C (.region i l.toArray false) Q σ := .inl ⟨fun h0 => (by cases h0), by simpa using h⟩
theorem awp_draws {i : Nat} {l : List Oper} (hb : orderOk l.toArray (drawn l.toArray) = true) (h : aops P C l.toArray (drawn l.toArray) σ.nx 0 l (fun σ' => Q .normal { σ' with nx := σ.nx + l.length }) σ) : awp P C (.region i l.toArray true) Q σ := .inl ⟨fun _ => hb, by simpa using h⟩
theorem awp_loop {c : Code} (I : Nat → AS → Prop) (n : Nat) (h : I n σ) (hr : ∀ n σ', I n σ' → (∀ t, t ∉ writes c → σ'.tm t = σ.tm t) → σ.nx ≤ σ'.nx → awp P C c (athen (fun σ'' => ∃ m, m < n ∧ I m σ'') Q) σ') : awp P C (.loop c) Q σ := ⟨I, n, h, hr⟩
theorem then_normal {next : AS → Prop} : athen next Q .normal σ = next σ := rfl
theorem then_exit {next : AS → Prop} {i : Nat} : athen next Q (.exit i) σ = Q (.exit i) σ := rfl
theorem then_ret {next : AS → Prop} : athen next Q .ret σ = Q .ret σ := rfl
theorem block_normal {i : Nat} : ablock i Q .normal σ = Q .normal σ := rfl
theorem block_ret {i : Nat} : ablock i Q .ret σ = Q .ret σ := rfl
theorem block_exit {i j : Nat} : ablock i Q (.exit j) σ = if j = i then Q .normal σ else Q (.exit j) σ := rfl
theorem end_normal {kk : AS → Prop} : aend kk .normal σ = kk σ := rfl
theorem end_ret {kk : AS → Prop} : aend kk .ret σ = kk σ := rfl
end
theorem call_val {f : Nat} {args us : List AV} {ids : List Nat} {r : AV} (h1 : cls hp args = some (us, ids)) (h2 : Con P C f us (.val r)) (h3 : k r (.frz (if noSl r then [] else ids))) : opCall P C id f hp args k := .inl ⟨us, ids, h1, _, h2, h3⟩
theorem call_fresh {f : Nat} {args us : List AV} {e : Nat} {es : List (List AV)} (h1 : cls hp args = some (us, [])) (h2 : Con P C f us (.fresh e es)) (h3 : k (.own id) (.new ⟨e, es, true⟩)) : opCall P C id f hp args k := .inl ⟨us, [], h1, _, h2, rfl, h3⟩
theorem call_moved {f b e : Nat} {es es' : List (List AV)} {rest us : List AV} {ids : List Nat} (h1 : hp b = some ⟨e, es, true⟩) (h2 : (es.all (·.all p0)) = true) (h3 : cls hp rest = some (us, ids)) (h4 : b ∉ ids) (h5 : (es'.all (·.all noSl0)) = true) (h6 : ConM P C f e (es.map (·.map z0)) us es') (h7 : k (.own id) (.grow b ⟨e, es', true⟩)) : opCall P C id f hp (.own b :: rest) k :=
  .inr (.inl ⟨_, us, ids, es', h1, rfl, h2, h3, h4, h5, h6, h7⟩)
theorem call_ext {f : Nat} {xs rs : List Value} {args : List AV} (h0 : args = xs.map .ex) (h1 : ExtOk P f xs rs) (h2 : ∀ r ∈ rs, r.oneCell' = true) (h3 : k (.tup (rs.map .ex)) .none) : opCall P C id f hp args k := .inr (.inr ⟨xs, rs, h0, h1, h2, h3⟩)
theorem cl1_pt {b j off : Nat} : cl1 hp (.pt b j off) = (hp b).bind fun β => (β.es[j]?).bind fun e => if e.all p0 && !e.isEmpty then some (.rp (e.map z0) off, [b]) else none := rfl
theorem cl1_rp {cs : List AV} {off : Nat} : cl1 hp (.rp cs off) = some (.rp cs off, []) := rfl
theorem cl_fn {f : Nat} {cs : List AV} : cl hp (.fn f cs) = (cl1s hp cs).map fun x => (.fn f x.1, x.2) := rfl
theorem cl_pt {b j off : Nat} : cl hp (.pt b j off) = cl1 hp (.pt b j off) := rfl
theorem cl_rp {cs : List AV} {off : Nat} : cl hp (.rp cs off) = cl1 hp (.rp cs off) := rfl
theorem cl1_int {kd : IntKind} {n : Int} : cl1 hp (.ex (.int kd n)) = some (.ex (.int kd n), []) := rfl
theorem cl1_bool {b : Bool} : cl1 hp (.ex (.bool b)) = some (.ex (.bool b), []) := rfl
theorem cl1_str {s : ByteArray} : cl1 hp (.ex (.string s)) = some (.ex (.string s), []) := rfl
theorem cl1_nil : cl1 hp (.ex (.slice none 0 0)) = some (.sl [], []) := rfl
theorem cl1_sl {es : List (List AV)} : cl1 hp (.sl es) = some (.sl es, []) := rfl
theorem cl1_own {b : Nat} : cl1 hp (.own b) = (hp b).bind fun β => if β.es.all (·.all p0) then some (.sl (β.es.map (·.map z0)), [b]) else none := rfl
theorem cl_agg {cs : List AV} : cl hp (.agg cs) = (cl1s hp cs).map fun x => (.agg x.1, x.2) := rfl
theorem cl_ex {x : Value} : cl hp (.ex x) = cl1 hp (.ex x) := rfl
theorem cl_sl {es : List (List AV)} : cl hp (.sl es) = cl1 hp (.sl es) := rfl
theorem cl_own {b : Nat} : cl hp (.own b) = cl1 hp (.own b) := rfl
theorem cls_nil : cls hp [] = some ([], []) := rfl
theorem cls_cons {u : AV} {us : List AV} : cls hp (u :: us) = (cl hp u).bind fun x => (cls hp us).bind fun y => some (x.1 :: y.1, x.2 ++ y.2) := rfl
theorem cl1s_nil : cl1s hp [] = some ([], []) := rfl
theorem cl1s_cons {u : AV} {us : List AV} : cl1s hp (u :: us) = (cl1 hp u).bind fun x => (cl1s hp us).bind fun y => some (x.1 :: y.1, x.2 ++ y.2) := rfl
theorem aret_1 {r : ResultVar} {σ : AS} {kk : AV → Prop} : aret P #[r] σ kk = ares1 P σ r fun u => opt (cl σ.hp u) fun x => kk x.1 := by
  have : (fun u => ∃ u' ids, cl σ.hp u = some (u', ids) ∧ kk u') = fun u => opt (cl σ.hp u) fun x => kk x.1 := by
    funext u
    apply propext
    rw [← opt_ex]
    exact ⟨fun ⟨a, b, h1, h2⟩ => ⟨(a, b), h1, h2⟩, fun ⟨⟨a, b⟩, h1, h2⟩ => ⟨a, b, h1, h2⟩⟩
  rw [← this]; rfl
theorem aret_2 {r s : ResultVar} {σ : AS} {kk : AV → Prop} : aret P #[r, s] σ kk = ares1 P σ r fun u => ares1 P σ s fun v => opt (cls σ.hp [u, v]) fun x => kk (.tup x.1) := by
  have : (fun u => ares1 P σ s fun v => ∃ us ids, cls σ.hp [u, v] = some (us, ids) ∧ kk (.tup us)) = fun u => ares1 P σ s fun v => opt (cls σ.hp [u, v]) fun x => kk (.tup x.1) := by
    funext u
    congr 1
    funext v
    apply propext
    rw [← opt_ex]
    exact ⟨fun ⟨a, b, h1, h2⟩ => ⟨(a, b), h1, h2⟩, fun ⟨⟨a, b⟩, h1, h2⟩ => ⟨a, b, h1, h2⟩⟩
  rw [← this]; rfl
theorem aret_3 {r s q : ResultVar} {σ : AS} {kk : AV → Prop} : aret P #[r, s, q] σ kk = ares1 P σ r fun u => ares1 P σ s fun v => ares1 P σ q fun x => opt (cls σ.hp [u, v, x]) fun x => kk (.tup x.1) := by
  have : (fun u => ares1 P σ s fun v => ares1 P σ q fun x => ∃ us ids, cls σ.hp [u, v, x] = some (us, ids) ∧ kk (.tup us)) = fun u => ares1 P σ s fun v => ares1 P σ q fun x => opt (cls σ.hp [u, v, x]) fun x => kk (.tup x.1) := by
    funext u
    congr 1
    funext v
    congr 1
    funext x
    apply propext
    rw [← opt_ex]
    exact ⟨fun ⟨a, b, h1, h2⟩ => ⟨(a, b), h1, h2⟩, fun ⟨⟨a, b⟩, h1, h2⟩ => ⟨a, b, h1, h2⟩⟩
  rw [← this]; rfl
end
end Go.Proofs.YtcoflmckbcnlpaaGreatDoor
namespace Go.Proofs.YtcoflmckbcnlpaaGreatDoor
open Go.RowKit
set_option maxRecDepth 100000
section
variable {P : Program} {C : World → Prop} {id : Nat} {ty : Nat} {ev : Operand → AV} {hp : Nat → Option Row1} {k : AV → Eff → Prop}
def kval (k : AV → Eff → Prop) (u : AV) : Prop := k u .none
theorem kval_at {u : AV} : kval k u = k u .none := rfl
def kpick (a b : AV) (k : AV → Eff → Prop) (t : Bool) : Prop := k (if t then a else b) .none
theorem kpick_t {a b : AV} : kpick a b k true = k a .none := rfl
theorem kpick_f {a b : AV} : kpick a b k false = k b .none := rfl
theorem kpick_at {a b : AV} {t : Bool} : kpick a b k t = k (if t then a else b) .none := rfl
theorem vpick {c a b : Operand} : aval P C id (.pick c a b) ty ev hp k = asB (ev c) (kpick (ev a) (ev b) k) := ev_pick
def kbox (P : Program) (t id : Nat) (k : AV → Eff → Prop) (cs : List AV) : Prop := (cs.length = (aty P t).sz ∧ 0 < cs.length) ∧ k (.pt id 0 0) (.new ⟨t, [cs], true⟩)
theorem kbox_at {t : Nat} {cs : List AV} : kbox P t id k cs = ((cs.length = (aty P t).sz ∧ 0 < cs.length) ∧ k (.pt id 0 0) (.new ⟨t, [cs], true⟩)) := rfl
theorem vbox {t : Nat} {x : Operand} : aval P C id (.box t x) ty ev hp k = opt (ev x).cells (kbox P t id k) := ev_box
def kload (P : Program) (t : Nat) (k : AV → Eff → Prop) (cs : List AV) (off : Nat) : Prop := ldCell P t cs off k
theorem kload_at {t off : Nat} {cs : List AV} : kload P t k cs off = ldCell P t cs off k := rfl
theorem vload {t : Nat} {x : Operand} : aval P C id (.load t x) ty ev hp k = plc hp (ev x) (kload P t k) := ev_load
def kplc2 (off : Nat) (kk : List AV → Nat → Prop) (e : List AV) : Prop := kk e off
theorem kplc2_at {off : Nat} {kk : List AV → Nat → Prop} {e : List AV} : kplc2 off kk e = kk e off := rfl
def kplc (j off : Nat) (kk : List AV → Nat → Prop) (β : Row1) : Prop := opt β.es[j]? (kplc2 off kk)
theorem kplc_at {j off : Nat} {kk : List AV → Nat → Prop} {β : Row1} : kplc j off kk β = opt β.es[j]? (kplc2 off kk) := rfl
theorem vplc_pt {b j off : Nat} {kk : List AV → Nat → Prop} : plc hp (.pt b j off) kk = opt (hp b) (kplc j off kk) := rfl
theorem vplc_rp {cs : List AV} {off : Nat} {kk : List AV → Nat → Prop} : plc hp (.rp cs off) kk = kk cs off := rfl
def kcell (k : AV → Eff → Prop) (u : AV) : Prop := k u .none
theorem kcell_at {u : AV} : kcell k u = k u .none := rfl
theorem vld {t off : Nat} {cs : List AV} : ldCell P t cs off k = if (aty P t).isAgg = true then (0 < (aty P t).sz ∧ off + (aty P t).sz ≤ cs.length) ∧ k (.agg ((cs.drop off).take (aty P t).sz)) .none else (aty P t).known = true ∧ opt cs[off]? (kcell k) := by
  unfold ldCell
  split
  · rfl
  · congr 1; exact opt_ex
def ksto2 (P : Program) (t : Nat) (k : AV → Eff → Prop) (b j off : Nat) (β : Row1) (e cs : List AV) : Prop := (β.mu = true ∧ cs.length = (aty P t).sz ∧ 0 < cs.length ∧ off + cs.length ≤ e.length) ∧
    k .junk (.set b ⟨β.ty, β.es.set j (e.take off ++ cs ++ e.drop (off + cs.length)), true⟩)
theorem ksto2_at {t b j off : Nat} {β : Row1} {e cs : List AV} : ksto2 P t k b j off β e cs = ((β.mu = true ∧ cs.length = (aty P t).sz ∧ 0 < cs.length ∧ off + cs.length ≤ e.length) ∧
    k .junk (.set b ⟨β.ty, β.es.set j (e.take off ++ cs ++ e.drop (off + cs.length)), true⟩)) := rfl
def ksto (P : Program) (t : Nat) (v : AV) (k : AV → Eff → Prop) (b j off : Nat) (β : Row1) (e : List AV) : Prop := opt v.cells (ksto2 P t k b j off β e)
theorem ksto_at {t b j off : Nat} {v : AV} {β : Row1} {e : List AV} : ksto P t v k b j off β e = opt v.cells (ksto2 P t k b j off β e) := rfl
theorem vstore {t : Nat} {x v : Operand} : aval P C id (.store t x v) ty ev hp k = sto hp (ev x) (ksto P t (ev v) k) := ev_store
def ksp2 (kk : Nat → Nat → Nat → Row1 → List AV → Prop) (b j off : Nat) (β : Row1) (e : List AV) : Prop := kk b j off β e
theorem ksp2_at {kk : Nat → Nat → Nat → Row1 → List AV → Prop} {b j off : Nat} {β : Row1} {e : List AV} : ksp2 kk b j off β e = kk b j off β e := rfl
def ksp (kk : Nat → Nat → Nat → Row1 → List AV → Prop) (b j off : Nat) (β : Row1) : Prop := opt β.es[j]? (ksp2 kk b j off β)
theorem ksp_at {kk : Nat → Nat → Nat → Row1 → List AV → Prop} {b j off : Nat} {β : Row1} : ksp kk b j off β = opt β.es[j]? (ksp2 kk b j off β) := rfl
theorem vsto_pt {b j off : Nat} {kk : Nat → Nat → Nat → Row1 → List AV → Prop} : sto hp (.pt b j off) kk = opt (hp b) (ksp kk b j off) := rfl
def kms2 (P : Program) (id t : Nat) (k : AV → Eff → Prop) (kx : IntKind) (n : Int) (ky : IntKind) (c : Int) : Prop := (kx = .i64 ∧ ky = .i64) ∧ match (aty P t).k with
    | .slice e => ((aty P e).zero.length = (aty P e).sz ∧ 0 < (aty P e).sz ∧ 1 ≤ (aty P e).bytes ∧ (aty P e).zero.all (·.oneCell') = true) ∧ if n = 0 then (n = 0 ∧ 0 ≤ c ∧ (aty P e).bytes * c.toNat ≤ 140737488355328) ∧ k (.own id) (.new ⟨e, [], true⟩)
        else (0 ≤ n ∧ n = c ∧ (aty P e).bytes * n.toNat ≤ 140737488355328) ∧ k (.own id) (.new ⟨e, List.replicate n.toNat ((aty P e).zero.map .ex), true⟩)
    | _ => False
theorem kms2_at {t : Nat} {kx ky : IntKind} {n c : Int} : kms2 P id t k kx n ky c = ((kx = .i64 ∧ ky = .i64) ∧ match (aty P t).k with
    | .slice e => ((aty P e).zero.length = (aty P e).sz ∧ 0 < (aty P e).sz ∧ 1 ≤ (aty P e).bytes ∧ (aty P e).zero.all (·.oneCell') = true) ∧ if n = 0 then (n = 0 ∧ 0 ≤ c ∧ (aty P e).bytes * c.toNat ≤ 140737488355328) ∧ k (.own id) (.new ⟨e, [], true⟩)
        else (0 ≤ n ∧ n = c ∧ (aty P e).bytes * n.toNat ≤ 140737488355328) ∧ k (.own id) (.new ⟨e, List.replicate n.toNat ((aty P e).zero.map .ex), true⟩)
    | _ => False) := rfl
theorem kms_zero {t : Nat} {kx ky : IntKind} {c : Int} : kms2 P id t k kx 0 ky c = ((kx = .i64 ∧ ky = .i64) ∧ match (aty P t).k with
    | .slice e => ((aty P e).zero.length = (aty P e).sz ∧ 0 < (aty P e).sz ∧ 1 ≤ (aty P e).bytes ∧ (aty P e).zero.all (·.oneCell') = true) ∧ ((0 : Int) = 0 ∧ 0 ≤ c ∧ (aty P e).bytes * c.toNat ≤ 140737488355328) ∧
        k (.own id) (.new ⟨e, [], true⟩)
    | _ => False) := by
  rw [kms2_at]
  cases (aty P t).k <;> rfl
def kms (P : Program) (id t : Nat) (y : AV) (k : AV → Eff → Prop) (kx : IntKind) (n : Int) : Prop := asI y (kms2 P id t k kx n)
theorem kms_at {t : Nat} {y : AV} {kx : IntKind} {n : Int} : kms P id t y k kx n = asI y (kms2 P id t k kx n) := rfl
theorem vmake {t : Nat} {x y : Operand} : aval P C id (.makeSlice t x y) ty ev hp k = asI (ev x) (kms P id t (ev y) k) := ev_makeSlice
def kfa (P : Program) (u : AV) (k : AV → Eff → Prop) (p : Nat × Nat) : Prop := (aty P p.2).sz ≠ 0 ∧ fld u p.1 k
theorem kfa_at {u : AV} {a b : Nat} : kfa P u k (a, b) = ((aty P b).sz ≠ 0 ∧ fld u a k) := rfl
theorem vfieldAddr {s : Nat} {x : Operand} {f : Nat} : aval P C id (.fieldAddr s x f) ty ev hp k = opt (aty P s).flds[f]? (kfa P (ev x) k) := ev_fieldAddr
def kfd2 (P : Program) (a b : Nat) (k : AV → Eff → Prop) (cs : List AV) : Prop := ldCell P b cs a k
theorem kfd2_at {a b : Nat} {cs : List AV} : kfd2 P a b k cs = ldCell P b cs a k := rfl
def kfd (P : Program) (u : AV) (k : AV → Eff → Prop) (p : Nat × Nat) : Prop := agc u (kfd2 P p.1 p.2 k)
theorem kfd_at {u : AV} {a b : Nat} : kfd P u k (a, b) = agc u (kfd2 P a b k) := rfl
theorem vfield {s : Nat} {x : Operand} {f : Nat} : aval P C id (.field s x f) ty ev hp k = opt (aty P s).flds[f]? (kfd P (ev x) k) := ev_field
def kix (P : Program) (hp : Nat → Option Row1) (t : Nat) (u : AV) (k : AV → Eff → Prop) (_ : IntKind) (n : Int) : Prop := 0 ≤ n ∧ opIx P hp t u n.toNat k
theorem kix_at {t : Nat} {u : AV} {kd : IntKind} {n : Int} : kix P hp t u k kd n = (0 ≤ n ∧ opIx P hp t u n.toNat k) := rfl
theorem vindexAddr {t : Nat} {x i : Operand} : aval P C id (.indexAddr t x i) ty ev hp k = asI (ev i) (kix P hp t (ev x) k) := ev_indexAddr
def kixv (P : Program) (t : Nat) (u : AV) (k : AV → Eff → Prop) (_ : IntKind) (n : Int) : Prop := 0 ≤ n ∧ opIxv P t u n.toNat k
theorem kixv_at {t : Nat} {u : AV} {kd : IntKind} {n : Int} : kixv P t u k kd n = (0 ≤ n ∧ opIxv P t u n.toNat k) := rfl
theorem vindex {t : Nat} {x i : Operand} : aval P C id (.index t x i) ty ev hp k = asI (ev i) (kixv P t (ev x) k) := ev_index
def kext (i : Nat) (k : AV → Eff → Prop) (vs : List AV) : Prop := opt vs[i]? (kval k)
theorem kext_at {i : Nat} {vs : List AV} : kext i k vs = opt vs[i]? (kval k) := rfl
theorem vextract {x : Operand} {i : Nat} : aval P C id (.extract x i) ty ev hp k = tupc (ev x) (kext i k) := ev_extract
def kagg (k : AV → Eff → Prop) (cs : List AV) : Prop := k (.agg cs) .none
theorem kagg_at {cs : List AV} : kagg k cs = k (.agg cs) .none := rfl
def plf (P : Program) (l : List (Nat × Nat)) (i : Nat) : Option (Nat × Nat) := (l.map fun f => (f.1, (aty P f.2).sz))[i]?
def pla (s : Nat) (i : Nat) : Option (Nat × Nat) := some (i * s, s)
theorem pla_at {s i : Nat} : pla s i = some (i * s, s) := rfl
theorem plf_0 {l : List (Nat × Nat)} {a b : Nat} : plf P ((a, b) :: l) 0 = some (a, (aty P b).sz) := rfl
theorem plf_s {l : List (Nat × Nat)} {x : Nat × Nat} {i : Nat} : plf P (x :: l) (i + 1) = plf P l i := rfl
theorem vbuild {t : Nat} {parts : List (Nat × Operand)} : aval P C id (.build t parts.toArray) ty ev hp k = (((aty P t).zero.length = (aty P t).sz ∧ 0 < (aty P t).sz ∧ (aty P t).zero.all (·.oneCell') = true) ∧ match (aty P t).k with
    | .struct => ((aty P t).flds.all fun f => decide (0 < (aty P f.2).sz)) = true ∧ opt (fillA (plf P (aty P t).flds) ((aty P t).zero.map .ex) (parts.map fun x => (x.1, ev x.2))) (kagg k)
    | .arr _ e => 0 < (aty P e).sz ∧ opt (fillA (pla (aty P e).sz) ((aty P t).zero.map .ex) (parts.map fun x => (x.1, ev x.2))) (kagg k)
    | _ => False) := ev_build
theorem fill_nil {pl : Nat → Option (Nat × Nat)} {cs : List AV} : fillA pl cs [] = some cs := rfl
theorem fill_cons {pl : Nat → Option (Nat × Nat)} {cs : List AV} {i : Nat} {u : AV} {l : List (Nat × AV)} : fillA pl cs ((i, u) :: l) = (pl i).bind fun p => u.cells.bind fun c => if c.length ≠ p.2 ∨ p.1 + c.length > cs.length then none else fillA pl (cs.take p.1 ++ c ++ cs.drop (p.1 + c.length)) l := rfl
def aeq (P : Program) (t : TypeId) (xs ys : List AV) (kk : Bool → Prop) : Prop := ∃ b, AggEq P t xs ys b ∧ kk b
theorem aeq_i {t : TypeId} {xs ys : List AV} {kk : Bool → Prop} {b : Bool} (h : AggEq P t xs ys b) (h2 : kk b) : aeq P t xs ys kk := ⟨b, h, h2⟩
@[congr] theorem aeq_congr {t : TypeId} {xs xs' ys ys' : List AV} {kk : Bool → Prop} (h : xs = xs') (h2 : ys = ys') : aeq P t xs ys kk = aeq P t xs' ys' kk := by rw [h, h2]
def kaeq (k : AV → Eff → Prop) (b : Bool) : Prop := k (.ex (.bool b)) .none
theorem kaeq_at {b : Bool} : kaeq k b = k (.ex (.bool b)) .none := rfl
def kane (k : AV → Eff → Prop) (b : Bool) : Prop := k (.ex (.bool (!b))) .none
theorem kane_at {b : Bool} : kane k b = k (.ex (.bool (!b))) .none := rfl
theorem vbin_aeql {t : Nat} {x y : List AV} : opBin P .eql t (.agg x) (.agg y) k = aeq P t x y (kaeq k) := bin_aeql
theorem vbin_aneq {t : Nat} {x y : List AV} : opBin P .neq t (.agg x) (.agg y) k = aeq P t x y (kane k) := bin_aneq
def rowsP (sz : Nat) : Nat → List (Nat × AV) → Option (List (List AV))
  | _, [] => some []
  | i, (j, u) :: l => u.cells.bind fun c => if j = i ∧ c.length = sz then (rowsP sz (i + 1) l).map (c :: ·) else none
theorem rowsP_nil {sz i : Nat} : rowsP sz i [] = some [] := rfl
theorem rowsP_cons {sz i j : Nat} {u : AV} {l : List (Nat × AV)} : rowsP sz i ((j, u) :: l) = u.cells.bind fun c => if j = i ∧ c.length = sz then (rowsP sz (i + 1) l).map (c :: ·) else none := rfl
theorem rowsP_some {sz : Nat} : ∀ {l : List (Nat × AV)} {i : Nat} {rs : List (List AV)}, rowsP sz i l = some rs → l.map (·.1) = List.range' i l.length ∧ (l.all fun x => (x.2.cells.map (·.length)) == some sz) = true ∧ rs = l.filterMap fun x => x.2.cells
  | [], i, rs, h => by simp only [rowsP_nil, Option.some.injEq] at h; subst h; exact ⟨rfl, rfl, rfl⟩
  | (j, u) :: l, i, rs, h => by
    rw [rowsP_cons] at h
    cases hc : u.cells with
    | none => rw [hc] at h; cases h
    | some c =>
      rw [hc, Option.bind_some] at h
      split at h
      · rename_i hj
        obtain ⟨rfl, hcl⟩ := hj
        cases hr : rowsP sz (j + 1) l with
        | none => rw [hr] at h; cases h
        | some q =>
          rw [hr, Option.map_some, Option.some.injEq] at h
          obtain ⟨h1, h2, h3⟩ := rowsP_some hr
          refine ⟨?_, ?_, ?_⟩
          · rw [List.map_cons, List.length_cons, List.range'_succ, h1]
          · rw [List.all_cons, h2, hc]; simp [hcl]
          · rw [← h, h3, List.filterMap_cons]; simp [hc]
      · cases h
def krow (e id : Nat) (k : AV → Eff → Prop) (rs : List (List AV)) : Prop := k (.own id) (.new ⟨e, rs, true⟩)
theorem krow_at {e : Nat} {rs : List (List AV)} : krow e id k rs = k (.own id) (.new ⟨e, rs, true⟩) := rfl
theorem vbuildS' {t len : Nat} {parts : List (Nat × Operand)} (e : Nat) (ht : (aty P t).k = .slice e) (h1 : ((aty P e).zero.length = (aty P e).sz ∧ 0 < (aty P e).sz ∧ len * (aty P e).sz ≤ 16777216 ∧ (aty P e).zero.all (·.oneCell') = true) ∧ parts.length = len)
    (h : opt (rowsP (aty P e).sz 0 (parts.map fun x => (x.1, ev x.2))) (krow e id k)) : aval P C id (.buildSlice t len parts.toArray) ty ev hp k := by
  rw [ev_buildSlice, ht]
  rw [← opt_ex] at h
  obtain ⟨rs, h2, h3⟩ := h
  obtain ⟨g1, g2, g3⟩ := rowsP_some h2
  refine ⟨h1.1, ⟨?_, ?_⟩, ?_⟩
  · rw [List.map_map, List.length_map, h1.2] at g1
    rw [List.range_eq_range']
    exact g1
  · rw [List.all_map] at g2
    exact g2
  · rw [krow_at, g3, List.filterMap_map] at h3
    exact .inl h3
def elemOf : TK → Nat
  | .slice e => e
  | _ => 0
theorem elemOf_s {e : Nat} : elemOf (.slice e) = e := rfl
theorem vbuildS {t len : Nat} {parts : List (Nat × Operand)} (ht : (aty P t).k = .slice (elemOf (aty P t).k)) (h1 : ((aty P (elemOf (aty P t).k)).zero.length = (aty P (elemOf (aty P t).k)).sz ∧ 0 < (aty P (elemOf (aty P t).k)).sz ∧ len * (aty P (elemOf (aty P t).k)).sz ≤ 16777216 ∧ (aty P (elemOf (aty P t).k)).zero.all (·.oneCell') = true) ∧ parts.length = len)
    (h : opt (rowsP (aty P (elemOf (aty P t).k)).sz 0 (parts.map fun x => (x.1, ev x.2))) (krow (elemOf (aty P t).k) id k)) : aval P C id (.buildSlice t len parts.toArray) ty ev hp k :=
  vbuildS' _ ht h1 h
def kapp (P : Program) (hp : Nat → Option Row1) (id e : Nat) (s : AV) (k : AV → Eff → Prop) (ns : List (List AV)) : Prop := opApp P hp id e s ns k
theorem kapp_at {e : Nat} {s : AV} {ns : List (List AV)} : kapp P hp id e s k ns = opApp P hp id e s ns k := rfl
theorem vapp {s x : Operand} {t t2 : Nat} : aval P C id (.call ⟨.builtin .append, #[s, x], #[t, t2]⟩) ty ev hp k = match (aty P t).k with
        | .slice e => t2 = t ∧ opt (rdApp hp (ev x)) (kapp P hp id e (ev s) k)
        | _ => False := ev_app
def kapp2 (P : Program) (id e b : Nat) (ns : List (List AV)) (k : AV → Eff → Prop) (β : Row1) : Prop := (β.mu = true ∧ β.ty = e ∧ (β.es.length + ns.length) * (aty P e).bytes ≤ 140737488355328) ∧ k (.own id) (.grow b ⟨e, β.es ++ ns, true⟩)
theorem kapp2_at {e b : Nat} {ns : List (List AV)} {β : Row1} : kapp2 P id e b ns k β = ((β.mu = true ∧ β.ty = e ∧ (β.es.length + ns.length) * (aty P e).bytes ≤ 140737488355328) ∧ k (.own id) (.grow b ⟨e, β.es ++ ns, true⟩)) := rfl
theorem vapp_own {e b : Nat} {ns : List (List AV)} : opApp P hp id e (.own b) ns k = (((aty P e).zero.length = (aty P e).sz ∧ 0 < (aty P e).sz ∧ 1 ≤ (aty P e).bytes ∧ ∀ n ∈ ns, n.length = (aty P e).sz) ∧ opt (hp b) (kapp2 P id e b ns k)) := app_own
def kmin2 (kd : IntKind) (a : Int) (k : AV → Eff → Prop) (_ : IntKind) (b : Int) : Prop := k (.ex (.int kd (if b < a then b else a))) .none
theorem kmin2_at {kd kd' : IntKind} {a b : Int} : kmin2 kd a k kd' b = k (.ex (.int kd (if b < a then b else a))) .none := rfl
def kmin (y : AV) (k : AV → Eff → Prop) (kd : IntKind) (a : Int) : Prop := asI y (kmin2 kd a k)
theorem kmin_at {y : AV} {kd : IntKind} {a : Int} : kmin y k kd a = asI y (kmin2 kd a k) := rfl
theorem vmin {x y : Operand} {tys : Array Nat} : aval P C id (.call ⟨.builtin .min, #[x, y], tys⟩) ty ev hp k = asI (ev x) (kmin (ev y) k) := ev_min
def kmax2 (kd : IntKind) (a : Int) (k : AV → Eff → Prop) (_ : IntKind) (b : Int) : Prop := k (.ex (.int kd (if a < b then b else a))) .none
theorem kmax2_at {kd kd' : IntKind} {a b : Int} : kmax2 kd a k kd' b = k (.ex (.int kd (if a < b then b else a))) .none := rfl
def kmax (y : AV) (k : AV → Eff → Prop) (kd : IntKind) (a : Int) : Prop := asI y (kmax2 kd a k)
theorem kmax_at {y : AV} {kd : IntKind} {a : Int} : kmax y k kd a = asI y (kmax2 kd a k) := rfl
theorem vmax {x y : Operand} {tys : Array Nat} : aval P C id (.call ⟨.builtin .max, #[x, y], tys⟩) ty ev hp k = asI (ev x) (kmax (ev y) k) := ev_max
def kstr (k : AV → Eff → Prop) (x : ByteArray) : Prop := k (.ex (.string x)) .none
theorem kstr_at {x : ByteArray} : kstr k x = k (.ex (.string x)) .none := rfl
def isBytes (P : Program) (s : Nat) : Prop := match (aty P s).k with | .slice e => (match (aty P e).k with | .int .u8 => True | _ => False) | _ => False
theorem vconv_sl {s d : Nat} {es : List (List AV)} : opConv P hp s d (.sl es) k = match (aty P d).k with
    | .str => isBytes P s ∧ toStr hp (.sl es) (kstr k)
    | _ => False := conv_sl
theorem vconv_ow {s d : Nat} {b : Nat} : opConv P hp s d (.own b) k = match (aty P d).k with
    | .str => isBytes P s ∧ toStr hp (.own b) (kstr k)
    | _ => False := conv_ow
def klen (k : AV → Eff → Prop) (β : Row1) : Prop := k (.ex (.int .i64 β.es.length)) .none
theorem klen_at {β : Row1} : klen k β = k (.ex (.int .i64 β.es.length)) .none := rfl
theorem vlen_own {t : Nat} {b : Nat} : opLen P hp t (.own b) k = match (aty P t).k with
    | .arr n _ => k (.ex (.int .i64 n)) .none
    | .slice _ => opt (hp b) (klen k)
    | _ => False := len_own
theorem vlen_str {t : Nat} {x : ByteArray} : opLen P hp t (.ex (.string x)) k = match (aty P t).k with
    | .str => k (.ex (.int .i64 x.size)) .none
    | .arr n _ => k (.ex (.int .i64 n)) .none
    | _ => False := by
  rw [len_str]
  cases (aty P t).k <;> rfl
def kixo (P : Program) (e b n : Nat) (k : AV → Eff → Prop) (β : Row1) : Prop := ((β.ty = e ∧ 0 < (aty P e).sz) ∧ n < β.es.length) ∧ k (.pt b n 0) .none
theorem kixo_at {e b n : Nat} {β : Row1} : kixo P e b n k β = (((β.ty = e ∧ 0 < (aty P e).sz) ∧ n < β.es.length) ∧ k (.pt b n 0) .none) := rfl
theorem vix_own {t b n : Nat} : opIx P hp t (.own b) n k = match (aty P t).k with
    | .slice e => opt (hp b) (kixo P e b n k)
    | _ => False := ix_own
def kixs (P : Program) (e : Nat) (k : AV → Eff → Prop) (x : List AV) : Prop := (0 < (aty P e).sz ∧ x.length = (aty P e).sz) ∧ k (.rp x 0) .none
theorem kixs_at {e : Nat} {x : List AV} : kixs P e k x = ((0 < (aty P e).sz ∧ x.length = (aty P e).sz) ∧ k (.rp x 0) .none) := rfl
theorem vix_sl {t n : Nat} {es : List (List AV)} : opIx P hp t (.sl es) n k = match (aty P t).k with
    | .slice e => opt es[n]? (kixs P e k)
    | _ => False := ix_sl
def byteAt (s : ByteArray) (n : Nat) : Option UInt8 := if h : n < s.size then some (s[n]'h) else none
theorem byteAt_of {s : ByteArray} {n : Nat} (h : n < s.size) : byteAt s n = some (s[n]'h) := dif_pos h
def kbyte (k : AV → Eff → Prop) (c : UInt8) : Prop := k (.ex (.int .u8 c.toNat)) .none
theorem kbyte_at {c : UInt8} : kbyte k c = k (.ex (.int .u8 c.toNat)) .none := rfl
theorem vixv_str {t n : Nat} {x : ByteArray} : opIxv P t (.ex (.string x)) n k = match (aty P t).k with
    | .str => opt (byteAt x n) (kbyte k)
    | _ => False := by
  rw [ixv_str]
  cases (aty P t).k <;> try rfl
  dsimp only
  apply propext
  unfold byteAt
  by_cases h : n < x.size
  · rw [dif_pos h, opt_some]; exact ⟨fun ⟨_, h2⟩ => h2, fun h2 => ⟨h, h2⟩⟩
  · rw [dif_neg h]; exact ⟨fun ⟨h1, _⟩ => h h1, fun h2 => h2.elim⟩
def kbs (kk : Nat → Prop) (_ : IntKind) (n : Int) : Prop := 0 ≤ n ∧ kk n.toNat
theorem kbs_at {kk : Nat → Prop} {kd : IntKind} {n : Int} : kbs kk kd n = (0 ≤ n ∧ kk n.toNat) := rfl
def bnd' (d : Nat) (u : Option AV) (kk : Nat → Prop) : Prop := match u with | none => kk d | some x => asI x (kbs kk)
theorem bnd'_none {d : Nat} {kk : Nat → Prop} : bnd' d none kk = kk d := rfl
theorem bnd'_some {d : Nat} {x : AV} {kk : Nat → Prop} : bnd' d (some x) kk = asI x (kbs kk) := rfl
theorem bnd_bnd' {d : Nat} {x : Option Operand} {kk : Nat → Prop} : bnd d ev x kk = bnd' d (x.map ev) kk := by
  cases x with
  | none => rfl
  | some y => exact asI_ex
def ks2 (x : ByteArray) (k : AV → Eff → Prop) (l h : Nat) : Prop := (l ≤ h ∧ h ≤ x.size) ∧ k (.ex (.string (x.extract l h))) .none
theorem ks2_at {x : ByteArray} {l h : Nat} : ks2 x k l h = ((l ≤ h ∧ h ≤ x.size) ∧ k (.ex (.string (x.extract l h))) .none) := rfl
def ks1 (x : ByteArray) (hi : Option AV) (k : AV → Eff → Prop) (l : Nat) : Prop := bnd' x.size hi (ks2 x k l)
theorem ks1_at {x : ByteArray} {hi : Option AV} {l : Nat} : ks1 x hi k l = bnd' x.size hi (ks2 x k l) := rfl
theorem vslice_str {t : Nat} {x : ByteArray} {lo hi mx : Option Operand} : opSlice P hp id t (.ex (.string x)) ev lo hi mx k = match (aty P t).k with
    | .str => mx.isNone = true ∧ bnd' 0 (lo.map ev) (ks1 x (hi.map ev) k)
    | _ => False := by
  rw [slice_str]
  cases (aty P t).k <;> try rfl
  dsimp only
  rw [bnd_bnd', Option.isNone_iff_eq_none]
  congr 2
  funext l
  rw [bnd_bnd', ks1_at]
  congr 1
  funext h
  rw [ks2_at, and_assoc]
def kt3 (es : List (List AV)) (k : AV → Eff → Prop) (l h m : Nat) : Prop := (l ≤ h ∧ h ≤ m ∧ m ≤ es.length) ∧ k (.sl ((es.take h).drop l)) .none
theorem kt3_at {es : List (List AV)} {l h m : Nat} : kt3 es k l h m = ((l ≤ h ∧ h ≤ m ∧ m ≤ es.length) ∧ k (.sl ((es.take h).drop l)) .none) := rfl
def kt2 (es : List (List AV)) (mx : Option AV) (k : AV → Eff → Prop) (l h : Nat) : Prop := bnd' es.length mx (kt3 es k l h)
theorem kt2_at {es : List (List AV)} {mx : Option AV} {l h : Nat} : kt2 es mx k l h = bnd' es.length mx (kt3 es k l h) := rfl
def kt1 (es : List (List AV)) (hi mx : Option AV) (k : AV → Eff → Prop) (l : Nat) : Prop := bnd' es.length hi (kt2 es mx k l)
theorem kt1_at {es : List (List AV)} {hi mx : Option AV} {l : Nat} : kt1 es hi mx k l = bnd' es.length hi (kt2 es mx k l) := rfl
theorem vslice_sl {t : Nat} {es : List (List AV)} {lo hi mx : Option Operand} : opSlice P hp id t (.sl es) ev lo hi mx k = match (aty P t).k with
    | .slice e => (0 < (aty P e).sz ∧ (hi.isSome || mx.isNone) = true ∧ ∀ x ∈ es, x.length = (aty P e).sz) ∧ bnd' 0 (lo.map ev) (kt1 es (hi.map ev) (mx.map ev) k)
    | _ => False := by
  rw [slice_sl]
  cases (aty P t).k <;> try rfl
  dsimp only
  rw [bnd_bnd']
  have e1 : (hi = none → mx = none) = ((hi.isSome || mx.isNone) = true) := by cases hi <;> cases mx <;> simp
  rw [e1]
  congr 2
  funext l
  rw [bnd_bnd', kt1_at]
  congr 1
  funext h
  rw [bnd_bnd', kt2_at]
  congr 1
  funext m
  rw [kt3_at, and_assoc, and_assoc]
def tmI (us : List AV) (t : Nat) : AV := us.getD t .junk
def hpI : Nat → Option Row1 := fun _ => none
theorem init_eq {us : List AV} : init us = ⟨tmI us, hpI, 0⟩ := rfl
theorem tmI_nil {t : Nat} : tmI [] t = .junk := rfl
theorem tmI_0 {u : AV} {us : List AV} : tmI (u :: us) 0 = u := rfl
theorem tmI_s {u : AV} {us : List AV} {t : Nat} : tmI (u :: us) (t + 1) = tmI us t := rfl
theorem hpI_at {t : Nat} : hpI t = none := rfl
theorem put_none {σ : AS} {u : AV} : AS.put σ none u = σ := rfl
theorem put_some {tm : Nat → AV} {nx d : Nat} {u : AV} : AS.put ⟨tm, hp, nx⟩ (some d) u = ⟨upd tm d u, hp, nx⟩ := rfl
theorem ev_tmp {tm : Nat → AV} {nx t : Nat} : AS.ev ⟨tm, hp, nx⟩ (.tmp t) = tm t := rfl
theorem ev_int {σ : AS} {kd : IntKind} {n : Int} : AS.ev σ (.const (.int kd n)) = .ex (.int kd n) := rfl
theorem ev_bool {σ : AS} {b : Bool} : AS.ev σ (.const (.bool b)) = .ex (.bool b) := rfl
theorem ev_str {σ : AS} {x : ByteArray} : AS.ev σ (.const (.string x)) = .ex (.string x) := rfl
theorem ev_nilc {σ : AS} : AS.ev σ (.const (.slice none 0 0)) = .ex (.slice none 0 0) := rfl
theorem ev_nili {σ : AS} : AS.ev σ (.const .nilIface) = .ex .nilIface := rfl
theorem cells_ex {v : Value} : (AV.ex v).cells = some [.ex v] := rfl
theorem cells_agg {cs : List AV} : (AV.agg cs).cells = some cs := rfl
theorem cells_sl {es : List (List AV)} : (AV.sl es).cells = some [.sl es] := rfl
theorem cells_own {b : Nat} : (AV.own b).cells = some [.own b] := rfl
theorem rdSl_sl {es : List (List AV)} : rdSl hp (.sl es) = some es := rfl
theorem rdSl_own {b : Nat} : rdSl hp (.own b) = (hp b).map (·.es) := rfl
theorem rdSl_nil : rdSl hp (.ex (.slice none 0 0)) = some [] := rfl
theorem rdApp_nil : rdApp hp (.ex (.slice none 0 0)) = some [] := rfl
theorem opt_none {α : Type} {kk : α → Prop} : opt none kk = False := rfl
theorem wrap_i64 {x : Int} (h1 : -9223372036854775808 ≤ x) (h2 : x ≤ 9223372036854775807) : IntKind.i64.wrap x = x := by rw [IntKind.wrap_i64]; omega
theorem wrap_u8 {x : Int} (h1 : 0 ≤ x) (h2 : x ≤ 255) : IntKind.u8.wrap x = x := by
  have e : IntKind.u8.wrap x = x % 256 := by simp [IntKind.wrap, IntKind.bits, IntKind.signed]
  rw [e]; omega
theorem wrap_u64 {x : Int} (h1 : 0 ≤ x) (h2 : x ≤ 18446744073709551615) : IntKind.u64.wrap x = x := by
  have e : IntKind.u64.wrap x = x % 18446744073709551616 := by simp [IntKind.wrap, IntKind.bits, IntKind.signed]
  rw [e]; omega
theorem natS (k : Nat) : ((k + 1 : Nat) : Int) = (k : Int) + 1 := by omega
theorem natZ : ((0 : Nat) : Int) = 0 := rfl
theorem natP (k : Nat) : (0 ≤ (k : Int)) = True := by simp
theorem nat1 : ((1 : Nat) : Int) = 1 := rfl
theorem nat2 : ((2 : Nat) : Int) = 2 := rfl
theorem nat3 : ((3 : Nat) : Int) = 3 := rfl
theorem nat4 : ((4 : Nat) : Int) = 4 := rfl
theorem nat5 : ((5 : Nat) : Int) = 5 := rfl
theorem nat6 : ((6 : Nat) : Int) = 6 := rfl
theorem nat7 : ((7 : Nat) : Int) = 7 := rfl
theorem nat8 : ((8 : Nat) : Int) = 8 := rfl
theorem nat9 : ((9 : Nat) : Int) = 9 := rfl
theorem nat10 : ((10 : Nat) : Int) = 10 := rfl
theorem nat11 : ((11 : Nat) : Int) = 11 := rfl
theorem nat12 : ((12 : Nat) : Int) = 12 := rfl
theorem natEqF {a n m : Nat} (h : a < n + m) : (a = n + m) = False := by simp; omega
theorem natEqG {a n m : Nat} (h : n + m < a) : (a = n + m) = False := by simp; omega
theorem noSl_ex {v : Value} : noSl (.ex v) = true := rfl
theorem noSl_tup {cs : List AV} : noSl (.tup cs) = cs.all noSl1 := rfl
theorem noSl_agg {cs : List AV} : noSl (.agg cs) = cs.all noSl0 := rfl
theorem noSl1_ex {v : Value} : noSl1 (.ex v) = true := rfl
theorem noSl1_agg {cs : List AV} : noSl1 (.agg cs) = cs.all noSl0 := rfl
theorem noSl0_ex {v : Value} : noSl0 (.ex v) = true := rfl
theorem noSl_nil : noSl (.sl []) = true := rfl
theorem noSl1_nil : noSl1 (.sl []) = true := rfl
section
variable {ops : Array Oper} {nd b i : Nat} {K : AS → Prop} {σ : AS}
def knext (P : Program) (C : World → Prop) (ops : Array Oper) (nd b i : Nat) (rest : List Oper) (K : AS → Prop) (tm : Nat → AV) (hp : Nat → Option Row1) (nx : Nat) (dst : Option Tmp) (u : AV) (f : Eff) : Prop :=
  (decide (i < nd) = true → dok (decide (i + 1 = nd)) hp f) ∧ aops P C ops nd b (i + 1) rest K (AS.put ⟨tm, (f.md (decide (i < nd))).app (b + i) hp, nx⟩ dst u)
def alcc (nd i : Nat) (u : AV) : AV := if i < nd then .junk else u
theorem alcc_0 {i : Nat} {u : AV} : alcc 0 i u = u := if_neg (by omega)
theorem alcc_j {nd i : Nat} {u : AV} (h : Nat.ble (i + 1) nd = true) : alcc nd i u = .junk := if_pos (Nat.le_of_ble_eq_true h)
theorem wkL_c {nd i : Nat} {u v : AV} {us vs : List AV} (h : Nat.ble (i + 1) nd = true) (k : wkL us vs) : wkL (alcc nd i u :: us) (v :: vs) := ⟨.inl (alcc_j h), k⟩
theorem wkR_row {t : Nat} {m : Bool} {us vs : List AV} (h : wkL us vs) : wkR ⟨t, [us], m⟩ ⟨t, [vs], m⟩ := ⟨rfl, rfl, h, trivial⟩
def setOk (nd i : Nat) (hp : Nat → Option Row1) (c : Nat) (γ : Row1) : Prop := i < nd → i + 1 = nd ∧ ∃ β, hp c = some β ∧ wkR β γ
theorem setOk_0 {i c : Nat} {γ : Row1} : setOk 0 i hp c γ := fun h => absurd h (by omega)
theorem setOk_ge {nd i c : Nat} {γ : Row1} (h : Nat.ble nd i = true) : setOk nd i hp c γ := fun h' => absurd (Nat.le_of_ble_eq_true h) (by omega)
theorem setOk_late {nd i c : Nat} {β γ : Row1} (h : Nat.beq (i + 1) nd = true) (h1 : hp c = some β) (h2 : wkR β γ) : setOk nd i hp c γ := fun _ => ⟨Nat.eq_of_beq_eq_true h, β, h1, h2⟩
theorem knext_none {rest : List Oper} {tm : Nat → AV} {nx : Nat} {dst : Option Tmp} {u : AV} : knext P C ops nd b i rest K tm hp nx dst u .none = aops P C ops nd b (i + 1) rest K (AS.put ⟨tm, hp, nx⟩ dst u) := by
  simp [knext, dok, Eff.md, Eff.quiet, Eff.app]
theorem knext_new {rest : List Oper} {tm : Nat → AV} {nx : Nat} {dst : Option Tmp} {u : AV} {β : Row1} : knext P C ops nd b i rest K tm hp nx dst u (.new β) = aops P C ops nd b (i + 1) rest K (AS.put ⟨tm, upd hp (b + i) (some β), nx⟩ dst u) := by
  simp [knext, dok, Eff.md, Eff.quiet, Eff.app]
theorem knext_alc {rest : List Oper} {tm : Nat → AV} {nx : Nat} {dst : Option Tmp} {u : AV} {t : Nat} {z : List AV} : knext P C ops nd b i rest K tm hp nx dst u (.alc t z) = aops P C ops nd b (i + 1) rest K (AS.put ⟨tm, upd hp (b + i) (some ⟨t, [z.map (alcc nd i)], true⟩), nx⟩ dst u) := by
  unfold knext
  by_cases h : i < nd
  · have e : z.map (alcc nd i) = blank z := List.map_congr_left fun x _ => if_pos h
    simp [dok, Eff.md, Eff.quiet, Eff.app, h, e]
  · have e : z.map (alcc nd i) = z := by
      rw [show alcc nd i = id from funext fun x => if_neg h, List.map_id]
    simp [Eff.md, Eff.app, h, e]
theorem knext_frz0 {rest : List Oper} {tm : Nat → AV} {nx : Nat} {dst : Option Tmp} {u : AV} : knext P C ops nd b i rest K tm hp nx dst u (.frz []) = aops P C ops nd b (i + 1) rest K (AS.put ⟨tm, hp, nx⟩ dst u) := by
  unfold knext Eff.md
  dsimp only
  rw [frz_nil]
  simp [dok, Eff.quiet]
theorem knext_frz {rest : List Oper} {tm : Nat → AV} {nx : Nat} {dst : Option Tmp} {u : AV} {j : Nat} {js : List Nat} : knext P C ops nd b i rest K tm hp nx dst u (.frz (j :: js)) = (nd ≤ i ∧ aops P C ops nd b (i + 1) rest K (AS.put ⟨tm, (Eff.frz (j :: js)).app (b + i) hp, nx⟩ dst u)) := by
  unfold knext
  simp [dok, Eff.md, Eff.quiet]
theorem knext_set {rest : List Oper} {tm : Nat → AV} {nx : Nat} {dst : Option Tmp} {u : AV} {c : Nat} {β : Row1} : knext P C ops nd b i rest K tm hp nx dst u (.set c β) = (setOk nd i hp c β ∧ aops P C ops nd b (i + 1) rest K (AS.put ⟨tm, upd hp c (some β), nx⟩ dst u)) := by
  unfold knext setOk
  simp [dok, Eff.md, Eff.app]
theorem knext_grow {rest : List Oper} {tm : Nat → AV} {nx : Nat} {dst : Option Tmp} {u : AV} {c : Nat} {β : Row1} : knext P C ops nd b i rest K tm hp nx dst u (.grow c β) = (nd ≤ i ∧ aops P C ops nd b (i + 1) rest K (AS.put ⟨tm, upd (upd hp c none) (b + i) (some β), nx⟩ dst u)) := by
  unfold knext
  simp [dok, Eff.md, Eff.quiet, Eff.app]
theorem vops_one {dst : Option Tmp} {op : Op} {type : Nat} {pos : String} {after : Array Edge} {rest : List Oper} {tm : Nat → AV} {nx : Nat} : aops P C ops nd b i (⟨dst, op, type, pos, after, none⟩ :: rest) K ⟨tm, hp, nx⟩ =
    aval P C (b + i) op type (AS.ev ⟨tm, hp, nx⟩) hp (knext P C ops nd b i rest K tm hp nx dst) := rfl
def gif (c : Bool) (P : Program) (C : World → Prop) (ops : Array Oper) (nd b i : Nat) (op : Op) (type : Nat) (rest : List Oper) (K : AS → Prop) (tm : Nat → AV) (hp : Nat → Option Row1) (nx : Nat) (dst : Option Tmp) : Prop :=
  aif c (aval P C (b + i) op type (AS.ev ⟨tm, hp, nx⟩) hp (knext P C ops nd b i rest K tm hp nx dst)) (aops P C ops nd b (i + 1) rest K (AS.put ⟨tm, hp, nx⟩ dst .und))
theorem gif_true {op : Op} {type : Nat} {rest : List Oper} {tm : Nat → AV} {nx : Nat} {dst : Option Tmp} : gif true P C ops nd b i op type rest K tm hp nx dst = aval P C (b + i) op type (AS.ev ⟨tm, hp, nx⟩) hp (knext P C ops nd b i rest K tm hp nx dst) := aif_true _ _
theorem gif_false {op : Op} {type : Nat} {rest : List Oper} {tm : Nat → AV} {nx : Nat} {dst : Option Tmp} : gif false P C ops nd b i op type rest K tm hp nx dst = aops P C ops nd b (i + 1) rest K (AS.put ⟨tm, hp, nx⟩ dst .und) := aif_false _ _
theorem gif_ways {c : Bool} {op : Op} {type : Nat} {rest : List Oper} {tm : Nat → AV} {nx : Nat} {dst : Option Tmp} (h1 : c = true → gif true P C ops nd b i op type rest K tm hp nx dst) (h2 : c = false → gif false P C ops nd b i op type rest K tm hp nx dst) : gif c P C ops nd b i op type rest K tm hp nx dst := by
  cases c
  · exact h2 rfl
  · exact h1 rfl
def kg2 (P : Program) (C : World → Prop) (ops : Array Oper) (nd b i : Nat) (want : Bool) (op : Op) (type : Nat) (rest : List Oper) (K : AS → Prop) (tm : Nat → AV) (hp : Nat → Option Row1) (nx : Nat) (dst : Option Tmp) (t : Bool) : Prop := gif (t == want) P C ops nd b i op type rest K tm hp nx dst
theorem kg2_t {op : Op} {type : Nat} {rest : List Oper} {tm : Nat → AV} {nx : Nat} {dst : Option Tmp} {t : Bool} : kg2 P C ops nd b i true op type rest K tm hp nx dst t = gif t P C ops nd b i op type rest K tm hp nx dst := by
  unfold kg2; cases t <;> rfl
theorem kg2_f {op : Op} {type : Nat} {rest : List Oper} {tm : Nat → AV} {nx : Nat} {dst : Option Tmp} {t : Bool} : kg2 P C ops nd b i false op type rest K tm hp nx dst t = gif (!t) P C ops nd b i op type rest K tm hp nx dst := by
  unfold kg2; cases t <;> rfl
def kg (P : Program) (C : World → Prop) (ops : Array Oper) (nd b i : Nat) (want : Bool) (op : Op) (type : Nat) (rest : List Oper) (K : AS → Prop) (tm : Nat → AV) (hp : Nat → Option Row1) (nx : Nat) (dst : Option Tmp) (d : Nat) : Prop := asBU (tm d) (kg2 P C ops nd b i want op type rest K tm hp nx dst) (aops P C ops nd b (i + 1) rest K (AS.put ⟨tm, hp, nx⟩ dst .und))
theorem kg_at {want : Bool} {op : Op} {type : Nat} {rest : List Oper} {tm : Nat → AV} {nx : Nat} {dst : Option Tmp} {d : Nat} : kg P C ops nd b i want op type rest K tm hp nx dst d = asBU (tm d) (kg2 P C ops nd b i want op type rest K tm hp nx dst) (aops P C ops nd b (i + 1) rest K (AS.put ⟨tm, hp, nx⟩ dst .und)) := rfl
def dstOf (ops : Array Oper) (g : Nat) : Option Tmp := (ops[g]?).bind (·.dst)
theorem dstOf_0 {o : Oper} {l : List Oper} : dstOf (o :: l).toArray 0 = o.dst := by simp [dstOf]
theorem dstOf_s {o : Oper} {l : List Oper} {g : Nat} : dstOf (o :: l).toArray (g + 1) = dstOf l.toArray g := by simp [dstOf]
theorem vops_guard {dst : Option Tmp} {op : Op} {type : Nat} {pos : String} {after : Array Edge} {g : Nat} {want : Bool} {rest : List Oper} {tm : Nat → AV} {nx : Nat} : aops P C ops nd b i (⟨dst, op, type, pos, after, some (g, want)⟩ :: rest) K ⟨tm, hp, nx⟩ =
    opt (dstOf ops g) (kg P C ops nd b i want op type rest K tm hp nx dst) := ops_guard
end
section
variable {Q : Exit → AS → Prop} {σ : AS}
def kend (Q : Exit → AS → Prop) (n : Nat) (σ' : AS) : Prop := Q .normal { σ' with nx := n }
theorem kend_at {n : Nat} {tm : Nat → AV} {nx : Nat} : kend Q n ⟨tm, hp, nx⟩ = Q .normal ⟨tm, hp, n⟩ := rfl
theorem vplain {i : Nat} {l : List Oper} {tm : Nat → AV} {nx : Nat} (h : aops P C l.toArray 0 nx 0 l (kend Q (nx + l.length)) ⟨tm, hp, nx⟩) : awp P C (.region i l.toArray false) Q ⟨tm, hp, nx⟩ := awp_plain h
theorem vdraws {i : Nat} {l : List Oper} {tm : Nat → AV} {nx : Nat} (hb : orderOk l.toArray (drawn l.toArray) = true) (h : aops P C l.toArray (drawn l.toArray) nx 0 l (kend Q (nx + l.length)) ⟨tm, hp, nx⟩) : awp P C (.region i l.toArray true) Q ⟨tm, hp, nx⟩ := awp_draws hb h
def cif (c : Bool) (P : Program) (C : World → Prop) (x y : Code) (Q : Exit → AS → Prop) (σ : AS) : Prop := aif c (awp P C x Q σ) (awp P C y Q σ)
theorem cif_true {x y : Code} : cif true P C x y Q σ = awp P C x Q σ := aif_true _ _
theorem cif_false {x y : Code} : cif false P C x y Q σ = awp P C y Q σ := aif_false _ _
theorem cif_ways {c : Bool} {x y : Code} (h1 : c = true → awp P C x Q σ) (h2 : c = false → awp P C y Q σ) : cif c P C x y Q σ := ⟨h1, h2⟩
def kcif (P : Program) (C : World → Prop) (x y : Code) (Q : Exit → AS → Prop) (σ : AS) (t : Bool) : Prop := cif t P C x y Q σ
theorem kcif_at {x y : Code} {t : Bool} : kcif P C x y Q σ t = cif t P C x y Q σ := rfl
def nqif (es : List (List AV)) (kk : Bool → Prop) : Prop := (es = [] → kk true) ∧ kk false
theorem nqif_ways {es : List (List AV)} {kk : Bool → Prop} (h1 : es = [] → kk true) (h2 : kk false) : nqif es kk := ⟨h1, h2⟩
def asC (u : AV) (kk : Bool → Prop) : Prop := match u with
  | .ex (.bool t) => kk t
  | .nq es => nqif es kk
  | _ => False
theorem asC_b {t : Bool} {kk : Bool → Prop} : asC (.ex (.bool t)) kk = kk t := rfl
theorem asC_nq {es : List (List AV)} {kk : Bool → Prop} : asC (.nq es) kk = nqif es kk := rfl
@[congr] theorem asC_congr {u u' : AV} {kk : Bool → Prop} (h : u = u') : asC u kk = asC u' kk := by rw [h]
theorem vcond {c : Operand} {x y : Code} (h : asC (σ.ev c) (kcif P C x y Q σ)) : awp P C (.cond c x y) Q σ := by
  unfold asC at h
  split at h
  · rename_i t heq
    exact .inl ⟨t, heq, h⟩
  · rename_i es heq
    exact .inr ⟨es, heq, fun hz => (h.1 hz).1 rfl, h.2.2 rfl⟩
  · exact h.elim
def kround (I : Nat → (Nat → AV) → (Nat → Option Row1) → Nat → Prop) (n : Nat) (σ : AS) : Prop := ∃ m, m < n ∧ I m σ.tm σ.hp σ.nx
theorem kround_i {I : Nat → (Nat → AV) → (Nat → Option Row1) → Nat → Prop} {n : Nat} {tm : Nat → AV} {nx : Nat} (m : Nat) (h1 : m < n) (h2 : I m tm hp nx) : kround I n ⟨tm, hp, nx⟩ := ⟨m, h1, h2⟩
theorem vloop {c : Code} {tm : Nat → AV} {nx : Nat} (I : Nat → (Nat → AV) → (Nat → Option Row1) → Nat → Prop) (n : Nat) (h : I n tm hp nx) (hr : ∀ n tm' hp' nx', I n tm' hp' nx' → awp P C c (athen (kround I n) Q) ⟨tm', hp', nx'⟩) : awp P C (.loop c) Q ⟨tm, hp, nx⟩ :=
  awp_loop (fun n σ => I n σ.tm σ.hp σ.nx) n h fun n σ' h' _ _ => hr n σ'.tm σ'.hp σ'.nx h'
def karet (kk : AV → Prop) (x : AV × List Nat) : Prop := kk x.1
theorem karet_at {kk : AV → Prop} {u : AV} {ids : List Nat} : karet kk (u, ids) = kk u := rfl
def karets (kk : AV → Prop) (x : List AV × List Nat) : Prop := kk (.tup x.1)
theorem karets_at {kk : AV → Prop} {u : List AV} {ids : List Nat} : karets kk (u, ids) = kk (.tup u) := rfl
theorem vret_1 {t : Nat} {σ : AS} {kk : AV → Prop} : aret P #[.tmp t] σ kk = opt (cl σ.hp (σ.tm t)) (karet kk) := aret_1
theorem vret_2 {t s : Nat} {σ : AS} {kk : AV → Prop} : aret P #[.tmp t, .tmp s] σ kk = opt (cls σ.hp [σ.tm t, σ.tm s]) (karets kk) := aret_2
theorem vret_3 {t s q : Nat} {σ : AS} {kk : AV → Prop} : aret P #[.tmp t, .tmp s, .tmp q] σ kk = opt (cls σ.hp [σ.tm t, σ.tm s, σ.tm q]) (karets kk) := aret_3
def kfrb (kk : Nat → List (List AV) → Prop) (β : Row1) : Prop := (β.mu = true ∧ (β.es.all (·.all p0)) = true) ∧ kk β.ty (β.es.map (·.map z0))
theorem kfrb_at {kk : Nat → List (List AV) → Prop} {β : Row1} : kfrb kk β = ((β.mu = true ∧ (β.es.all (·.all p0)) = true) ∧ kk β.ty (β.es.map (·.map z0))) := rfl
def kfr (hp : Nat → Option Row1) (kk : Nat → List (List AV) → Prop) (u : AV) : Prop := match u with
  | .own b => opt (hp b) (kfrb kk)
  | _ => False
theorem kfr_own {kk : Nat → List (List AV) → Prop} {b : Nat} : kfr hp kk (.own b) = opt (hp b) (kfrb kk) := rfl
theorem vfresh {t : Nat} {σ : AS} {kk : Nat → List (List AV) → Prop} : afresh #[.tmp t] σ kk = kfr σ.hp kk (σ.tm t) := by
  unfold afresh kfr
  dsimp only
  generalize σ.tm t = u
  cases u <;> try rfl
  apply propext
  dsimp only
  rw [← opt_ex]
  constructor
  · rintro ⟨β, h1, h2, h3, h4⟩; exact ⟨β, h1, ⟨h2, h3⟩, h4⟩
  · rintro ⟨β, h1, ⟨h2, h3⟩, h4⟩; exact ⟨β, h1, h2, h3, h4⟩
end
end
end Go.Proofs.YtcoflmckbcnlpaaGreatDoor
namespace Go.Proofs.YtcoflmckbcnlpaaGreatDoor
open Go.RowKit
set_option maxRecDepth 100000
section
variable {P : Program} {C : World → Prop} {id : Nat} {ty : Nat} {ev : Operand → AV} {hp : Nat → Option Row1} {k : AV → Eff → Prop}
def mpc (u : AV) (kk : Nat → Prop) : Prop := match u with | .mp b => kk b | _ => False
def vwc (u : AV) (kk : Nat → Nat → Prop) (ka : Nat → Nat → Nat → Prop) : Prop := match u with | .vw b lo => kk b lo | .asl b off n => ka b off n | _ => False
def owc (u : AV) (kk : Nat → Prop) : Prop := match u with | .own b => kk b | _ => False
def exv (u : AV) (kk : Value → Prop) : Prop := match u with | .ex v => kk v | _ => False
theorem mpc_at {b : Nat} {kk : Nat → Prop} : mpc (.mp b) kk = kk b := rfl
theorem vwc_at {b lo : Nat} {kk : Nat → Nat → Prop} {ka : Nat → Nat → Nat → Prop} : vwc (.vw b lo) kk ka = kk b lo := rfl
theorem owc_at {b : Nat} {kk : Nat → Prop} : owc (.own b) kk = kk b := rfl
theorem exv_int {kd : IntKind} {n : Int} {kk : Value → Prop} : exv (.ex (.int kd n)) kk = kk (.int kd n) := rfl
theorem exv_str {s : ByteArray} {kk : Value → Prop} : exv (.ex (.string s)) kk = kk (.string s) := rfl
@[congr] theorem mpc_congr {u u' : AV} {kk : Nat → Prop} (h : u = u') : mpc u kk = mpc u' kk := by rw [h]
@[congr] theorem vwc_congr {u u' : AV} {kk : Nat → Nat → Prop} {ka : Nat → Nat → Nat → Prop} (h : u = u') : vwc u kk ka = vwc u' kk ka := by rw [h]
@[congr] theorem owc_congr {u u' : AV} {kk : Nat → Prop} (h : u = u') : owc u kk = owc u' kk := by rw [h]
@[congr] theorem exv_congr {u u' : AV} {kk : Value → Prop} (h : u = u') : exv u kk = exv u' kk := by rw [h]
theorem exv_ex {u : AV} {kk : Value → Prop} (h : exv u kk) : ∃ v, u = .ex v ∧ kk v := by
  unfold exv at h
  split at h
  · exact ⟨_, rfl, h⟩
  · exact h.elim
theorem exv_iff {u : AV} {kk : Value → Prop} : (∃ v, u = .ex v ∧ kk v) = exv u kk := by
  apply propext
  constructor
  · rintro ⟨v, rfl, h⟩; exact h
  · exact exv_ex
theorem ev_makeMap {t : Nat} : aval P C id (.makeMap t none) ty ev hp k = (MapTy P t ∧ k (.mp id) (.new ⟨t, [], true⟩)) := by
  apply propext
  exact ⟨fun h => ⟨h.1.2, h.2⟩, fun h => ⟨⟨rfl, h.1⟩, h.2⟩⟩
def klk4 (k : AV → Eff → Prop) (bv : Bool) : Prop := k (.ex (.bool bv)) .none
theorem klk4_at {bv : Bool} : klk4 k bv = k (.ex (.bool bv)) .none := rfl
def klk3 (P : Program) (t : Nat) (c : Bool) (k : AV → Eff → Prop) (β : Row1) (kx : Value) : Prop := (β.ty = t ∧ c = false) ∧ KeyOk P t kx ∧ opt (lookA β.es kx) (klk4 k)
theorem klk3_at {t : Nat} {c : Bool} {β : Row1} {kx : Value} : klk3 P t c k β kx = ((β.ty = t ∧ c = false) ∧ KeyOk P t kx ∧ opt (lookA β.es kx) (klk4 k)) := rfl
def klk2 (P : Program) (t : Nat) (c : Bool) (x : AV) (k : AV → Eff → Prop) (β : Row1) : Prop := exv x (klk3 P t c k β)
theorem klk2_at {t : Nat} {c : Bool} {x : AV} {β : Row1} : klk2 P t c x k β = exv x (klk3 P t c k β) := rfl
def klk (P : Program) (hp : Nat → Option Row1) (t : Nat) (c : Bool) (x : AV) (k : AV → Eff → Prop) (b : Nat) : Prop := opt (hp b) (klk2 P t c x k)
theorem klk_at {t b : Nat} {c : Bool} {x : AV} : klk P hp t c x k b = opt (hp b) (klk2 P t c x k) := rfl
theorem ev_lookup {t : Nat} {m x : Operand} {c : Bool} : aval P C id (.lookup t m x c) ty ev hp k = mpc (ev m) (klk P hp t c (ev x) k) := by
  unfold aval
  dsimp only
  cases ev m <;> try rfl
  rename_i b
  dsimp only [mpc, klk]
  rw [← opt_ex]
  apply propext
  constructor
  · rintro ⟨β, kx, bv, h1, h2, h3, h4, h5, h6⟩
    exact ⟨β, h1, by rw [klk2_at, ← exv_iff]; exact ⟨kx, h3, h2, h4, by rw [← opt_ex]; exact ⟨bv, h5, h6⟩⟩⟩
  · rintro ⟨β, h1, h⟩
    rw [klk2_at, ← exv_iff] at h
    obtain ⟨kx, h3, h2, h4, h⟩ := h
    rw [← opt_ex] at h
    obtain ⟨bv, h5, h6⟩ := h
    exact ⟨β, kx, bv, h1, h2, h3, h4, h5, h6⟩
def kmu4 (P : Program) (t b : Nat) (k : AV → Eff → Prop) (β : Row1) (kx : Value) (bv : Bool) : Prop := ((β.mu = true ∧ β.ty = t) ∧ KeyOk P t kx ∧ β.es.length < maxLen) ∧ k .junk (.set b ⟨β.ty, [.ex kx, .ex (.bool bv)] :: β.es, true⟩)
theorem kmu4_at {t b : Nat} {β : Row1} {kx : Value} {bv : Bool} : kmu4 P t b k β kx bv = (((β.mu = true ∧ β.ty = t) ∧ KeyOk P t kx ∧ β.es.length < maxLen) ∧ k .junk (.set b ⟨β.ty, [.ex kx, .ex (.bool bv)] :: β.es, true⟩)) := rfl
def kmu3 (P : Program) (t b : Nat) (v : AV) (k : AV → Eff → Prop) (β : Row1) (kx : Value) : Prop := asB v (kmu4 P t b k β kx)
theorem kmu3_at {t b : Nat} {v : AV} {β : Row1} {kx : Value} : kmu3 P t b v k β kx = asB v (kmu4 P t b k β kx) := rfl
def kmu2 (P : Program) (t b : Nat) (x v : AV) (k : AV → Eff → Prop) (β : Row1) : Prop := exv x (kmu3 P t b v k β)
theorem kmu2_at {t b : Nat} {x v : AV} {β : Row1} : kmu2 P t b x v k β = exv x (kmu3 P t b v k β) := rfl
def kmu (P : Program) (hp : Nat → Option Row1) (t : Nat) (x v : AV) (k : AV → Eff → Prop) (b : Nat) : Prop := opt (hp b) (kmu2 P t b x v k)
theorem kmu_at {t b : Nat} {x v : AV} : kmu P hp t x v k b = opt (hp b) (kmu2 P t b x v k) := rfl
theorem ev_mapUpdate {t : Nat} {m x v : Operand} : aval P C id (.mapUpdate t m x v) ty ev hp k = mpc (ev m) (kmu P hp t (ev x) (ev v) k) := by
  unfold aval
  dsimp only
  cases ev m <;> try rfl
  rename_i b
  dsimp only [mpc, kmu]
  rw [← opt_ex]
  apply propext
  constructor
  · rintro ⟨β, kx, bv, h1, h2, h3, h4, h5, h6, h7⟩
    exact ⟨β, h1, by rw [kmu2_at, ← exv_iff]; exact ⟨kx, h3, by rw [kmu3_at, ← asB_ex]; exact ⟨bv, h5, ⟨h2, h4, h6⟩, h7⟩⟩⟩
  · rintro ⟨β, h1, h⟩
    rw [kmu2_at, ← exv_iff] at h
    obtain ⟨kx, h3, h⟩ := h
    rw [kmu3_at, ← asB_ex] at h
    obtain ⟨bv, h5, ⟨h2, h4, h6⟩, h7⟩ := h
    exact ⟨β, kx, bv, h1, h2, h3, h4, h5, h6, h7⟩
def KeyTy (P : Program) (t kt : Nat) : Prop := ∃ et, P.underlying t = some (.map kt et)
def kdl3 (P : Program) (t kt b : Nat) (k : AV → Eff → Prop) (β : Row1) (kx : Value) : Prop := ((β.mu = true ∧ β.ty = t) ∧ KeyOk P t kx ∧ KeyTy P t kt) ∧ k .junk (.set b ⟨β.ty, [.ex kx, .ex (.bool false)] :: β.es, true⟩)
theorem kdl3_at {t kt b : Nat} {β : Row1} {kx : Value} : kdl3 P t kt b k β kx = (((β.mu = true ∧ β.ty = t) ∧ KeyOk P t kx ∧ KeyTy P t kt) ∧ k .junk (.set b ⟨β.ty, [.ex kx, .ex (.bool false)] :: β.es, true⟩)) := rfl
def kdl2 (P : Program) (t kt b : Nat) (x : AV) (k : AV → Eff → Prop) (β : Row1) : Prop := exv x (kdl3 P t kt b k β)
theorem kdl2_at {t kt b : Nat} {x : AV} {β : Row1} : kdl2 P t kt b x k β = exv x (kdl3 P t kt b k β) := rfl
def kdl (P : Program) (hp : Nat → Option Row1) (t kt : Nat) (x : AV) (k : AV → Eff → Prop) (b : Nat) : Prop := opt (hp b) (kdl2 P t kt b x k)
theorem kdl_at {t kt b : Nat} {x : AV} : kdl P hp t kt x k b = opt (hp b) (kdl2 P t kt b x k) := rfl
theorem ev_delete {t kt : Nat} {m x : Operand} : aval P C id (.call ⟨.builtin .delete, #[m, x], #[t, kt]⟩) ty ev hp k = mpc (ev m) (kdl P hp t kt (ev x) k) := by
  unfold aval
  dsimp only
  cases ev m <;> try rfl
  rename_i b
  dsimp only [mpc, kdl]
  rw [← opt_ex]
  apply propext
  constructor
  · rintro ⟨β, kx, h1, h2, h3, h4, h5, h6⟩
    exact ⟨β, h1, by rw [kdl2_at, ← exv_iff]; exact ⟨kx, h3, ⟨h2, h4, h5⟩, h6⟩⟩
  · rintro ⟨β, h1, h⟩
    rw [kdl2_at, ← exv_iff] at h
    obtain ⟨kx, h3, ⟨h2, h4, h5⟩, h6⟩ := h
    exact ⟨β, kx, h1, h2, h3, h4, h5, h6⟩
def kcl2 (P : Program) (e b lo : Nat) (k : AV → Eff → Prop) (β : Row1) : Prop := ((β.mu = true ∧ β.ty = e) ∧ ((aty P e).zero.length = (aty P e).sz ∧ 0 < (aty P e).sz ∧ (aty P e).zero.all (·.oneCell') = true)) ∧
    k .junk (.set b ⟨β.ty, β.es.take lo ++ List.replicate (β.es.length - lo) ((aty P e).zero.map .ex), true⟩)
theorem kcl2_at {e b lo : Nat} {β : Row1} : kcl2 P e b lo k β = (((β.mu = true ∧ β.ty = e) ∧ ((aty P e).zero.length = (aty P e).sz ∧ 0 < (aty P e).sz ∧ (aty P e).zero.all (·.oneCell') = true)) ∧
    k .junk (.set b ⟨β.ty, β.es.take lo ++ List.replicate (β.es.length - lo) ((aty P e).zero.map .ex), true⟩)) := rfl
def kcl (P : Program) (hp : Nat → Option Row1) (e : Nat) (k : AV → Eff → Prop) (b lo : Nat) : Prop := opt (hp b) (kcl2 P e b lo k)
theorem kcl_at {e b lo : Nat} : kcl P hp e k b lo = opt (hp b) (kcl2 P e b lo k) := rfl
def kca (P : Program) (hp : Nat → Option Row1) (e : Nat) (k : AV → Eff → Prop) (b off n : Nat) : Prop := ∃ β r, hp b = some β ∧ (β.mu = true ∧ β.es = [r] ∧ 0 < n ∧ off + n * (aty P e).sz ≤ r.length) ∧ ((aty P e).zero.length = (aty P e).sz ∧ 0 < (aty P e).sz ∧ (aty P e).zero.all (·.oneCell') = true) ∧
    k .junk (.set b ⟨β.ty, [r.take off ++ (List.replicate n ((aty P e).zero.map AV.ex)).flatten ++ r.drop (off + n * (aty P e).sz)], true⟩)
theorem ev_clear {t : Nat} {x : Operand} : aval P C id (.call ⟨.builtin .clear, #[x], #[t]⟩) ty ev hp k = match (aty P t).k with
    | .slice e => vwc (ev x) (kcl P hp e k) (kca P hp e k)
    | _ => False := by
  unfold aval
  dsimp only
  cases (aty P t).k <;> try rfl
  dsimp only
  cases ev x <;> try rfl
  rename_i e b lo
  dsimp only [vwc, kcl]
  rw [← opt_ex]
  apply propext
  constructor
  · rintro ⟨β, h1, h2, h3, h4⟩
    exact ⟨β, h1, ⟨h2, h3⟩, h4⟩
  · rintro ⟨β, h1, ⟨h2, h3⟩, h4⟩
    exact ⟨β, h1, h2, h3, h4⟩
def kcp2 (P : Program) (e b : Nat) (k : AV → Eff → Prop) (β : Row1) (ns : List (List AV)) : Prop := ((β.mu = true ∧ β.ty = e ∧ 0 < (aty P e).sz) ∧ (∀ n ∈ ns, n.length = (aty P e).sz) ∧ ns.length ≤ β.es.length) ∧ k (.ex (.int .i64 ns.length)) (.set b ⟨β.ty, ns ++ β.es.drop ns.length, true⟩)
theorem kcp2_at {e b : Nat} {β : Row1} {ns : List (List AV)} : kcp2 P e b k β ns = (((β.mu = true ∧ β.ty = e ∧ 0 < (aty P e).sz) ∧ (∀ n ∈ ns, n.length = (aty P e).sz) ∧ ns.length ≤ β.es.length) ∧ k (.ex (.int .i64 ns.length)) (.set b ⟨β.ty, ns ++ β.es.drop ns.length, true⟩)) := rfl
def kcp1 (P : Program) (e b : Nat) (r : Option (List (List AV))) (k : AV → Eff → Prop) (β : Row1) : Prop := opt r (kcp2 P e b k β)
theorem kcp1_at {e b : Nat} {r : Option (List (List AV))} {β : Row1} : kcp1 P e b r k β = opt r (kcp2 P e b k β) := rfl
def kcp (P : Program) (hp : Nat → Option Row1) (e : Nat) (r : Option (List (List AV))) (k : AV → Eff → Prop) (b : Nat) : Prop := opt (hp b) (kcp1 P e b r k)
theorem kcp_at {e b : Nat} {r : Option (List (List AV))} : kcp P hp e r k b = opt (hp b) (kcp1 P e b r k) := rfl
theorem ev_copy {t t2 : Nat} {x y : Operand} : aval P C id (.call ⟨.builtin .copy, #[x, y], #[t, t2]⟩) ty ev hp k = match (aty P t).k with
    | .slice e => owc (ev x) (kcp P hp e (rdSl hp (ev y)) k)
    | _ => False := by
  unfold aval
  dsimp only
  cases (aty P t).k <;> try rfl
  dsimp only
  cases ev x <;> try rfl
  rename_i e b
  dsimp only [owc, kcp]
  rw [← opt_ex]
  apply propext
  constructor
  · rintro ⟨β, ns, h1, h2, h3, h4, h5, h6⟩
    exact ⟨β, h1, by rw [kcp1_at, ← opt_ex]; exact ⟨ns, h3, ⟨h2, h4, h5⟩, h6⟩⟩
  · rintro ⟨β, h1, h⟩
    rw [kcp1_at, ← opt_ex] at h
    obtain ⟨ns, h3, ⟨h2, h4, h5⟩, h6⟩ := h
    exact ⟨β, ns, h1, h2, h3, h4, h5, h6⟩
def kf2 (b : Nat) (es : List (List AV)) (k : AV → Eff → Prop) (l h : Nat) : Prop := (l ≤ h ∧ h ≤ es.length) ∧ k (.sl ((es.take h).drop l)) (.frz [b])
theorem kf2_at {b : Nat} {es : List (List AV)} {l h : Nat} : kf2 b es k l h = ((l ≤ h ∧ h ≤ es.length) ∧ k (.sl ((es.take h).drop l)) (.frz [b])) := rfl
def kf1 (b : Nat) (es : List (List AV)) (hi : Option AV) (k : AV → Eff → Prop) (l : Nat) : Prop := bnd' es.length hi (kf2 b es k l)
theorem kf1_at {b : Nat} {es : List (List AV)} {hi : Option AV} {l : Nat} : kf1 b es hi k l = bnd' es.length hi (kf2 b es k l) := rfl
theorem slice_vw {t e b : Nat} {es : List (List AV)} {mu : Bool} {l : Nat} {kd : IntKind} {n : Int} {x : Operand} (hx : ev x = .ex (.int kd n)) (hn : n = (l : Int)) (h1 : hp b = some ⟨e, es, mu⟩) (hk : (aty P t).k = .slice e) (hs : 0 < (aty P e).sz) (h2 : l < es.length)
    (h : k (.vw b l) .none) : opSlice P hp id t (.own b) ev (some x) none none k := by
  unfold opSlice
  rw [hk]
  refine ⟨_, h1, ⟨rfl, hs, rfl⟩, kd, n, hx, by omega, ?_⟩
  have e1 : n.toNat = l := by omega
  rw [e1]
  exact ⟨⟨Nat.le_of_lt h2, Nat.le_refl _⟩, .inr (.inl ⟨⟨rfl, h2⟩, h⟩)⟩
theorem slice_cut {t e b : Nat} {es : List (List AV)} {l : Nat} {kd : IntKind} {n : Int} {x : Operand} (hx : ev x = .ex (.int kd n)) (hn : n = (l : Int)) (h1 : hp b = some ⟨e, es, true⟩) (hk : (aty P t).k = .slice e) (hs : 0 < (aty P e).sz) (h2 : l ≤ es.length)
    (h : k (.own id) (.grow b ⟨e, es.take l, true⟩)) : opSlice P hp id t (.own b) ev none (some x) none k := by
  unfold opSlice
  rw [hk]
  refine ⟨_, h1, ⟨rfl, hs, rfl⟩, kd, n, hx, by omega, ?_⟩
  have e1 : n.toNat = l := by omega
  rw [e1]
  exact ⟨⟨Nat.zero_le _, h2⟩, .inr (.inr ⟨⟨rfl, rfl⟩, h⟩)⟩
def frzM (o : Option Row1) : Option Row1 := o.map fun β => { β with mu := false }
theorem frzM_some {t : Nat} {es : List (List AV)} {m : Bool} : frzM (some ⟨t, es, m⟩) = some ⟨t, es, false⟩ := rfl
theorem frz_at {c n i : Nat} : (Eff.frz [c]).app n hp i = if i = c then frzM (hp i) else hp i := by simp [Eff.app, frzM]
theorem natEqH {a n m : Nat} (h : a < n + m) : (n + m = a) = False := by simp; omega
theorem ev_fn (σ : AS) (f : Nat) : σ.ev (.func f) = .ex (.func (.func f) #[] #[]) := rfl
theorem kms_pos {t : Nat} {kx ky : IntKind} {n c : Int} (h : 0 < n) : kms2 P id t k kx n ky c = ((kx = .i64 ∧ ky = .i64) ∧ match (aty P t).k with
    | .slice e => ((aty P e).zero.length = (aty P e).sz ∧ 0 < (aty P e).sz ∧ 1 ≤ (aty P e).bytes ∧ (aty P e).zero.all (·.oneCell') = true) ∧ (n = c ∧ (aty P e).bytes * n.toNat ≤ 140737488355328) ∧ k (.own id) (.new ⟨e, List.replicate n.toNat ((aty P e).zero.map .ex), true⟩)
    | _ => False) := by
  rw [kms2_at]
  cases (aty P t).k <;> try rfl
  dsimp only
  rw [if_neg (by omega)]
  have : 0 ≤ n := by omega
  simp [this]
end
end Go.Proofs.YtcoflmckbcnlpaaGreatDoor
namespace Go.Proofs.YtcoflmckbcnlpaaGreatDoor
open Go.RowKit
set_option maxRecDepth 100000
set_option linter.defProp false
def sx0 := And.intro @init_eq (And.intro @tmI_nil (And.intro @tmI_0 (And.intro @tmI_s (And.intro @hpI_at (And.intro @put_none (And.intro @put_some (And.intro @ev_tmp (And.intro @ev_int (And.intro @ev_bool (And.intro @ev_str (And.intro @ev_nilc (And.intro @ev_nili (And.intro @cells_ex (And.intro @cells_agg (And.intro @cells_sl (And.intro @cells_own (And.intro @rdSl_sl (And.intro @rdSl_own (And.intro @rdSl_nil (And.intro @rdApp_nil (And.intro @opt_none (And.intro @ops_nil (And.intro @vops_one (And.intro @vops_guard (And.intro @dstOf_0 (And.intro @dstOf_s (And.intro @kg_at (And.intro @kg2_t (And.intro @kg2_f (And.intro @gif_true (And.intro @gif_false (And.intro @knext_none (And.intro @knext_new (And.intro @knext_frz0 (And.intro @knext_frz (And.intro @knext_set (And.intro @knext_grow (And.intro @kend_at (@ev_move)))))))))))))))))))))))))))))))))))))))
def sx1 := And.intro @ev_assign_tmp (And.intro @ev_assign_const (And.intro @nilConst_int (And.intro @nilConst_bool (And.intro @nilConst_str (And.intro @nilConst_nil (And.intro @ev_alloc (And.intro @ev_nilCheck (And.intro @ev_bin (And.intro @ev_un (And.intro @ev_conv (And.intro @ev_slice (And.intro @vbuild (And.intro @fill_nil (And.intro @fill_cons (And.intro @pla_at (And.intro @plf_0 (And.intro @plf_s (And.intro @kagg_at (And.intro @rowsP_nil (And.intro @rowsP_cons (And.intro @krow_at (And.intro @elemOf_s (And.intro @vpick (And.intro @kpick_t (And.intro @kpick_f (And.intro @kpick_at (And.intro @vbox (And.intro @kbox_at (And.intro @vload (And.intro @kload_at (And.intro @vplc_pt (And.intro @vplc_rp (And.intro @kplc_at (And.intro @kplc2_at (And.intro @kcell_at (And.intro @vld (And.intro @vstore (And.intro @vsto_pt (@ksp_at)))))))))))))))))))))))))))))))))))))))
def sx2 := And.intro @ksp2_at (And.intro @ksto_at (And.intro @ksto2_at (And.intro @vmake (And.intro @kms_at (And.intro @kms_zero (And.intro @vfieldAddr (And.intro @kfa_at (And.intro @vfield (And.intro @kfd_at (And.intro @kfd2_at (And.intro @vindexAddr (And.intro @kix_at (And.intro @vindex (And.intro @kixv_at (And.intro @vextract (And.intro @kext_at (And.intro @kval_at (And.intro @ev_callf (And.intro @ev_len (And.intro @vapp (And.intro @kapp_at (And.intro @vapp_own (And.intro @kapp2_at (And.intro @app_nil (And.intro @rdApp_own (And.intro @rdApp_sl (And.intro @vmin (And.intro @kmin_at (And.intro @kmin2_at (And.intro @vmax (And.intro @kmax_at (And.intro @kmax2_at (And.intro @asB_b (And.intro @asC_b (And.intro @asC_nq (And.intro @asI_i (And.intro @opt_some (And.intro @fld_rp (@fld_pt)))))))))))))))))))))))))))))))))))))))
def sx3 := And.intro @agc_a (And.intro @tupc_a (And.intro @bin_add (And.intro @bin_sub (And.intro @bin_mul (And.intro @bin_quo (And.intro @bin_rem (And.intro @bin_xor (And.intro @bin_and (And.intro @bin_or (And.intro @bin_eql (And.intro @bin_neq (And.intro @bin_lss (And.intro @bin_leq (And.intro @bin_gtr (And.intro @bin_geq (And.intro @bin_shl (And.intro @bin_shr (And.intro @bin_sadd (And.intro @bin_seql (And.intro @bin_sneq (And.intro @bin_slss (And.intro @bin_sgtr (And.intro @bin_beql (And.intro @bin_bneq (And.intro @vbin_aeql (And.intro @vbin_aneq (And.intro @kaeq_at (And.intro @kane_at (And.intro @bin_seq (And.intro @bin_ieql (And.intro @bin_ineq (And.intro @un_not (And.intro @un_neg (And.intro @un_xor (And.intro @conv_int (And.intro @conv_str (And.intro @vconv_sl (And.intro @vconv_ow (@toStr_sl)))))))))))))))))))))))))))))))))))))))
def sx4 := And.intro @kstr_at (And.intro @vlen_str (And.intro @len_sl (And.intro @vlen_own (And.intro @klen_at (And.intro @vix_own (And.intro @kixo_at (And.intro @vix_sl (And.intro @kixs_at (And.intro @ix_rp (And.intro @ix_pt (And.intro @vixv_str (And.intro @ixv_agg (And.intro @kbyte_at (And.intro @bnd'_none (And.intro @bnd'_some (And.intro @kbs_at (And.intro @vslice_str (And.intro @ks1_at (And.intro @ks2_at (And.intro @vslice_sl (And.intro @kt1_at (And.intro @kt2_at (And.intro @kt3_at (And.intro @upd_at (And.intro @then_normal (And.intro @then_exit (And.intro @then_ret (And.intro @block_normal (And.intro @block_ret (And.intro @block_exit (And.intro @end_normal (And.intro @end_ret (And.intro @kcif_at (And.intro @cif_true (And.intro @cif_false (And.intro @wrap_i64 (And.intro @wrap_u8 (And.intro @wrap_u64 (@byteAt_of)))))))))))))))))))))))))))))))))))))))
def sx5 := And.intro @natP (And.intro @natZ (And.intro @noSl_ex (And.intro @noSl_tup (And.intro @noSl_agg (And.intro @noSl1_ex (And.intro @noSl1_agg (And.intro @noSl0_ex (And.intro @noSl_nil (And.intro @noSl1_nil (And.intro @natEqF (And.intro @natEqG (And.intro @nat1 (And.intro @nat2 (And.intro @nat3 (And.intro @nat4 (And.intro @nat5 (And.intro @nat6 (And.intro @nat7 (And.intro @nat8 (And.intro @nat9 (And.intro @nat10 (And.intro @nat11 (And.intro @nat12 (And.intro @asBU_b (And.intro @asBU_u (And.intro @knext_alc (And.intro @setOk_0 (And.intro @alcc_0 (And.intro @ev_callv (And.intro @fnv_fn (And.intro @fnv_func (And.intro @kfn_at (@ev_mkf)))))))))))))))))))))))))))))))))
def sx6 := And.intro @Option.map_some.{0,0} (And.intro @Option.bind_some.{0,0} (And.intro @Option.map_none.{0,0} (And.intro @Option.isSome_some.{0} (And.intro @Option.isSome_none.{0} (And.intro @Option.isNone_some.{0} (And.intro @Option.isNone_none.{0} (And.intro @Bool.true_or (And.intro @Bool.or_true (And.intro @List.length_cons.{0} (And.intro @List.length_nil.{0} (And.intro @List.map_cons.{0,0} (And.intro @List.map_nil.{0,0} (And.intro @true_and (And.intro @and_true (And.intro @Option.some.injEq.{0} (And.intro @Nat.not_lt_zero (And.intro @List.getElem?_cons_zero.{0} (And.intro @List.getElem?_cons_succ.{0} (And.intro @Bool.not_true (And.intro @Bool.not_false (And.intro @not_false_eq_true (And.intro @Nat.add_zero (And.intro @Nat.zero_add (And.intro @List.all_cons.{0} (And.intro @List.all_nil.{0} (And.intro @Bool.and_self (And.intro @Bool.and_true (And.intro @Bool.true_and (And.intro @List.drop_zero.{0} (And.intro @List.drop_succ_cons.{0} (And.intro @List.take_succ_cons.{0} (And.intro @List.take_zero.{0} (And.intro @List.take_nil.{0} (And.intro @List.nil_append.{0} (And.intro @List.cons_append.{0} (And.intro @List.append_nil.{0} (And.intro @List.set_cons_zero.{0} (And.intro @List.set_cons_succ.{0} (And.intro @Int.toNat_natCast (And.intro @Bool.false_eq_true (And.intro @not_true_eq_false (And.intro @false_or (And.intro @or_false (@List.not_mem_nil.{0}))))))))))))))))))))))))))))))))))))))))))))
def sxc := And.intro @vret_1 (And.intro @vfresh (And.intro @kfr_own (And.intro @kfrb_at (And.intro @vret_2 (And.intro @vret_3 (And.intro @karet_at (And.intro @karets_at (And.intro @opt_some (And.intro @cl_agg (And.intro @cl_fn (And.intro @cl_pt (And.intro @cl_rp (And.intro @cl1_pt (And.intro @cl1_rp (And.intro @cl_ex (And.intro @cl_sl (And.intro @cl_own (And.intro @cls_nil (And.intro @cls_cons (And.intro @cl1s_nil (And.intro @cl1s_cons (And.intro @cl1_int (And.intro @cl1_bool (And.intro @cl1_str (And.intro @cl1_nil (And.intro @cl1_sl (And.intro @cl1_own (And.intro @upd_at (And.intro @tmI_0 (And.intro @tmI_s (@hpI_at)))))))))))))))))))))))))))))))
def sx7 := And.intro @mpc_at (And.intro @vwc_at (And.intro @owc_at (And.intro @exv_int (And.intro @exv_str (And.intro @ev_makeMap (And.intro @klk4_at (And.intro @klk3_at (And.intro @klk2_at (And.intro @klk_at (And.intro @ev_lookup (And.intro @kmu4_at (And.intro @kmu3_at (And.intro @kmu2_at (And.intro @kmu_at (And.intro @ev_mapUpdate (And.intro @kdl3_at (And.intro @kdl2_at (And.intro @kdl_at (And.intro @ev_delete (And.intro @kcl2_at (And.intro @kcl_at (And.intro @ev_clear (And.intro @kcp2_at (And.intro @kcp1_at (And.intro @kcp_at (And.intro @ev_copy (And.intro @kf2_at (And.intro @kf1_at (And.intro @frzM_some (And.intro @frz_at (And.intro @natEqH (And.intro @ev_fn (@kms_pos)))))))))))))))))))))))))))))))))
def sx8 := And.intro @isBytes.eq_1 (And.intro @ATy.isAgg.eq_1 (And.intro @ATy.known.eq_1 (And.intro @implies_true.{0} (And.intro @implies_true.{1} (And.intro @decide_true (And.intro @decide_false (And.intro @ne_eq.{1} (And.intro @ite_self.{1} (And.intro @beq_self_eq_true.{0} (And.intro @bne_self_eq_false.{0} (And.intro @gt_iff_lt.{0} (And.intro @List.forall_mem_cons.{0} (And.intro @false_implies (And.intro @forall_const.{0} (@forall_const.{1})))))))))))))))
def sxb := And.intro @elemOf_s (And.intro @List.length_cons.{0} (And.intro @List.length_nil.{0} (And.intro @List.all_cons.{0} (And.intro @List.all_nil.{0} (And.intro @Bool.and_self (And.intro @true_and (And.intro @and_true (And.intro @and_self (And.intro @Nat.lt_add_one (And.intro @Nat.zero_mul (And.intro @Nat.zero_le (@Nat.one_mul))))))))))))
def sxd := And.intro sxc (And.intro sx6 (And.intro @AV.ex.injEq (And.intro @Value.bool.injEq (And.intro @Value.int.injEq (And.intro @Value.string.injEq (And.intro @List.all_append.{0} (@List.map_append.{0,0})))))))
def sxn := And.intro @decide_eq_true_eq (And.intro @decide_eq_false_iff_not (And.intro @Bool.not_eq_true' (And.intro @Bool.not_eq_false' (And.intro @Bool.not_true (@Bool.not_false)))))
end Go.Proofs.YtcoflmckbcnlpaaGreatDoor