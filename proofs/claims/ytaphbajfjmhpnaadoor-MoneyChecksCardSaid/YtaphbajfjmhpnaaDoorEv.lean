/-
  The laws by which a body is walked over values without memory: each operation as its next step, so that what follows is not looked into. Conditions: those that each theorem states.
-/
import Derived.Test.YtaphbajfjmhpnaaDoorAbs15
namespace Go.Proofs.YtaphbajfjmhpnaaDoor
open Go.RowKit
set_option maxRecDepth 100000

def asB (u : AV) (k : Bool → Prop) : Prop := match u with | .ex (.bool t) => k t | _ => False
def asI (u : AV) (k : IntKind → Int → Prop) : Prop := match u with | .ex (.int kd n) => k kd n | _ => False
def opt {α : Type} (x : Option α) (k : α → Prop) : Prop := match x with | some y => k y | none => False
/-- Two ways, neither of which is looked into. -/
def aif (c : Bool) (A B : Prop) : Prop := (c = true → A) ∧ (c = false → B)
theorem aif_true (A B : Prop) : aif true A B = A := by simp [aif]
theorem aif_false (A B : Prop) : aif false A B = B := by simp [aif]
theorem asB_b (t : Bool) (k : Bool → Prop) : asB (.ex (.bool t)) k = k t := rfl
theorem asI_i (kd : IntKind) (n : Int) (k : IntKind → Int → Prop) : asI (.ex (.int kd n)) k = k kd n := rfl
theorem opt_some {α : Type} (y : α) (k : α → Prop) : opt (some y) k = k y := rfl
@[congr] theorem aif_congr {c c' : Bool} {A B : Prop} (h : c = c') : aif c A B = aif c' A B := by rw [h]
@[congr] theorem asB_congr {u u' : AV} {k : Bool → Prop} (h : u = u') : asB u k = asB u' k := by rw [h]
@[congr] theorem asI_congr {u u' : AV} {k : IntKind → Int → Prop} (h : u = u') : asI u k = asI u' k := by rw [h]
@[congr] theorem opt_congr {α : Type} {x x' : Option α} {k : α → Prop} (h : x = x') : opt x k = opt x' k := by rw [h]
theorem asB_ex {u : AV} {k : Bool → Prop} : (∃ t, u = .ex (.bool t) ∧ k t) = asB u k := by
  apply propext
  unfold asB
  constructor
  · rintro ⟨t, rfl, h⟩; exact h
  · intro h
    split at h
    · exact ⟨_, rfl, h⟩
    · exact h.elim
theorem asI_ex {u : AV} {k : IntKind → Int → Prop} : (∃ kd n, u = .ex (.int kd n) ∧ k kd n) = asI u k := by
  apply propext
  unfold asI
  constructor
  · rintro ⟨kd, n, rfl, h⟩; exact h
  · intro h
    split at h
    · exact ⟨_, _, rfl, h⟩
    · exact h.elim
theorem opt_ex {α : Type} {x : Option α} {k : α → Prop} : (∃ y, x = some y ∧ k y) = opt x k := by
  apply propext
  unfold opt
  constructor
  · rintro ⟨y, rfl, h⟩; exact h
  · intro h
    split at h
    · exact ⟨_, rfl, h⟩
    · exact h.elim

section
variable {P : Program} {C : World → Prop} {id : Nat} {ty : Nat} {ev : Operand → AV} {hp : Nat → Option Row1} {k : AV → Eff → Prop}
@[congr] theorem awp_congr {c : Code} {Q : Exit → AS → Prop} {σ σ' : AS} (h : σ = σ') : awp P C c Q σ = awp P C c Q σ' := by rw [h]
@[congr] theorem aops_congr {ops : Array Oper} {nd b i : Nat} {l : List Oper} {K : AS → Prop} {σ σ' : AS} (h : σ = σ') : aops P C ops nd b i l K σ = aops P C ops nd b i l K σ' := by rw [h]
@[congr] theorem aval_congr {id' : Nat} {op : Op} (h : id = id') : aval P C id op ty ev hp k = aval P C id' op ty ev hp k := by rw [h]
@[congr] theorem opCall_congr {f : Nat} {args args' : List AV} (h : args = args') : opCall P C id f hp args k = opCall P C id f hp args' k := by rw [h]
@[congr] theorem opBin_congr {op : BinOp} {t : Nat} {x x' y y' : AV} (h : x = x') (h' : y = y') : opBin P op t x y k = opBin P op t x' y' k := by rw [h, h']
@[congr] theorem opUn_congr {op : UnOp} {x x' : AV} (h : x = x') : opUn op x k = opUn op x' k := by rw [h]
@[congr] theorem opConv_congr {s d : Nat} {x x' : AV} (h : x = x') : opConv P hp s d x k = opConv P hp s d x' k := by rw [h]
@[congr] theorem ldCell_congr {t off off' : Nat} {cs cs' : List AV} (h : cs = cs') (h' : off = off') : ldCell P t cs off k = ldCell P t cs' off' k := by rw [h, h']
@[congr] theorem opLen_congr {t : Nat} {x x' : AV} (h : x = x') : opLen P hp t x k = opLen P hp t x' k := by rw [h]
@[congr] theorem opApp_congr {e : Nat} {s s' : AV} {ns ns' : List (List AV)} (h : s = s') (h' : ns = ns') : opApp P hp id e s ns k = opApp P hp id e s' ns' k := by rw [h, h']
@[congr] theorem opIx_congr {t n n' : Nat} {x x' : AV} (h : x = x') (h' : n = n') : opIx P hp t x n k = opIx P hp t x' n' k := by rw [h, h']
@[congr] theorem opSlice_congr {t : Nat} {x x' : AV} {lo hi mx : Option Operand} (h : x = x') : opSlice P t x ev lo hi mx k = opSlice P t x' ev lo hi mx k := by rw [h]

theorem ev_pick {c a b : Operand} : aval P C id (.pick c a b) ty ev hp k = asB (ev c) fun t => k (if t then ev a else ev b) .none := asB_ex
theorem ev_box {t : Nat} {x : Operand} : aval P C id (.box t x) ty ev hp k = opt (ev x).cells fun cs => (cs.length = (aty P t).sz ∧ 0 < cs.length) ∧ k (.pt id 0 0) (.new ⟨t, [cs], true⟩) := opt_ex
/-- A cell's place. -/
def plc (hp : Nat → Option Row1) (u : AV) (k : List AV → Nat → Prop) : Prop := match u with
  | .rp cs off => k cs off
  | .pt b j off => opt (hp b) fun β => opt β.es[j]? fun e => k e off
  | _ => False
theorem plc_rp (cs : List AV) (off : Nat) (kk : List AV → Nat → Prop) : plc hp (.rp cs off) kk = kk cs off := rfl
theorem plc_pt (b j off : Nat) (kk : List AV → Nat → Prop) : plc hp (.pt b j off) kk = opt (hp b) fun β => opt β.es[j]? fun e => kk e off := rfl
@[congr] theorem plc_congr {u u' : AV} {kk : List AV → Nat → Prop} (h : u = u') : plc hp u kk = plc hp u' kk := by rw [h]
theorem ev_load {t : Nat} {x : Operand} : aval P C id (.load t x) ty ev hp k = plc hp (ev x) fun cs off => ldCell P t cs off k := by
  unfold aval
  dsimp only
  generalize ev x = u
  cases u <;> try rfl
  rename_i b j off
  apply propext
  rw [plc_pt, ← opt_ex]
  constructor
  · rintro ⟨β, e, h1, h2, h3⟩; exact ⟨β, h1, by rw [← opt_ex]; exact ⟨e, h2, h3⟩⟩
  · rintro ⟨β, h1, h2⟩; rw [← opt_ex] at h2; obtain ⟨e, h2, h3⟩ := h2; exact ⟨β, e, h1, h2, h3⟩
def sto (hp : Nat → Option Row1) (u : AV) (k : Nat → Nat → Nat → Row1 → List AV → Prop) : Prop := match u with
  | .pt b j off => opt (hp b) fun β => opt β.es[j]? fun e => k b j off β e
  | _ => False
theorem sto_pt (b j off : Nat) (kk : Nat → Nat → Nat → Row1 → List AV → Prop) : sto hp (.pt b j off) kk = opt (hp b) fun β => opt β.es[j]? fun e => kk b j off β e := rfl
@[congr] theorem sto_congr {u u' : AV} {kk : Nat → Nat → Nat → Row1 → List AV → Prop} (h : u = u') : sto hp u kk = sto hp u' kk := by rw [h]
theorem ev_store {t : Nat} {x v : Operand} : aval P C id (.store t x v) ty ev hp k = sto hp (ev x) fun b j off β e => opt (ev v).cells fun cs => (β.mu = true ∧ cs.length = (aty P t).sz ∧ 0 < cs.length ∧ off + cs.length ≤ e.length) ∧
    k .junk (.set b ⟨β.ty, β.es.set j (e.take off ++ cs ++ e.drop (off + cs.length)), true⟩) := by
  unfold aval
  dsimp only
  generalize ev x = u
  cases u <;> try rfl
  rename_i b j off
  apply propext
  rw [sto_pt, ← opt_ex]
  constructor
  · rintro ⟨β, e, cs, h1, h2, h3, h4, ⟨h5, h6, h7⟩, h8⟩
    refine ⟨β, h1, ?_⟩
    rw [← opt_ex]
    refine ⟨e, h3, ?_⟩
    rw [← opt_ex]
    exact ⟨cs, h4, ⟨h2, h5, h6, h7⟩, h8⟩
  · rintro ⟨β, h1, h2⟩
    rw [← opt_ex] at h2
    obtain ⟨e, h3, h2⟩ := h2
    rw [← opt_ex] at h2
    obtain ⟨cs, h4, ⟨h2, h5, h6, h7⟩, h8⟩ := h2
    exact ⟨β, e, cs, h1, h2, h3, h4, ⟨h5, h6, h7⟩, h8⟩
theorem ev_makeSlice {t : Nat} {x y : Operand} : aval P C id (.makeSlice t x y) ty ev hp k = asI (ev x) fun kx n => asI (ev y) fun ky c => (kx = .i64 ∧ ky = .i64) ∧ match (aty P t).k with
    | .slice e => ((aty P e).zero.length = (aty P e).sz ∧ 0 < (aty P e).sz ∧ 1 ≤ (aty P e).bytes ∧ (aty P e).zero.all (·.oneCell') = true) ∧ (n = 0 ∧ 0 ≤ c ∧ (aty P e).bytes * c.toNat ≤ 140737488355328) ∧
        k (.own id) (.new ⟨e, [], true⟩)
    | _ => False := by
  apply propext
  rw [← asI_ex]
  unfold aval
  dsimp only
  constructor
  · rintro ⟨n, c, h1, h2, h3⟩
    refine ⟨_, n, h1, ?_⟩
    rw [← asI_ex]
    exact ⟨_, c, h2, ⟨rfl, rfl⟩, h3⟩
  · rintro ⟨kx, n, h1, h2⟩
    rw [← asI_ex] at h2
    obtain ⟨ky, c, h2, ⟨rfl, rfl⟩, h3⟩ := h2
    exact ⟨n, c, h1, h2, h3⟩
def fld (u : AV) (o : Nat) (k : AV → Eff → Prop) : Prop := match u with
  | .rp cs off => k (.rp cs (off + o)) .none
  | .pt b j off => k (.pt b j (off + o)) .none
  | _ => False
theorem fld_rp (cs : List AV) (off o : Nat) : fld (.rp cs off) o k = k (.rp cs (off + o)) .none := rfl
theorem fld_pt (b j off o : Nat) : fld (.pt b j off) o k = k (.pt b j (off + o)) .none := rfl
@[congr] theorem fld_congr {u u' : AV} {o : Nat} (h : u = u') : fld u o k = fld u' o k := by rw [h]
theorem ev_fieldAddr {s : Nat} {x : Operand} {f : Nat} : aval P C id (.fieldAddr s x f) ty ev hp k = opt (aty P s).flds[f]? fun p => (aty P p.2).sz ≠ 0 ∧ fld (ev x) p.1 k := by
  apply propext
  rw [← opt_ex]
  unfold aval fld
  dsimp only
  constructor
  · rintro ⟨o, ft, h1, h2, h3⟩; exact ⟨(o, ft), h1, h2, h3⟩
  · rintro ⟨⟨o, ft⟩, h1, h2, h3⟩; exact ⟨o, ft, h1, h2, h3⟩
def agc (u : AV) (k : List AV → Prop) : Prop := match u with | .agg cs => k cs | _ => False
theorem agc_a (cs : List AV) (kk : List AV → Prop) : agc (.agg cs) kk = kk cs := rfl
@[congr] theorem agc_congr {u u' : AV} {kk : List AV → Prop} (h : u = u') : agc u kk = agc u' kk := by rw [h]
theorem ev_field {s : Nat} {x : Operand} {f : Nat} : aval P C id (.field s x f) ty ev hp k = opt (aty P s).flds[f]? fun p => agc (ev x) fun cs => ldCell P p.2 cs p.1 k := by
  apply propext
  rw [← opt_ex]
  unfold aval agc
  dsimp only
  constructor
  · rintro ⟨o, ft, h1, h3⟩; exact ⟨(o, ft), h1, h3⟩
  · rintro ⟨⟨o, ft⟩, h1, h3⟩; exact ⟨o, ft, h1, h3⟩
theorem ev_indexAddr {t : Nat} {x i : Operand} : aval P C id (.indexAddr t x i) ty ev hp k = asI (ev i) fun _ n => 0 ≤ n ∧ opIx P hp t (ev x) n.toNat k := asI_ex
def opIxv (P : Program) (t : TypeId) (u : AV) (n : Nat) (k : AV → Eff → Prop) : Prop := match (aty P t).k, u with
    | .str, .ex (.string s) => ∃ h : n < s.size, k (.ex (.int .u8 (s[n]'h).toNat)) .none
    | .arr len e, .agg cs => 0 < (aty P e).sz ∧ n < len ∧ ldCell P e cs (n * (aty P e).sz) k
    | _, _ => False
@[congr] theorem opIxv_congr {t n n' : Nat} {x x' : AV} (h : x = x') (h' : n = n') : opIxv P t x n k = opIxv P t x' n' k := by rw [h, h']
theorem ev_index {t : Nat} {x i : Operand} : aval P C id (.index t x i) ty ev hp k = asI (ev i) fun _ n => 0 ≤ n ∧ opIxv P t (ev x) n.toNat k := asI_ex
def tupc (u : AV) (k : List AV → Prop) : Prop := match u with | .tup cs => k cs | _ => False
theorem tupc_a (cs : List AV) (kk : List AV → Prop) : tupc (.tup cs) kk = kk cs := rfl
@[congr] theorem tupc_congr {u u' : AV} {kk : List AV → Prop} (h : u = u') : tupc u kk = tupc u' kk := by rw [h]
theorem ev_extract {x : Operand} {i : Nat} : aval P C id (.extract x i) ty ev hp k = tupc (ev x) fun vs => opt vs[i]? fun u => k u .none := by
  unfold aval
  dsimp only
  generalize ev x = u
  cases u <;> try rfl
  exact opt_ex
theorem ev_callf {f : Nat} {args : Array Operand} {tys : Array Nat} : aval P C id (.call ⟨.value (.func f), args, tys⟩) ty ev hp k = opCall P C id f hp (args.toList.map ev) k := rfl
/-- A function that lies in a slot. -/
def fnv (u : AV) (kk : Nat → List AV → Prop) : Prop := match u with
  | .fn f caps => kk f caps
  | .ex (.func (.func f) a b) => (a = #[] ∧ b = #[]) ∧ kk f []
  | _ => False
@[congr] theorem fnv_congr {u u' : AV} {kk : Nat → List AV → Prop} (h : u = u') : fnv u kk = fnv u' kk := by rw [h]
theorem fnv_fn {f : Nat} {caps : List AV} {kk : Nat → List AV → Prop} : fnv (.fn f caps) kk = kk f caps := rfl
theorem fnv_func {f : Nat} {kk : Nat → List AV → Prop} : fnv (.ex (.func (.func f) #[] #[])) kk = kk f [] := by simp [fnv]
def kfn (P : Program) (C : World → Prop) (id : Nat) (hp : Nat → Option Row1) (args : List AV) (k : AV → Eff → Prop) (f : Nat) (caps : List AV) : Prop := opCall P C id f hp (args ++ caps) k
theorem kfn_at {args : List AV} {f : Nat} {caps : List AV} : kfn P C id hp args k f caps = opCall P C id f hp (args ++ caps) k := rfl
theorem ev_callv {t : Nat} {args : Array Operand} {tys : Array Nat} : aval P C id (.call ⟨.value (.tmp t), args, tys⟩) ty ev hp k = fnv (ev (.tmp t)) (kfn P C id hp (args.toList.map ev) k) := by
  unfold aval fnv
  dsimp only
  generalize ev (.tmp t) = u
  cases u with
  | ex v =>
    cases v with
    | func fn a b => cases fn <;> simp [kfn]
    | _ => rfl
  | fn f caps => rfl
  | _ => rfl
theorem ev_mkf {f : Nat} {caps : Array Operand} : aval P C id (.makeFunc (.func f) #[] caps) ty ev hp k = k (.fn f (caps.toList.map ev)) .none := by simp [aval]
theorem ev_len {x : Operand} {t : Nat} : aval P C id (.call ⟨.builtin .len, #[x], #[t]⟩) ty ev hp k = opLen P hp t (ev x) k := rfl
/-- What is appended. -/
def rdApp (hp : Nat → Option Row1) : AV → Option (List (List AV))
  | .ex (.string _) => none
  | u => rdSl hp u
theorem ev_app {s x : Operand} {t t2 : Nat} : aval P C id (.call ⟨.builtin .append, #[s, x], #[t, t2]⟩) ty ev hp k = match (aty P t).k with
        | .slice e => t2 = t ∧ opt (rdApp hp (ev x)) fun ns => opApp P hp id e (ev s) ns k
        | _ => False := by
  unfold aval
  dsimp only
  cases (aty P t).k <;> try rfl
  dsimp only
  apply propext
  rw [← opt_ex]
  constructor
  · intro h
    split at h
    · exact h.elim
    · rename_i hne
      obtain ⟨h1, ns, h2, h3⟩ := h
      refine ⟨h1, ns, ?_, h3⟩
      unfold rdApp
      split
      · rename_i q heq; exact absurd heq (hne q)
      · exact h2
  · rintro ⟨h1, ns, h2, h3⟩
    unfold rdApp at h2
    split at h2
    · cases h2
    · rename_i hne
      split
      · rename_i q heq; exact absurd heq (hne q)
      · exact ⟨h1, ns, h2, h3⟩
theorem ev_min {x y : Operand} {tys : Array Nat} : aval P C id (.call ⟨.builtin .min, #[x, y], tys⟩) ty ev hp k = asI (ev x) fun kd a => asI (ev y) fun _ b => k (.ex (.int kd (if b < a then b else a))) .none := by
  apply propext
  rw [← asI_ex]
  constructor
  · rintro ⟨kd, p, kd', q, h1, h2, h3⟩
    refine ⟨kd, p, h1, ?_⟩
    rw [← asI_ex]
    exact ⟨kd', q, h2, h3⟩
  · rintro ⟨kd, p, h1, h2⟩
    rw [← asI_ex] at h2
    obtain ⟨kd', q, h2, h3⟩ := h2
    exact ⟨kd, p, kd', q, h1, h2, h3⟩
theorem ev_max {x y : Operand} {tys : Array Nat} : aval P C id (.call ⟨.builtin .max, #[x, y], tys⟩) ty ev hp k = asI (ev x) fun kd a => asI (ev y) fun _ b => k (.ex (.int kd (if a < b then b else a))) .none := by
  apply propext
  rw [← asI_ex]
  constructor
  · rintro ⟨kd, p, kd', q, h1, h2, h3⟩
    refine ⟨kd, p, h1, ?_⟩
    rw [← asI_ex]
    exact ⟨kd', q, h2, h3⟩
  · rintro ⟨kd, p, h1, h2⟩
    rw [← asI_ex] at h2
    obtain ⟨kd', q, h2, h3⟩ := h2
    exact ⟨kd, p, kd', q, h1, h2, h3⟩
end
end Go.Proofs.YtaphbajfjmhpnaaDoor

namespace Go.Proofs.YtaphbajfjmhpnaaDoor
open Go.RowKit
set_option maxRecDepth 100000

section
variable {P : Program} {C : World → Prop} {id : Nat} {ty : Nat} {ev : Operand → AV} {hp : Nat → Option Row1} {k : AV → Eff → Prop}
theorem ev_move {x : Operand} : aval P C id (.move x) ty ev hp k = k (ev x) .none := rfl
theorem ev_assign_tmp {t : Nat} : aval P C id (.assign (.tmp t)) ty ev hp k = k (ev (.tmp t)) .none := by
  unfold aval
  simp only [nilConst]
theorem ev_assign_const {v : Value} : aval P C id (.assign (.const v)) ty ev hp k = match nilConst (.const v), (aty P ty).k with
    | true, .slice e => k (.own id) (.new ⟨e, [], true⟩)
    | _, _ => k (ev (.const v)) .none := rfl
theorem nilConst_int (kd : IntKind) (n : Int) : nilConst (.const (.int kd n)) = false := rfl
theorem nilConst_bool (b : Bool) : nilConst (.const (.bool b)) = false := rfl
theorem nilConst_str (s : ByteArray) : nilConst (.const (.string s)) = false := rfl
theorem nilConst_nil : nilConst (.const (.slice none 0 0)) = true := rfl
theorem ev_alloc {t : Nat} : aval P C id (.alloc t) ty ev hp k = (((aty P t).zero.length = (aty P t).sz ∧ 0 < (aty P t).sz ∧ (aty P t).zero.all (·.oneCell') = true) ∧ k (.pt id 0 0) (.alc t ((aty P t).zero.map .ex))) := rfl
theorem ev_nilCheck {x : Operand} : aval P C id (.nilCheck x) ty ev hp k = fld (ev x) 0 k := by
  unfold aval fld
  dsimp only
  generalize ev x = u
  cases u <;> rfl
theorem ev_bin {op : BinOp} {t ty' : Nat} {x y : Operand} : aval P C id (.binOp op t x y ty') ty ev hp k = opBin P op t (ev x) (ev y) k := rfl
theorem ev_un {op : UnOp} {t : Nat} {x : Operand} : aval P C id (.unOp op t x) ty ev hp k = opUn op (ev x) k := rfl
theorem ev_conv {s d : Nat} {x : Operand} : aval P C id (.convert s d x) ty ev hp k = opConv P hp s d (ev x) k := rfl
theorem ev_slice {t : Nat} {x : Operand} {lo hi mx : Option Operand} : aval P C id (.slice t x lo hi mx) ty ev hp k = opSlice P t (ev x) ev lo hi mx k := rfl
theorem ev_build {t : Nat} {parts : List (Nat × Operand)} : aval P C id (.build t parts.toArray) ty ev hp k = (((aty P t).zero.length = (aty P t).sz ∧ 0 < (aty P t).sz ∧ (aty P t).zero.all (·.oneCell') = true) ∧ match (aty P t).k with
    | .struct => ((aty P t).flds.all fun f => decide (0 < (aty P f.2).sz)) = true ∧ opt (fillA (fun i => ((aty P t).flds.map fun f => (f.1, (aty P f.2).sz))[i]?) ((aty P t).zero.map .ex) (parts.map fun x => (x.1, ev x.2))) fun cs => k (.agg cs) .none
    | .arr _ e => 0 < (aty P e).sz ∧ opt (fillA (fun i => some (i * (aty P e).sz, (aty P e).sz)) ((aty P t).zero.map .ex) (parts.map fun x => (x.1, ev x.2))) fun cs => k (.agg cs) .none
    | _ => False) := by
  unfold aval
  dsimp only
  congr 1
  cases (aty P t).k <;> first | rfl | (dsimp only; congr 1; exact opt_ex)
theorem ev_buildSlice {t len : Nat} {parts : List (Nat × Operand)} : aval P C id (.buildSlice t len parts.toArray) ty ev hp k = match (aty P t).k with
    | .slice e => ((aty P e).zero.length = (aty P e).sz ∧ 0 < (aty P e).sz ∧ len * (aty P e).sz ≤ 16777216 ∧ (aty P e).zero.all (·.oneCell') = true) ∧
        (parts.map (·.1) = List.range len ∧ (parts.all fun x => ((ev x.2).cells.map (·.length)) == some (aty P e).sz) = true) ∧
          k (.own id) (.new ⟨e, parts.filterMap (fun x => (ev x.2).cells), true⟩)
    | _ => False := rfl

/-! Arithmetic. -/
section
variable {t : Nat} {kd : IntKind} {a b : Int}
theorem bin_add : opBin P .add t (.ex (.int kd a)) (.ex (.int kd b)) k = k (.ex (.int kd (kd.wrap (a + b)))) .none := by simp [opBin, opInt]
theorem bin_sub : opBin P .sub t (.ex (.int kd a)) (.ex (.int kd b)) k = k (.ex (.int kd (kd.wrap (a - b)))) .none := by simp [opBin, opInt]
theorem bin_mul : opBin P .mul t (.ex (.int kd a)) (.ex (.int kd b)) k = k (.ex (.int kd (kd.wrap (a * b)))) .none := by simp [opBin, opInt]
theorem bin_quo : opBin P .quo t (.ex (.int kd a)) (.ex (.int kd b)) k = (b ≠ 0 ∧ k (.ex (.int kd (kd.wrap (a.tdiv b)))) .none) := by simp [opBin, opInt]
theorem bin_rem : opBin P .rem t (.ex (.int kd a)) (.ex (.int kd b)) k = (b ≠ 0 ∧ k (.ex (.int kd (a.tmod b))) .none) := by simp [opBin, opInt]
theorem bin_xor : opBin P .xor t (.ex (.int kd a)) (.ex (.int kd b)) k = k (.ex (.int kd (kd.wrap (BitVec.ofInt kd.bits a ^^^ BitVec.ofInt kd.bits b).toNat))) .none := by simp [opBin, opInt]
theorem bin_and : opBin P .and t (.ex (.int kd a)) (.ex (.int kd b)) k = k (.ex (.int kd (kd.wrap (BitVec.ofInt kd.bits a &&& BitVec.ofInt kd.bits b).toNat))) .none := by simp [opBin, opInt]
theorem bin_or : opBin P .or t (.ex (.int kd a)) (.ex (.int kd b)) k = k (.ex (.int kd (kd.wrap (BitVec.ofInt kd.bits a ||| BitVec.ofInt kd.bits b).toNat))) .none := by simp [opBin, opInt]
theorem bin_eql : opBin P .eql t (.ex (.int kd a)) (.ex (.int kd b)) k = k (.ex (.bool (decide (a = b)))) .none := by simp [opBin, opInt]
theorem bin_neq : opBin P .neq t (.ex (.int kd a)) (.ex (.int kd b)) k = k (.ex (.bool (!decide (a = b)))) .none := by simp [opBin, opInt]
theorem bin_lss : opBin P .lss t (.ex (.int kd a)) (.ex (.int kd b)) k = k (.ex (.bool (decide (a < b)))) .none := by simp [opBin, opInt]
theorem bin_leq : opBin P .leq t (.ex (.int kd a)) (.ex (.int kd b)) k = k (.ex (.bool (decide (a ≤ b)))) .none := by simp [opBin, opInt]
theorem bin_gtr : opBin P .gtr t (.ex (.int kd a)) (.ex (.int kd b)) k = k (.ex (.bool (decide (b < a)))) .none := by simp [opBin, opInt]
theorem bin_geq : opBin P .geq t (.ex (.int kd a)) (.ex (.int kd b)) k = k (.ex (.bool (decide (b ≤ a)))) .none := by simp [opBin, opInt]
theorem bin_shl {kb : IntKind} : opBin P .shl t (.ex (.int kd a)) (.ex (.int kb b)) k = (0 ≤ b ∧ k (.ex (.int kd (kd.wrap (a * 2 ^ (min b.toNat kd.bits))))) .none) := by simp [opBin]
theorem bin_shr {kb : IntKind} : opBin P .shr t (.ex (.int kd a)) (.ex (.int kb b)) k = (0 ≤ b ∧ k (.ex (.int kd (a.fdiv (2 ^ (min b.toNat kd.bits))))) .none) := by simp [opBin]
theorem bin_sadd {x y : ByteArray} : opBin P .add t (.ex (.string x)) (.ex (.string y)) k = (x.size + y.size ≤ 9223372036854775807 ∧ k (.ex (.string (x ++ y))) .none) := by simp [opBin, opStr]
theorem bin_seql {x y : ByteArray} : opBin P .eql t (.ex (.string x)) (.ex (.string y)) k = k (.ex (.bool (decide (x = y)))) .none := by simp [opBin, opStr]
theorem bin_sneq {x y : ByteArray} : opBin P .neq t (.ex (.string x)) (.ex (.string y)) k = k (.ex (.bool (!decide (x = y)))) .none := by simp [opBin, opStr]
theorem bin_slss {x y : ByteArray} : opBin P .lss t (.ex (.string x)) (.ex (.string y)) k = k (.ex (.bool (Op.bytesLess x.data.toList y.data.toList))) .none := by simp [opBin, opStr]
theorem bin_sgtr {x y : ByteArray} : opBin P .gtr t (.ex (.string x)) (.ex (.string y)) k = k (.ex (.bool (!(Op.bytesLess x.data.toList y.data.toList || decide (x = y))))) .none := by simp [opBin, opStr]
theorem bin_beql {x y : Bool} : opBin P .eql t (.ex (.bool x)) (.ex (.bool y)) k = ((aty P t).k = .bool ∧ k (.ex (.bool (x == y))) .none) := by simp [opBin, and_comm]
theorem bin_bneq {x y : Bool} : opBin P .neq t (.ex (.bool x)) (.ex (.bool y)) k = ((aty P t).k = .bool ∧ k (.ex (.bool (x != y))) .none) := by simp [opBin, and_comm]
theorem bin_aeql {x y : List AV} : opBin P .eql t (.agg x) (.agg y) k = ∃ b, AggEq P t x y b ∧ k (.ex (.bool b)) .none := by simp [opBin]
theorem bin_aneq {x y : List AV} : opBin P .neq t (.agg x) (.agg y) k = ∃ b, AggEq P t x y b ∧ k (.ex (.bool (!b))) .none := by simp [opBin]
theorem bin_seq {es : List (List AV)} : opBin P .eql t (.sl es) (.ex (.slice none 0 0)) k = ((match (aty P t).k with | .slice _ => True | _ => False) ∧ k (.nq es) .none) := propext and_comm
theorem bin_ieql {x : Nat} {v : Value} : opBin P .eql t (.ex (.iface x v)) (.ex .nilIface) k = ((aty P t).k = .iface ∧ k (.ex (.bool false)) .none) := by simp [opBin, and_comm]
theorem bin_ineq {x : Nat} {v : Value} : opBin P .neq t (.ex (.iface x v)) (.ex .nilIface) k = ((aty P t).k = .iface ∧ k (.ex (.bool true)) .none) := by simp [opBin, and_comm]
theorem un_not {b : Bool} : opUn .not (.ex (.bool b)) k = k (.ex (.bool (!b))) .none := rfl
theorem un_neg : opUn .neg (.ex (.int kd a)) k = k (.ex (.int kd (kd.wrap (0 - a)))) .none := rfl
theorem un_xor : opUn .xor (.ex (.int kd a)) k = k (.ex (.int kd (kd.wrap (BitVec.ofInt kd.bits (if kd.signed then -1 else kd.max) ^^^ BitVec.ofInt kd.bits a).toNat))) .none := rfl
end

/-! Cells, slices, texts. -/
theorem conv_int {s d : Nat} {kd : IntKind} {n : Int} : opConv P hp s d (.ex (.int kd n)) k = match (aty P d).k with
    | .int kd' => (aty P s).known = true ∧ k (.ex (.int kd' (kd'.wrap n))) .none
    | .str => (match (aty P s).k with | .slice e => (match (aty P e).k with | .int .u8 => True | _ => False) | _ => False) ∧ ∃ l, rdSl hp (.ex (.int kd n)) = some (bcells l) ∧ k (.ex (.string ⟨l.toArray⟩)) .none
    | _ => False := by
  unfold opConv
  cases (aty P d).k <;> rfl
theorem conv_str {s d : Nat} {x : ByteArray} : opConv P hp s d (.ex (.string x)) k = match (aty P d).k with
    | .str => (aty P s).k = .str ∧ k (.ex (.string x)) .none
    | .slice e => (aty P s).k = .str ∧ (match (aty P e).k with | .int .u8 => x.size ≤ maxLen ∧ k (.sl (bcells x.data.toList)) .none | _ => False)
    | _ => False := by
  unfold opConv
  cases (aty P d).k <;> rfl
/-- A text out of bytes that are read. -/
def toStr (hp : Nat → Option Row1) (u : AV) (k : ByteArray → Prop) : Prop := ∃ l, rdSl hp u = some (bcells l) ∧ k ⟨l.toArray⟩
@[congr] theorem toStr_congr {u u' : AV} {kk : ByteArray → Prop} (h : u = u') : toStr hp u kk = toStr hp u' kk := by rw [h]
theorem bcells_inj : ∀ {l l' : List UInt8}, bcells l = bcells l' → l = l'
  | [], [], _ => rfl
  | [], _ :: _, h => by simp [bcells] at h
  | _ :: _, [], h => by simp [bcells] at h
  | c :: l, c' :: l', h => by
    simp only [bcells, List.map_cons, List.cons.injEq, AV.ex.injEq, Value.int.injEq, true_and, and_true] at h
    obtain ⟨h1, h2⟩ := h
    have : c = c' := UInt8.toNat_inj.1 (by omega)
    have ih := bcells_inj (l := l) (l' := l') (by simpa [bcells] using h2)
    rw [this, ih]
theorem toStr_sl {l : List UInt8} {kk : ByteArray → Prop} : toStr hp (.sl (bcells l)) kk = kk ⟨l.toArray⟩ := by
  apply propext
  unfold toStr
  simp only [rdSl, Option.some.injEq]
  constructor
  · rintro ⟨l', h1, h2⟩; cases bcells_inj h1; exact h2
  · intro h; exact ⟨l, rfl, h⟩
theorem toStr_own {b : Nat} {kk : ByteArray → Prop} {l : List UInt8} (h : (hp b).map (·.es) = some (bcells l)) : toStr hp (.own b) kk = kk ⟨l.toArray⟩ := by
  apply propext
  unfold toStr
  simp only [rdSl, h, Option.some.injEq]
  constructor
  · rintro ⟨l', h1, h2⟩; cases bcells_inj h1; exact h2
  · intro h; exact ⟨l, rfl, h⟩
theorem conv_sl {s d : Nat} {es : List (List AV)} : opConv P hp s d (.sl es) k = match (aty P d).k with
    | .str => (match (aty P s).k with | .slice e => (match (aty P e).k with | .int .u8 => True | _ => False) | _ => False) ∧ toStr hp (.sl es) fun x => k (.ex (.string x)) .none
    | _ => False := by
  unfold opConv
  cases (aty P d).k <;> rfl
theorem conv_ow {s d : Nat} {b : Nat} : opConv P hp s d (.own b) k = match (aty P d).k with
    | .str => (match (aty P s).k with | .slice e => (match (aty P e).k with | .int .u8 => True | _ => False) | _ => False) ∧ toStr hp (.own b) fun x => k (.ex (.string x)) .none
    | _ => False := by
  unfold opConv
  cases (aty P d).k <;> rfl
theorem len_str {t : Nat} {x : ByteArray} : opLen P hp t (.ex (.string x)) k = match (aty P t).k with
    | .str => k (.ex (.int .i64 x.size)) .none
    | .arr n _ => k (.ex (.int .i64 n)) .none
    | .slice _ => opt (rdSl hp (.ex (.string x))) fun es => k (.ex (.int .i64 es.length)) .none
    | _ => False := by
  unfold opLen
  cases (aty P t).k <;> first | rfl | exact opt_ex
theorem len_sl {t : Nat} {es : List (List AV)} : opLen P hp t (.sl es) k = match (aty P t).k with
    | .arr n _ => k (.ex (.int .i64 n)) .none
    | .slice _ => k (.ex (.int .i64 es.length)) .none
    | _ => False := by
  unfold opLen
  cases (aty P t).k <;> first | rfl | (dsimp only; rw [opt_ex]; rfl)
theorem len_own {t : Nat} {b : Nat} : opLen P hp t (.own b) k = match (aty P t).k with
    | .arr n _ => k (.ex (.int .i64 n)) .none
    | .slice _ => opt (hp b) fun β => k (.ex (.int .i64 β.es.length)) .none
    | _ => False := by
  unfold opLen
  cases (aty P t).k <;> first
    | rfl
    | (dsimp only
       rw [opt_ex]
       simp only [rdSl]
       cases hp b <;> rfl)
theorem ix_own {t b n : Nat} : opIx P hp t (.own b) n k = match (aty P t).k with
    | .slice e => opt (hp b) fun β => ((β.ty = e ∧ 0 < (aty P e).sz) ∧ n < β.es.length) ∧ k (.pt b n 0) .none
    | _ => False := by
  unfold opIx
  cases (aty P t).k <;> try rfl
  apply propext
  dsimp only
  rw [← opt_ex]
  constructor
  · rintro ⟨β, h1, h2, h3, h4⟩; exact ⟨β, h1, ⟨h2, h3⟩, h4⟩
  · rintro ⟨β, h1, ⟨h2, h3⟩, h4⟩; exact ⟨β, h1, h2, h3, h4⟩
theorem ix_sl {t n : Nat} {es : List (List AV)} : opIx P hp t (.sl es) n k = match (aty P t).k with
    | .slice e => opt es[n]? fun x => (0 < (aty P e).sz ∧ x.length = (aty P e).sz) ∧ k (.rp x 0) .none
    | _ => False := by
  unfold opIx
  cases (aty P t).k <;> try rfl
  apply propext
  dsimp only
  rw [← opt_ex]
  constructor
  · rintro ⟨h1, h2, h3, h4⟩; exact ⟨es[n], List.getElem?_eq_getElem h2, ⟨h1, h3⟩, h4⟩
  · rintro ⟨x, h1, ⟨h2, h3⟩, h4⟩
    obtain ⟨h5, h6⟩ := List.getElem?_eq_some_iff.1 h1
    subst h6
    exact ⟨h2, h5, h3, h4⟩
theorem ix_rp {t n off : Nat} {cs : List AV} : opIx P hp t (.rp cs off) n k = match (aty P t).k with
    | .arr len e => 0 < (aty P e).sz ∧ n < len ∧ k (.rp cs (off + n * (aty P e).sz)) .none
    | _ => False := by
  unfold opIx
  cases (aty P t).k <;> rfl
theorem ix_pt {t n b j off : Nat} : opIx P hp t (.pt b j off) n k = match (aty P t).k with
    | .arr len e => 0 < (aty P e).sz ∧ n < len ∧ k (.pt b j (off + n * (aty P e).sz)) .none
    | _ => False := by
  unfold opIx
  cases (aty P t).k <;> rfl
theorem ixv_str {t n : Nat} {x : ByteArray} : opIxv P t (.ex (.string x)) n k = match (aty P t).k with
    | .str => ∃ h : n < x.size, k (.ex (.int .u8 (x[n]'h).toNat)) .none
    | _ => False := by
  unfold opIxv
  cases (aty P t).k <;> rfl
theorem ixv_agg {t n : Nat} {cs : List AV} : opIxv P t (.agg cs) n k = match (aty P t).k with
    | .arr len e => 0 < (aty P e).sz ∧ n < len ∧ ldCell P e cs (n * (aty P e).sz) k
    | _ => False := by
  unfold opIxv
  cases (aty P t).k <;> rfl
theorem bnd_none {d : Nat} {kk : Nat → Prop} : bnd d ev none kk = kk d := rfl
theorem bnd_some {d : Nat} {x : Operand} {kk : Nat → Prop} : bnd d ev (some x) kk = asI (ev x) fun _ n => 0 ≤ n ∧ kk n.toNat := asI_ex
theorem slice_str {t : Nat} {x : ByteArray} {lo hi mx : Option Operand} : opSlice P t (.ex (.string x)) ev lo hi mx k = match (aty P t).k with
    | .str => mx = none ∧ bnd 0 ev lo fun l => bnd x.size ev hi fun h => l ≤ h ∧ h ≤ x.size ∧ k (.ex (.string (x.extract l h))) .none
    | _ => False := by
  unfold opSlice
  cases (aty P t).k <;> rfl
theorem slice_sl {t : Nat} {es : List (List AV)} {lo hi mx : Option Operand} : opSlice P t (.sl es) ev lo hi mx k = match (aty P t).k with
    | .slice e => (0 < (aty P e).sz ∧ (hi = none → mx = none) ∧ ∀ x ∈ es, x.length = (aty P e).sz) ∧ bnd 0 ev lo fun l => bnd es.length ev hi fun h => bnd es.length ev mx fun m => l ≤ h ∧ h ≤ m ∧ m ≤ es.length ∧ k (.sl ((es.take h).drop l)) .none
    | _ => False := by
  unfold opSlice
  cases (aty P t).k <;> rfl
theorem app_own {e b : Nat} {ns : List (List AV)} : opApp P hp id e (.own b) ns k = (((aty P e).zero.length = (aty P e).sz ∧ 0 < (aty P e).sz ∧ 1 ≤ (aty P e).bytes ∧ ∀ n ∈ ns, n.length = (aty P e).sz) ∧
    opt (hp b) fun β => (β.mu = true ∧ β.ty = e ∧ (β.es.length + ns.length) * (aty P e).bytes ≤ 140737488355328) ∧ k (.own id) (.grow b ⟨e, β.es ++ ns, true⟩)) := by
  apply propext
  unfold opApp
  rw [← opt_ex]
  constructor
  · rintro ⟨h0, β, h1, h2, h3, h4, h5⟩; exact ⟨h0, β, h1, ⟨h2, h3, h4⟩, h5⟩
  · rintro ⟨h0, β, h1, ⟨h2, h3, h4⟩, h5⟩; exact ⟨h0, β, h1, h2, h3, h4, h5⟩
theorem app_nil {e : Nat} {ns : List (List AV)} : opApp P hp id e (.ex (.slice none 0 0)) ns k = (((aty P e).zero.length = (aty P e).sz ∧ 0 < (aty P e).sz ∧ 1 ≤ (aty P e).bytes ∧ ∀ n ∈ ns, n.length = (aty P e).sz) ∧
    ns.length * (aty P e).bytes ≤ 140737488355328 ∧ k (.own id) (.new ⟨e, ns, true⟩)) := rfl
theorem rdApp_own {b : Nat} : rdApp hp (.own b) = (hp b).map (·.es) := rfl
theorem rdApp_sl {es : List (List AV)} : rdApp hp (.sl es) = some es := rfl

/-! Regions. -/
section
variable {ops : Array Oper} {nd b i : Nat} {K : AS → Prop} {σ : AS}
theorem ops_nil : aops P C ops nd b i [] K σ = K σ := rfl
theorem ops_one {dst : Option Tmp} {op : Op} {type : Nat} {pos : String} {after : Array Edge} {rest : List Oper} : aops P C ops nd b i (⟨dst, op, type, pos, after, none⟩ :: rest) K σ =
    aval P C (b + i) op type σ.ev σ.hp fun u f => (decide (i < nd) = true → dok (decide (i + 1 = nd)) σ.hp f) ∧ aops P C ops nd b (i + 1) rest K ({ σ with hp := (f.md (decide (i < nd))).app (b + i) σ.hp }.put dst u) := rfl
/-- A test's slot: known, or passed over. -/
def asBU (u : AV) (kt : Bool → Prop) (ku : Prop) : Prop := match u with
  | .ex (.bool t) => kt t
  | .und => ku
  | _ => False
@[congr] theorem asBU_congr {u u' : AV} {kt : Bool → Prop} {ku : Prop} (h : u = u') : asBU u kt ku = asBU u' kt ku := by rw [h]
theorem asBU_b {t : Bool} {kt : Bool → Prop} {ku : Prop} : asBU (.ex (.bool t)) kt ku = kt t := rfl
theorem asBU_u {kt : Bool → Prop} {ku : Prop} : asBU .und kt ku = ku := rfl
theorem ops_guard {dst : Option Tmp} {op : Op} {type : Nat} {pos : String} {after : Array Edge} {g : Nat} {want : Bool} {rest : List Oper} : aops P C ops nd b i (⟨dst, op, type, pos, after, some (g, want)⟩ :: rest) K σ =
    opt ((ops[g]?).bind (·.dst)) fun d => asBU (σ.tm d) (fun t => aif (t == want) (aval P C (b + i) op type σ.ev σ.hp fun u f => (decide (i < nd) = true → dok (decide (i + 1 = nd)) σ.hp f) ∧ aops P C ops nd b (i + 1) rest K ({ σ with hp := (f.md (decide (i < nd))).app (b + i) σ.hp }.put dst u))
      (aops P C ops nd b (i + 1) rest K (σ.put dst .und))) (aops P C ops nd b (i + 1) rest K (σ.put dst .und)) := by
  have e : aops P C ops nd b i (⟨dst, op, type, pos, after, some (g, want)⟩ :: rest) K σ = ((∃ t, (((ops[g]?).bind (·.dst)).map σ.tm) = some (.ex (.bool t)) ∧
      if t = want then (aval P C (b + i) op type σ.ev σ.hp fun u f => (decide (i < nd) = true → dok (decide (i + 1 = nd)) σ.hp f) ∧ aops P C ops nd b (i + 1) rest K ({ σ with hp := (f.md (decide (i < nd))).app (b + i) σ.hp }.put dst u)) else aops P C ops nd b (i + 1) rest K (σ.put dst .und)) ∨
      ((((ops[g]?).bind (·.dst)).map σ.tm) = some .und ∧ aops P C ops nd b (i + 1) rest K (σ.put dst .und))) := rfl
  rw [e]
  apply propext
  rw [← opt_ex]
  have key : ∀ (t : Bool) (A B : Prop), (if t = want then A else B) ↔ aif (t == want) A B := by
    intro t A B
    unfold aif
    by_cases h : t = want
    · simp [h]
    · simp [h]
  constructor
  · rintro (⟨t, h1, h2⟩ | ⟨h1, h2⟩)
    · cases hb : (ops[g]?).bind (·.dst) with
      | none => rw [hb] at h1; cases h1
      | some d =>
        rw [hb] at h1
        have h3 : σ.tm d = .ex (.bool t) := by simpa using h1
        exact ⟨d, rfl, by rw [h3, asBU_b]; exact (key _ _ _).1 h2⟩
    · cases hb : (ops[g]?).bind (·.dst) with
      | none => rw [hb] at h1; cases h1
      | some d =>
        rw [hb] at h1
        have h3 : σ.tm d = .und := by simpa using h1
        exact ⟨d, rfl, by rw [h3, asBU_u]; exact h2⟩
  · rintro ⟨d, h1, h2⟩
    unfold asBU at h2
    split at h2
    · rename_i t h3
      exact .inl ⟨t, by rw [h1]; simp [h3], (key _ _ _).2 h2⟩
    · rename_i h3
      exact .inr ⟨by rw [h1]; simp [h3], h2⟩
    · exact h2.elim
end
section
variable {Q : Exit → AS → Prop} {σ : AS}
theorem awp_seq {a b : Code} (h : awp P C a (athen (awp P C b Q) Q) σ) : awp P C (.seq a b) Q σ := h
theorem awp_block {i : Nat} {c : Code} (h : awp P C c (ablock i Q) σ) : awp P C (.block i c) Q σ := h
theorem awp_skip (h : Q .normal σ) : awp P C .skip Q σ := h
theorem awp_exit {i : Nat} (h : Q (.exit i) σ) : awp P C (.exit i) Q σ := h
theorem awp_ret (h : Q .ret σ) : awp P C .ret Q σ := h
theorem awp_cond {c : Operand} {x y : Code} (h : asB (σ.ev c) fun t => aif t (awp P C x Q σ) (awp P C y Q σ)) : awp P C (.cond c x y) Q σ := by
  rw [← asB_ex] at h
  exact .inl h
theorem awp_plain {i : Nat} {l : List Oper} (h : aops P C l.toArray 0 σ.nx 0 l (fun σ' => Q .normal { σ' with nx := σ.nx + l.length }) σ) : awp P C (.region i l.toArray false) Q σ := ⟨fun h0 => (by cases h0), by simpa using h⟩
theorem awp_draws {i : Nat} {l : List Oper} (hb : orderOk l.toArray (drawn l.toArray) = true) (h : aops P C l.toArray (drawn l.toArray) σ.nx 0 l (fun σ' => Q .normal { σ' with nx := σ.nx + l.length }) σ) : awp P C (.region i l.toArray true) Q σ := ⟨fun _ => hb, by simpa using h⟩
/-- A loop: what holds at its head, with a number that each round lowers. -/
theorem awp_loop {c : Code} (I : Nat → AS → Prop) (n : Nat) (h : I n σ) (hr : ∀ n σ', I n σ' → (∀ t, t ∉ writes c → σ'.tm t = σ.tm t) → σ.nx ≤ σ'.nx → awp P C c (athen (fun σ'' => ∃ m, m < n ∧ I m σ'') Q) σ') : awp P C (.loop c) Q σ := ⟨I, n, h, hr⟩
theorem then_normal {next : AS → Prop} : athen next Q .normal σ = next σ := rfl
theorem then_exit {next : AS → Prop} {i : Nat} : athen next Q (.exit i) σ = Q (.exit i) σ := rfl
theorem then_ret {next : AS → Prop} : athen next Q .ret σ = Q .ret σ := rfl
theorem block_normal {i : Nat} : ablock i Q .normal σ = Q .normal σ := rfl
theorem block_ret {i : Nat} : ablock i Q .ret σ = Q .ret σ := rfl
theorem block_exit {i j : Nat} : ablock i Q (.exit j) σ = if j = i then Q .normal σ else Q (.exit j) σ := rfl
theorem end_normal {kk : AS → Prop} : aend kk .normal σ = kk σ := rfl
theorem end_ret {kk : AS → Prop} : aend kk .ret σ = kk σ := rfl
end

/-! Calls. -/
theorem call_val {f : Nat} {args us : List AV} {ids : List Nat} {r : AV} (h1 : cls hp args = some (us, ids)) (h2 : Con P C f us (.val r)) (h3 : k r (.frz (if noSl r then [] else ids))) : opCall P C id f hp args k := .inl ⟨us, ids, h1, _, h2, h3⟩
theorem call_fresh {f : Nat} {args us : List AV} {e : Nat} {es : List (List AV)} (h1 : cls hp args = some (us, [])) (h2 : Con P C f us (.fresh e es)) (h3 : k (.own id) (.new ⟨e, es, true⟩)) : opCall P C id f hp args k := .inl ⟨us, [], h1, _, h2, rfl, h3⟩
theorem call_moved {f b e : Nat} {es es' : List (List AV)} {rest us : List AV} {ids : List Nat} (h1 : hp b = some ⟨e, es, true⟩) (h2 : (es.all (·.all p0)) = true) (h3 : cls hp rest = some (us, ids)) (h4 : b ∉ ids) (h5 : (es'.all (·.all noSl0)) = true) (h6 : ConM P C f e (es.map (·.map z0)) us es') (h7 : k (.own id) (.grow b ⟨e, es', true⟩)) : opCall P C id f hp (.own b :: rest) k :=
  .inr ⟨_, us, ids, es', h1, rfl, h2, h3, h4, h5, h6, h7⟩
theorem call_moved0 {f e : Nat} {es' : List (List AV)} {rest us : List AV} {ids : List Nat} (h3 : cls hp rest = some (us, ids)) (h5 : (es'.all (·.all noSl0)) = true) (h6 : ConM P C f e [] us es') (h7 : k (.own id) (.new ⟨e, es', true⟩)) : opCall P C id f hp (.ex (.slice none 0 0) :: rest) k :=
  .inr ⟨e, us, ids, es', h3, h5, h6, h7⟩
theorem cl1_pt {b j off : Nat} : cl1 hp (.pt b j off) = (hp b).bind fun β => (β.es[j]?).bind fun e => if e.all p0 && !e.isEmpty then some (.rp (e.map z0) off, [b]) else none := rfl
theorem cl1_rp {cs : List AV} {off : Nat} : cl1 hp (.rp cs off) = some (.rp cs off, []) := rfl
theorem cl_fn {f : Nat} {cs : List AV} : cl hp (.fn f cs) = (cl1s hp cs).map fun x => (.fn f x.1, x.2) := rfl
theorem cl_pt {b j off : Nat} : cl hp (.pt b j off) = cl1 hp (.pt b j off) := rfl
theorem cl_rp {cs : List AV} {off : Nat} : cl hp (.rp cs off) = cl1 hp (.rp cs off) := rfl
theorem cl1_ex {x : Value} (h : ∀ A n c, x ≠ .slice A n c) : cl1 hp (.ex x) = some (.ex x, []) := by
  cases x <;> first | rfl | exact absurd rfl (h _ _ _)
theorem cl1_int {kd : IntKind} {n : Int} : cl1 hp (.ex (.int kd n)) = some (.ex (.int kd n), []) := rfl
theorem cl1_bool {b : Bool} : cl1 hp (.ex (.bool b)) = some (.ex (.bool b), []) := rfl
theorem cl1_str {s : ByteArray} : cl1 hp (.ex (.string s)) = some (.ex (.string s), []) := rfl
theorem cl1_nil : cl1 hp (.ex (.slice none 0 0)) = some (.sl [], []) := rfl
theorem cl1_sl {es : List (List AV)} : cl1 hp (.sl es) = some (.sl es, []) := rfl
theorem cl1_own {b : Nat} : cl1 hp (.own b) = (hp b).bind fun β => if β.es.all (·.all p0) then some (.sl (β.es.map (·.map z0)), [b]) else none := rfl
theorem cl_agg {cs : List AV} : cl hp (.agg cs) = (cl1s hp cs).map fun x => (.agg x.1, x.2) := rfl
theorem cl_ex {x : Value} : cl hp (.ex x) = cl1 hp (.ex x) := rfl
theorem cl_sl {es : List (List AV)} : cl hp (.sl es) = cl1 hp (.sl es) := rfl
theorem cl_own {b : Nat} : cl hp (.own b) = cl1 hp (.own b) := rfl
theorem cls_nil : cls hp [] = some ([], []) := rfl
theorem cls_cons {u : AV} {us : List AV} : cls hp (u :: us) = (cl hp u).bind fun x => (cls hp us).bind fun y => some (x.1 :: y.1, x.2 ++ y.2) := rfl
theorem cl1s_nil : cl1s hp [] = some ([], []) := rfl
theorem cl1s_cons {u : AV} {us : List AV} : cl1s hp (u :: us) = (cl1 hp u).bind fun x => (cl1s hp us).bind fun y => some (x.1 :: y.1, x.2 ++ y.2) := rfl
theorem aret_1 {r : ResultVar} {σ : AS} {kk : AV → Prop} : aret P #[r] σ kk = ares1 P σ r fun u => opt (cl σ.hp u) fun x => kk x.1 := by
  have : (fun u => ∃ u' ids, cl σ.hp u = some (u', ids) ∧ kk u') = fun u => opt (cl σ.hp u) fun x => kk x.1 := by
    funext u
    apply propext
    rw [← opt_ex]
    exact ⟨fun ⟨a, b, h1, h2⟩ => ⟨(a, b), h1, h2⟩, fun ⟨⟨a, b⟩, h1, h2⟩ => ⟨a, b, h1, h2⟩⟩
  rw [← this]; rfl
theorem aret_2 {r s : ResultVar} {σ : AS} {kk : AV → Prop} : aret P #[r, s] σ kk = ares1 P σ r fun u => ares1 P σ s fun v => opt (cls σ.hp [u, v]) fun x => kk (.tup x.1) := by
  have : (fun u => ares1 P σ s fun v => ∃ us ids, cls σ.hp [u, v] = some (us, ids) ∧ kk (.tup us)) = fun u => ares1 P σ s fun v => opt (cls σ.hp [u, v]) fun x => kk (.tup x.1) := by
    funext u
    congr 1
    funext v
    apply propext
    rw [← opt_ex]
    exact ⟨fun ⟨a, b, h1, h2⟩ => ⟨(a, b), h1, h2⟩, fun ⟨⟨a, b⟩, h1, h2⟩ => ⟨a, b, h1, h2⟩⟩
  rw [← this]; rfl
theorem aret_3 {r s q : ResultVar} {σ : AS} {kk : AV → Prop} : aret P #[r, s, q] σ kk = ares1 P σ r fun u => ares1 P σ s fun v => ares1 P σ q fun x => opt (cls σ.hp [u, v, x]) fun x => kk (.tup x.1) := by
  have : (fun u => ares1 P σ s fun v => ares1 P σ q fun x => ∃ us ids, cls σ.hp [u, v, x] = some (us, ids) ∧ kk (.tup us)) = fun u => ares1 P σ s fun v => ares1 P σ q fun x => opt (cls σ.hp [u, v, x]) fun x => kk (.tup x.1) := by
    funext u
    congr 1
    funext v
    congr 1
    funext x
    apply propext
    rw [← opt_ex]
    exact ⟨fun ⟨a, b, h1, h2⟩ => ⟨(a, b), h1, h2⟩, fun ⟨⟨a, b⟩, h1, h2⟩ => ⟨a, b, h1, h2⟩⟩
  rw [← this]; rfl
theorem ares_tmp {t : Nat} {σ : AS} {kk : AV → Prop} : ares1 P σ (.tmp t) kk = kk (σ.tm t) := rfl
theorem ares_cell {x ty : Nat} {σ : AS} {kk : AV → Prop} {b j off : Nat} (h : σ.tm x = .pt b j off) : ares1 P σ (.cell x ty) kk = opt (σ.hp b) fun β => opt β.es[j]? fun e => ldCell P ty e off fun u _ => kk u := by
  unfold ares1
  dsimp only
  rw [h]
  apply propext
  dsimp only
  rw [← opt_ex]
  constructor
  · rintro ⟨β, e, h1, h2, h3⟩; exact ⟨β, h1, by rw [← opt_ex]; exact ⟨e, h2, h3⟩⟩
  · rintro ⟨β, h1, h2⟩; rw [← opt_ex] at h2; obtain ⟨e, h2, h3⟩ := h2; exact ⟨β, e, h1, h2, h3⟩
theorem afresh_1 {t : Nat} {σ : AS} {kk : Nat → List (List AV) → Prop} {b : Nat} (h : σ.tm t = .own b) : afresh #[.tmp t] σ kk = opt (σ.hp b) fun β => (β.mu = true ∧ (β.es.all (·.all p0)) = true) ∧ kk β.ty (β.es.map (·.map z0)) := by
  unfold afresh
  simp only
  rw [h]
  apply propext
  dsimp only
  rw [← opt_ex]
  constructor
  · rintro ⟨β, h1, h2, h3, h4⟩; exact ⟨β, h1, ⟨h2, h3⟩, h4⟩
  · rintro ⟨β, h1, ⟨h2, h3⟩, h4⟩; exact ⟨β, h1, h2, h3, h4⟩
end
end Go.Proofs.YtaphbajfjmhpnaaDoor
