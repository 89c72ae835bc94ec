/- Strings: lists of bytes; lists of strings. -/
import Derived.Test.YtjaohekkmlkinaaGreatMbSet
import Derived.BigQuiet
import Derived.Deep.RegionHeld3
import Derived.Deep.QuietTactic
import Derived.Deep.DeepCutAuto
set_option linter.unusedSimpArgs false
set_option linter.unusedVariables false
set_option maxRecDepth 100000
set_option maxHeartbeats 25600000
namespace Go.Proofs.YtjaohekkmlkinaaGreat
section
open Go Go.RowKit Go.Proofs
abbrev Bs:Type:=List UInt8
abbrev sv (l:Bs):Value:=.string ⟨l.toArray⟩
def encS (ss:List Bs):List Value:=ss.map sv
@[simp] theorem encS_length (ss:List Bs):(encS ss).length=ss.length:=by simp[encS]
theorem bytes_eq (a b:Bs):(a == b)=decide (a=b):=by
 by_cases h:a=b
 ·rw[decide_eq_true h,h];exact beq_self_eq_true b
 ·rw[decide_eq_false h];exact beq_eq_false_iff_ne.2 h
theorem ret_str {x y:Bs} (h:x=y):Ending.returned (Value.string ⟨x.toArray⟩)=.returned (sv y):=by rw[h]
theorem addS {P:Program} (x y:Bs) (h:x.length+y.length≤9223372036854775807) (w:World):(Op.stringOp .add ⟨x.toArray⟩ ⟨y.toArray⟩).run P w=.ok (.string ⟨(x++y).toArray⟩) w:=by
 rw[run_string_add_sum w _ _ (by simp[ByteArray.size];omega),ByteArray.mk_append_mk]
theorem bidx (l:Bs) (k:Nat) (hk:k<l.length):∀ h,(ByteArray.mk l.toArray)[k]'h=l[k]'hk:=fun _=>rfl
theorem bext (l:Bs) (i j:Nat):(ByteArray.mk l.toArray).extract i j=⟨((l.drop i).take (j - i)).toArray⟩:=ByteArray.extract_mk l i j
theorem addO {P:Program} (x y:Bs) (h:x.length+y.length≤9223372036854775807):∃ z,aJ (z=x++y)∧∀ w:World,(Op.stringOp .add ⟨x.toArray⟩ ⟨y.toArray⟩).run P w=.ok (.string ⟨z.toArray⟩) w:=
 ⟨x++y,ax rfl,fun w=>addS x y h w⟩
abbrev tS:Nat:=9
theorem infoS:(Tryz.prog.info? tS).map (fun i=>(i.zero,i.size,i.bytes))=some (some (.string ⟨#[]⟩),1,16):=by kernel_rfl
def StrsO (w:World) (base:Nat) (v:Value) (xs:List Bs):Prop:=w.ownsRow base tS 1 v xs.length (encS xs)∧Lim xs.length
def StrsV (w:World) (lo hi:Nat) (A:Option Addr) (xs:List Bs):Prop:=Rd w lo hi 1 A xs.length (encS xs)
section
variable {w w':World} {base base' lo hi:Nat} {v:Value} {fs:List Bs} {A:Option Addr}
theorem StrsO.bz (h:StrsO w base v fs) (hb:Below w.heap.size w w'):StrsO w' base v fs:=⟨own_below h.1 hb,h.2⟩
theorem StrsO.setb (h:StrsO w base v fs) {a:Addr} (ha:a.block<base) (u:Value):StrsO (w.setCell a u) base v fs:=⟨ownsRow_setCell_below h.1 ha u,h.2⟩
theorem StrsO.abv {lo:Nat} (h:StrsO w base v fs) (hb:Abv lo w w') (hl:lo≤base):StrsO w' base v fs:=⟨own_abv h.1 hb hl,h.2⟩
theorem StrsO.bq (h:StrsO w base v fs) (hb:base'≤base):StrsO w base' v fs:=⟨own_lower h.1 hb,h.2⟩
theorem StrsO.rj (h:StrsO w base v fs):∃ A c,v=.slice A fs.length c∧StrsV w base w.heap.size A fs:=own_reads h.1 h.2
theorem StrsV.at (h:StrsV w lo hi A fs) {k:Nat} (hk:k<fs.length):∃ b o,A=some ⟨b,o,none⟩∧w.cell? ⟨b,o+k,none⟩=some (sv fs[k]):=by
 obtain ⟨b,o,e,_,hb,hc⟩:=h.raw.2 (by omega);exact ⟨b,o,e,hc _ _ (by simp[encS,List.getElem?_eq_getElem hk])⟩
theorem StrsV.bz (h:StrsV w lo hi A fs) (hb:Below w.heap.size w w'):StrsV w' lo hi A fs:=Rd.bz h hb
theorem StrsV.mono {lo' hi':Nat} (h:StrsV w lo hi A fs) (e1:lo'≤lo) (e2:hi≤hi'):StrsV w lo' hi' A fs:=Rd.mono h e1 e2
theorem StrsV.le (h:StrsV w lo hi A fs):Lim fs.length:=h.lim
theorem StrsO.empty (w:World) {g:Nat} (hg:g=w.heap.size):StrsO (w.alloc (.cells #[] tS)) g (.slice (some ⟨g,0,none⟩) 0 0) []:=by
 subst hg;exact ⟨own_empty w _ _,by simp[Lim]⟩
end
section
variable {ops:Array Oper} {rest:List Oper} {o:Oper} {a:Act} {Q:Exit→Act→World→Prop} {w:World}
theorem appS (hgd:o.guard=none) (s x:Operand) (ho:o.op=.call { callee:=.builtin .append,args:=#[s,x],argTypes:=#[181,181] })
  {base:Nat} {v:Value} {xs:List Bs} (hs:a.eval s=v) (hown:StrsO w base v xs) (g0:Nat) (n:Bs) (hx:a.eval x=.slice (some ⟨g0,0,none⟩) 1 1) (hc:w.cell? ⟨g0,0,none⟩=some (sv n))
  (hn:xs.length+1≤1049600) (hb:base≤w.heap.size)
  (h:∀ g c w',StrsO w' base (.slice (some ⟨g,0,none⟩) (xs.length+1) c) (xs++[n])→w.grownBy w' v.ownBlock→Below base w w'→wpList Tryz.prog ops Q rest (a.put o.dst (.slice (some ⟨g,0,none⟩) (xs.length+1) c)) w'):wpList Tryz.prog ops Q (o :: rest) a w:=by
 refine wpList_app hgd s x 181 ho Tryz.underlying181 infoS rfl (by decide) (by decide) hs hown.1 ⟨g0,0,none⟩ [sv n] hx rfl ?_ (by simp[Value.oneCell']) hn hb ?_
 ·intro j u hu
  match j,hu with
  | 0,hu=>simp at hu;subst hu;exact hc
 ·intro g c w' h1 h2 h3;exact h g c w' ⟨by simpa[encS] using h1,by simp[Lim];omega⟩ h2 h3
end
def tnameL (t : Int) : Bs :=
  if t = 0 then [110, 105, 108] else if t = 1 then [97] else if t = 2 then [98] else if t = 3 then [99] else if t = 4 then [100] else
  if t = 5 then [112] else if t = 6 then [113] else if t = 7 then [114] else if t = 8 then [115] else []
theorem tnameL_len (t : Int) : (tnameL t).length ≤ 3 := by unfold tnameL; repeat' split
                                                           all_goals decide
theorem tnameL_out {t : Int} (h : jq t = false) : tnameL t = [] := by
  have h' : ¬ (0 ≤ t ∧ t ≤ 8) := fun e => by rw [zjA.2 e] at h; cases h
  unfold tnameL
  repeat rw [if_neg (by omega)]
def parseT (l : Bs) : Option Nat := (List.range 9).find? fun n => decide (tnameL n = l)
theorem parseT_some {l : Bs} {k : Nat} (hk : k < 9) (h : tnameL k = l) (hn : ∀ j, j < k → tnameL j ≠ l) : parseT l = some k := by
  unfold parseT;rw [List.find?_range_eq_some];exact ⟨by simpa using h, by simpa using hk, fun j hj => by simpa using hn j hj⟩
theorem parseT_none {l : Bs} (hn : ∀ j : Nat, j < 9 → tnameL j ≠ l) : parseT l = none := by
  unfold parseT;rw [List.find?_eq_none];intro j hj;simpa using hn j (by simpa using hj)
def fmtF (f : Fct) : Bs := if f.eq then tnameL f.a ++ [61] ++ tnameL f.b else tnameL f.a ++ [33, 61] ++ tnameL f.b
theorem fmtF_len (f : Fct) : (fmtF f).length ≤ 8 := by
  have h1 := tnameL_len f.a;have h2 := tnameL_len f.b;unfold fmtF; split <;> simp <;> omega
def cutAt (c : UInt8) : Bs → Option (Bs × Bs)
  | [] => none
  | x :: r => if x = c then some ([], r) else (cutAt c r).map fun p => (x :: p.1, p.2)
theorem cutAt_at {c : UInt8} : ∀ {l : Bs} {i : Nat} (h : i < l.length), l[i] = c → (∀ j (hj : j < i), l[j] ≠ c) → cutAt c l = some (l.take i, l.drop (i + 1))
  | x :: r, 0, _, h, _ => by simp only [List.getElem_cons_zero] at h; simp [cutAt, h]
  | x :: r, i + 1, hi, h, hn => by
    have hx : x ≠ c := hn 0 (by omega);have := cutAt_at (l := r) (i := i) (by simpa using hi) (by simpa using h) fun j hj => hn (j + 1) (by omega);simp [cutAt, hx, this]
theorem cutAt_no {c : UInt8} : ∀ {l : Bs}, (∀ j (hj : j < l.length), l[j] ≠ c) → cutAt c l = none
  | [], _ => rfl
  | x :: r, h => by
    have hx : x ≠ c := h 0 (by simp);have := cutAt_no (l := r) fun j hj => h (j + 1) (by simp; omega);simp [cutAt, hx, this]
def pairP (eq : Bool) : Option Nat → Option Nat → Option Fct
  | some x, some y => some ⟨eq, (x : Int), (y : Int)⟩
  | _, _ => none
def pairF (eq : Bool) (a b : Bs) : Option Fct := pairP eq (parseT a) (parseT b)
def parseF (l : Bs) : Option Fct := if 9 < l.length then none else match cutAt 61 l with
  | none => none
  | some (a, b) => if a.getLast? = some 33 then pairF false a.dropLast b else pairF true a b
def sign2 (x : UInt8) : Bool := x == 62 || x == 126
def cutX : Bs → Option (Bs × UInt8 × Bs)
  | [] => none
  | x :: r => if sign2 x then some ([], x, r) else (cutX r).map fun p => (x :: p.1, p.2)
theorem cutX_at : ∀ {l : Bs} {i : Nat} (h : i < l.length), sign2 l[i] = true → (∀ j (hj : j < i), sign2 l[j] = false) → cutX l = some (l.take i, l[i], l.drop (i + 1))
  | x :: r, 0, _, h, _ => by simp only [List.getElem_cons_zero] at h; simp [cutX, h]
  | x :: r, i + 1, hi, h, hn => by
    have hx : sign2 x = false := hn 0 (by omega);have := cutX_at (l := r) (i := i) (by simpa using hi) (by simpa using h) fun j hj => hn (j + 1) (by omega);simp [cutX, hx, this]
theorem cutX_no : ∀ {l : Bs}, (∀ j (hj : j < l.length), sign2 l[j] = false) → cutX l = none
  | [], _ => rfl
  | x :: r, h => by
    have hx : sign2 x = false := h 0 (by simp);have := cutX_no (l := r) fun j hj => h (j + 1) (by simp; omega);simp [cutX, hx, this]
def pairX (kd : Int) : Option Nat → Option Nat → Option Atm
  | some m, some n => some ⟨kd, (m : Int), (n : Int)⟩
  | _, _ => none
def parseX (l : Bs) : Option Atm := if 7 < l.length then none else match cutX l with
  | none => none
  | some (a, x, b) => pairX (if x = 126 then 2 else 1) (parseT a) (parseT b)
def splitA (c : UInt8) (acc : Bs) : Bs → List Bs
  | [] => [acc]
  | x :: r => if x = c then acc :: splitA c [] r else splitA c (acc ++ [x]) r
def splitL (c : UInt8) (l : Bs) : List Bs := splitA c [] l
theorem splitA_len (c : UInt8) : ∀ (l acc : Bs), (splitA c acc l).length ≤ l.length + 1
  | [], acc => by simp [splitA]
  | x :: r, acc => by
    have h1 := splitA_len c r [];have h2 := splitA_len c r (acc ++ [x]);unfold splitA
    split
    · simp only [List.length_cons]; omega
    · simp only [List.length_cons]; omega
def wordsL (l : Bs) : List Bs := (splitL 32 l).filter fun x => decide (x ≠ [])
theorem wordsL_len (l : Bs) : (wordsL l).length ≤ l.length + 1 := Nat.le_trans (List.length_filter_le _ _) (splitA_len 32 l [])
def outF (fs : List Fct) : Nat → Bs
  | 0 => []
  | k + 1 => (if 0 < k then outF fs k ++ [32, 38, 32] else outF fs k) ++ fmtF (fs.getD k default)
def signX (x : Atm) : Bs := if x.kind = 2 then [126] else [62]
def outSX (o : Bs) (xs : List Atm) : Nat → Bs
  | 0 => o
  | k + 1 => (if k = 0 then outSX o xs k ++ [32, 124, 32] else outSX o xs k ++ [32, 42, 32]) ++ tnameL (xs.getD k default).a ++ signX (xs.getD k default) ++ tnameL (xs.getD k default).b
def factsT (fs : List Fct) : Bs := if fs.length = 0 then [116, 114, 117, 101] else outF fs fs.length
def textA (a : Asn) : Bs := if a.atoms.length = 0 then factsT a.facts ++ [32, 124, 32, 101, 109, 112] else outSX (factsT a.facts) a.atoms a.atoms.length
def fmtA (a : Asn) : Bs := if a.valid then textA a else []
theorem outF_len (fs : List Fct) : ∀ (k : Nat), (outF fs k).length ≤ k * 11
  | 0 => by simp [outF]
  | k + 1 => by
    have h1 := outF_len fs k;have h2 := fmtF_len (fs.getD k default);unfold outF; split <;> simp only [List.length_append, List.length_cons, List.length_nil] <;> omega
theorem outX_len (o : Bs) (xs : List Atm) : ∀ (k : Nat), (outSX o xs k).length ≤ o.length + k * 10
  | 0 => by simp [outSX]
  | k + 1 => by
    have h1 := outX_len o xs k;have h2 := tnameL_len (xs.getD k default).a;have h3 := tnameL_len (xs.getD k default).b;have h4 : (signX (xs.getD k default)).length = 1 := by unfold signX; split <;> rfl
    unfold outSX; split <;> simp only [List.length_append, List.length_cons, List.length_nil, h4] <;> omega
theorem factsT_len (fs : List Fct) : (factsT fs).length ≤ 4 + fs.length * 11 := by
  have h := outF_len fs fs.length;unfold factsT; split
  · simp
  · omega
theorem textA_len (a : Asn) : (textA a).length ≤ 10 + a.facts.length * 11 + a.atoms.length * 10 := by
  have h1 := factsT_len a.facts;have h2 := outX_len (factsT a.facts) a.atoms a.atoms.length;unfold textA; split
  · simp only [List.length_append, List.length_cons, List.length_nil]; omega
  · omega
def stepA (st : List Fct × List Atm × Bool) (x : Bs) : Option (List Fct × List Atm) :=
  match (if st.2.2 then none else parseF x), (if st.2.2 then parseX x else none) with
  | some f, _ => some (st.1 ++ [f], st.2.1)
  | none, some y => some (st.1, st.2.1 ++ [y])
  | none, none => if x ≠ [116, 114, 117, 101] ∧ x ≠ [101, 109, 112] then none else some (st.1, st.2.1)
def readA : List Bs → List Fct × List Atm × Bool → Option Asn
  | [], st => some ⟨st.1, st.2.1⟩
  | [x], st => (stepA st x).map fun p => ⟨p.1, p.2⟩
  | x :: y :: r, st => match stepA st x with
    | none => none
    | some p => readA r (p.1, p.2, st.2.2 || decide (y = [124]))
def parseA (l : Bs) : Option Asn := if 300 < l.length then none else match readA (wordsL l) ([], [], false) with
  | none => none
  | some a => if fmtA a = l ∧ l ≠ [] then some a else none
theorem parseA_valid {l : Bs} {a : Asn} (h : parseA l = some a) : a.valid = true ∧ fmtA a = l := by
  unfold parseA at h
  split at h
  · cases h
  split at h
  · cases h
  split at h
  · rename_i b hb hx
    injection h with h;subst h;refine ⟨?_, hx.1⟩;cases hv : b.valid
    · exfalso
      have := hx.1;unfold fmtA at this;rw [hv] at this;exact hx.2 this.symm
    · rfl
  · cases h
theorem c_TermName (t:Int) (w:World):Calls Tryz.prog 276 #[.int .i64 t] w fun e w'=>e=.returned (sv (tnameL t))∧w=w':=by
 cases ht:jq t
 ·(go_enter Tryz.func276,Tryz.ntmps276);(go_wp2_with (go_at_call 174;refine (c_spec_l1Is _ _).mono ?_;rintro e w' ⟨rfl,rfl⟩;rw[ht]));go_ret;exact ⟨by rw[tnameL_out ht];rfl,rfl⟩
 ·have hh:=zjA.1 ht;have h9:t=0∨t=1∨t=2∨t=3∨t=4∨t=5∨t=6∨t=7∨t=8:=by omega
  clear hh;rcases h9 with rfl|rfl|rfl|rfl|rfl|rfl|rfl|rfl|rfl
  all_goals
   (go_enter Tryz.func276,Tryz.ntmps276);(go_wp2_with (go_at_call 174;refine (c_spec_l1Is _ _).mono ?_;rintro e w' ⟨rfl,rfl⟩;rw[ht]));go_ret;exact ⟨rfl,rfl⟩
theorem c_ParseTerm (l:Bs) (w:World):Calls Tryz.prog 239 #[sv l] w fun e w'=>e=.returned (.tuple #[.int .i64 ((parseT l).getD 0:Nat),.bool (parseT l).isSome])∧w=w':=by
 (go_enter Tryz.func239,Tryz.ntmps239);(go_wp2_with fail)
 go_loopw [4] (fun i wr=>∃ k:Nat,k≤9∧i=.int .i64 k∧aJ (∀ j:Nat,j<k→tnameL j≠l)∧wr=w) (fun i _=>9 - (intOf i).toNat)
 case atStart=>exact ⟨0,by omega,rfl,ax fun j h=>by omega,rfl⟩
 case round=>
  obtain ⟨k,hk,rfl,HN,rfl⟩:=hrel;by_cases h9:k<9
  ·have hki:(k:Int)≤8:=by omega
   by_cases he:tnameL k=l
   ·have hb:(tnameL k == l)=true:=by rw[bytes_eq];simpa using he
    have HR:=ax (parseT_some h9 he HN.o);clear he;(go_wp2_with (go_at_call 276;refine (c_TermName _ _).mono ?_;rintro e w' ⟨rfl,rfl⟩));refine bodyPost_ret (v:=.tuple #[.int .i64 k,.bool true]) (by simp[results,Tryz.results239,go_sem]) rfl ⟨by rw[HR.o];rfl,rfl⟩
   ·have hb:(tnameL k == l)=false:=by rw[bytes_eq];simpa using he
    have HM:aJ (∀ j:Nat,j<k+1→tnameL j≠l):=ax fun j hj=>by
     by_cases e:j=k
     ·subst e;exact he
     ·exact HN.o j (by omega)
    clear he;(go_wp2_with (go_at_call 276;refine (c_TermName _ _).mono ?_;rintro e w' ⟨rfl,rfl⟩))
    go_round
    case rel=>exact ⟨k+1,by omega,by go_num,HM,by first|rfl|trivial⟩
    case measure=>simp[intOf];omega
  ·obtain rfl:k=9:=by omega
   have HR:=ax (parseT_none HN.o);(go_wp2_with fail);refine bodyPost_ret (v:=.tuple #[.int .i64 0,.bool false]) (by simp[results,Tryz.results239,go_sem]) rfl ⟨by rw[HR.o];rfl,rfl⟩
theorem c_ParseTermX (l:Bs) (i j:Nat) (w:World):Calls Tryz.prog 239 #[.string ((ByteArray.mk l.toArray).extract i j)] w fun e w'=>e=.returned (.tuple #[.int .i64 ((parseT ((l.drop i).take (j - i))).getD 0:Nat),.bool (parseT ((l.drop i).take (j - i))).isSome])∧w=w':=by
 rw[bext];exact c_ParseTerm _ w
theorem c_l1Text (f:Fct) (w:World):Calls Tryz.prog 277 #[f.val] w fun e w'=>e=.returned (sv (fmtF f))∧Below w.heap.size w w':=by
 have ha:=tnameL_len f.a;have hb:=tnameL_len f.b;obtain ⟨eq,a,b⟩:=f;simp only at ha hb;unfold Fct.val;simp only;cases eq
 ·skip;have h1:=fun w:World=>addS (P:=Tryz.prog) (tnameL a) [33,61] (by simp;omega) w;have h2:=fun w:World=>addS (P:=Tryz.prog) (tnameL a++[33,61]) (tnameL b) (by simp;omega) w;(go_enter Tryz.func277,Tryz.ntmps277);(go_wp2_with fail)
  go_region_held3 (fun w'=>∀ i,w'.cell? ⟨w.heap.size,i,none⟩=#[.bool false,.int .i64 a,.int .i64 b][i]?)
   (exact Blk.cell blks)
   (first|(go_at_call 276;refine (c_TermName _ _).mono ?_;rintro e w' ⟨rfl,rfl⟩))
  all_goals
   (go_wp2_with fail);go_ret;exact ⟨ret_str (by simp[fmtF]),bel⟩
 ·skip;have h1:=fun w:World=>addS (P:=Tryz.prog) (tnameL a) [61] (by simp;omega) w;have h2:=fun w:World=>addS (P:=Tryz.prog) (tnameL a++[61]) (tnameL b) (by simp;omega) w;(go_enter Tryz.func277,Tryz.ntmps277);(go_wp2_with fail)
  go_region_held3 (fun w'=>∀ i,w'.cell? ⟨w.heap.size,i,none⟩=#[.bool true,.int .i64 a,.int .i64 b][i]?)
   (exact Blk.cell blks)
   (first|(go_at_call 276;refine (c_TermName _ _).mono ?_;rintro e w' ⟨rfl,rfl⟩))
  all_goals
   (go_wp2_with fail);go_ret;exact ⟨ret_str (by simp[fmtF]),bel⟩
theorem u8_eq (c:UInt8) (n:Nat) (hn:n<256):((c.toNat:Int) == (n:Int))=decide (c=UInt8.ofNat n):=by
 rw[Bool.eq_iff_iff,beq_iff_eq,decide_eq_true_iff];constructor
 ·intro h;have:c.toNat=n:=by omega
  rw[←this];simp
 ·rintro rfl;rw[UInt8.toNat_ofNat',Nat.mod_eq_of_lt (by omega)]
theorem parseF_cut {l:Bs} {k:Nat} (hl:l.length≤9) (hk:k<l.length) (h:l[k]=61) (hn:∀ j (hj:j<k),l[j]≠61) :
  parseF l=if (l.take k).getLast? = some 33 then pairF false (l.take k).dropLast (l.drop (k+1)) else pairF true (l.take k) (l.drop (k+1)):=by
 unfold parseF;rw[if_neg (by omega),cutAt_at hk h hn]
theorem parseF_no {l:Bs} (hn:∀ j (hj:j<l.length),l[j]≠61):parseF l=none:=by
 unfold parseF;rw[cutAt_no hn]
 split<;>rfl
def fct0:Fct:=⟨false,0,0⟩
theorem c_ParseFact (l:Bs) (w:World):Calls Tryz.prog 190 #[sv l] w fun e w'=>e=.returned (.tuple #[((parseF l).getD fct0).val,.bool (parseF l).isSome])∧Below w.heap.size w w':=by
 by_cases hl:l.length≤9
 ·have hli:(l.length:Int)≤9:=by omega
  (go_enter Tryz.func190,Tryz.ntmps190);(go_wp2_with fail)
  go_loopw [4] (fun i wr=>∃ k:Nat,k≤l.length∧i=.int .i64 k∧aJ (∀ j (hj:j<k) (hj2:j<l.length),l[j]≠61)∧wr=w.alloc (.cells #[.bool false,.int .i64 0,.int .i64 0] tF)) (fun i _=>l.length - (intOf i).toNat)
  case atStart=>exact ⟨0,by omega,rfl,ax fun j h=>by omega,rfl⟩
  case round=>
   obtain ⟨k,hk,rfl,HN,rfl⟩:=hrel;by_cases hlt:k<l.length
   ·have hki:(k:Int)<(l.length:Int):=by omega
    have hx:=bidx l k hlt;by_cases hc:l[k]=61
    ·have HP:=ax (parseF_cut hl hlt hc fun j hj=>HN.o j hj (by omega));obtain ⟨c,hcc⟩:∃ c,c=l[k]:=⟨_,rfl⟩;rw[←hcc] at hx hc;have hb:((c.toNat:Int) == 61)=true:=by rw[show (61:Int)=((61:Nat):Int) from rfl,u8_eq c 61 (by decide)];simpa using hc
     clear hcc hc;by_cases hk0:0<k
     ·obtain ⟨m,hm⟩:∃ m,m+1=k:=⟨k - 1,by omega⟩;have hk0i:(0:Int)<(k:Int):=by omega
      have hmi:(k:Int) - 1=(m:Int):=by omega
      have hml:(m:Int)<(l.length:Int):=by omega
      have hx2:=bidx l m (by omega)
      have hL0:(l.take k).getLast? = some (l[m]'(by omega)):=by
       subst hm;rw[List.getLast?_eq_getElem?,List.length_take,Nat.min_eq_left (by omega),Nat.add_sub_cancel,List.getElem?_take,if_pos (by omega),List.getElem?_eq_getElem (by omega)]
      have hdrop:(l.take k).dropLast=l.take m:=by
       subst hm;rw[List.dropLast_take (by omega),Nat.add_sub_cancel]
      obtain ⟨d,hdd⟩:∃ d,d=l[m]'(by omega):=⟨_,rfl⟩;rw[←hdd] at hx2 hL0;clear hdd;by_cases hd:d=33
      ·have hb2:((d.toNat:Int) == 33)=true:=by rw[show (33:Int)=((33:Nat):Int) from rfl,u8_eq d 33 (by decide)];simpa using hd
       have hlast:(l.take k).getLast? = some 33:=by rw[hL0,hd]
       clear hL0 hd hm;obtain ⟨pa,hpa⟩:∃ x,x=parseT ((l.drop 0).take (m - 0)):=⟨_,rfl⟩;have ca:=fun w=>c_ParseTermX l 0 m w;rw[←hpa] at ca;replace ca:=ax ca;obtain ⟨pb,hpb⟩:∃ x,x=parseT ((l.drop (k+1)).take (l.length - (k+1))):=⟨_,rfl⟩;have cb:=fun w=>c_ParseTermX l (k+1) l.length w;rw[←hpb] at cb;replace cb:=ax cb
       have hE:aJ (parseF l=pairP false pa pb):=ax (by
        rw[HP.o,hpa,hpb,List.drop_zero,Nat.sub_zero,List.take_of_length_le (l:=l.drop (k+1)) (by simp)]
        rw[if_pos hlast,hdrop];rfl)
       clear hpa hpb HP
       cases pa with
       | none=>
        have hR:aJ (parseF l=none):=ax hE.o;clear hE;(go_wp2_with fail);refine (ca.o _).mono ?_;rintro e w2 ⟨rfl,rfl⟩;(go_wp2_with fail);refine (cb.o _).mono ?_;rintro e w2 ⟨rfl,rfl⟩;(go_wp2_with fail);refine bodyPost_ret (v:=.tuple #[.agg #[.bool false,.int .i64 0,.int .i64 0],.bool false]) (by simp[results,Tryz.results190,go_sem]) rfl ⟨by rw[hR.o];rfl,bel⟩
       | some a=>
        cases pb with
        | none=>
         have hR:aJ (parseF l=none):=ax hE.o;clear hE;(go_wp2_with fail);refine (ca.o _).mono ?_;rintro e w2 ⟨rfl,rfl⟩;(go_wp2_with fail);refine (cb.o _).mono ?_;rintro e w2 ⟨rfl,rfl⟩;(go_wp2_with fail);refine bodyPost_ret (v:=.tuple #[.agg #[.bool false,.int .i64 0,.int .i64 0],.bool false]) (by simp[results,Tryz.results190,go_sem]) rfl ⟨by rw[hR.o];rfl,bel⟩
        | some b=>
         have hR:aJ (parseF l=some ⟨false,(a:Int),(b:Int)⟩):=ax hE.o;clear hE;(go_wp2_with fail);refine (ca.o _).mono ?_;rintro e w2 ⟨rfl,rfl⟩;(go_wp2_with fail);refine (cb.o _).mono ?_;rintro e w2 ⟨rfl,rfl⟩;(go_wp2_with fail);refine bodyPost_ret (v:=.tuple #[.agg #[.bool false,.int .i64 a,.int .i64 b],.bool true]) (by simp[results,Tryz.results190,go_sem]) rfl ⟨by rw[hR.o];rfl,bel⟩
      ·have hb2:((d.toNat:Int) == 33)=false:=by rw[show (33:Int)=((33:Nat):Int) from rfl,u8_eq d 33 (by decide)];simpa using hd
       have hlast:¬(l.take k).getLast? = some 33:=by rw[hL0];simpa using hd
       clear hL0 hd hm;obtain ⟨pa,hpa⟩:∃ x,x=parseT ((l.drop 0).take (k - 0)):=⟨_,rfl⟩;have ca:=fun w=>c_ParseTermX l 0 k w;rw[←hpa] at ca;replace ca:=ax ca;obtain ⟨pb,hpb⟩:∃ x,x=parseT ((l.drop (k+1)).take (l.length - (k+1))):=⟨_,rfl⟩;have cb:=fun w=>c_ParseTermX l (k+1) l.length w;rw[←hpb] at cb;replace cb:=ax cb
       have hE:aJ (parseF l=pairP true pa pb):=ax (by
        rw[HP.o,hpa,hpb,List.drop_zero,Nat.sub_zero,List.take_of_length_le (l:=l.drop (k+1)) (by simp)]
        rw[if_neg hlast];rfl)
       clear hpa hpb HP
       cases pa with
       | none=>
        have hR:aJ (parseF l=none):=ax hE.o;clear hE;(go_wp2_with fail);refine (ca.o _).mono ?_;rintro e w2 ⟨rfl,rfl⟩;(go_wp2_with fail);refine (cb.o _).mono ?_;rintro e w2 ⟨rfl,rfl⟩;(go_wp2_with fail);refine bodyPost_ret (v:=.tuple #[.agg #[.bool false,.int .i64 0,.int .i64 0],.bool false]) (by simp[results,Tryz.results190,go_sem]) rfl ⟨by rw[hR.o];rfl,bel⟩
       | some a=>
        cases pb with
        | none=>
         have hR:aJ (parseF l=none):=ax hE.o;clear hE;(go_wp2_with fail);refine (ca.o _).mono ?_;rintro e w2 ⟨rfl,rfl⟩;(go_wp2_with fail);refine (cb.o _).mono ?_;rintro e w2 ⟨rfl,rfl⟩;(go_wp2_with fail);refine bodyPost_ret (v:=.tuple #[.agg #[.bool false,.int .i64 0,.int .i64 0],.bool false]) (by simp[results,Tryz.results190,go_sem]) rfl ⟨by rw[hR.o];rfl,bel⟩
        | some b=>
         have hR:aJ (parseF l=some ⟨true,(a:Int),(b:Int)⟩):=ax hE.o;clear hE;(go_wp2_with fail);refine (ca.o _).mono ?_;rintro e w2 ⟨rfl,rfl⟩;(go_wp2_with fail);refine (cb.o _).mono ?_;rintro e w2 ⟨rfl,rfl⟩;(go_wp2_with fail);refine bodyPost_ret (v:=.tuple #[.agg #[.bool true,.int .i64 a,.int .i64 b],.bool true]) (by simp[results,Tryz.results190,go_sem]) rfl ⟨by rw[hR.o];rfl,bel⟩
     ·have hk0i:¬(0:Int)<(k:Int):=by omega
      have hlast:¬(l.take k).getLast? = some 33:=by
       obtain rfl:k=0:=by omega
       simp
      clear hk0;obtain ⟨pa,hpa⟩:∃ x,x=parseT ((l.drop 0).take (k - 0)):=⟨_,rfl⟩;have ca:=fun w=>c_ParseTermX l 0 k w;rw[←hpa] at ca;replace ca:=ax ca;obtain ⟨pb,hpb⟩:∃ x,x=parseT ((l.drop (k+1)).take (l.length - (k+1))):=⟨_,rfl⟩;have cb:=fun w=>c_ParseTermX l (k+1) l.length w;rw[←hpb] at cb;replace cb:=ax cb
      have hE:aJ (parseF l=pairP true pa pb):=ax (by
       rw[HP.o,hpa,hpb,List.drop_zero,Nat.sub_zero,List.take_of_length_le (l:=l.drop (k+1)) (by simp)]
       rw[if_neg hlast];rfl)
      clear hpa hpb HP
      cases pa with
      | none=>
       have hR:aJ (parseF l=none):=ax hE.o;clear hE;(go_wp2_with fail);refine (ca.o _).mono ?_;rintro e w2 ⟨rfl,rfl⟩;(go_wp2_with fail);refine (cb.o _).mono ?_;rintro e w2 ⟨rfl,rfl⟩;(go_wp2_with fail);refine bodyPost_ret (v:=.tuple #[.agg #[.bool false,.int .i64 0,.int .i64 0],.bool false]) (by simp[results,Tryz.results190,go_sem]) rfl ⟨by rw[hR.o];rfl,bel⟩
      | some a=>
       cases pb with
       | none=>
        have hR:aJ (parseF l=none):=ax hE.o;clear hE;(go_wp2_with fail);refine (ca.o _).mono ?_;rintro e w2 ⟨rfl,rfl⟩;(go_wp2_with fail);refine (cb.o _).mono ?_;rintro e w2 ⟨rfl,rfl⟩;(go_wp2_with fail);refine bodyPost_ret (v:=.tuple #[.agg #[.bool false,.int .i64 0,.int .i64 0],.bool false]) (by simp[results,Tryz.results190,go_sem]) rfl ⟨by rw[hR.o];rfl,bel⟩
       | some b=>
        have hR:aJ (parseF l=some ⟨true,(a:Int),(b:Int)⟩):=ax hE.o;clear hE;(go_wp2_with fail);refine (ca.o _).mono ?_;rintro e w2 ⟨rfl,rfl⟩;(go_wp2_with fail);refine (cb.o _).mono ?_;rintro e w2 ⟨rfl,rfl⟩;(go_wp2_with fail);refine bodyPost_ret (v:=.tuple #[.agg #[.bool true,.int .i64 a,.int .i64 b],.bool true]) (by simp[results,Tryz.results190,go_sem]) rfl ⟨by rw[hR.o];rfl,bel⟩
    ·obtain ⟨c,hcc⟩:∃ c,c=l[k]:=⟨_,rfl⟩;rw[←hcc] at hx hc;have hb:((c.toNat:Int) == 61)=false:=by rw[show (61:Int)=((61:Nat):Int) from rfl,u8_eq c 61 (by decide)];simpa using hc
     have HM:aJ (∀ j (hj:j<k+1) (hj2:j<l.length),l[j]≠61):=ax fun j hj hj2=>by
      by_cases e:j=k
      ·subst e;rw[←hcc];exact hc
      ·exact HN.o j (by omega) hj2
     clear hcc hc;(go_wp2_with fail)
     go_round
     case rel=>exact ⟨k+1,by omega,by go_num,HM,by first|rfl|trivial⟩
     case measure=>simp[intOf];omega
   ·obtain rfl:k=l.length:=by omega
    have HP:=ax (parseF_no fun j hj=>HN.o j hj hj);(go_wp2_with fail);refine bodyPost_ret (v:=.tuple #[.agg #[.bool false,.int .i64 0,.int .i64 0],.bool false]) (by simp[results,Tryz.results190,go_sem]) rfl ⟨by rw[HP.o];rfl,bel⟩
 ·have hli:¬(l.length:Int)≤9:=by omega
  have hl0:(0:Int)<(l.length:Int):=by omega
  have HP:=ax (show parseF l=none by unfold parseF;rw[if_pos (by omega)]);clear hl;(go_enter Tryz.func190,Tryz.ntmps190);(go_wp2_with fail)
  go_loopw [4] (fun i wr=>i=.int .i64 0∧wr=w.alloc (.cells #[.bool false,.int .i64 0,.int .i64 0] tF)) (fun _ _=>0)
  case atStart=>exact ⟨rfl,rfl⟩
  case round=>
   obtain ⟨rfl,rfl⟩:=hrel;(go_wp2_with fail);refine bodyPost_ret (v:=.tuple #[.agg #[.bool false,.int .i64 0,.int .i64 0],.bool false]) (by simp[results,Tryz.results190,go_sem]) rfl ⟨by rw[HP.o];rfl,bel⟩
end
end Go.Proofs.YtjaohekkmlkinaaGreat
