/- Strings: lists of bytes; lists of strings. -/
import Derived.Test.YtjaohekkmlkinaaDoorApp
set_option linter.unusedSimpArgs false
set_option linter.unusedVariables false
namespace Go.Proofs.YtjaohekkmlkinaaDoor
open Go Go.RowKit Go.Proofs
abbrev Bs:Type:=List UInt8
abbrev sv (l:Bs):Value:=.string ⟨l.toArray⟩
def encS (ss:List Bs):List Value:=ss.map sv
@[simp] theorem encS_length (ss:List Bs):(encS ss).length=ss.length:=by simp[encS]
theorem bytes_eq (a b:Bs):(a == b)=decide (a=b):=by
 by_cases h:a=b
 ·rw[decide_eq_true h,h];exact beq_self_eq_true b
 ·rw[decide_eq_false h];exact beq_eq_false_iff_ne.2 h
theorem ret_str {x y:Bs} (h:x=y):Ending.returned (Value.string ⟨x.toArray⟩)=.returned (sv y):=by rw[h]
theorem addS {P:Program} (x y:Bs) (h:x.length+y.length≤9223372036854775807) (w:World):(Op.stringOp .add ⟨x.toArray⟩ ⟨y.toArray⟩).run P w=.ok (.string ⟨(x++y).toArray⟩) w:=by
 rw[run_string_add_sum w _ _ (by simp[ByteArray.size];omega),ByteArray.mk_append_mk]
theorem bidx (l:Bs) (k:Nat) (hk:k<l.length):∀ h,(ByteArray.mk l.toArray)[k]'h=l[k]'hk:=fun _=>rfl
theorem bext (l:Bs) (i j:Nat):(ByteArray.mk l.toArray).extract i j=⟨((l.drop i).take (j - i)).toArray⟩:=ByteArray.extract_mk l i j
theorem addO {P:Program} (x y:Bs) (h:x.length+y.length≤9223372036854775807):∃ z,Hid (z=x++y)∧∀ w:World,(Op.stringOp .add ⟨x.toArray⟩ ⟨y.toArray⟩).run P w=.ok (.string ⟨z.toArray⟩) w:=
 ⟨x++y,Lib.hid rfl,fun w=>addS x y h w⟩
abbrev tS:Nat:=9
theorem infoS:(Tryd.prog.info? tS).map (fun i=>(i.zero,i.size,i.bytes))=some (some (.string ⟨#[]⟩),1,16):=by kernel_rfl
def StrsO (w:World) (base:Nat) (v:Value) (xs:List Bs):Prop:=w.ownsRow base tS 1 v xs.length (encS xs)∧Lim xs.length
def StrsV (w:World) (lo hi:Nat) (A:Option Addr) (xs:List Bs):Prop:=Rd w lo hi 1 A xs.length (encS xs)
section
variable {w w':World} {base base' lo hi:Nat} {v:Value} {fs:List Bs} {A:Option Addr}
theorem StrsO.below (h:StrsO w base v fs) (hb:Below w.heap.size w w'):StrsO w' base v fs:=⟨own_below h.1 hb,h.2⟩
theorem StrsO.setb (h:StrsO w base v fs) {a:Addr} (ha:a.block<base) (u:Value):StrsO (w.setCell a u) base v fs:=⟨ownsRow_setCell_below h.1 ha u,h.2⟩
theorem StrsO.lower (h:StrsO w base v fs) (hb:base'≤base):StrsO w base' v fs:=⟨own_lower h.1 hb,h.2⟩
theorem StrsO.reads (h:StrsO w base v fs):∃ A c,v=.slice A fs.length c∧StrsV w base w.heap.size A fs:=own_reads h.1 h.2
theorem StrsV.at (h:StrsV w lo hi A fs) {k:Nat} (hk:k<fs.length):∃ b o,A=some ⟨b,o,none⟩∧w.cell? ⟨b,o+k,none⟩=some (sv fs[k]):=by
 obtain ⟨b,o,e,_,hb,hc⟩:=h.raw.2 (by omega)
 exact ⟨b,o,e,hc _ _ (by simp[encS,List.getElem?_eq_getElem hk])⟩
theorem StrsV.below (h:StrsV w lo hi A fs) (hb:Below w.heap.size w w'):StrsV w' lo hi A fs:=Rd.below h hb
theorem StrsV.mono {lo' hi':Nat} (h:StrsV w lo hi A fs) (e1:lo'≤lo) (e2:hi≤hi'):StrsV w lo' hi' A fs:=Rd.mono h e1 e2
theorem StrsV.le (h:StrsV w lo hi A fs):Lim fs.length:=h.lim
theorem StrsO.empty (w:World) {g:Nat} (hg:g=w.heap.size):StrsO (w.alloc (.cells #[] tS)) g (.slice (some ⟨g,0,none⟩) 0 0) []:=by
 subst hg
 exact ⟨own_empty w _ _,by simp[Lim]⟩
end
section
variable {ops:Array Oper} {rest:List Oper} {o:Oper} {a:Act} {Q:Exit→Act→World→Prop} {w:World}
theorem appS (hgd:o.guard=none) (s x:Operand) (ho:o.op=.call { callee:=.builtin .append,args:=#[s,x],argTypes:=#[51,51] })
  {base:Nat} {v:Value} {xs:List Bs} (hs:a.eval s=v) (hown:StrsO w base v xs) (g0:Nat) (n:Bs) (hx:a.eval x=.slice (some ⟨g0,0,none⟩) 1 1) (hc:w.cell? ⟨g0,0,none⟩=some (sv n))
  (hn:xs.length+1≤1049600) (hb:base≤w.heap.size)
  (h:∀ g c w',StrsO w' base (.slice (some ⟨g,0,none⟩) (xs.length+1) c) (xs++[n])→w.grownBy w' v.ownBlock→Below base w w'→wpList Tryd.prog ops Q rest (a.put o.dst (.slice (some ⟨g,0,none⟩) (xs.length+1) c)) w'):wpList Tryd.prog ops Q (o :: rest) a w:=by
 refine wpList_app hgd s x 51 ho Tryd.underlying51 infoS rfl (by decide) (by decide) hs hown.1 ⟨g0,0,none⟩ [sv n] hx rfl ?_ (by simp[Value.oneCell']) hn hb ?_
 ·intro j u hu
  match j,hu with
  | 0,hu=>simp at hu;subst hu;exact hc
 ·intro g c w' h1 h2 h3
  exact h g c w' ⟨by simpa[encS] using h1,by simp[Lim];omega⟩ h2 h3
end
end Go.Proofs.YtjaohekkmlkinaaDoor
