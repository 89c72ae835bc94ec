/- append of a whole list; joined lists. -/
import Derived.Test.YtjaohekkmlkinaaDoorApp
import Derived.Test.YtjaohekkmlkinaaDoorVal
import Derived.Deep.RegionHeld3
import Derived.Maps.AppendAt
set_option linter.unusedSimpArgs false
set_option linter.unusedVariables false
namespace Go.Proofs.YtjaohekkmlkinaaDoor
open Go Go.RowKit Go.Proofs
section
variable {P:Program} {w:World} {base:Nat} {e:TypeId} {size:Nat}
theorem run_append_none (t ty:TypeId) (i:TypeInfo) (ht:P.underlying t=some (.slice e)) (hi:P.info? e=some i)
  (v:Value) (n c:Nat) (xs:List Value) (hown:w.ownsRow base e size v n xs) :
  (Builtin.append_ #[t,t] ty #[v,.slice none 0 c]).run P w=.ok v w:=by
 rcases hown.2 with ⟨rfl,rfl⟩|⟨g,cap,cur,rfl,_,_,hnc,_⟩
 ·simp[Builtin.append_,run_underlying ht,sizeOf,typeInfo,hi,Builtin.lenOf,Builtin.firstCells]
 ·simp[Builtin.append_,run_underlying ht,sizeOf,typeInfo,hi,Builtin.lenOf,Builtin.firstCells,hnc,storeCells]
end
theorem wpList_appL {P:Program} {ops:Array Oper} {rest:List Oper} {o:Oper} {a:Act} {Q:Exit→Act→World→Prop} {w:World} (hgd:o.guard=none) (s x:Operand) (t:TypeId)
  (ho:o.op=.call { callee:=.builtin .append,args:=#[s,x],argTypes:=#[t,t] })
  {base:Nat} {e:TypeId} {z:Value} {size bytes:Nat} (ht:P.underlying t=some (.slice e)) (hinfo:(P.info? e).map (fun i=>(i.zero,i.size,i.bytes))=some (some z,size,bytes)) (hzs:z.cells.size=size) (hsz:0<size) (hby:bytes≤200)
  {v:Value} {n:Nat} {xs:List Value} (hs:a.eval s=v) (hown:w.ownsRow base e size v n xs)
  {A:Option Addr} {m c lo hi:Nat} {news:List Value} (hx:a.eval x=.slice A m c) (hR:Rw w lo hi size A m news) (h1:∀ u∈news,u.oneCell'=true)
  (hn:n+m≤1049600) (hb:base≤w.heap.size)
  (h:∀ v' w',w'.ownsRow base e size v' (n+m) (xs++news)→w.grownBy w' v.ownBlock→Below base w w'→wpList P ops Q rest (a.put o.dst v') w'):wpList P ops Q (o :: rest) a w:=by
 obtain ⟨i,hi',hz,hsize,hbytes⟩:=info_parts hinfo
 have key:∀ (ad:Addr),A=some ad→(∀ j u,news[j]? = some u→w.cell? (ad.add j)=some u)→wpList P ops Q (o :: rest) a w:=by
  rintro ad rfl hnews
  refine wpList_append_own w hgd s x t ho base e i z size bytes ht hi' hz hsize hbytes hzs hsz v n xs hs hown ad m c news hx hR.1 hnews h1 (by unfold maxLen;omega) (Nat.le_trans (Nat.mul_le_mul hn hby) (by omega)) hb ?_
  intro v' w' ho' hg' _
  exact h v' w' ho' hg' (own_row_below hown hg' hb)
 by_cases hm:m=0
 ·subst hm
  have hnil:news=[]:=List.eq_nil_of_length_eq_zero (by simpa using hR.1)
  subst hnil
  cases A with
  | some ad=>exact key ad rfl (by simp)
  | none=>
   refine wpList_plain hgd fun K hK=>?_
   have hrun:=run_append_none (P:=P) t o.type i ht hi' v n c xs hown
   unfold Oper.wp
   simp[execOp,ho,resolve,invoke,builtin,hs,hx,hrun,Result.andThen]
   exact hK _ _ (h v w (by simpa using hown) (World.grownBy.refl _ _) (Below.refl _ _))
 ·have h0:0<m * size:=Nat.mul_pos (by omega) hsz
  obtain ⟨b,off,rfl,_,_,hc⟩:=hR.2 h0
  exact key _ rfl fun j u hu=>by rw[show (⟨b,off,none⟩:Addr).add j=⟨b,off+j,none⟩ from by unfold Addr.add;split<;>simp_all];exact hc j u hu
theorem encF_one (fs:List Fct):∀ u∈encF fs,u.oneCell'=true:=by
 intro u hu
 simp only[encF,List.mem_flatMap] at hu
 obtain ⟨f,_,hf⟩:=hu
 simp at hf
 rcases hf with rfl|rfl|rfl<;>simp[Value.oneCell']
theorem encA_one (fs:List Atm):∀ u∈encA fs,u.oneCell'=true:=by
 intro u hu
 simp only[encA,List.mem_flatMap] at hu
 obtain ⟨f,_,hf⟩:=hu
 simp at hf
 rcases hf with rfl|rfl|rfl<;>simp[Value.oneCell']
section
variable {ops:Array Oper} {rest:List Oper} {o:Oper} {a:Act} {Q:Exit→Act→World→Prop} {w:World} {base lo hi c:Nat} {v:Value} {A:Option Addr}
theorem appFL (hgd:o.guard=none) (s x:Operand) (ho:o.op=.call { callee:=.builtin .append,args:=#[s,x],argTypes:=#[28,28] })
  {xs ys:List Fct} (hs:a.eval s=v) (hown:FactsO w base v xs) (hx:a.eval x=.slice A ys.length c) (hR:FactsV w lo hi A ys) (hn:xs.length+ys.length≤1049600) (hb:base≤w.heap.size)
  (h:∀ A' c' w',FactsO w' base (.slice A' (xs++ys).length c') (xs++ys)→w.grownBy w' v.ownBlock→Below base w w'→wpList Tryd.prog ops Q rest (a.put o.dst (.slice A' (xs++ys).length c')) w'):wpList Tryd.prog ops Q (o :: rest) a w:=by
 refine wpList_appL hgd s x 28 ho Tryd.underlying28 infoF rfl (by decide) (by decide) hs hown.1 hx hR.raw (encF_one _) hn hb ?_
 intro v' w' h1 h2 h3
 have hO:FactsO w' base v' (xs++ys):=⟨by rw[List.length_append,show encF (xs++ys)=encF xs++encF ys from List.flatMap_append];exact h1,by simp[Lim];omega⟩
 obtain ⟨A',c',rfl,-⟩:=hO.reads
 exact h A' c' w' hO h2 h3
theorem appAL (hgd:o.guard=none) (s x:Operand) (ho:o.op=.call { callee:=.builtin .append,args:=#[s,x],argTypes:=#[29,29] })
  {xs ys:List Atm} (hs:a.eval s=v) (hown:AtomsO w base v xs) (hx:a.eval x=.slice A ys.length c) (hR:AtomsV w lo hi A ys) (hn:xs.length+ys.length≤1049600) (hb:base≤w.heap.size)
  (h:∀ A' c' w',AtomsO w' base (.slice A' (xs++ys).length c') (xs++ys)→w.grownBy w' v.ownBlock→Below base w w'→wpList Tryd.prog ops Q rest (a.put o.dst (.slice A' (xs++ys).length c')) w'):wpList Tryd.prog ops Q (o :: rest) a w:=by
 refine wpList_appL hgd s x 29 ho Tryd.underlying29 infoA rfl (by decide) (by decide) hs hown.1 hx hR.raw (encA_one _) hn hb ?_
 intro v' w' h1 h2 h3
 have hO:AtomsO w' base v' (xs++ys):=⟨by rw[List.length_append,show encA (xs++ys)=encA xs++encA ys from List.flatMap_append];exact h1,by simp[Lim];omega⟩
 obtain ⟨A',c',rfl,-⟩:=hO.reads
 exact h A' c' w' hO h2 h3
end
section
variable {ops:Array Oper} {o:Oper} {a:Act} {K:Act→World→Prop} {Q:Exit→Act→World→Prop} {E:Prop} {w:World} {base lo hi c:Nat} {v:Value} {A:Option Addr}
end
theorem FactsO.made (w:World) (n:Nat) (h:n≤1049600):FactsO (w.alloc (.cells (madeCells #[.bool false,.int .i64 0,.int .i64 0] (n * 3)) tF)) w.heap.size (.slice (some ⟨w.heap.size,0,none⟩) 0 n) []:=
 ⟨World.ownsRow_made w _ n (Nat.le_refl _) (by unfold maxLen;omega) (by rw[size_madeCells]),by simp[Lim]⟩
theorem AtomsO.made (w:World) (n:Nat) (h:n≤1049600):AtomsO (w.alloc (.cells (madeCells #[.int .i64 0,.int .i64 0,.int .i64 0] (n * 3)) tA)) w.heap.size (.slice (some ⟨w.heap.size,0,none⟩) 0 n) []:=
 ⟨World.ownsRow_made w _ n (Nat.le_refl _) (by unfold maxLen;omega) (by rw[size_madeCells]),by simp[Lim]⟩
theorem FactsO.empty (w:World):FactsO (w.alloc (.cells #[] tF)) w.heap.size (.slice (some ⟨w.heap.size,0,none⟩) 0 0) []:=⟨own_empty w _ _,by simp[Lim]⟩
theorem AtomsO.empty (w:World):AtomsO (w.alloc (.cells #[] tA)) w.heap.size (.slice (some ⟨w.heap.size,0,none⟩) 0 0) []:=⟨own_empty w _ _,by simp[Lim]⟩
theorem FactsO.nil (w:World) (base:Nat):FactsO w base (.slice none 0 0) []:=⟨World.ownsRow_nil _ _ _ _,by simp[Lim]⟩
theorem AtomsO.nil (w:World) (base:Nat):AtomsO w base (.slice none 0 0) []:=⟨World.ownsRow_nil _ _ _ _,by simp[Lim]⟩
theorem valid_len {a:Asn} (h:a.valid=true):a.facts.length≤12∧a.atoms.length≤6:=by
 simp only[Asn.valid,factsValid,Bool.and_eq_true,decide_eq_true_eq] at h
 exact ⟨h.1.1,h.2.1⟩
theorem AsnO.zero (w:World) (base:Nat):AsnO w base (.agg #[.slice none 0 0,.slice none 0 0]) ⟨[],[]⟩:=⟨_,_,rfl,FactsO.nil _ _,AtomsO.nil _ _⟩
theorem own_setT {w:World} {base:Nat} {e:TypeId} {size:Nat} {v:Value} {n:Nat} {xs:List Value} (h:w.ownsRow base e size v n xs) {g:Nat} {t:TypeId} {cs:Array Value} (hk:Blk w g t cs) (ht:t≠e) (i:Nat) (u:Value):(w.setCell ⟨g,i,none⟩ u).ownsRow base e size v n xs:=by
 obtain ⟨h1,h2⟩:=h
 refine ⟨h1,?_⟩
 rcases h2 with h2|⟨k,cap,cur,hv,hg,hh,r⟩
 ·exact Or.inl h2
 ·exact Or.inr ⟨k,cap,cur,hv,hg,Blk.far (g:=k) hh (fun e=>Blk.ne_ hk hh ht e.symm) u,r⟩
theorem FactsO.setT {w:World} {base:Nat} {v:Value} {xs:List Fct} (h:FactsO w base v xs) {g:Nat} {t:TypeId} {cs:Array Value} (hk:Blk w g t cs) (ht:t≠tF) (i:Nat) (u:Value):FactsO (w.setCell ⟨g,i,none⟩ u) base v xs:=⟨own_setT h.1 hk ht i u,h.2⟩
theorem AtomsO.setT {w:World} {base:Nat} {v:Value} {xs:List Atm} (h:AtomsO w base v xs) {g:Nat} {t:TypeId} {cs:Array Value} (hk:Blk w g t cs) (ht:t≠tA) (i:Nat) (u:Value):AtomsO (w.setCell ⟨g,i,none⟩ u) base v xs:=⟨own_setT h.1 hk ht i u,h.2⟩
theorem IntsO.setT {w:World} {base:Nat} {v:Value} {xs:List Int} (h:IntsO w base v xs) {g:Nat} {t:TypeId} {cs:Array Value} (hk:Blk w g t cs) (ht:t≠tI) (i:Nat) (u:Value):IntsO (w.setCell ⟨g,i,none⟩ u) base v xs:=⟨own_setT h.1 hk ht i u,h.2⟩
end Go.Proofs.YtjaohekkmlkinaaDoor
