/- append of a whole list; joined lists. -/
import Derived.Test.YtjbboklnegfohaaGreatDoorMRange
import Derived.Test.YtjbboklnegfohaaGreatDoorVal
import Derived.Deep.RegionHeld3
import Derived.Maps.AppendAt
import Derived.BigQuiet
import Derived.Deep.QuietTactic
import Derived.Deep.DeepCutAuto
import Derived.Lib.Join
set_option linter.unusedSimpArgs false
set_option linter.unusedVariables false
namespace Go.Proofs.YtjbboklnegfohaaGreatDoor
open Go Go.RowKit Go.Proofs
section
variable {P:Program} {w:World} {base:Nat} {e:TypeId} {size:Nat}
theorem run_append_none (t ty:TypeId) (i:TypeInfo) (ht:P.underlying t=some (.slice e)) (hi:P.info? e=some i)
  (v:Value) (n c:Nat) (xs:List Value) (hown:w.ownsRow base e size v n xs) :
  (Builtin.append_ #[t,t] ty #[v,.slice none 0 c]).run P w=.ok v w:=by
 rcases hown.2 with ⟨rfl,rfl⟩|⟨g,cap,cur,rfl,_,_,hnc,_⟩
 ·simp[Builtin.append_,run_underlying ht,sizeOf,typeInfo,hi,Builtin.lenOf,Builtin.firstCells]
 ·simp[Builtin.append_,run_underlying ht,sizeOf,typeInfo,hi,Builtin.lenOf,Builtin.firstCells,hnc,storeCells]
end
theorem wpList_appL {P:Program} {ops:Array Oper} {rest:List Oper} {o:Oper} {a:Act} {Q:Exit→Act→World→Prop} {w:World} (hgd:o.guard=none) (s x:Operand) (t:TypeId)
  (ho:o.op=.call { callee:=.builtin .append,args:=#[s,x],argTypes:=#[t,t] })
  {base:Nat} {e:TypeId} {z:Value} {size bytes:Nat} (ht:P.underlying t=some (.slice e)) (hinfo:(P.info? e).map (fun i=>(i.zero,i.size,i.bytes))=some (some z,size,bytes)) (hzs:z.cells.size=size) (hsz:0<size) (hby:bytes≤200)
  {v:Value} {n:Nat} {xs:List Value} (hs:a.eval s=v) (hown:w.ownsRow base e size v n xs)
  {A:Option Addr} {m c lo hi:Nat} {news:List Value} (hx:a.eval x=.slice A m c) (hR:Rw w lo hi size A m news) (h1:∀ u∈news,u.oneCell'=true)
  (hn:n+m≤1049600) (hb:base≤w.heap.size)
  (h:∀ v' w',w'.ownsRow base e size v' (n+m) (xs++news)→w.grownBy w' v.ownBlock→Below base w w'→wpList P ops Q rest (a.put o.dst v') w'):wpList P ops Q (o :: rest) a w:=by
 obtain ⟨i,hi',hz,hsize,hbytes⟩:=info_parts hinfo
 have key:∀ (ad:Addr),A=some ad→(∀ j u,news[j]? = some u→w.cell? (ad.add j)=some u)→wpList P ops Q (o :: rest) a w:=by
  rintro ad rfl hnews
  refine wpList_append_own w hgd s x t ho base e i z size bytes ht hi' hz hsize hbytes hzs hsz v n xs hs hown ad m c news hx hR.1 hnews h1 (by unfold maxLen;omega) (Nat.le_trans (Nat.mul_le_mul hn hby) (by omega)) hb ?_
  intro v' w' ho' hg' _
  exact h v' w' ho' hg' (own_row_below hown hg' hb)
 by_cases hm:m=0
 ·subst hm
  have hnil:news=[]:=List.eq_nil_of_length_eq_zero (by simpa using hR.1)
  subst hnil
  cases A with
  | some ad=>exact key ad rfl (by simp)
  | none=>
   refine wpList_plain hgd fun K hK=>?_
   have hrun:=run_append_none (P:=P) t o.type i ht hi' v n c xs hown
   unfold Oper.wp
   simp[execOp,ho,resolve,invoke,builtin,hs,hx,hrun,Result.andThen]
   exact hK _ _ (h v w (by simpa using hown) (World.grownBy.refl _ _) (Below.refl _ _))
 ·have h0:0<m * size:=Nat.mul_pos (by omega) hsz
  obtain ⟨b,off,rfl,_,_,hc⟩:=hR.2 h0
  exact key _ rfl fun j u hu=>by rw[show (⟨b,off,none⟩:Addr).add j=⟨b,off+j,none⟩ from by unfold Addr.add;split<;>simp_all];exact hc j u hu
theorem wp_appL {P:Program} {o:Oper} {a:Act} {K:Act→World→Prop} {Q:Exit→Act→World→Prop} {w:World} (s x:Operand) (t:TypeId)
  (ho:o.op=.call { callee:=.builtin .append,args:=#[s,x],argTypes:=#[t,t] })
  {base:Nat} {e:TypeId} {z:Value} {size bytes:Nat} (ht:P.underlying t=some (.slice e)) (hinfo:(P.info? e).map (fun i=>(i.zero,i.size,i.bytes))=some (some z,size,bytes)) (hzs:z.cells.size=size) (hsz:0<size) (hby:bytes≤200)
  {v:Value} {n:Nat} {xs:List Value} (hs:a.eval s=v) (hown:w.ownsRow base e size v n xs)
  {A:Option Addr} {m c lo hi:Nat} {news:List Value} (hx:a.eval x=.slice A m c) (hR:Rw w lo hi size A m news) (h1:∀ u∈news,u.oneCell'=true)
  (hn:n+m≤1049600) (hb:base≤w.heap.size)
  (h:∀ v' w',w'.ownsRow base e size v' (n+m) (xs++news)→w.grownBy w' v.ownBlock→Below base w w'→K (a.put o.dst v') w'):Oper.wp P o a w K Q:=by
 obtain ⟨i,hi',hz,hsize,hbytes⟩:=info_parts hinfo
 have key:∀ (ad:Addr),A=some ad→(∀ j u,news[j]? = some u→w.cell? (ad.add j)=some u)→Oper.wp P o a w K Q:=by
  rintro ad rfl hnews
  obtain ⟨v',w',hr,h2,h3,h4,h5⟩:=run_append_own_at (P:=P) w base t o.type e i z size bytes ht hi' hz hsize hbytes hzs hsz v n xs hown ad m c news hR.1 hnews h1 (by unfold maxLen;omega) (Nat.le_trans (Nat.mul_le_mul hn hby) (by omega)) hb
  unfold Oper.wp execOp
  simp only[ho,resolve,invoke,builtin,Sem.run_bind,Sem.run_pure,Result.andThen_ok,List.map_toArray,List.map_cons,List.map_nil,hs,hx,hr]
  exact h v' w' h2 h3 (own_row_below hown h3 hb)
 by_cases hm:m=0
 ·subst hm
  have hnil:news=[]:=List.eq_nil_of_length_eq_zero (by simpa using hR.1)
  subst hnil
  cases A with
  | some ad=>exact key ad rfl (by simp)
  | none=>
   have hrun:=run_append_none (P:=P) t o.type i ht hi' v n c xs hown
   unfold Oper.wp execOp
   simp only[ho,resolve,invoke,builtin,Sem.run_bind,Sem.run_pure,Result.andThen_ok,List.map_toArray,List.map_cons,List.map_nil,hs,hx,hrun]
   exact h v w (by simpa using hown) (World.grownBy.refl _ _) (Below.refl _ _)
 ·have h0:0<m * size:=Nat.mul_pos (by omega) hsz
  obtain ⟨b,off,rfl,_,_,hc⟩:=hR.2 h0
  exact key _ rfl fun j u hu=>by rw[show (⟨b,off,none⟩:Addr).add j=⟨b,off+j,none⟩ from by unfold Addr.add;split<;>simp_all];exact hc j u hu
theorem encF_one (fs:List Fct):∀ u∈encF fs,u.oneCell'=true:=by
 intro u hu
 simp only[encF,List.mem_flatMap] at hu
 obtain ⟨f,_,hf⟩:=hu
 simp at hf
 rcases hf with rfl|rfl|rfl<;>simp[Value.oneCell']
theorem encA_one (fs:List Atm):∀ u∈encA fs,u.oneCell'=true:=by
 intro u hu
 simp only[encA,List.mem_flatMap] at hu
 obtain ⟨f,_,hf⟩:=hu
 simp at hf
 rcases hf with rfl|rfl|rfl<;>simp[Value.oneCell']
section
variable {ops:Array Oper} {rest:List Oper} {o:Oper} {a:Act} {Q:Exit→Act→World→Prop} {w:World} {base lo hi c:Nat} {v:Value} {A:Option Addr}
theorem appFL (hgd:o.guard=none) (s x:Operand) (ho:o.op=.call { callee:=.builtin .append,args:=#[s,x],argTypes:=#[46,46] })
  {xs ys:List Fct} (hs:a.eval s=v) (hown:FactsO w base v xs) (hx:a.eval x=.slice A ys.length c) (hR:FactsV w lo hi A ys) (hn:xs.length+ys.length≤1049600) (hb:base≤w.heap.size)
  (h:∀ A' c' w',FactsO w' base (.slice A' (xs++ys).length c') (xs++ys)→w.grownBy w' v.ownBlock→Below base w w'→wpList Tryz.prog ops Q rest (a.put o.dst (.slice A' (xs++ys).length c')) w'):wpList Tryz.prog ops Q (o :: rest) a w:=by
 refine wpList_appL hgd s x 46 ho Tryz.underlying46 infoF rfl (by decide) (by decide) hs hown.1 hx hR.raw (encF_one _) hn hb ?_
 intro v' w' h1 h2 h3
 have hO:FactsO w' base v' (xs++ys):=⟨by rw[List.length_append,show encF (xs++ys)=encF xs++encF ys from List.flatMap_append];exact h1,by simp[Lim];omega⟩
 obtain ⟨A',c',rfl,-⟩:=hO.reads
 exact h A' c' w' hO h2 h3
theorem appAL (hgd:o.guard=none) (s x:Operand) (ho:o.op=.call { callee:=.builtin .append,args:=#[s,x],argTypes:=#[47,47] })
  {xs ys:List Atm} (hs:a.eval s=v) (hown:AtomsO w base v xs) (hx:a.eval x=.slice A ys.length c) (hR:AtomsV w lo hi A ys) (hn:xs.length+ys.length≤1049600) (hb:base≤w.heap.size)
  (h:∀ A' c' w',AtomsO w' base (.slice A' (xs++ys).length c') (xs++ys)→w.grownBy w' v.ownBlock→Below base w w'→wpList Tryz.prog ops Q rest (a.put o.dst (.slice A' (xs++ys).length c')) w'):wpList Tryz.prog ops Q (o :: rest) a w:=by
 refine wpList_appL hgd s x 47 ho Tryz.underlying47 infoA rfl (by decide) (by decide) hs hown.1 hx hR.raw (encA_one _) hn hb ?_
 intro v' w' h1 h2 h3
 have hO:AtomsO w' base v' (xs++ys):=⟨by rw[List.length_append,show encA (xs++ys)=encA xs++encA ys from List.flatMap_append];exact h1,by simp[Lim];omega⟩
 obtain ⟨A',c',rfl,-⟩:=hO.reads
 exact h A' c' w' hO h2 h3
end
section
variable {ops:Array Oper} {o:Oper} {a:Act} {K:Act→World→Prop} {Q:Exit→Act→World→Prop} {E:Prop} {w:World} {base lo hi c:Nat} {v:Value} {A:Option Addr}
theorem stepFL (hgd:o.guard=none) (s x:Operand) (ho:o.op=.call { callee:=.builtin .append,args:=#[s,x],argTypes:=#[46,46] })
  {xs ys:List Fct} (hs:a.eval s=v) (hown:FactsO w base v xs) (hx:a.eval x=.slice A ys.length c) (hR:FactsV w lo hi A ys) (hn:xs.length+ys.length≤1049600) (hb:base≤w.heap.size)
  (h:∀ A' c' w',FactsO w' base (.slice A' (xs++ys).length c') (xs++ys)→w.grownBy w' v.ownBlock→Below base w w'→K (a.put o.dst (.slice A' (xs++ys).length c')) w'):if Region.wanted o (yielded ops a.tmps)=true then Oper.wp Tryz.prog o a w K Q else E:=by
 have hw:Region.wanted o (yielded ops a.tmps)=true:=by simp[Region.wanted,hgd]
 rw[if_pos hw]
 refine wp_appL s x 46 ho Tryz.underlying46 infoF rfl (by decide) (by decide) hs hown.1 hx hR.raw (encF_one _) hn hb ?_
 intro v' w' h1 h2 h3
 have hO:FactsO w' base v' (xs++ys):=⟨by rw[List.length_append,show encF (xs++ys)=encF xs++encF ys from List.flatMap_append];exact h1,by simp[Lim];omega⟩
 obtain ⟨A',c',rfl,-⟩:=hO.reads
 exact h A' c' w' hO h2 h3
theorem stepAL (hgd:o.guard=none) (s x:Operand) (ho:o.op=.call { callee:=.builtin .append,args:=#[s,x],argTypes:=#[47,47] })
  {xs ys:List Atm} (hs:a.eval s=v) (hown:AtomsO w base v xs) (hx:a.eval x=.slice A ys.length c) (hR:AtomsV w lo hi A ys) (hn:xs.length+ys.length≤1049600) (hb:base≤w.heap.size)
  (h:∀ A' c' w',AtomsO w' base (.slice A' (xs++ys).length c') (xs++ys)→w.grownBy w' v.ownBlock→Below base w w'→K (a.put o.dst (.slice A' (xs++ys).length c')) w'):if Region.wanted o (yielded ops a.tmps)=true then Oper.wp Tryz.prog o a w K Q else E:=by
 have hw:Region.wanted o (yielded ops a.tmps)=true:=by simp[Region.wanted,hgd]
 rw[if_pos hw]
 refine wp_appL s x 47 ho Tryz.underlying47 infoA rfl (by decide) (by decide) hs hown.1 hx hR.raw (encA_one _) hn hb ?_
 intro v' w' h1 h2 h3
 have hO:AtomsO w' base v' (xs++ys):=⟨by rw[List.length_append,show encA (xs++ys)=encA xs++encA ys from List.flatMap_append];exact h1,by simp[Lim];omega⟩
 obtain ⟨A',c',rfl,-⟩:=hO.reads
 exact h A' c' w' hO h2 h3
end
theorem FactsO.made (w:World) (n:Nat) (h:n≤1049600):FactsO (w.alloc (.cells (madeCells #[.bool false,.int .i64 0,.int .i64 0] (n * 3)) tF)) w.heap.size (.slice (some ⟨w.heap.size,0,none⟩) 0 n) []:=
 ⟨World.ownsRow_made w _ n (Nat.le_refl _) (by unfold maxLen;omega) (by rw[size_madeCells]),by simp[Lim]⟩
theorem AtomsO.made (w:World) (n:Nat) (h:n≤1049600):AtomsO (w.alloc (.cells (madeCells #[.int .i64 0,.int .i64 0,.int .i64 0] (n * 3)) tA)) w.heap.size (.slice (some ⟨w.heap.size,0,none⟩) 0 n) []:=
 ⟨World.ownsRow_made w _ n (Nat.le_refl _) (by unfold maxLen;omega) (by rw[size_madeCells]),by simp[Lim]⟩
theorem FactsO.empty (w:World):FactsO (w.alloc (.cells #[] tF)) w.heap.size (.slice (some ⟨w.heap.size,0,none⟩) 0 0) []:=⟨own_empty w _ _,by simp[Lim]⟩
theorem AtomsO.empty (w:World):AtomsO (w.alloc (.cells #[] tA)) w.heap.size (.slice (some ⟨w.heap.size,0,none⟩) 0 0) []:=⟨own_empty w _ _,by simp[Lim]⟩
theorem FactsO.nil (w:World) (base:Nat):FactsO w base (.slice none 0 0) []:=⟨World.ownsRow_nil _ _ _ _,by simp[Lim]⟩
theorem AtomsO.nil (w:World) (base:Nat):AtomsO w base (.slice none 0 0) []:=⟨World.ownsRow_nil _ _ _ _,by simp[Lim]⟩
def starA (a b:Asn):Asn:=⟨a.facts++b.facts,a.atoms++b.atoms⟩
theorem valid_len {a:Asn} (h:a.valid=true):a.facts.length≤12∧a.atoms.length≤6:=by
 simp only[Asn.valid,factsValid,Bool.and_eq_true,decide_eq_true_eq] at h
 exact ⟨h.1.1,h.2.1⟩
theorem AsnO.zero (w:World) (base:Nat):AsnO w base (.agg #[.slice none 0 0,.slice none 0 0]) ⟨[],[]⟩:=⟨_,_,rfl,FactsO.nil _ _,AtomsO.nil _ _⟩
theorem blk2 (w:World) (t1 t2:TypeId) (a b:Array Value):Blk ((w.alloc (.cells a t1)).alloc (.cells b t2)) w.heap.size t1 a∧Blk ((w.alloc (.cells a t1)).alloc (.cells b t2)) (w.heap.size+1) t2 b:=
 ⟨(Blk.new w _ _).alloc _,by have:=Blk.new (w.alloc (.cells a t1)) t2 b;simpa using this⟩
theorem blk3 (w:World) (t1 t2 t3:TypeId) (a b c:Array Value):Blk (((w.alloc (.cells a t1)).alloc (.cells b t2)).alloc (.cells c t3)) w.heap.size t1 a∧Blk (((w.alloc (.cells a t1)).alloc (.cells b t2)).alloc (.cells c t3)) (w.heap.size+1) t2 b∧Blk (((w.alloc (.cells a t1)).alloc (.cells b t2)).alloc (.cells c t3)) (w.heap.size+1+1) t3 c:=
 ⟨(blk2 w t1 t2 a b).1.alloc _,(blk2 w t1 t2 a b).2.alloc _,by have:=Blk.new ((w.alloc (.cells a t1)).alloc (.cells b t2)) t3 c;simpa using this⟩
theorem own_setT {w:World} {base:Nat} {e:TypeId} {size:Nat} {v:Value} {n:Nat} {xs:List Value} (h:w.ownsRow base e size v n xs) {g:Nat} {t:TypeId} {cs:Array Value} (hk:Blk w g t cs) (ht:t≠e) (i:Nat) (u:Value):(w.setCell ⟨g,i,none⟩ u).ownsRow base e size v n xs:=by
 obtain ⟨h1,h2⟩:=h
 refine ⟨h1,?_⟩
 rcases h2 with h2|⟨k,cap,cur,hv,hg,hh,r⟩
 ·exact Or.inl h2
 ·exact Or.inr ⟨k,cap,cur,hv,hg,Blk.far (g:=k) hh (fun e=>Blk.ne_ hk hh ht e.symm) u,r⟩
theorem FactsO.setT {w:World} {base:Nat} {v:Value} {xs:List Fct} (h:FactsO w base v xs) {g:Nat} {t:TypeId} {cs:Array Value} (hk:Blk w g t cs) (ht:t≠tF) (i:Nat) (u:Value):FactsO (w.setCell ⟨g,i,none⟩ u) base v xs:=⟨own_setT h.1 hk ht i u,h.2⟩
theorem AtomsO.setT {w:World} {base:Nat} {v:Value} {xs:List Atm} (h:AtomsO w base v xs) {g:Nat} {t:TypeId} {cs:Array Value} (hk:Blk w g t cs) (ht:t≠tA) (i:Nat) (u:Value):AtomsO (w.setCell ⟨g,i,none⟩ u) base v xs:=⟨own_setT h.1 hk ht i u,h.2⟩
end Go.Proofs.YtjbboklnegfohaaGreatDoor

/- Sets of terms. -/
namespace Go.Proofs.YtjbboklnegfohaaGreatDoor
open Go Go.RowKit Go.Proofs
theorem isTermB_iff {x:Int}:isTermB x=true↔0≤x∧x≤8:=by simp[isTermB]
@[irreducible] def tins (S:Nat) (t:Int):Nat:=if isTermB t then S|||1 <<< t.toNat else S
theorem tins_lt {S:Nat} (h:S<512) (t:Int):tins S t<512:=by
 unfold tins
 split
 ·rename_i ht
  have ht:=isTermB_iff.1 ht
  rw[Nat.one_shiftLeft]
  exact Nat.or_lt_two_pow (n:=9) h (by
   have:(2:Nat) ^ t.toNat≤2 ^ 8:=Nat.pow_le_pow_right (by omega) (by omega)
   omega)
 ·exact h
def tset (l:List Int):Nat:=l.foldl tins 0
def factT (f:Fct):List Int:=[f.a,f.b]
def atomT (x:Atm):List Int:=[x.a,x.b]
def termsL (a:Asn):List Int:=a.facts.flatMap factT++a.atoms.flatMap atomT
attribute [irreducible] tset
end Go.Proofs.YtjbboklnegfohaaGreatDoor

/- append of a list of ints, told where the new row lies. -/
namespace Go.Proofs.YtjbboklnegfohaaGreatDoor
open Go Go.RowKit Go.Proofs
theorem wp_appX {P:Program} {o:Oper} {a:Act} {K:Act→World→Prop} {Q:Exit→Act→World→Prop} {w:World} (s x:Operand) (t:TypeId)
  (ho:o.op=.call { callee:=.builtin .append,args:=#[s,x],argTypes:=#[t,t] })
  {base:Nat} {e:TypeId} {z:Value} {size bytes:Nat} (ht:P.underlying t=some (.slice e)) (hinfo:(P.info? e).map (fun i=>(i.zero,i.size,i.bytes))=some (some z,size,bytes)) (hzs:z.cells.size=size) (hsz:0<size) (hby:bytes≤200)
  {v:Value} {n:Nat} {xs:List Value} (hs:a.eval s=v) (hown:w.ownsRow base e size v n xs)
  {ad:Addr} {m c:Nat} {news:List Value} (hx:a.eval x=.slice (some ad) m c) (hl:news.length=m * size) (hnews:∀ j u,news[j]? = some u→w.cell? (ad.add j)=some u) (h1:∀ u∈news,u.oneCell'=true)
  (hn:n+m≤1049600) (hb:base≤w.heap.size)
  (h:∀ v' w',w'.ownsRow base e size v' (n+m) (xs++news)→w.grownBy w' v.ownBlock→Below base w w'→(v'.ownBlock=v.ownBlock∨v'.ownBlock=some w.heap.size)→K (a.put o.dst v') w'):Oper.wp P o a w K Q:=by
 obtain ⟨i,hi',hz,hsize,hbytes⟩:=info_parts hinfo
 obtain ⟨v',w',hr,h2,h3,h4,h5⟩:=run_append_own_at (P:=P) w base t o.type e i z size bytes ht hi' hz hsize hbytes hzs hsz v n xs hown ad m c news hl hnews h1 (by unfold maxLen;omega) (Nat.le_trans (Nat.mul_le_mul hn hby) (by omega)) hb
 unfold Oper.wp execOp
 simp only[ho,resolve,invoke,builtin,Sem.run_bind,Sem.run_pure,Result.andThen_ok,List.map_toArray,List.map_cons,List.map_nil,hs,hx,hr]
 exact h v' w' h2 h3 (own_row_below hown h3 hb) h5
section
variable {ops:Array Oper} {rest:List Oper} {o:Oper} {a:Act} {K:Act→World→Prop} {Q:Exit→Act→World→Prop} {E:Prop} {w:World} {base:Nat} {v:Value}
end
end Go.Proofs.YtjbboklnegfohaaGreatDoor

/- The texts of terms, facts and assertions, plain. -/
namespace Go.Proofs.YtjbboklnegfohaaGreatDoor
open Go Go.RowKit Go.Proofs

def tnameL (t : Int) : Bs :=
  if t = 0 then [110, 105, 108] else if t = 1 then [97] else if t = 2 then [98] else if t = 3 then [99] else if t = 4 then [100] else
  if t = 5 then [112] else if t = 6 then [113] else if t = 7 then [114] else if t = 8 then [115] else []
theorem tnameL_len (t : Int) : (tnameL t).length ≤ 3 := by unfold tnameL; repeat' split
                                                           all_goals decide
theorem tnameL_out {t : Int} (h : isTermB t = false) : tnameL t = [] := by
  have h' : ¬ (0 ≤ t ∧ t ≤ 8) := fun e => by rw [isTermB_iff.2 e] at h; cases h
  unfold tnameL
  repeat rw [if_neg (by omega)]
def parseT (l : Bs) : Option Nat := (List.range 9).find? fun n => decide (tnameL n = l)
theorem parseT_some {l : Bs} {k : Nat} (hk : k < 9) (h : tnameL k = l) (hn : ∀ j, j < k → tnameL j ≠ l) : parseT l = some k := by
  unfold parseT
  rw [List.find?_range_eq_some]
  exact ⟨by simpa using h, by simpa using hk, fun j hj => by simpa using hn j hj⟩
theorem parseT_none {l : Bs} (hn : ∀ j : Nat, j < 9 → tnameL j ≠ l) : parseT l = none := by
  unfold parseT
  rw [List.find?_eq_none]
  intro j hj
  simpa using hn j (by simpa using hj)
theorem parseT_lt {l : Bs} {k : Nat} (h : parseT l = some k) : k < 9 ∧ tnameL k = l := by
  unfold parseT at h
  rw [List.find?_range_eq_some] at h
  exact ⟨by simpa using h.2.1, by simpa using h.1⟩
def fmtF (f : Fct) : Bs := if f.eq then tnameL f.a ++ [61] ++ tnameL f.b else tnameL f.a ++ [33, 61] ++ tnameL f.b
theorem fmtF_len (f : Fct) : (fmtF f).length ≤ 8 := by
  have h1 := tnameL_len f.a
  have h2 := tnameL_len f.b
  unfold fmtF; split <;> simp <;> omega
def cutAt (c : UInt8) : Bs → Option (Bs × Bs)
  | [] => none
  | x :: r => if x = c then some ([], r) else (cutAt c r).map fun p => (x :: p.1, p.2)
theorem cutAt_at {c : UInt8} : ∀ {l : Bs} {i : Nat} (h : i < l.length), l[i] = c → (∀ j (hj : j < i), l[j] ≠ c) → cutAt c l = some (l.take i, l.drop (i + 1))
  | x :: r, 0, _, h, _ => by simp only [List.getElem_cons_zero] at h; simp [cutAt, h]
  | x :: r, i + 1, hi, h, hn => by
    have hx : x ≠ c := hn 0 (by omega)
    have := cutAt_at (l := r) (i := i) (by simpa using hi) (by simpa using h) fun j hj => hn (j + 1) (by omega)
    simp [cutAt, hx, this]
theorem cutAt_no {c : UInt8} : ∀ {l : Bs}, (∀ j (hj : j < l.length), l[j] ≠ c) → cutAt c l = none
  | [], _ => rfl
  | x :: r, h => by
    have hx : x ≠ c := h 0 (by simp)
    have := cutAt_no (l := r) fun j hj => h (j + 1) (by simp; omega)
    simp [cutAt, hx, this]
def pairP (eq : Bool) : Option Nat → Option Nat → Option Fct
  | some x, some y => some ⟨eq, (x : Int), (y : Int)⟩
  | _, _ => none
def pairF (eq : Bool) (a b : Bs) : Option Fct := pairP eq (parseT a) (parseT b)
def parseF (l : Bs) : Option Fct := if 9 < l.length then none else match cutAt 61 l with
  | none => none
  | some (a, b) => if a.getLast? = some 33 then pairF false a.dropLast b else pairF true a b
theorem pairF_valid {eq : Bool} {a b : Bs} {f : Fct} (h : pairF eq a b = some f) : f.valid = true := by
  unfold pairF pairP at h
  split at h
  · rename_i x y hx hy
    injection h with h
    subst h
    have h1 := parseT_lt hx
    have h2 := parseT_lt hy
    simp only [Fct.valid, Bool.and_eq_true]
    exact ⟨isTermB_iff.2 (by omega), isTermB_iff.2 (by omega)⟩
  · cases h
def sign2 (x : UInt8) : Bool := x == 62 || x == 126
def cutX : Bs → Option (Bs × UInt8 × Bs)
  | [] => none
  | x :: r => if sign2 x then some ([], x, r) else (cutX r).map fun p => (x :: p.1, p.2)
theorem cutX_at : ∀ {l : Bs} {i : Nat} (h : i < l.length), sign2 l[i] = true → (∀ j (hj : j < i), sign2 l[j] = false) → cutX l = some (l.take i, l[i], l.drop (i + 1))
  | x :: r, 0, _, h, _ => by simp only [List.getElem_cons_zero] at h; simp [cutX, h]
  | x :: r, i + 1, hi, h, hn => by
    have hx : sign2 x = false := hn 0 (by omega)
    have := cutX_at (l := r) (i := i) (by simpa using hi) (by simpa using h) fun j hj => hn (j + 1) (by omega)
    simp [cutX, hx, this]
theorem cutX_no : ∀ {l : Bs}, (∀ j (hj : j < l.length), sign2 l[j] = false) → cutX l = none
  | [], _ => rfl
  | x :: r, h => by
    have hx : sign2 x = false := h 0 (by simp)
    have := cutX_no (l := r) fun j hj => h (j + 1) (by simp; omega)
    simp [cutX, hx, this]
def pairX (kd : Int) : Option Nat → Option Nat → Option Atm
  | some m, some n => some ⟨kd, (m : Int), (n : Int)⟩
  | _, _ => none
def parseX (l : Bs) : Option Atm := if 7 < l.length then none else match cutX l with
  | none => none
  | some (a, x, b) => pairX (if x = 126 then 2 else 1) (parseT a) (parseT b)
def splitA (c : UInt8) (acc : Bs) : Bs → List Bs
  | [] => [acc]
  | x :: r => if x = c then acc :: splitA c [] r else splitA c (acc ++ [x]) r
def splitL (c : UInt8) (l : Bs) : List Bs := splitA c [] l
theorem splitA_len (c : UInt8) : ∀ (l acc : Bs), (splitA c acc l).length ≤ l.length + 1
  | [], acc => by simp [splitA]
  | x :: r, acc => by
    have h1 := splitA_len c r []
    have h2 := splitA_len c r (acc ++ [x])
    unfold splitA
    split
    · simp only [List.length_cons]; omega
    · simp only [List.length_cons]; omega
def wordsL (l : Bs) : List Bs := (splitL 32 l).filter fun x => decide (x ≠ [])
theorem wordsL_len (l : Bs) : (wordsL l).length ≤ l.length + 1 := Nat.le_trans (List.length_filter_le _ _) (splitA_len 32 l [])
def outF (fs : List Fct) : Nat → Bs
  | 0 => []
  | k + 1 => (if 0 < k then outF fs k ++ [32, 38, 32] else outF fs k) ++ fmtF (fs.getD k default)
def signX (x : Atm) : Bs := if x.kind = 2 then [126] else [62]
def outSX (o : Bs) (xs : List Atm) : Nat → Bs
  | 0 => o
  | k + 1 => (if k = 0 then outSX o xs k ++ [32, 124, 32] else outSX o xs k ++ [32, 42, 32]) ++ tnameL (xs.getD k default).a ++ signX (xs.getD k default) ++ tnameL (xs.getD k default).b
def factsT (fs : List Fct) : Bs := if fs.length = 0 then [116, 114, 117, 101] else outF fs fs.length
def textA (a : Asn) : Bs := if a.atoms.length = 0 then factsT a.facts ++ [32, 124, 32, 101, 109, 112] else outSX (factsT a.facts) a.atoms a.atoms.length
def fmtA (a : Asn) : Bs := if a.valid then textA a else []
theorem outF_len (fs : List Fct) : ∀ (k : Nat), (outF fs k).length ≤ k * 11
  | 0 => by simp [outF]
  | k + 1 => by
    have h1 := outF_len fs k
    have h2 := fmtF_len (fs.getD k default)
    unfold outF; split <;> simp only [List.length_append, List.length_cons, List.length_nil] <;> omega
theorem outX_len (o : Bs) (xs : List Atm) : ∀ (k : Nat), (outSX o xs k).length ≤ o.length + k * 10
  | 0 => by simp [outSX]
  | k + 1 => by
    have h1 := outX_len o xs k
    have h2 := tnameL_len (xs.getD k default).a
    have h3 := tnameL_len (xs.getD k default).b
    have h4 : (signX (xs.getD k default)).length = 1 := by unfold signX; split <;> rfl
    unfold outSX; split <;> simp only [List.length_append, List.length_cons, List.length_nil, h4] <;> omega
theorem factsT_len (fs : List Fct) : (factsT fs).length ≤ 4 + fs.length * 11 := by
  have h := outF_len fs fs.length
  unfold factsT; split
  · simp
  · omega
theorem textA_len (a : Asn) : (textA a).length ≤ 10 + a.facts.length * 11 + a.atoms.length * 10 := by
  have h1 := factsT_len a.facts
  have h2 := outX_len (factsT a.facts) a.atoms a.atoms.length
  unfold textA; split
  · simp only [List.length_append, List.length_cons, List.length_nil]; omega
  · omega
def stepA (st : List Fct × List Atm × Bool) (x : Bs) : Option (List Fct × List Atm) :=
  match (if st.2.2 then none else parseF x), (if st.2.2 then parseX x else none) with
  | some f, _ => some (st.1 ++ [f], st.2.1)
  | none, some y => some (st.1, st.2.1 ++ [y])
  | none, none => if x ≠ [116, 114, 117, 101] ∧ x ≠ [101, 109, 112] then none else some (st.1, st.2.1)
def readA : List Bs → List Fct × List Atm × Bool → Option Asn
  | [], st => some ⟨st.1, st.2.1⟩
  | [x], st => (stepA st x).map fun p => ⟨p.1, p.2⟩
  | x :: y :: r, st => match stepA st x with
    | none => none
    | some p => readA r (p.1, p.2, st.2.2 || decide (y = [124]))
def parseA (l : Bs) : Option Asn := if 300 < l.length then none else match readA (wordsL l) ([], [], false) with
  | none => none
  | some a => if fmtA a = l ∧ l ≠ [] then some a else none
theorem parseA_valid {l : Bs} {a : Asn} (h : parseA l = some a) : a.valid = true ∧ fmtA a = l := by
  unfold parseA at h
  split at h
  · cases h
  split at h
  · cases h
  split at h
  · rename_i b hb hx
    injection h with h
    subst h
    refine ⟨?_, hx.1⟩
    cases hv : b.valid
    · exfalso
      have := hx.1
      unfold fmtA at this
      rw [hv] at this
      exact hx.2 this.symm
    · rfl
  · cases h
end Go.Proofs.YtjbboklnegfohaaGreatDoor


/- Contracts: the texts of terms, facts and assertions (spec). -/
namespace Go.Proofs.YtjbboklnegfohaaGreatDoor
open Go Go.RowKit Go.Proofs
set_option maxHeartbeats 1600000 in
theorem c_TermName (t:Int) (w:World):Calls Tryz.prog 59 #[.int .i64 t] w fun e w'=>e=.returned (sv (tnameL t))∧w=w':=by
 cases ht:isTermB t
 ·go_enter Tryz.func59,Tryz.ntmps59
  go_wp2_with (go_at_call 66;refine (c_spec_l1Is _ _).mono ?_;rintro e w' ⟨rfl,rfl⟩;rw[ht])
  go_ret
  exact ⟨by rw[tnameL_out ht];rfl,rfl⟩
 ·have hh:=isTermB_iff.1 ht
  have h9:t=0∨t=1∨t=2∨t=3∨t=4∨t=5∨t=6∨t=7∨t=8:=by omega
  clear hh
  rcases h9 with rfl|rfl|rfl|rfl|rfl|rfl|rfl|rfl|rfl
  all_goals
   go_enter Tryz.func59,Tryz.ntmps59
   go_wp2_with (go_at_call 66;refine (c_spec_l1Is _ _).mono ?_;rintro e w' ⟨rfl,rfl⟩;rw[ht])
   go_ret
   exact ⟨rfl,rfl⟩
set_option maxHeartbeats 1600000 in
theorem c_ParseTerm (l:Bs) (w:World):Calls Tryz.prog 78 #[sv l] w fun e w'=>e=.returned (.tuple #[.int .i64 ((parseT l).getD 0:Nat),.bool (parseT l).isSome])∧w=w':=by
 go_enter Tryz.func78,Tryz.ntmps78
 go_wp2_with fail
 go_loopw [4] (fun i wr=>∃ k:Nat,k≤9∧i=.int .i64 k∧Hid (∀ j:Nat,j<k→tnameL j≠l)∧wr=w) (fun i _=>9 - (intOf i).toNat)
 case atStart=>exact ⟨0,by omega,rfl,Lib.hid fun j h=>by omega,rfl⟩
 case round=>
  obtain ⟨k,hk,rfl,HN,rfl⟩:=hrel
  by_cases h9:k<9
  ·have hki:(k:Int)≤8:=by omega
   by_cases he:tnameL k=l
   ·have hb:(tnameL k == l)=true:=by rw[bytes_eq];simpa using he
    have HR:=Lib.hid (parseT_some h9 he HN.out)
    clear he
    go_wp2_with (go_at_call 59;refine (c_TermName _ _).mono ?_;rintro e w' ⟨rfl,rfl⟩)
    refine bodyPost_ret (v:=.tuple #[.int .i64 k,.bool true]) (by simp[results,Tryz.results78,go_sem]) rfl ⟨by rw[HR.out];rfl,rfl⟩
   ·have hb:(tnameL k == l)=false:=by rw[bytes_eq];simpa using he
    have HM:Hid (∀ j:Nat,j<k+1→tnameL j≠l):=Lib.hid fun j hj=>by
     by_cases e:j=k
     ·subst e;exact he
     ·exact HN.out j (by omega)
    clear he
    go_wp2_with (go_at_call 59;refine (c_TermName _ _).mono ?_;rintro e w' ⟨rfl,rfl⟩)
    go_round
    case rel=>exact ⟨k+1,by omega,by go_num,HM,by first|rfl|trivial⟩
    case measure=>simp[intOf];omega
  ·obtain rfl:k=9:=by omega
   have HR:=Lib.hid (parseT_none HN.out)
   go_wp2_with fail
   refine bodyPost_ret (v:=.tuple #[.int .i64 0,.bool false]) (by simp[results,Tryz.results78,go_sem]) rfl ⟨by rw[HR.out];rfl,rfl⟩
theorem c_ParseTermX (l:Bs) (i j:Nat) (w:World):Calls Tryz.prog 78 #[.string ((ByteArray.mk l.toArray).extract i j)] w fun e w'=>e=.returned (.tuple #[.int .i64 ((parseT ((l.drop i).take (j - i))).getD 0:Nat),.bool (parseT ((l.drop i).take (j - i))).isSome])∧w=w':=by
 rw[bext]
 exact c_ParseTerm _ w
set_option maxRecDepth 100000 in
set_option maxHeartbeats 3200000 in
theorem c_l1Text (f:Fct) (w:World):Calls Tryz.prog 60 #[f.val] w fun e w'=>e=.returned (sv (fmtF f))∧Below w.heap.size w w':=by
 have ha:=tnameL_len f.a
 have hb:=tnameL_len f.b
 obtain ⟨eq,a,b⟩:=f
 simp only at ha hb
 unfold Fct.val
 simp only
 cases eq
 ·skip
  have h1:=fun w:World=>addS (P:=Tryz.prog) (tnameL a) [33,61] (by simp;omega) w
  have h2:=fun w:World=>addS (P:=Tryz.prog) (tnameL a++[33,61]) (tnameL b) (by simp;omega) w
  go_enter Tryz.func60,Tryz.ntmps60
  go_wp2_with fail
  go_region_held3 (fun w'=>∀ i,w'.cell? ⟨w.heap.size,i,none⟩=#[.bool false,.int .i64 a,.int .i64 b][i]?)
   (exact Blk.cell blks)
   (first|(go_at_call 59;refine (c_TermName _ _).mono ?_;rintro e w' ⟨rfl,rfl⟩))
  all_goals
   go_wp2_with fail
   go_ret
   exact ⟨ret_str (by simp[fmtF]),bel⟩
 ·skip
  have h1:=fun w:World=>addS (P:=Tryz.prog) (tnameL a) [61] (by simp;omega) w
  have h2:=fun w:World=>addS (P:=Tryz.prog) (tnameL a++[61]) (tnameL b) (by simp;omega) w
  go_enter Tryz.func60,Tryz.ntmps60
  go_wp2_with fail
  go_region_held3 (fun w'=>∀ i,w'.cell? ⟨w.heap.size,i,none⟩=#[.bool true,.int .i64 a,.int .i64 b][i]?)
   (exact Blk.cell blks)
   (first|(go_at_call 59;refine (c_TermName _ _).mono ?_;rintro e w' ⟨rfl,rfl⟩))
  all_goals
   go_wp2_with fail
   go_ret
   exact ⟨ret_str (by simp[fmtF]),bel⟩
end Go.Proofs.YtjbboklnegfohaaGreatDoor

/- Contracts: facts and atoms from texts (spec). -/
namespace Go.Proofs.YtjbboklnegfohaaGreatDoor
open Go Go.RowKit Go.Proofs
theorem u8_eq (c:UInt8) (n:Nat) (hn:n<256):((c.toNat:Int) == (n:Int))=decide (c=UInt8.ofNat n):=by
 rw[Bool.eq_iff_iff,beq_iff_eq,decide_eq_true_iff]
 constructor
 ·intro h
  have:c.toNat=n:=by omega
  rw[←this];simp
 ·rintro rfl
  rw[UInt8.toNat_ofNat',Nat.mod_eq_of_lt (by omega)]
theorem parseF_cut {l:Bs} {k:Nat} (hl:l.length≤9) (hk:k<l.length) (h:l[k]=61) (hn:∀ j (hj:j<k),l[j]≠61) :
  parseF l=if (l.take k).getLast? = some 33 then pairF false (l.take k).dropLast (l.drop (k+1)) else pairF true (l.take k) (l.drop (k+1)):=by
 unfold parseF
 rw[if_neg (by omega),cutAt_at hk h hn]
theorem parseF_no {l:Bs} (hn:∀ j (hj:j<l.length),l[j]≠61):parseF l=none:=by
 unfold parseF
 rw[cutAt_no hn]
 split<;>rfl
def fct0:Fct:=⟨false,0,0⟩
set_option maxRecDepth 100000 in
set_option maxHeartbeats 6400000 in
theorem c_ParseFact (l:Bs) (w:World):Calls Tryz.prog 79 #[sv l] w fun e w'=>e=.returned (.tuple #[((parseF l).getD fct0).val,.bool (parseF l).isSome])∧Below w.heap.size w w':=by
 by_cases hl:l.length≤9
 ·have hli:(l.length:Int)≤9:=by omega
  go_enter Tryz.func79,Tryz.ntmps79
  go_wp2_with fail
  go_loopw [4] (fun i wr=>∃ k:Nat,k≤l.length∧i=.int .i64 k∧Hid (∀ j (hj:j<k) (hj2:j<l.length),l[j]≠61)∧wr=w.alloc (.cells #[.bool false,.int .i64 0,.int .i64 0] tF)) (fun i _=>l.length - (intOf i).toNat)
  case atStart=>exact ⟨0,by omega,rfl,Lib.hid fun j h=>by omega,rfl⟩
  case round=>
   obtain ⟨k,hk,rfl,HN,rfl⟩:=hrel
   by_cases hlt:k<l.length
   ·have hki:(k:Int)<(l.length:Int):=by omega
    have hx:=bidx l k hlt
    by_cases hc:l[k]=61
    ·have HP:=Lib.hid (parseF_cut hl hlt hc fun j hj=>HN.out j hj (by omega))
     obtain ⟨c,hcc⟩:∃ c,c=l[k]:=⟨_,rfl⟩
     rw[←hcc] at hx hc
     have hb:((c.toNat:Int) == 61)=true:=by rw[show (61:Int)=((61:Nat):Int) from rfl,u8_eq c 61 (by decide)];simpa using hc
     clear hcc hc
     by_cases hk0:0<k
     ·obtain ⟨m,hm⟩:∃ m,m+1=k:=⟨k - 1,by omega⟩
      have hk0i:(0:Int)<(k:Int):=by omega
      have hmi:(k:Int) - 1=(m:Int):=by omega
      have hml:(m:Int)<(l.length:Int):=by omega
      have hx2:=bidx l m (by omega)
      have hL0:(l.take k).getLast? = some (l[m]'(by omega)):=by
       subst hm
       rw[List.getLast?_eq_getElem?,List.length_take,Nat.min_eq_left (by omega),Nat.add_sub_cancel,List.getElem?_take,if_pos (by omega),List.getElem?_eq_getElem (by omega)]
      have hdrop:(l.take k).dropLast=l.take m:=by
       subst hm
       rw[List.dropLast_take (by omega),Nat.add_sub_cancel]
      obtain ⟨d,hdd⟩:∃ d,d=l[m]'(by omega):=⟨_,rfl⟩
      rw[←hdd] at hx2 hL0
      clear hdd
      by_cases hd:d=33
      ·have hb2:((d.toNat:Int) == 33)=true:=by rw[show (33:Int)=((33:Nat):Int) from rfl,u8_eq d 33 (by decide)];simpa using hd
       have hlast:(l.take k).getLast? = some 33:=by rw[hL0,hd]
       clear hL0 hd hm
       obtain ⟨pa,hpa⟩:∃ x,x=parseT ((l.drop 0).take (m - 0)):=⟨_,rfl⟩
       have ca:=fun w=>c_ParseTermX l 0 m w
       rw[←hpa] at ca
       replace ca:=Lib.hid ca
       obtain ⟨pb,hpb⟩:∃ x,x=parseT ((l.drop (k+1)).take (l.length - (k+1))):=⟨_,rfl⟩
       have cb:=fun w=>c_ParseTermX l (k+1) l.length w
       rw[←hpb] at cb
       replace cb:=Lib.hid cb
       have hE:Hid (parseF l=pairP false pa pb):=Lib.hid (by
        rw[HP.out,hpa,hpb,List.drop_zero,Nat.sub_zero,List.take_of_length_le (l:=l.drop (k+1)) (by simp)]
        rw[if_pos hlast,hdrop];rfl)
       clear hpa hpb HP
       cases pa with
       | none=>
        have hR:Hid (parseF l=none):=Lib.hid hE.out
        clear hE
        go_wp2_with fail
        refine (ca.out _).mono ?_
        rintro e w2 ⟨rfl,rfl⟩
        go_wp2_with fail
        refine (cb.out _).mono ?_
        rintro e w2 ⟨rfl,rfl⟩
        go_wp2_with fail
        refine bodyPost_ret (v:=.tuple #[.agg #[.bool false,.int .i64 0,.int .i64 0],.bool false]) (by simp[results,Tryz.results79,go_sem]) rfl ⟨by rw[hR.out];rfl,bel⟩
       | some a=>
        cases pb with
        | none=>
         have hR:Hid (parseF l=none):=Lib.hid hE.out
         clear hE
         go_wp2_with fail
         refine (ca.out _).mono ?_
         rintro e w2 ⟨rfl,rfl⟩
         go_wp2_with fail
         refine (cb.out _).mono ?_
         rintro e w2 ⟨rfl,rfl⟩
         go_wp2_with fail
         refine bodyPost_ret (v:=.tuple #[.agg #[.bool false,.int .i64 0,.int .i64 0],.bool false]) (by simp[results,Tryz.results79,go_sem]) rfl ⟨by rw[hR.out];rfl,bel⟩
        | some b=>
         have hR:Hid (parseF l=some ⟨false,(a:Int),(b:Int)⟩):=Lib.hid hE.out
         clear hE
         go_wp2_with fail
         refine (ca.out _).mono ?_
         rintro e w2 ⟨rfl,rfl⟩
         go_wp2_with fail
         refine (cb.out _).mono ?_
         rintro e w2 ⟨rfl,rfl⟩
         go_wp2_with fail
         refine bodyPost_ret (v:=.tuple #[.agg #[.bool false,.int .i64 a,.int .i64 b],.bool true]) (by simp[results,Tryz.results79,go_sem]) rfl ⟨by rw[hR.out];rfl,bel⟩
      ·have hb2:((d.toNat:Int) == 33)=false:=by rw[show (33:Int)=((33:Nat):Int) from rfl,u8_eq d 33 (by decide)];simpa using hd
       have hlast:¬(l.take k).getLast? = some 33:=by rw[hL0];simpa using hd
       clear hL0 hd hm
       obtain ⟨pa,hpa⟩:∃ x,x=parseT ((l.drop 0).take (k - 0)):=⟨_,rfl⟩
       have ca:=fun w=>c_ParseTermX l 0 k w
       rw[←hpa] at ca
       replace ca:=Lib.hid ca
       obtain ⟨pb,hpb⟩:∃ x,x=parseT ((l.drop (k+1)).take (l.length - (k+1))):=⟨_,rfl⟩
       have cb:=fun w=>c_ParseTermX l (k+1) l.length w
       rw[←hpb] at cb
       replace cb:=Lib.hid cb
       have hE:Hid (parseF l=pairP true pa pb):=Lib.hid (by
        rw[HP.out,hpa,hpb,List.drop_zero,Nat.sub_zero,List.take_of_length_le (l:=l.drop (k+1)) (by simp)]
        rw[if_neg hlast];rfl)
       clear hpa hpb HP
       cases pa with
       | none=>
        have hR:Hid (parseF l=none):=Lib.hid hE.out
        clear hE
        go_wp2_with fail
        refine (ca.out _).mono ?_
        rintro e w2 ⟨rfl,rfl⟩
        go_wp2_with fail
        refine (cb.out _).mono ?_
        rintro e w2 ⟨rfl,rfl⟩
        go_wp2_with fail
        refine bodyPost_ret (v:=.tuple #[.agg #[.bool false,.int .i64 0,.int .i64 0],.bool false]) (by simp[results,Tryz.results79,go_sem]) rfl ⟨by rw[hR.out];rfl,bel⟩
       | some a=>
        cases pb with
        | none=>
         have hR:Hid (parseF l=none):=Lib.hid hE.out
         clear hE
         go_wp2_with fail
         refine (ca.out _).mono ?_
         rintro e w2 ⟨rfl,rfl⟩
         go_wp2_with fail
         refine (cb.out _).mono ?_
         rintro e w2 ⟨rfl,rfl⟩
         go_wp2_with fail
         refine bodyPost_ret (v:=.tuple #[.agg #[.bool false,.int .i64 0,.int .i64 0],.bool false]) (by simp[results,Tryz.results79,go_sem]) rfl ⟨by rw[hR.out];rfl,bel⟩
        | some b=>
         have hR:Hid (parseF l=some ⟨true,(a:Int),(b:Int)⟩):=Lib.hid hE.out
         clear hE
         go_wp2_with fail
         refine (ca.out _).mono ?_
         rintro e w2 ⟨rfl,rfl⟩
         go_wp2_with fail
         refine (cb.out _).mono ?_
         rintro e w2 ⟨rfl,rfl⟩
         go_wp2_with fail
         refine bodyPost_ret (v:=.tuple #[.agg #[.bool true,.int .i64 a,.int .i64 b],.bool true]) (by simp[results,Tryz.results79,go_sem]) rfl ⟨by rw[hR.out];rfl,bel⟩
     ·have hk0i:¬(0:Int)<(k:Int):=by omega
      have hlast:¬(l.take k).getLast? = some 33:=by
       obtain rfl:k=0:=by omega
       simp
      clear hk0
      obtain ⟨pa,hpa⟩:∃ x,x=parseT ((l.drop 0).take (k - 0)):=⟨_,rfl⟩
      have ca:=fun w=>c_ParseTermX l 0 k w
      rw[←hpa] at ca
      replace ca:=Lib.hid ca
      obtain ⟨pb,hpb⟩:∃ x,x=parseT ((l.drop (k+1)).take (l.length - (k+1))):=⟨_,rfl⟩
      have cb:=fun w=>c_ParseTermX l (k+1) l.length w
      rw[←hpb] at cb
      replace cb:=Lib.hid cb
      have hE:Hid (parseF l=pairP true pa pb):=Lib.hid (by
       rw[HP.out,hpa,hpb,List.drop_zero,Nat.sub_zero,List.take_of_length_le (l:=l.drop (k+1)) (by simp)]
       rw[if_neg hlast];rfl)
      clear hpa hpb HP
      cases pa with
      | none=>
       have hR:Hid (parseF l=none):=Lib.hid hE.out
       clear hE
       go_wp2_with fail
       refine (ca.out _).mono ?_
       rintro e w2 ⟨rfl,rfl⟩
       go_wp2_with fail
       refine (cb.out _).mono ?_
       rintro e w2 ⟨rfl,rfl⟩
       go_wp2_with fail
       refine bodyPost_ret (v:=.tuple #[.agg #[.bool false,.int .i64 0,.int .i64 0],.bool false]) (by simp[results,Tryz.results79,go_sem]) rfl ⟨by rw[hR.out];rfl,bel⟩
      | some a=>
       cases pb with
       | none=>
        have hR:Hid (parseF l=none):=Lib.hid hE.out
        clear hE
        go_wp2_with fail
        refine (ca.out _).mono ?_
        rintro e w2 ⟨rfl,rfl⟩
        go_wp2_with fail
        refine (cb.out _).mono ?_
        rintro e w2 ⟨rfl,rfl⟩
        go_wp2_with fail
        refine bodyPost_ret (v:=.tuple #[.agg #[.bool false,.int .i64 0,.int .i64 0],.bool false]) (by simp[results,Tryz.results79,go_sem]) rfl ⟨by rw[hR.out];rfl,bel⟩
       | some b=>
        have hR:Hid (parseF l=some ⟨true,(a:Int),(b:Int)⟩):=Lib.hid hE.out
        clear hE
        go_wp2_with fail
        refine (ca.out _).mono ?_
        rintro e w2 ⟨rfl,rfl⟩
        go_wp2_with fail
        refine (cb.out _).mono ?_
        rintro e w2 ⟨rfl,rfl⟩
        go_wp2_with fail
        refine bodyPost_ret (v:=.tuple #[.agg #[.bool true,.int .i64 a,.int .i64 b],.bool true]) (by simp[results,Tryz.results79,go_sem]) rfl ⟨by rw[hR.out];rfl,bel⟩
    ·obtain ⟨c,hcc⟩:∃ c,c=l[k]:=⟨_,rfl⟩
     rw[←hcc] at hx hc
     have hb:((c.toNat:Int) == 61)=false:=by rw[show (61:Int)=((61:Nat):Int) from rfl,u8_eq c 61 (by decide)];simpa using hc
     have HM:Hid (∀ j (hj:j<k+1) (hj2:j<l.length),l[j]≠61):=Lib.hid fun j hj hj2=>by
      by_cases e:j=k
      ·subst e;rw[←hcc];exact hc
      ·exact HN.out j (by omega) hj2
     clear hcc hc
     go_wp2_with fail
     go_round
     case rel=>exact ⟨k+1,by omega,by go_num,HM,by first|rfl|trivial⟩
     case measure=>simp[intOf];omega
   ·obtain rfl:k=l.length:=by omega
    have HP:=Lib.hid (parseF_no fun j hj=>HN.out j hj hj)
    go_wp2_with fail
    refine bodyPost_ret (v:=.tuple #[.agg #[.bool false,.int .i64 0,.int .i64 0],.bool false]) (by simp[results,Tryz.results79,go_sem]) rfl ⟨by rw[HP.out];rfl,bel⟩
 ·have hli:¬(l.length:Int)≤9:=by omega
  have hl0:(0:Int)<(l.length:Int):=by omega
  have HP:=Lib.hid (show parseF l=none by unfold parseF;rw[if_pos (by omega)])
  clear hl
  go_enter Tryz.func79,Tryz.ntmps79
  go_wp2_with fail
  go_loopw [4] (fun i wr=>i=.int .i64 0∧wr=w.alloc (.cells #[.bool false,.int .i64 0,.int .i64 0] tF)) (fun _ _=>0)
  case atStart=>exact ⟨rfl,rfl⟩
  case round=>
   obtain ⟨rfl,rfl⟩:=hrel
   go_wp2_with fail
   refine bodyPost_ret (v:=.tuple #[.agg #[.bool false,.int .i64 0,.int .i64 0],.bool false]) (by simp[results,Tryz.results79,go_sem]) rfl ⟨by rw[HP.out];rfl,bel⟩
end Go.Proofs.YtjbboklnegfohaaGreatDoor

/- Contracts: atoms from texts (spec). -/
namespace Go.Proofs.YtjbboklnegfohaaGreatDoor
open Go Go.RowKit Go.Proofs
theorem parseX_cut {l:Bs} {k:Nat} (hl:l.length≤7) (hk:k<l.length) (h:sign2 l[k]=true) (hn:∀ j (hj:j<k),sign2 l[j]=false) :
  parseX l=pairX (if l[k]=126 then 2 else 1) (parseT (l.take k)) (parseT (l.drop (k+1))):=by
 unfold parseX
 rw[if_neg (by omega),cutX_at hk h hn]
theorem parseX_no {l:Bs} (hn:∀ j (hj:j<l.length),sign2 l[j]=false):parseX l=none:=by
 unfold parseX
 rw[cutX_no hn]
 split<;>rfl
theorem pairX_isSome (kd:Int) (a:Nat) (pb:Option Nat):(pairX kd (some a) pb).isSome=pb.isSome:=by cases pb<;>rfl
set_option maxRecDepth 100000 in
set_option maxHeartbeats 6400000 in
theorem c_ParseAtom (l:Bs) (w:World):Calls Tryz.prog 96 #[sv l] w fun e w'=>∃ y:Atm,e=.returned (.tuple #[.agg #[.int .i64 y.kind,.int .i64 y.a,.int .i64 y.b],.bool (parseX l).isSome])∧(∀ z,parseX l=some z→y=z)∧Below w.heap.size w w':=by
 by_cases hl:l.length≤7
 ·have hli:(l.length:Int)≤7:=by omega
  go_enter Tryz.func96,Tryz.ntmps96
  go_wp2_with fail
  go_loopw [4] (fun i wr=>∃ k:Nat,k≤l.length∧i=.int .i64 k∧Hid (∀ j (hj:j<k) (hj2:j<l.length),sign2 l[j]=false)∧wr=w.alloc (.cells #[.int .i64 0,.int .i64 0,.int .i64 0] tA)) (fun i _=>l.length - (intOf i).toNat)
  case atStart=>exact ⟨0,by omega,rfl,Lib.hid fun j h=>by omega,rfl⟩
  case round=>
   obtain ⟨k,hk,rfl,HN,rfl⟩:=hrel
   by_cases hlt:k<l.length
   ·have hki:(k:Int)<(l.length:Int):=by omega
    have hx:=bidx l k hlt
    cases hc:sign2 l[k]
    ·obtain ⟨c,hcc⟩:∃ c,c=l[k]:=⟨_,rfl⟩
     have HM:Hid (∀ j (hj:j<k+1) (hj2:j<l.length),sign2 l[j]=false):=Lib.hid fun j hj hj2=>by
      by_cases e:j=k
      ·subst e;exact hc
      ·exact HN.out j (by omega) hj2
     rw[←hcc] at hx hc
     have h2:¬c=62∧¬c=126:=by unfold sign2 at hc;simpa using hc
     have hb1:((c.toNat:Int) == 62)=false:=by rw[show (62:Int)=((62:Nat):Int) from rfl,u8_eq c 62 (by decide)];simpa using h2.1
     have hb1x:¬((c.toNat:Int)=62):=by simpa using hb1
     have hb1y:((c.toNat:Int) != 62)=true:=by simpa using hb1
     have hb2:((c.toNat:Int) == 126)=false:=by rw[show (126:Int)=((126:Nat):Int) from rfl,u8_eq c 126 (by decide)];simpa using h2.2
     have hb2x:¬((c.toNat:Int)=126):=by simpa using hb2
     have hb2y:((c.toNat:Int) != 126)=true:=by simpa using hb2
     clear hcc hc h2
     go_wp2_with fail
     go_round
     case rel=>exact ⟨k+1,by omega,by go_num,HM,by first|rfl|trivial⟩
     case measure=>simp[intOf];omega
    ·have HP:=Lib.hid (parseX_cut hl hlt hc fun j hj=>HN.out j hj (by omega))
     obtain ⟨c,hcc⟩:∃ c,c=l[k]:=⟨_,rfl⟩
     rw[←hcc] at hx hc HP
     have h2:c=62∨c=126:=by unfold sign2 at hc;simpa using hc
     clear hcc hc
     obtain ⟨pa,hpa⟩:∃ x,x=parseT ((l.drop 0).take (k - 0)):=⟨_,rfl⟩
     have ca:=fun w=>c_ParseTermX l 0 k w
     rw[←hpa] at ca
     replace ca:=Lib.hid ca
     obtain ⟨pb,hpb⟩:∃ x,x=parseT ((l.drop (k+1)).take (l.length - (k+1))):=⟨_,rfl⟩
     have cb:=fun w=>c_ParseTermX l (k+1) l.length w
     rw[←hpb] at cb
     replace cb:=Lib.hid cb
     have hE:Hid (parseX l=pairX (if c=126 then 2 else 1) pa pb):=Lib.hid (by
      rw[HP.out,hpa,hpb,List.drop_zero,Nat.sub_zero,List.take_of_length_le (l:=l.drop (k+1)) (by simp)])
     clear hpa hpb HP
     rcases h2 with h2|h2
     ·replace hE:Hid (parseX l=pairX 1 pa pb):=Lib.hid (by rw[hE.out,h2];rfl)
      subst h2
      cases pa with
      | none=>
       have hR:Hid (parseX l=none):=Lib.hid hE.out
       clear hE
       go_wp2_with fail
       refine (ca.out _).mono ?_
       rintro e w2 ⟨rfl,rfl⟩
       go_wp2_with fail
       refine (cb.out _).mono ?_
       rintro e w2 ⟨rfl,rfl⟩
       obtain ⟨nb,hnb⟩:∃ nb:Nat,nb=pb.getD 0:=⟨_,rfl⟩
       rw[←hnb]
       clear hnb
       go_wp2_with fail
       refine bodyPost_ret (v:=.tuple #[.agg #[.int .i64 1,.int .i64 0,.int .i64 nb],.bool false]) (by simp[results,Tryz.results96,go_sem]) rfl ⟨⟨1,0,nb⟩,by rw[hR.out];rfl,(by rw[hR.out];intro z h;cases h),bel⟩
      | some a=>
       have hS:Hid ((parseX l).isSome=pb.isSome):=Lib.hid (by rw[hE.out,pairX_isSome])
       obtain ⟨nb,hnb⟩:∃ nb:Nat,nb=pb.getD 0:=⟨_,rfl⟩
       have hZ:Hid (∀ z,parseX l=some z→(⟨1,(a:Int),(nb:Int)⟩:Atm)=z):=Lib.hid (by
        intro z hz
        rw[hE.out,hnb] at *
        cases pb with
        | none=>cases hz
        | some b=>injection hz)
       clear hE
       go_wp2_with fail
       refine (ca.out _).mono ?_
       rintro e w2 ⟨rfl,rfl⟩
       go_wp2_with fail
       refine (cb.out _).mono ?_
       rintro e w2 ⟨rfl,rfl⟩
       obtain ⟨sb,hsb⟩:∃ sb:Bool,sb=pb.isSome:=⟨_,rfl⟩
       rw[←hsb] at hS ⊢
       rw[←hnb]
       clear hnb hsb
       go_wp2_with fail
       refine bodyPost_ret (v:=.tuple #[.agg #[.int .i64 1,.int .i64 a,.int .i64 nb],.bool sb]) (by simp[results,Tryz.results96,go_sem]) rfl ⟨⟨1,a,nb⟩,by rw[hS.out],hZ.out,bel⟩
     ·replace hE:Hid (parseX l=pairX 2 pa pb):=Lib.hid (by rw[hE.out,h2];rfl)
      subst h2
      cases pa with
      | none=>
       have hR:Hid (parseX l=none):=Lib.hid hE.out
       clear hE
       go_wp2_with fail
       refine (ca.out _).mono ?_
       rintro e w2 ⟨rfl,rfl⟩
       go_wp2_with fail
       refine (cb.out _).mono ?_
       rintro e w2 ⟨rfl,rfl⟩
       obtain ⟨nb,hnb⟩:∃ nb:Nat,nb=pb.getD 0:=⟨_,rfl⟩
       rw[←hnb]
       clear hnb
       go_wp2_with fail
       refine bodyPost_ret (v:=.tuple #[.agg #[.int .i64 2,.int .i64 0,.int .i64 nb],.bool false]) (by simp[results,Tryz.results96,go_sem]) rfl ⟨⟨2,0,nb⟩,by rw[hR.out];rfl,(by rw[hR.out];intro z h;cases h),bel⟩
      | some a=>
       have hS:Hid ((parseX l).isSome=pb.isSome):=Lib.hid (by rw[hE.out,pairX_isSome])
       obtain ⟨nb,hnb⟩:∃ nb:Nat,nb=pb.getD 0:=⟨_,rfl⟩
       have hZ:Hid (∀ z,parseX l=some z→(⟨2,(a:Int),(nb:Int)⟩:Atm)=z):=Lib.hid (by
        intro z hz
        rw[hE.out,hnb] at *
        cases pb with
        | none=>cases hz
        | some b=>injection hz)
       clear hE
       go_wp2_with fail
       refine (ca.out _).mono ?_
       rintro e w2 ⟨rfl,rfl⟩
       go_wp2_with fail
       refine (cb.out _).mono ?_
       rintro e w2 ⟨rfl,rfl⟩
       obtain ⟨sb,hsb⟩:∃ sb:Bool,sb=pb.isSome:=⟨_,rfl⟩
       rw[←hsb] at hS ⊢
       rw[←hnb]
       clear hnb hsb
       go_wp2_with fail
       refine bodyPost_ret (v:=.tuple #[.agg #[.int .i64 2,.int .i64 a,.int .i64 nb],.bool sb]) (by simp[results,Tryz.results96,go_sem]) rfl ⟨⟨2,a,nb⟩,by rw[hS.out],hZ.out,bel⟩
   ·obtain rfl:k=l.length:=by omega
    have HP:=Lib.hid (parseX_no fun j hj=>HN.out j hj hj)
    go_wp2_with fail
    refine bodyPost_ret (v:=.tuple #[.agg #[.int .i64 0,.int .i64 0,.int .i64 0],.bool false]) (by simp[results,Tryz.results96,go_sem]) rfl ⟨⟨0,0,0⟩,by rw[HP.out];rfl,(by rw[HP.out];intro z h;cases h),bel⟩
 ·have hli:¬(l.length:Int)≤7:=by omega
  have hl0:(0:Int)<(l.length:Int):=by omega
  have HP:=Lib.hid (show parseX l=none by unfold parseX;rw[if_pos (by omega)])
  clear hl
  go_enter Tryz.func96,Tryz.ntmps96
  go_wp2_with fail
  go_loopw [4] (fun i wr=>i=.int .i64 0∧wr=w.alloc (.cells #[.int .i64 0,.int .i64 0,.int .i64 0] tA)) (fun _ _=>0)
  case atStart=>exact ⟨rfl,rfl⟩
  case round=>
   obtain ⟨rfl,rfl⟩:=hrel
   go_wp2_with fail
   refine bodyPost_ret (v:=.tuple #[.agg #[.int .i64 0,.int .i64 0,.int .i64 0],.bool false]) (by simp[results,Tryz.results96,go_sem]) rfl ⟨⟨0,0,0⟩,by rw[HP.out];rfl,(by rw[HP.out];intro z h;cases h),bel⟩
end Go.Proofs.YtjbboklnegfohaaGreatDoor

/- Contracts: texts cut into lines and words (spec). -/
namespace Go.Proofs.YtjbboklnegfohaaGreatDoor
open Go Go.RowKit Go.Proofs
theorem u8_eq2 (x c:UInt8):((x.toNat:Int) == (c.toNat:Int))=decide (x=c):=by
 rw[Bool.eq_iff_iff,beq_iff_eq,decide_eq_true_iff]
 constructor
 ·intro h;exact UInt8.toNat_inj.1 (by omega)
 ·rintro rfl;rfl
def cutSt (c:UInt8) (l:Bs) (i fr:Nat) (xs:List Bs):Prop:=
 fr≤i∧xs.length≤i∧(i≤l.length→splitL c l=xs++splitA c ((l.drop fr).take (i - fr)) (l.drop i))∧(l.length<i→splitL c l=xs)
theorem cutSt.start (c:UInt8) (l:Bs):cutSt c l 0 0 []:=⟨Nat.le_refl _,Nat.le_refl _,fun _=>by simp[splitL],fun h=>by omega⟩
theorem cutSt.hit {c:UInt8} {l:Bs} {i fr:Nat} {xs:List Bs} (h:cutSt c l i fr xs) (hi:i<l.length) (hc:l[i]=c):cutSt c l (i+1) (i+1) (xs++[(l.drop fr).take (i - fr)]):=by
 obtain ⟨h1,h2,h3,h4⟩:=h
 refine ⟨Nat.le_refl _,by simpa using h2,fun _=>?_,fun h=>by omega⟩
 rw[h3 (by omega),List.drop_eq_getElem_cons hi,splitA,if_pos hc]
 simp
theorem cutSt.miss {c:UInt8} {l:Bs} {i fr:Nat} {xs:List Bs} (h:cutSt c l i fr xs) (hi:i<l.length) (hc:l[i]≠c):cutSt c l (i+1) fr xs:=by
 obtain ⟨h1,h2,h3,h4⟩:=h
 refine ⟨by omega,by omega,fun _=>?_,fun h=>by omega⟩
 rw[h3 (by omega),List.drop_eq_getElem_cons hi,splitA,if_neg hc]
 congr 2
 rw[show i+1 - fr=(i - fr)+1 by omega,List.take_add_one,List.getElem?_drop,show fr+(i - fr)=i by omega,List.getElem?_eq_getElem hi]
 rfl
theorem cutSt.last {c:UInt8} {l:Bs} {i fr:Nat} {xs:List Bs} (h:cutSt c l i fr xs) (hi:i=l.length):cutSt c l (i+1) (i+1) (xs++[(l.drop fr).take (i - fr)]):=by
 obtain ⟨h1,h2,h3,h4⟩:=h
 refine ⟨Nat.le_refl _,by simpa using h2,fun h=>by omega,fun _=>?_⟩
 rw[h3 (by omega),hi,List.drop_length,splitA]
theorem box_ext (w:World) (l:Bs) (i j:Nat) (t:TypeId):(w.alloc (.cells #[.string ((ByteArray.mk l.toArray).extract i j)] t)).cell? ⟨w.heap.size,0,none⟩=some (sv ((l.drop i).take (j - i))):=by
 rw[bext]
 exact cell_box w _ t
set_option maxRecDepth 100000 in
set_option maxHeartbeats 3200000 in
theorem c_l18Cut (l:Bs) (c:UInt8) (w:World) (hl:l.length≤1049000):Calls Tryz.prog 25 #[sv l,.int .u8 (c.toNat:Nat)] w fun e w'=>∃ r,e=.returned r∧StrsO w' w.heap.size r (splitL c l)∧Below w.heap.size w w':=by
 go_enter Tryz.func25,Tryz.ntmps25
 have hO:StrsO (w.alloc (.cells #[] tS)) w.heap.size (.slice (some ⟨w.heap.size,0,none⟩) 0 0) []:=StrsO.empty _ rfl
 have hB:Below w.heap.size w (w.alloc (.cells #[] tS)):=bel
 go_wp2_with fail
 go_loopw [5,6,7] (fun u fr i wr=>∃ (k f:Nat) (A:Option Addr) (d:Nat) (xs:List Bs),k≤l.length+1∧i=.int .i64 k∧fr=.int .i64 f∧u=.slice A xs.length d∧StrsO wr w.heap.size (.slice A xs.length d) xs∧Hid (cutSt c l k f xs)∧Hid (Below w.heap.size w wr)) (fun _ _ i _=>l.length+1 - (intOf i).toNat)
 case atStart=>exact ⟨0,0,_,0,[],by omega,rfl,rfl,rfl,hO,Lib.hid (cutSt.start c l),hB⟩
 case round=>
  clear hO hB
  obtain ⟨k,f,A,d,xs,hk,rfl,rfl,rfl,hO,hC,HB⟩:=hrel
  have HO:=Lib.hid hO
  have hf:=hC.out.1
  have hx:=hC.out.2.1
  have hz:=HB.out.size
  clear hO
  by_cases hle:k≤l.length
  ·have hkl:(k:Int)≤(l.length:Int):=by omega
   by_cases hlt:k<l.length
   ·have hki:(k:Int)<(l.length:Int):=by omega
    have hke:((k:Int) == (l.length:Int))=false:=by simp;omega
    have hb:=bidx l k hlt
    by_cases hc:l[k]=c
    ·have hN:=Lib.hid (hC.out.hit hlt hc)
     obtain ⟨x,hxx⟩:∃ x,x=l[k]:=⟨_,rfl⟩
     rw[←hxx] at hb hc
     have hbc:((x.toNat:Int) == (c.toNat:Int))=true:=by rw[u8_eq2];simpa using hc
     clear hc hxx
     go_wp2_with (at_builtin;refine appS rfl _ _ rfl (v:=.slice A xs.length d) rfl (StrsO.below (w:=wr) HO.out bel) wr.heap.size ((l.drop f).take (k - f)) rfl (box_ext wr l f k _) (by omega) (by simp;omega) ?_;intro g2 d2 w2 o2 hg2 hB2)
     have hBB:Below w.heap.size w w2:=((HB.out.alloc hz _).trans hB2)
     go_round
     case rel=>exact ⟨k+1,k+1,some ⟨g2,0,none⟩,d2,xs++[(l.drop f).take (k - f)],by omega,by go_num,by go_num,by simp,by simpa using o2,hN,hBB⟩
     case measure=>simp[intOf];omega
    ·have hN:=Lib.hid (hC.out.miss hlt hc)
     obtain ⟨x,hxx⟩:∃ x,x=l[k]:=⟨_,rfl⟩
     rw[←hxx] at hb hc
     have hbc:((x.toNat:Int) == (c.toNat:Int))=false:=by rw[u8_eq2];simpa using hc
     clear hc hxx
     go_wp2_with fail
     go_round
     case rel=>exact ⟨k+1,f,A,d,xs,by omega,by go_num,rfl,rfl,HO.out,hN,HB.out⟩
     case measure=>simp[intOf];omega
   ·have hke:((k:Int) == (l.length:Int))=true:=by simp;omega
    have hN:=Lib.hid (hC.out.last (by omega))
    go_wp2_with (at_builtin;refine appS rfl _ _ rfl (v:=.slice A xs.length d) rfl (StrsO.below (w:=wr) HO.out bel) wr.heap.size ((l.drop f).take (k - f)) rfl (box_ext wr l f k _) (by omega) (by simp;omega) ?_;intro g2 d2 w2 o2 hg2 hB2)
    have hBB:Below w.heap.size w w2:=((HB.out.alloc hz _).trans hB2)
    go_round
    case rel=>exact ⟨k+1,k+1,some ⟨g2,0,none⟩,d2,xs++[(l.drop f).take (k - f)],by omega,by go_num,by go_num,by simp,by simpa using o2,hN,hBB⟩
    case measure=>simp[intOf];omega
  ·have hkl:¬(k:Int)≤(l.length:Int):=by omega
   have hE:=Lib.hid (hC.out.2.2.2 (by omega))
   go_wp2_with fail
   go_ret
   exact ⟨_,rfl,by rw[hE.out];exact HO.out,HB.out⟩
theorem words_take {ss:List Bs} {k:Nat} (hk:k<ss.length):(ss.take (k+1)).filter (fun x=>decide (x≠[]))=(ss.take k).filter (fun x=>decide (x≠[]))++(if ss[k]=[] then [] else [ss[k]]):=by
 rw[List.take_add_one,List.filter_append,List.getElem?_eq_getElem hk]
 congr 1
 by_cases h:ss[k]=[]<;>simp[h]
set_option maxRecDepth 100000 in
set_option maxHeartbeats 3200000 in
theorem c_l18Words (l:Bs) (w:World) (hl:l.length≤1049000):Calls Tryz.prog 95 #[sv l] w fun e w'=>∃ r,e=.returned r∧StrsO w' w.heap.size r (wordsL l)∧Below w.heap.size w w':=by
 go_enter Tryz.func95,Tryz.ntmps95
 go_wp2_with fail
 refine (c_l18Cut l 32 _ hl).mono ?_
 rintro e w1 ⟨r1,rfl,o1,hB1⟩
 obtain ⟨A1,d1,rfl,v1⟩:=o1.reads
 have hW:=Lib.hid (show wordsL l=((splitL 32 l).take (splitL 32 l).length).filter fun x=>decide (x≠[]) by rw[List.take_length];rfl)
 have hn:=splitA_len 32 l []
 change (splitL 32 l).length≤_ at hn
 obtain ⟨ss,hss⟩:∃ ss,ss=splitL 32 l:=⟨_,rfl⟩
 rw[←hss] at v1 hW hn ⊢
 have HV:=Lib.hid v1
 have z1:=hB1.size
 have HW1:=Lib.hid hB1
 have hO:StrsO (w1.alloc (.cells #[] tS)) w1.heap.size (.slice (some ⟨w1.heap.size,0,none⟩) 0 0) []:=StrsO.empty _ rfl
 have hB:Below w1.heap.size w1 (w1.alloc (.cells #[] tS)):=bel
 clear v1 o1 hB1 hss
 go_wp2_with fail
 go_loopw [4,5] (fun u i wr=>∃ (k:Nat) (A:Option Addr) (d:Nat) (xs:List Bs),k≤ss.length∧i=.int .i64 k∧u=.slice A xs.length d∧StrsO wr w1.heap.size (.slice A xs.length d) xs∧Hid (xs=(ss.take k).filter fun x=>decide (x≠[]))∧Hid (Below w1.heap.size w1 wr)) (fun _ i _=>ss.length - (intOf i).toNat)
 case atStart=>exact ⟨0,_,0,[],by omega,rfl,rfl,hO,Lib.hid rfl,hB⟩
 case round=>
  clear hO hB
  obtain ⟨k,A,d,xs,hk,rfl,rfl,hO,hC,HB⟩:=hrel
  have HO:=Lib.hid hO
  have hx:xs.length≤k:=by rw[hC.out];exact Nat.le_trans (List.length_filter_le _ _) (by simp;omega)
  have hz:=HB.out.size
  clear hO
  by_cases hlt:k<ss.length
  ·have hki:(k:Int)<(ss.length:Int):=by omega
   have hN:=Lib.hid (words_take hlt)
   obtain ⟨b,o,rfl,hc⟩:=(HV.out.below HB.out).at hlt
   have hbl:=block_lt_of_cell hc
   obtain ⟨x,hxx⟩:∃ x,x=ss[k]:=⟨_,rfl⟩
   rw[←hxx] at hc hN
   clear hxx
   by_cases he:x=[]
   ·subst he
    have hN2:Hid (xs=(ss.take (k+1)).filter fun x=>decide (x≠[])):=Lib.hid (by rw[hN.out,hC.out];simp)
    clear hN
    go_wp2_with fail
    go_round
    case rel=>exact ⟨k+1,A,d,xs,by omega,by go_num,rfl,HO.out,hN2,HB.out⟩
    case measure=>simp[intOf];omega
   ·have hN2:Hid (xs++[x]=(ss.take (k+1)).filter fun x=>decide (x≠[])):=Lib.hid (by rw[hN.out,hC.out,if_neg he])
    have heb:(x == [])=false:=by rw[bytes_eq];simpa using he
    clear hN
    go_wp2_with (at_builtin;refine appS rfl _ _ rfl (v:=.slice A xs.length d) rfl (StrsO.below (w:=wr) HO.out bel) wr.heap.size x rfl (cell_box wr _ _) (by omega) (by simp;omega) ?_;intro g2 d2 w2 o2 hg2 hB2)
    have hBB:Below w1.heap.size w1 w2:=((HB.out.alloc hz _).trans hB2)
    go_round
    case rel=>exact ⟨k+1,some ⟨g2,0,none⟩,d2,xs++[x],by omega,by go_num,by simp,by simpa using o2,hN2,hBB⟩
    case measure=>simp[intOf];omega
  ·obtain rfl:k=ss.length:=by omega
   go_wp2_with fail
   go_ret
   exact ⟨_,rfl,by rw[hW.out,←hC.out];exact HO.out.lower z1,bgo HW1.out HB.out⟩
end Go.Proofs.YtjbboklnegfohaaGreatDoor

/- Contracts: states, cells, truth. -/
namespace Go.Proofs.YtjbboklnegfohaaGreatDoor
open Go Go.RowKit Go.Proofs
end Go.Proofs.YtjbboklnegfohaaGreatDoor

/- Tidying: plain functions. No program. -/
namespace Go.Proofs.YtjbboklnegfohaaGreatDoor
open Go Go.RowKit
def swp (x y t:Int):Int:=if t=x then y else t
def Fct.sub (x y:Int) (f:Fct):Fct:=⟨f.eq,swp x y f.a,swp x y f.b⟩
def Atm.sub (x y:Int) (f:Atm):Atm:=⟨f.kind,swp x y f.a,swp x y f.b⟩
def logB (t:Int):Bool:=decide (4<t∧t≤8)
def free (K:Nat) (t:Int):Bool:=logB t && !K.testBit t.toNat
def left (K:Nat) (a:Asn):List Nat:=(List.range 9).filter fun n=>free K (n:Int)&&decide ((n:Int)∈termsL a)
end Go.Proofs.YtjbboklnegfohaaGreatDoor

/- Contracts: the list of a set of terms. -/
namespace Go.Proofs.YtjbboklnegfohaaGreatDoor
open Go Go.RowKit Go.Proofs
end Go.Proofs.YtjbboklnegfohaaGreatDoor

/- Contracts: the texts of terms, facts and atoms (impl). -/
namespace Go.Proofs.YtjbboklnegfohaaGreatDoor
open Go Go.RowKit Go.Proofs
def TN (w:World):Prop:=0<w.heap.size∧∀ i:Nat,i<9→w.cell? ⟨0,i,none⟩=some (sv (tnameL i))
theorem TN.below {w w':World} (h:TN w) (hb:Below w.heap.size w w'):TN w':=⟨Nat.lt_of_lt_of_le h.1 hb.size,fun i hi=>by rw[(bcell hb).1 0 i h.1];exact h.2 i hi⟩
set_option maxHeartbeats 1600000 in
theorem c_iTN (t:Int) (w:World) (h:TN w):Calls Tryz.prog 50 #[.int .i64 t] w fun e w'=>e=.returned (sv (tnameL t))∧w=w':=by
 cases ht:isTermB t
 ·go_enter Tryz.func50,Tryz.ntmps50
  go_wp2_with (go_at_call 65;refine (c_impl_isTerm _ _).mono ?_;rintro e w' ⟨rfl,rfl⟩;rw[ht])
  go_ret
  exact ⟨by rw[tnameL_out ht];rfl,rfl⟩
 ·have hh:=isTermB_iff.1 ht
  have h9:t=0∨t=1∨t=2∨t=3∨t=4∨t=5∨t=6∨t=7∨t=8:=by omega
  clear hh
  have c0:=h.2 0 (by omega)
  have c1:=h.2 1 (by omega)
  have c2:=h.2 2 (by omega)
  have c3:=h.2 3 (by omega)
  have c4:=h.2 4 (by omega)
  have c5:=h.2 5 (by omega)
  have c6:=h.2 6 (by omega)
  have c7:=h.2 7 (by omega)
  have c8:=h.2 8 (by omega)
  rcases h9 with rfl|rfl|rfl|rfl|rfl|rfl|rfl|rfl|rfl
  all_goals
   go_enter Tryz.func50,Tryz.ntmps50
   go_wp2_with (go_at_call 65;refine (c_impl_isTerm _ _).mono ?_;rintro e w' ⟨rfl,rfl⟩;rw[ht])
   go_ret
   exact ⟨rfl,rfl⟩
set_option maxRecDepth 100000 in
set_option maxHeartbeats 3200000 in
theorem c_iFF (f:Fct) (w:World) (h:TN w) (hv:f.valid=true):Calls Tryz.prog 28 #[f.val] w fun e w'=>e=.returned (sv (fmtF f))∧Below w.heap.size w w':=by
 have ha:=tnameL_len f.a
 have hb:=tnameL_len f.b
 obtain ⟨eq,a,b⟩:=f
 simp only at ha hb
 unfold Fct.val
 simp only
 cases eq
 ·skip
  have h1:=fun w:World=>addS (P:=Tryz.prog) (tnameL a) [33,61] (by simp;omega) w
  have h2:=fun w:World=>addS (P:=Tryz.prog) (tnameL a++[33,61]) (tnameL b) (by simp;omega) w
  go_enter Tryz.func28,Tryz.ntmps28
  go_upto_region 1 with fail
  refine bx1 (w:=w) (F:=Code.wp _ _ _ _) ?_
  rintro W0 k0 hB -
  (replace qk0:=k0.cell;replace rk0:=k0.frozen;replace lk0:=k0.lt)
  go_wp2_with fail
  refine (c_impl_FactValid ⟨false,a,b⟩ _).mono ?_
  rintro e W1 ⟨rfl,hq⟩
  rw[hv]
  replace k0:=k0.next hq
  replace hB:=bgo hB hq
  clear hq
  (replace qk0:=k0.cell;replace rk0:=k0.frozen;replace lk0:=k0.lt)
  have HT:=Lib.hid (h.below hB)
  go_wp2_with fail
  refine wp_region_noPanic ?_
  refine wp_region_held_drew (S:=(fun w'=>∀ i,w'.cell? ⟨w.heap.size,i,none⟩=#[.bool false,.int .i64 a,.int .i64 b][i]?)) (by kernel_rfl) (k0.drew.cell) (fun hHeld=>?_)
  have hdr:Below W1.heap.size W1 W1.drew:=(Below.refl _ _).drew
  replace HT:=Lib.hid (HT.out.below hdr)
  replace k0:=k0.next hdr
  replace hB:=bgo hB hdr
  clear hdr
  generalize W1.drew=V at *
  refine tk 0 ?_ rfl (fun w hSw=>?_) hHeld ?_
  rotate_left
  ·((try dsimp only at hSw);go_split_ands;go_simp;(try with_reducible rfl))
  try simp only[Act.put,zA,zB,zC,zD,zE,zF]
  refine tk 1 ?_ rfl (fun w hSw=>?_) hHeld ?_
  rotate_left
  ·((try dsimp only at hSw);go_split_ands;go_simp;(try with_reducible rfl))
  try simp only[Act.put,zA,zB,zC,zD,zE,zF]
  refine tk 4 ?_ rfl (fun w hSw=>?_) hHeld ?_
  rotate_left
  ·((try dsimp only at hSw);go_split_ands;go_simp;(try with_reducible rfl))
  try simp only[Act.put,zA,zB,zC,zD,zE,zF]
  refine tk 5 ?_ rfl (fun w hSw=>?_) hHeld ?_
  rotate_left
  ·((try dsimp only at hSw);go_split_ands;go_simp;(try with_reducible rfl))
  try simp only[Act.put,zA,zB,zC,zD,zE,zF]
  refine rdc 2 rfl fun K hK=>?_
  try simp only[zA,zB,zC]
  (go_simp;refine (c_iTN _ _ HT.out).mono ?_;rintro e w' ⟨rfl,rfl⟩)
  refine hK.out _ _ (k0.cell) ?_
  clear hHeld hK K
  intro hHeld
  try simp only[Act.put,zA,zB,zC,zD,zE,zF]
  refine tk 3 ?_ rfl (fun w hSw=>?_) hHeld ?_
  rotate_left
  ·((try dsimp only at hSw);go_split_ands;go_simp;(try with_reducible rfl))
  try simp only[Act.put,zA,zB,zC,zD,zE,zF]
  refine rdc 6 rfl fun K hK=>?_
  try simp only[zA,zB,zC]
  (go_simp;refine (c_iTN _ _ HT.out).mono ?_;rintro e w' ⟨rfl,rfl⟩)
  refine hK.out _ _ (k0.cell) ?_
  clear hHeld hK K
  intro hHeld
  try simp only[Act.put,zA,zB,zC,zD,zE,zF]
  refine tk 7 ?_ rfl (fun w hSw=>?_) hHeld ?_
  rotate_left
  ·((try dsimp only at hSw);go_split_ands;go_simp;(try with_reducible rfl))
  try simp only[Act.put,zA,zB,zC,zD,zE,zF]
  refine tk 8 ?_ rfl (fun w hSw=>?_) hHeld ?_
  rotate_left
  ·((try dsimp only at hSw);go_split_ands;go_simp;(try with_reducible rfl))
  try simp only[Act.put,zA,zB,zC,zD,zE,zF]
  refine wpAnyH_done (by kernel_rfl) ?_ _
  refine NoPanic.normal ?_
  go_wp2_with fail
  go_ret
  exact ⟨ret_str (by simp[fmtF]),hB⟩
 ·skip
  have h1:=fun w:World=>addS (P:=Tryz.prog) (tnameL a) [61] (by simp;omega) w
  have h2:=fun w:World=>addS (P:=Tryz.prog) (tnameL a++[61]) (tnameL b) (by simp;omega) w
  go_enter Tryz.func28,Tryz.ntmps28
  go_upto_region 1 with fail
  refine bx1 (w:=w) (F:=Code.wp _ _ _ _) ?_
  rintro W0 k0 hB -
  (replace qk0:=k0.cell;replace rk0:=k0.frozen;replace lk0:=k0.lt)
  go_wp2_with fail
  refine (c_impl_FactValid ⟨true,a,b⟩ _).mono ?_
  rintro e W1 ⟨rfl,hq⟩
  rw[hv]
  replace k0:=k0.next hq
  replace hB:=bgo hB hq
  clear hq
  (replace qk0:=k0.cell;replace rk0:=k0.frozen;replace lk0:=k0.lt)
  have HT:=Lib.hid (h.below hB)
  go_wp2_with fail
  refine wp_region_noPanic ?_
  refine wp_region_held_drew (S:=(fun w'=>∀ i,w'.cell? ⟨w.heap.size,i,none⟩=#[.bool true,.int .i64 a,.int .i64 b][i]?)) (by kernel_rfl) (k0.drew.cell) (fun hHeld=>?_)
  have hdr:Below W1.heap.size W1 W1.drew:=(Below.refl _ _).drew
  replace HT:=Lib.hid (HT.out.below hdr)
  replace k0:=k0.next hdr
  replace hB:=bgo hB hdr
  clear hdr
  generalize W1.drew=V at *
  refine tk 0 ?_ rfl (fun w hSw=>?_) hHeld ?_
  rotate_left
  ·((try dsimp only at hSw);go_split_ands;go_simp;(try with_reducible rfl))
  try simp only[Act.put,zA,zB,zC,zD,zE,zF]
  refine tk 1 ?_ rfl (fun w hSw=>?_) hHeld ?_
  rotate_left
  ·((try dsimp only at hSw);go_split_ands;go_simp;(try with_reducible rfl))
  try simp only[Act.put,zA,zB,zC,zD,zE,zF]
  refine tk 4 ?_ rfl (fun w hSw=>?_) hHeld ?_
  rotate_left
  ·((try dsimp only at hSw);go_split_ands;go_simp;(try with_reducible rfl))
  try simp only[Act.put,zA,zB,zC,zD,zE,zF]
  refine tk 5 ?_ rfl (fun w hSw=>?_) hHeld ?_
  rotate_left
  ·((try dsimp only at hSw);go_split_ands;go_simp;(try with_reducible rfl))
  try simp only[Act.put,zA,zB,zC,zD,zE,zF]
  refine rdc 2 rfl fun K hK=>?_
  try simp only[zA,zB,zC]
  (go_simp;refine (c_iTN _ _ HT.out).mono ?_;rintro e w' ⟨rfl,rfl⟩)
  refine hK.out _ _ (k0.cell) ?_
  clear hHeld hK K
  intro hHeld
  try simp only[Act.put,zA,zB,zC,zD,zE,zF]
  refine tk 3 ?_ rfl (fun w hSw=>?_) hHeld ?_
  rotate_left
  ·((try dsimp only at hSw);go_split_ands;go_simp;(try with_reducible rfl))
  try simp only[Act.put,zA,zB,zC,zD,zE,zF]
  refine rdc 6 rfl fun K hK=>?_
  try simp only[zA,zB,zC]
  (go_simp;refine (c_iTN _ _ HT.out).mono ?_;rintro e w' ⟨rfl,rfl⟩)
  refine hK.out _ _ (k0.cell) ?_
  clear hHeld hK K
  intro hHeld
  try simp only[Act.put,zA,zB,zC,zD,zE,zF]
  refine tk 7 ?_ rfl (fun w hSw=>?_) hHeld ?_
  rotate_left
  ·((try dsimp only at hSw);go_split_ands;go_simp;(try with_reducible rfl))
  try simp only[Act.put,zA,zB,zC,zD,zE,zF]
  refine tk 8 ?_ rfl (fun w hSw=>?_) hHeld ?_
  rotate_left
  ·((try dsimp only at hSw);go_split_ands;go_simp;(try with_reducible rfl))
  try simp only[Act.put,zA,zB,zC,zD,zE,zF]
  refine wpAnyH_done (by kernel_rfl) ?_ _
  refine NoPanic.normal ?_
  go_wp2_with fail
  go_ret
  exact ⟨ret_str (by simp[fmtF]),hB⟩
set_option maxRecDepth 100000 in
set_option maxHeartbeats 3200000 in
theorem c_iFA (k a b:Int) (w:World) (h:TN w):Calls Tryz.prog 53 #[.agg #[.int .i64 k,.int .i64 a,.int .i64 b]] w fun e w'=>e=.returned (sv (tnameL a++signX ⟨k,a,b⟩++tnameL b))∧Below w.heap.size w w':=by
 have ha:=tnameL_len a
 have hb:=tnameL_len b
 by_cases hk:k=2
 ·subst hk
  skip
  have h1:=fun w:World=>addS (P:=Tryz.prog) (tnameL a) [126] (by simp;omega) w
  have h2:=fun w:World=>addS (P:=Tryz.prog) (tnameL a++[126]) (tnameL b) (by simp;omega) w
  go_enter Tryz.func53,Tryz.ntmps53
  go_upto_region 1 with fail
  refine bx1 (w:=w) (F:=Code.wp _ _ _ _) ?_
  rintro W1 k0 hB -
  (replace qk0:=k0.cell;replace rk0:=k0.frozen;replace lk0:=k0.lt)
  have HT:=Lib.hid (h.below hB)
  go_wp2_with fail
  refine wp_region_noPanic ?_
  refine wp_region_held_drew (S:=(fun w'=>∀ i,w'.cell? ⟨w.heap.size,i,none⟩=#[.int .i64 2,.int .i64 a,.int .i64 b][i]?)) (by kernel_rfl) (k0.drew.cell) (fun hHeld=>?_)
  have hdr:Below W1.heap.size W1 W1.drew:=(Below.refl _ _).drew
  replace HT:=Lib.hid (HT.out.below hdr)
  replace k0:=k0.next hdr
  replace hB:=bgo hB hdr
  clear hdr
  generalize W1.drew=V at *
  refine tk 0 ?_ rfl (fun w hSw=>?_) hHeld ?_
  rotate_left
  ·((try dsimp only at hSw);go_split_ands;go_simp;(try with_reducible rfl))
  try simp only[Act.put,zA,zB,zC,zD,zE,zF]
  refine tk 1 ?_ rfl (fun w hSw=>?_) hHeld ?_
  rotate_left
  ·((try dsimp only at hSw);go_split_ands;go_simp;(try with_reducible rfl))
  try simp only[Act.put,zA,zB,zC,zD,zE,zF]
  refine tk 4 ?_ rfl (fun w hSw=>?_) hHeld ?_
  rotate_left
  ·((try dsimp only at hSw);go_split_ands;go_simp;(try with_reducible rfl))
  try simp only[Act.put,zA,zB,zC,zD,zE,zF]
  refine tk 5 ?_ rfl (fun w hSw=>?_) hHeld ?_
  rotate_left
  ·((try dsimp only at hSw);go_split_ands;go_simp;(try with_reducible rfl))
  try simp only[Act.put,zA,zB,zC,zD,zE,zF]
  refine rdc 2 rfl fun K hK=>?_
  try simp only[zA,zB,zC]
  (go_simp;refine (c_iTN _ _ HT.out).mono ?_;rintro e w' ⟨rfl,rfl⟩)
  refine hK.out _ _ (k0.cell) ?_
  clear hHeld hK K
  intro hHeld
  try simp only[Act.put,zA,zB,zC,zD,zE,zF]
  refine tk 3 ?_ rfl (fun w hSw=>?_) hHeld ?_
  rotate_left
  ·((try dsimp only at hSw);go_split_ands;go_simp;(try with_reducible rfl))
  try simp only[Act.put,zA,zB,zC,zD,zE,zF]
  refine rdc 6 rfl fun K hK=>?_
  try simp only[zA,zB,zC]
  (go_simp;refine (c_iTN _ _ HT.out).mono ?_;rintro e w' ⟨rfl,rfl⟩)
  refine hK.out _ _ (k0.cell) ?_
  clear hHeld hK K
  intro hHeld
  try simp only[Act.put,zA,zB,zC,zD,zE,zF]
  refine tk 7 ?_ rfl (fun w hSw=>?_) hHeld ?_
  rotate_left
  ·((try dsimp only at hSw);go_split_ands;go_simp;(try with_reducible rfl))
  try simp only[Act.put,zA,zB,zC,zD,zE,zF]
  refine tk 8 ?_ rfl (fun w hSw=>?_) hHeld ?_
  rotate_left
  ·((try dsimp only at hSw);go_split_ands;go_simp;(try with_reducible rfl))
  try simp only[Act.put,zA,zB,zC,zD,zE,zF]
  refine wpAnyH_done (by kernel_rfl) ?_ _
  refine NoPanic.normal ?_
  go_wp2_with fail
  go_ret
  exact ⟨ret_str (by simp[signX]),hB⟩
 ·skip
  have h1:=fun w:World=>addS (P:=Tryz.prog) (tnameL a) [62] (by simp;omega) w
  have h2:=fun w:World=>addS (P:=Tryz.prog) (tnameL a++[62]) (tnameL b) (by simp;omega) w
  go_enter Tryz.func53,Tryz.ntmps53
  go_upto_region 1 with fail
  refine bx1 (w:=w) (F:=Code.wp _ _ _ _) ?_
  rintro W1 k0 hB -
  (replace qk0:=k0.cell;replace rk0:=k0.frozen;replace lk0:=k0.lt)
  have hk2:(k == 2)=false:=by simpa using hk
  have HT:=Lib.hid (h.below hB)
  go_wp2_with fail
  refine wp_region_noPanic ?_
  refine wp_region_held_drew (S:=(fun w'=>∀ i,w'.cell? ⟨w.heap.size,i,none⟩=#[.int .i64 k,.int .i64 a,.int .i64 b][i]?)) (by kernel_rfl) (k0.drew.cell) (fun hHeld=>?_)
  have hdr:Below W1.heap.size W1 W1.drew:=(Below.refl _ _).drew
  replace HT:=Lib.hid (HT.out.below hdr)
  replace k0:=k0.next hdr
  replace hB:=bgo hB hdr
  clear hdr
  generalize W1.drew=V at *
  refine tk 0 ?_ rfl (fun w hSw=>?_) hHeld ?_
  rotate_left
  ·((try dsimp only at hSw);go_split_ands;go_simp;(try with_reducible rfl))
  try simp only[Act.put,zA,zB,zC,zD,zE,zF]
  refine tk 1 ?_ rfl (fun w hSw=>?_) hHeld ?_
  rotate_left
  ·((try dsimp only at hSw);go_split_ands;go_simp;(try with_reducible rfl))
  try simp only[Act.put,zA,zB,zC,zD,zE,zF]
  refine tk 4 ?_ rfl (fun w hSw=>?_) hHeld ?_
  rotate_left
  ·((try dsimp only at hSw);go_split_ands;go_simp;(try with_reducible rfl))
  try simp only[Act.put,zA,zB,zC,zD,zE,zF]
  refine tk 5 ?_ rfl (fun w hSw=>?_) hHeld ?_
  rotate_left
  ·((try dsimp only at hSw);go_split_ands;go_simp;(try with_reducible rfl))
  try simp only[Act.put,zA,zB,zC,zD,zE,zF]
  refine rdc 2 rfl fun K hK=>?_
  try simp only[zA,zB,zC]
  (go_simp;refine (c_iTN _ _ HT.out).mono ?_;rintro e w' ⟨rfl,rfl⟩)
  refine hK.out _ _ (k0.cell) ?_
  clear hHeld hK K
  intro hHeld
  try simp only[Act.put,zA,zB,zC,zD,zE,zF]
  refine tk 3 ?_ rfl (fun w hSw=>?_) hHeld ?_
  rotate_left
  ·((try dsimp only at hSw);go_split_ands;go_simp;(try with_reducible rfl))
  try simp only[Act.put,zA,zB,zC,zD,zE,zF]
  refine rdc 6 rfl fun K hK=>?_
  try simp only[zA,zB,zC]
  (go_simp;refine (c_iTN _ _ HT.out).mono ?_;rintro e w' ⟨rfl,rfl⟩)
  refine hK.out _ _ (k0.cell) ?_
  clear hHeld hK K
  intro hHeld
  try simp only[Act.put,zA,zB,zC,zD,zE,zF]
  refine tk 7 ?_ rfl (fun w hSw=>?_) hHeld ?_
  rotate_left
  ·((try dsimp only at hSw);go_split_ands;go_simp;(try with_reducible rfl))
  try simp only[Act.put,zA,zB,zC,zD,zE,zF]
  refine tk 8 ?_ rfl (fun w hSw=>?_) hHeld ?_
  rotate_left
  ·((try dsimp only at hSw);go_split_ands;go_simp;(try with_reducible rfl))
  try simp only[Act.put,zA,zB,zC,zD,zE,zF]
  refine wpAnyH_done (by kernel_rfl) ?_ _
  refine NoPanic.normal ?_
  go_wp2_with fail
  go_ret
  exact ⟨ret_str (by simp[signX,hk]),hB⟩
end Go.Proofs.YtjbboklnegfohaaGreatDoor

/- The texts of assertions and contracts, as joined lists. Plain. -/
namespace Go.Proofs.YtjbboklnegfohaaGreatDoor
open Go Go.RowKit Go.Proofs
def fmtX (x:Atm):Bs:=tnameL x.a++signX x++tnameL x.b
theorem join_snoc {sep:Bs}:∀ {xs:List Bs} (x:Bs),xs≠[]→Lib.join (xs++[x]) sep=Lib.join xs sep++sep++x
 | [],_,h=>absurd rfl h
 | y :: r,x,_=>by
  rw[List.cons_append,Lib.join_cons,Lib.join_cons]
  simp[Lib.joinTail]
theorem map_snoc {α:Type} [Inhabited α] (f:α→Bs) {xs:List α} {k:Nat} (hk:k<xs.length):(xs.take (k+1)).map f=(xs.take k).map f++[f xs[k]]:=by
 rw[List.take_add_one,List.getElem?_eq_getElem hk,List.map_append];rfl
theorem outF_join {fs:List Fct}:∀ k,k<fs.length→outF fs (k+1)=Lib.join ((fs.take (k+1)).map fmtF) [32,38,32]
 | 0,h=>by
  rw[map_snoc fmtF h]
  simp[outF,Lib.join_one,List.getD_eq_getElem?_getD,List.getElem?_eq_getElem h]
 | k+1,h=>by
  have ih:=outF_join (fs:=fs) k (by omega)
  rw[map_snoc fmtF h,join_snoc _ (by rw[map_snoc fmtF (k:=k) (Nat.lt_of_succ_lt h)];simp),←ih,outF,if_pos (by omega)]
  simp[List.getD_eq_getElem?_getD,List.getElem?_eq_getElem h]
theorem outX_join {o:Bs} {xs:List Atm}:∀ k,k<xs.length→outSX o xs (k+1)=o++[32,124,32]++Lib.join ((xs.take (k+1)).map fmtX) [32,42,32]
 | 0,h=>by
  rw[map_snoc fmtX h]
  simp[outSX,Lib.join_one,List.getD_eq_getElem?_getD,List.getElem?_eq_getElem h,fmtX]
 | k+1,h=>by
  have ih:=outX_join (o:=o) (xs:=xs) k (by omega)
  rw[map_snoc fmtX h,join_snoc _ (by rw[map_snoc fmtX (k:=k) (Nat.lt_of_succ_lt h)];simp),outSX,if_neg (by omega),ih]
  simp[List.getD_eq_getElem?_getD,List.getElem?_eq_getElem h,fmtX,List.append_assoc]
theorem factsT_join {fs:List Fct} (h:0<fs.length):factsT fs=Lib.join (fs.map fmtF) [32,38,32]:=by
 unfold factsT
 rw[if_neg (by omega)]
 have:=outF_join (fs:=fs) (fs.length - 1) (by omega)
 rw[show fs.length - 1+1=fs.length by omega,List.take_length] at this
 exact this
def atomsT (xs:List Atm):Bs:=if xs.length=0 then [101,109,112] else Lib.join (xs.map fmtX) [32,42,32]
theorem textA_join (a:Asn):textA a=factsT a.facts++[32,124,32]++atomsT a.atoms:=by
 unfold textA atomsT
 by_cases h:a.atoms.length=0
 ·rw[if_pos h,if_pos h];simp
 ·rw[if_neg h,if_neg h]
  have:=outX_join (o:=factsT a.facts) (xs:=a.atoms) (a.atoms.length - 1) (by omega)
  rw[show a.atoms.length - 1+1=a.atoms.length by omega,List.take_length] at this
  exact this
theorem atomsT_len {xs:List Atm} (h:xs.length≤6):(atomsT xs).length≤200:=by
 have h1:=textA_join ⟨[],xs⟩
 have h2:=outX_len (factsT []) xs xs.length
 have h3:(textA ⟨[],xs⟩).length≤100:=by
  unfold textA
  split
  ·simp[factsT]
  ·have:(factsT []).length=4:=by simp[factsT]
   simp only;omega
 rw[h1] at h3
 simp only[List.length_append] at h3
 omega
end Go.Proofs.YtjbboklnegfohaaGreatDoor
