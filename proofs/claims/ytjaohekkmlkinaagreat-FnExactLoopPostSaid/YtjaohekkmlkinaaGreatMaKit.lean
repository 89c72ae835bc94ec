/- append of a whole list; joined lists. -/
import Derived.Test.YtjaohekkmlkinaaGreatMaVal
import Derived.Deep.RegionHeld3
import Derived.Maps.AppendAt
import Derived.Laws.BitsAllLaws
import Derived.Laws.BitsLemmas
import Derived.Deep.DrawnRows
set_option linter.unusedSimpArgs false
set_option linter.unusedVariables false
set_option maxRecDepth 100000
set_option maxHeartbeats 25600000
namespace Go.Proofs.YtjaohekkmlkinaaGreat
section
open Go Go.RowKit Go.Proofs
section
variable {P:Program} {w:World} {base:Nat} {e:TypeId} {size:Nat}
theorem run_append_none (t ty:TypeId) (i:TypeInfo) (ht:P.underlying t=some (.slice e)) (hi:P.info? e=some i)
  (v:Value) (n c:Nat) (xs:List Value) (hown:w.ownsRow base e size v n xs) :
  (Builtin.append_ #[t,t] ty #[v,.slice none 0 c]).run P w=.ok v w:=by
 rcases hown.2 with ⟨rfl,rfl⟩|⟨g,cap,cur,rfl,_,_,hnc,_⟩
 ·simp[Builtin.append_,run_underlying ht,sizeOf,typeInfo,hi,Builtin.lenOf,Builtin.firstCells]
 ·simp[Builtin.append_,run_underlying ht,sizeOf,typeInfo,hi,Builtin.lenOf,Builtin.firstCells,hnc,storeCells]
end
theorem wpList_appL {P:Program} {ops:Array Oper} {rest:List Oper} {o:Oper} {a:Act} {Q:Exit→Act→World→Prop} {w:World} (hgd:o.guard=none) (s x:Operand) (t:TypeId)
  (ho:o.op=.call { callee:=.builtin .append,args:=#[s,x],argTypes:=#[t,t] })
  {base:Nat} {e:TypeId} {z:Value} {size bytes:Nat} (ht:P.underlying t=some (.slice e)) (hinfo:(P.info? e).map (fun i=>(i.zero,i.size,i.bytes))=some (some z,size,bytes)) (hzs:z.cells.size=size) (hsz:0<size) (hby:bytes≤200)
  {v:Value} {n:Nat} {xs:List Value} (hs:a.eval s=v) (hown:w.ownsRow base e size v n xs)
  {A:Option Addr} {m c lo hi:Nat} {news:List Value} (hx:a.eval x=.slice A m c) (hR:Rw w lo hi size A m news) (h1:∀ u∈news,u.oneCell'=true)
  (hn:n+m≤1049600) (hb:base≤w.heap.size)
  (h:∀ v' w',w'.ownsRow base e size v' (n+m) (xs++news)→w.grownBy w' v.ownBlock→Below base w w'→wpList P ops Q rest (a.put o.dst v') w'):wpList P ops Q (o :: rest) a w:=by
 obtain ⟨i,hi',hz,hsize,hbytes⟩:=info_parts hinfo
 have key:∀ (ad:Addr),A=some ad→(∀ j u,news[j]? = some u→w.cell? (ad.add j)=some u)→wpList P ops Q (o :: rest) a w:=by
  rintro ad rfl hnews;refine wpList_append_own w hgd s x t ho base e i z size bytes ht hi' hz hsize hbytes hzs hsz v n xs hs hown ad m c news hx hR.1 hnews h1 (by unfold maxLen;omega) (Nat.le_trans (Nat.mul_le_mul hn hby) (by omega)) hb ?_;intro v' w' ho' hg' _;exact h v' w' ho' hg' (own_row_below hown hg' hb)
 by_cases hm:m=0
 ·subst hm;have hnil:news=[]:=List.eq_nil_of_length_eq_zero (by simpa using hR.1);subst hnil
  cases A with
  | some ad=>exact key ad rfl (by simp)
  | none=>
   refine wpList_plain hgd fun K hK=>?_;have hrun:=run_append_none (P:=P) t o.type i ht hi' v n c xs hown;unfold Oper.wp;simp[execOp,ho,resolve,invoke,builtin,hs,hx,hrun,Result.andThen];exact hK _ _ (h v w (by simpa using hown) (World.grownBy.refl _ _) (Below.refl _ _))
 ·have h0:0<m * size:=Nat.mul_pos (by omega) hsz;obtain ⟨b,off,rfl,_,_,hc⟩:=hR.2 h0;exact key _ rfl fun j u hu=>by rw[show (⟨b,off,none⟩:Addr).add j=⟨b,off+j,none⟩ from by unfold Addr.add;split<;>simp_all];exact hc j u hu
theorem wp_appL {P:Program} {o:Oper} {a:Act} {K:Act→World→Prop} {Q:Exit→Act→World→Prop} {w:World} (s x:Operand) (t:TypeId)
  (ho:o.op=.call { callee:=.builtin .append,args:=#[s,x],argTypes:=#[t,t] })
  {base:Nat} {e:TypeId} {z:Value} {size bytes:Nat} (ht:P.underlying t=some (.slice e)) (hinfo:(P.info? e).map (fun i=>(i.zero,i.size,i.bytes))=some (some z,size,bytes)) (hzs:z.cells.size=size) (hsz:0<size) (hby:bytes≤200)
  {v:Value} {n:Nat} {xs:List Value} (hs:a.eval s=v) (hown:w.ownsRow base e size v n xs)
  {A:Option Addr} {m c lo hi:Nat} {news:List Value} (hx:a.eval x=.slice A m c) (hR:Rw w lo hi size A m news) (h1:∀ u∈news,u.oneCell'=true)
  (hn:n+m≤1049600) (hb:base≤w.heap.size)
  (h:∀ v' w',w'.ownsRow base e size v' (n+m) (xs++news)→w.grownBy w' v.ownBlock→Below base w w'→K (a.put o.dst v') w'):Oper.wp P o a w K Q:=by
 obtain ⟨i,hi',hz,hsize,hbytes⟩:=info_parts hinfo
 have key:∀ (ad:Addr),A=some ad→(∀ j u,news[j]? = some u→w.cell? (ad.add j)=some u)→Oper.wp P o a w K Q:=by
  rintro ad rfl hnews;obtain ⟨v',w',hr,h2,h3,h4,h5⟩:=run_append_own_at (P:=P) w base t o.type e i z size bytes ht hi' hz hsize hbytes hzs hsz v n xs hown ad m c news hR.1 hnews h1 (by unfold maxLen;omega) (Nat.le_trans (Nat.mul_le_mul hn hby) (by omega)) hb;unfold Oper.wp execOp;simp only[ho,resolve,invoke,builtin,Sem.run_bind,Sem.run_pure,Result.andThen_ok,List.map_toArray,List.map_cons,List.map_nil,hs,hx,hr];exact h v' w' h2 h3 (own_row_below hown h3 hb)
 by_cases hm:m=0
 ·subst hm;have hnil:news=[]:=List.eq_nil_of_length_eq_zero (by simpa using hR.1);subst hnil
  cases A with
  | some ad=>exact key ad rfl (by simp)
  | none=>
   have hrun:=run_append_none (P:=P) t o.type i ht hi' v n c xs hown;unfold Oper.wp execOp;simp only[ho,resolve,invoke,builtin,Sem.run_bind,Sem.run_pure,Result.andThen_ok,List.map_toArray,List.map_cons,List.map_nil,hs,hx,hrun];exact h v w (by simpa using hown) (World.grownBy.refl _ _) (Below.refl _ _)
 ·have h0:0<m * size:=Nat.mul_pos (by omega) hsz;obtain ⟨b,off,rfl,_,_,hc⟩:=hR.2 h0;exact key _ rfl fun j u hu=>by rw[show (⟨b,off,none⟩:Addr).add j=⟨b,off+j,none⟩ from by unfold Addr.add;split<;>simp_all];exact hc j u hu
theorem encF_one (fs:List Fct):∀ u∈encF fs,u.oneCell'=true:=by
 intro u hu;simp only[encF,List.mem_flatMap] at hu;obtain ⟨f,_,hf⟩:=hu;simp at hf;rcases hf with rfl|rfl|rfl<;>simp[Value.oneCell']
theorem encA_one (fs:List Atm):∀ u∈encA fs,u.oneCell'=true:=by
 intro u hu;simp only[encA,List.mem_flatMap] at hu;obtain ⟨f,_,hf⟩:=hu;simp at hf;rcases hf with rfl|rfl|rfl<;>simp[Value.oneCell']
theorem encI_one (fs:List Int):∀ u∈encI fs,u.oneCell'=true:=by
 intro u hu;simp only[encI,List.mem_map] at hu;obtain ⟨f,_,rfl⟩:=hu;simp[Value.oneCell']
section
variable {ops:Array Oper} {rest:List Oper} {o:Oper} {a:Act} {Q:Exit→Act→World→Prop} {w:World} {base lo hi c:Nat} {v:Value} {A:Option Addr}
theorem appFL (hgd:o.guard=none) (s x:Operand) (ho:o.op=.call { callee:=.builtin .append,args:=#[s,x],argTypes:=#[34,34] })
  {xs ys:List Fct} (hs:a.eval s=v) (hown:FactsO w base v xs) (hx:a.eval x=.slice A ys.length c) (hR:FactsV w lo hi A ys) (hn:xs.length+ys.length≤1049600) (hb:base≤w.heap.size)
  (h:∀ A' c' w',FactsO w' base (.slice A' (xs++ys).length c') (xs++ys)→w.grownBy w' v.ownBlock→Below base w w'→wpList Tryz.prog ops Q rest (a.put o.dst (.slice A' (xs++ys).length c')) w'):wpList Tryz.prog ops Q (o :: rest) a w:=by
 refine wpList_appL hgd s x 34 ho Tryz.underlying34 infoF rfl (by decide) (by decide) hs hown.1 hx hR.raw (encF_one _) hn hb ?_;intro v' w' h1 h2 h3;have hO:FactsO w' base v' (xs++ys):=⟨by rw[List.length_append,show encF (xs++ys)=encF xs++encF ys from List.flatMap_append];exact h1,by simp[Lim];omega⟩;obtain ⟨A',c',rfl,-⟩:=hO.rj;exact h A' c' w' hO h2 h3
theorem appAL (hgd:o.guard=none) (s x:Operand) (ho:o.op=.call { callee:=.builtin .append,args:=#[s,x],argTypes:=#[35,35] })
  {xs ys:List Atm} (hs:a.eval s=v) (hown:AtomsO w base v xs) (hx:a.eval x=.slice A ys.length c) (hR:AtomsV w lo hi A ys) (hn:xs.length+ys.length≤1049600) (hb:base≤w.heap.size)
  (h:∀ A' c' w',AtomsO w' base (.slice A' (xs++ys).length c') (xs++ys)→w.grownBy w' v.ownBlock→Below base w w'→wpList Tryz.prog ops Q rest (a.put o.dst (.slice A' (xs++ys).length c')) w'):wpList Tryz.prog ops Q (o :: rest) a w:=by
 refine wpList_appL hgd s x 35 ho Tryz.underlying35 infoA rfl (by decide) (by decide) hs hown.1 hx hR.raw (encA_one _) hn hb ?_;intro v' w' h1 h2 h3;have hO:AtomsO w' base v' (xs++ys):=⟨by rw[List.length_append,show encA (xs++ys)=encA xs++encA ys from List.flatMap_append];exact h1,by simp[Lim];omega⟩;obtain ⟨A',c',rfl,-⟩:=hO.rj;exact h A' c' w' hO h2 h3
theorem appIL (hgd:o.guard=none) (s x:Operand) (ho:o.op=.call { callee:=.builtin .append,args:=#[s,x],argTypes:=#[31,31] })
  {xs ys:List Int} (hs:a.eval s=v) (hown:IntsO w base v xs) (hx:a.eval x=.slice A ys.length c) (hR:IntsV w lo hi A ys) (hn:xs.length+ys.length≤1049600) (hb:base≤w.heap.size)
  (h:∀ A' c' w',IntsO w' base (.slice A' (xs++ys).length c') (xs++ys)→w.grownBy w' v.ownBlock→Below base w w'→wpList Tryz.prog ops Q rest (a.put o.dst (.slice A' (xs++ys).length c')) w'):wpList Tryz.prog ops Q (o :: rest) a w:=by
 refine wpList_appL hgd s x 31 ho Tryz.underlying31 infoI rfl (by decide) (by decide) hs hown.1 hx hR.raw (encI_one _) hn hb ?_;intro v' w' h1 h2 h3;have hO:IntsO w' base v' (xs++ys):=⟨by rw[List.length_append,show encI (xs++ys)=encI xs++encI ys from List.map_append];exact h1,by simp[Lim];omega⟩;obtain ⟨A',c',rfl,-⟩:=hO.rj;exact h A' c' w' hO h2 h3
end
section
variable {ops:Array Oper} {o:Oper} {a:Act} {K:Act→World→Prop} {Q:Exit→Act→World→Prop} {E:Prop} {w:World} {base lo hi c:Nat} {v:Value} {A:Option Addr}
theorem stepFL (hgd:o.guard=none) (s x:Operand) (ho:o.op=.call { callee:=.builtin .append,args:=#[s,x],argTypes:=#[34,34] })
  {xs ys:List Fct} (hs:a.eval s=v) (hown:FactsO w base v xs) (hx:a.eval x=.slice A ys.length c) (hR:FactsV w lo hi A ys) (hn:xs.length+ys.length≤1049600) (hb:base≤w.heap.size)
  (h:∀ A' c' w',FactsO w' base (.slice A' (xs++ys).length c') (xs++ys)→w.grownBy w' v.ownBlock→Below base w w'→K (a.put o.dst (.slice A' (xs++ys).length c')) w'):if Region.wanted o (yielded ops a.tmps)=true then Oper.wp Tryz.prog o a w K Q else E:=by
 have hw:Region.wanted o (yielded ops a.tmps)=true:=by simp[Region.wanted,hgd]
 rw[if_pos hw];refine wp_appL s x 34 ho Tryz.underlying34 infoF rfl (by decide) (by decide) hs hown.1 hx hR.raw (encF_one _) hn hb ?_;intro v' w' h1 h2 h3;have hO:FactsO w' base v' (xs++ys):=⟨by rw[List.length_append,show encF (xs++ys)=encF xs++encF ys from List.flatMap_append];exact h1,by simp[Lim];omega⟩;obtain ⟨A',c',rfl,-⟩:=hO.rj;exact h A' c' w' hO h2 h3
theorem stepAL (hgd:o.guard=none) (s x:Operand) (ho:o.op=.call { callee:=.builtin .append,args:=#[s,x],argTypes:=#[35,35] })
  {xs ys:List Atm} (hs:a.eval s=v) (hown:AtomsO w base v xs) (hx:a.eval x=.slice A ys.length c) (hR:AtomsV w lo hi A ys) (hn:xs.length+ys.length≤1049600) (hb:base≤w.heap.size)
  (h:∀ A' c' w',AtomsO w' base (.slice A' (xs++ys).length c') (xs++ys)→w.grownBy w' v.ownBlock→Below base w w'→K (a.put o.dst (.slice A' (xs++ys).length c')) w'):if Region.wanted o (yielded ops a.tmps)=true then Oper.wp Tryz.prog o a w K Q else E:=by
 have hw:Region.wanted o (yielded ops a.tmps)=true:=by simp[Region.wanted,hgd]
 rw[if_pos hw];refine wp_appL s x 35 ho Tryz.underlying35 infoA rfl (by decide) (by decide) hs hown.1 hx hR.raw (encA_one _) hn hb ?_;intro v' w' h1 h2 h3;have hO:AtomsO w' base v' (xs++ys):=⟨by rw[List.length_append,show encA (xs++ys)=encA xs++encA ys from List.flatMap_append];exact h1,by simp[Lim];omega⟩;obtain ⟨A',c',rfl,-⟩:=hO.rj;exact h A' c' w' hO h2 h3
end
theorem mkF0 (n:Nat) (h:Lim n) (w:World):(Instr.makeSlice 34 (.int .i64 0) (.int .i64 (n:Int))).run Tryz.prog w=.ok (.slice (some ⟨w.heap.size,0,none⟩) 0 n) (w.alloc (.cells (madeCells #[.bool false,.int .i64 0,.int .i64 0] (n * 3)) tF)):=by
 obtain ⟨i,hi,hz,hs,hb⟩:=info_parts infoF;have:=run_make_rowN (P:=Tryz.prog) 34 tF i _ Tryz.underlying34 hi hz .i64 .i64 0 n (Nat.zero_le _) (by rw[hb];unfold Lim at h;omega) (by unfold Lim at h;omega) w
 rwa [hs] at this
theorem mkA0 (n:Nat) (h:Lim n) (w:World):(Instr.makeSlice 35 (.int .i64 0) (.int .i64 (n:Int))).run Tryz.prog w=.ok (.slice (some ⟨w.heap.size,0,none⟩) 0 n) (w.alloc (.cells (madeCells #[.int .i64 0,.int .i64 0,.int .i64 0] (n * 3)) tA)):=by
 obtain ⟨i,hi,hz,hs,hb⟩:=info_parts infoA;have:=run_make_rowN (P:=Tryz.prog) 35 tA i _ Tryz.underlying35 hi hz .i64 .i64 0 n (Nat.zero_le _) (by rw[hb];unfold Lim at h;omega) (by unfold Lim at h;omega) w
 rwa [hs] at this
theorem FactsO.made (w:World) (n:Nat) (h:n≤1049600):FactsO (w.alloc (.cells (madeCells #[.bool false,.int .i64 0,.int .i64 0] (n * 3)) tF)) w.heap.size (.slice (some ⟨w.heap.size,0,none⟩) 0 n) []:=
 ⟨World.ownsRow_made w _ n (Nat.le_refl _) (by unfold maxLen;omega) (by rw[size_madeCells]),by simp[Lim]⟩
theorem AtomsO.made (w:World) (n:Nat) (h:n≤1049600):AtomsO (w.alloc (.cells (madeCells #[.int .i64 0,.int .i64 0,.int .i64 0] (n * 3)) tA)) w.heap.size (.slice (some ⟨w.heap.size,0,none⟩) 0 n) []:=
 ⟨World.ownsRow_made w _ n (Nat.le_refl _) (by unfold maxLen;omega) (by rw[size_madeCells]),by simp[Lim]⟩
theorem FactsO.empty (w:World):FactsO (w.alloc (.cells #[] tF)) w.heap.size (.slice (some ⟨w.heap.size,0,none⟩) 0 0) []:=⟨own_empty w _ _,by simp[Lim]⟩
theorem AtomsO.empty (w:World):AtomsO (w.alloc (.cells #[] tA)) w.heap.size (.slice (some ⟨w.heap.size,0,none⟩) 0 0) []:=⟨own_empty w _ _,by simp[Lim]⟩
theorem FactsO.nil (w:World) (base:Nat):FactsO w base (.slice none 0 0) []:=⟨World.ownsRow_nil _ _ _ _,by simp[Lim]⟩
theorem AtomsO.nil (w:World) (base:Nat):AtomsO w base (.slice none 0 0) []:=⟨World.ownsRow_nil _ _ _ _,by simp[Lim]⟩
theorem c_joinF {lo hi lo' hi':Nat} (A A':Option Addr) (c c':Nat) (fs gs:List Fct) (w:World) (h:FactsV w lo hi A fs) (h':FactsV w lo' hi' A' gs) (hn:fs.length+gs.length≤1049600) :
  Calls Tryz.prog 111 #[.slice A fs.length c,.slice A' gs.length c'] w fun e w'=>∃ r,e=.returned r∧FactsO w' w.heap.size r (fs++gs)∧Below w.heap.size w w':=by
 have hmk:=mkF0 (fs.length+gs.length) hn;simp only[Int.natCast_add] at hmk;have hO0:=ax (FactsO.made w (fs.length+gs.length) hn);(go_enter Tryz.func111,Tryz.ntmps111)
 go_wp2_with (first
  | (at_builtin;refine appFL rfl _ _ rfl rfl hO0.o rfl (h.bz bel) (by simp;omega) (by simp) ?_;intro A1 d1 w1 hO1 hg1 hB1;have hB:Below w.heap.size w w1:=Below.trans bel hB1)
  | (at_builtin;refine appFL rfl _ _ rfl rfl hO1 rfl (h'.bz hB) (by simp;omega) hB.size ?_;intro A2 d2 w2 hO2 hg2 hB2))
 go_ret;exact ⟨_,rfl,by simpa using hO2,hB.trans hB2⟩
theorem c_joinA {lo hi lo' hi':Nat} (A A':Option Addr) (c c':Nat) (fs gs:List Atm) (w:World) (h:AtomsV w lo hi A fs) (h':AtomsV w lo' hi' A' gs) (hn:fs.length+gs.length≤1049600) :
  Calls Tryz.prog 112 #[.slice A fs.length c,.slice A' gs.length c'] w fun e w'=>∃ r,e=.returned r∧AtomsO w' w.heap.size r (fs++gs)∧Below w.heap.size w w':=by
 have hmk:=mkA0 (fs.length+gs.length) hn;simp only[Int.natCast_add] at hmk;have hO0:=ax (AtomsO.made w (fs.length+gs.length) hn);(go_enter Tryz.func112,Tryz.ntmps112)
 go_wp2_with (first
  | (at_builtin;refine appAL rfl _ _ rfl rfl hO0.o rfl (h.bz bel) (by simp;omega) (by simp) ?_;intro A1 d1 w1 hO1 hg1 hB1;have hB:Below w.heap.size w w1:=Below.trans bel hB1)
  | (at_builtin;refine appAL rfl _ _ rfl rfl hO1 rfl (h'.bz hB) (by simp;omega) hB.size ?_;intro A2 d2 w2 hO2 hg2 hB2))
 go_ret;exact ⟨_,rfl,by simpa using hO2,hB.trans hB2⟩
def starA (a b:Asn):Asn:=⟨a.facts++b.facts,a.atoms++b.atoms⟩
def starF (a b:Asn):Option Asn:=if a.valid&&b.valid&&(starA a b).valid then some (starA a b) else none
theorem zjC {a:Asn} (h:a.valid=true):a.facts.length≤12∧a.atoms.length≤6:=by
 simp only[Asn.valid,factsValid,Bool.and_eq_true,decide_eq_true_eq] at h;exact ⟨h.1.1,h.2.1⟩
theorem AsnO.zero (w:World) (base:Nat):AsnO w base (.agg #[.slice none 0 0,.slice none 0 0]) ⟨[],[]⟩:=⟨_,_,rfl,FactsO.nil _ _,AtomsO.nil _ _⟩
theorem blk2 (w:World) (t1 t2:TypeId) (a b:Array Value):Blk ((w.alloc (.cells a t1)).alloc (.cells b t2)) w.heap.size t1 a∧Blk ((w.alloc (.cells a t1)).alloc (.cells b t2)) (w.heap.size+1) t2 b:=
 ⟨(Blk.new w _ _).alloc _,by have:=Blk.new (w.alloc (.cells a t1)) t2 b;simpa using this⟩
theorem blk3 (w:World) (t1 t2 t3:TypeId) (a b c:Array Value):Blk (((w.alloc (.cells a t1)).alloc (.cells b t2)).alloc (.cells c t3)) w.heap.size t1 a∧Blk (((w.alloc (.cells a t1)).alloc (.cells b t2)).alloc (.cells c t3)) (w.heap.size+1) t2 b∧Blk (((w.alloc (.cells a t1)).alloc (.cells b t2)).alloc (.cells c t3)) (w.heap.size+1+1) t3 c:=
 ⟨(blk2 w t1 t2 a b).1.alloc _,(blk2 w t1 t2 a b).2.alloc _,by have:=Blk.new ((w.alloc (.cells a t1)).alloc (.cells b t2)) t3 c;simpa using this⟩
theorem own_setT {w:World} {base:Nat} {e:TypeId} {size:Nat} {v:Value} {n:Nat} {xs:List Value} (h:w.ownsRow base e size v n xs) {g:Nat} {t:TypeId} {cs:Array Value} (hk:Blk w g t cs) (ht:t≠e) (i:Nat) (u:Value):(w.setCell ⟨g,i,none⟩ u).ownsRow base e size v n xs:=by
 obtain ⟨h1,h2⟩:=h;refine ⟨h1,?_⟩;rcases h2 with h2|⟨k,cap,cur,hv,hg,hh,r⟩
 ·exact Or.inl h2
 ·exact Or.inr ⟨k,cap,cur,hv,hg,Blk.far (g:=k) hh (fun e=>Blk.ne_ hk hh ht e.symm) u,r⟩
theorem FactsO.setT {w:World} {base:Nat} {v:Value} {xs:List Fct} (h:FactsO w base v xs) {g:Nat} {t:TypeId} {cs:Array Value} (hk:Blk w g t cs) (ht:t≠tF) (i:Nat) (u:Value):FactsO (w.setCell ⟨g,i,none⟩ u) base v xs:=⟨own_setT h.1 hk ht i u,h.2⟩
theorem AtomsO.setT {w:World} {base:Nat} {v:Value} {xs:List Atm} (h:AtomsO w base v xs) {g:Nat} {t:TypeId} {cs:Array Value} (hk:Blk w g t cs) (ht:t≠tA) (i:Nat) (u:Value):AtomsO (w.setCell ⟨g,i,none⟩ u) base v xs:=⟨own_setT h.1 hk ht i u,h.2⟩
theorem IntsO.setT {w:World} {base:Nat} {v:Value} {xs:List Int} (h:IntsO w base v xs) {g:Nat} {t:TypeId} {cs:Array Value} (hk:Blk w g t cs) (ht:t≠tI) (i:Nat) (u:Value):IntsO (w.setCell ⟨g,i,none⟩ u) base v xs:=⟨own_setT h.1 hk ht i u,h.2⟩
theorem c_impl_Star {lo hi lo' hi':Nat} (v v':Value) (a b:Asn) (w:World) (h:AsnV w lo hi v a) (h':AsnV w lo' hi' v' b) :
  Calls Tryz.prog 41 #[v,v'] w fun e w'=>∃ r,e=.returned (.tuple #[r,.bool (starF a b).isSome])∧AsnO w' w.heap.size r ((starF a b).getD ⟨[],[]⟩)∧Below w.heap.size w w':=by
 have hV:=ax h;have hV':=ax h';obtain ⟨A1,c1,A2,c2,rfl,h1,h2⟩:=h;obtain ⟨A3,c3,A4,c4,rfl,h3,h4⟩:=h';have HF:aJ (starF a b=if a.valid&&b.valid&&(starA a b).valid then some (starA a b) else none):=rfl;(go_enter Tryz.func41,Tryz.ntmps41);(go_wp2_with fail);refine (jz _ a _ (hV.o.bz bel)).mono ?_;rintro e w1 ⟨rfl,hB1⟩;have hB:=bgo (w:=w) bel hB1;have kk:=blk3 w 37 37 37 #[.slice A1 a.facts.length c1,.slice A2 a.atoms.length c2] #[.slice A3 b.facts.length c3,.slice A4 b.atoms.length c4] #[.slice none 0 0,.slice none 0 0];have k0:=kk.1.nz hB1;have k1:=kk.2.1.nz hB1;have k2:=kk.2.2.nz hB1;clear kk hB1;have q1:=k1.cell;have q2:=k2.cell;have r2:=k2.frozen;cases ha:a.valid
 ·have E:=ax (show starF a b=none by rw[HF.o,ha];rfl);clear ha;(go_wp2_with fail);refine bodyPost_ret (v:=.tuple #[.agg #[.slice none 0 0,.slice none 0 0],.bool false]) (by simp[results,Tryz.results41,go_sem,q2]) rfl ⟨_,by rw[E.o];rfl,by rw[E.o];exact AsnO.zero _ _,bel⟩
 have HA:=ax ha;clear ha q2 r2;(go_wp2_with fail);refine (jz _ b _ (hV'.o.bz hB)).mono ?_;rintro e w2 ⟨rfl,hB2⟩;replace hB:=bgo hB hB2;replace k0:=k0.nz hB2;replace k1:=k1.nz hB2;replace k2:=k2.nz hB2;clear q1 hB2;have q2:=k2.cell;have r2:=k2.frozen;cases hb:b.valid
 ·have E:=ax (show starF a b=none by rw[HF.o,HA.o,hb];rfl);clear hb;(go_wp2_with fail);refine bodyPost_ret (v:=.tuple #[.agg #[.slice none 0 0,.slice none 0 0],.bool false]) (by simp[results,Tryz.results41,go_sem,q2]) rfl ⟨_,by rw[E.o];rfl,by rw[E.o];exact AsnO.zero _ _,bel⟩
 have HB:=ax hb;have l1:=zjC HA.o;have l2:=zjC HB.o;clear hb q2 r2;(go_wp2_with fail);have lt2:=k2.lt
 go_region_held3 (fun w'=>(∀ i,w'.cell? ⟨w.heap.size,i,none⟩=#[.slice A1 a.facts.length c1,.slice A2 a.atoms.length c2][i]?)∧(∀ i,w'.cell? ⟨w.heap.size+1,i,none⟩=#[.slice A3 b.facts.length c3,.slice A4 b.atoms.length c4][i]?))
  (exact ⟨Blk.cell blks,Blk.cell blks⟩)
  (first
   | (go_at_call 111;refine (c_joinF _ _ _ _ a.facts b.facts _ (h1.bz bel) (h3.bz bel) (by omega)).mono ?_;rintro e w3 ⟨r3,rfl,o3,hB3⟩;have hBw3:=bgo (w:=w) bel hB3;have m0:=Blk.nz (g:=w.heap.size) blks hB3;have m1:=Blk.nz (g:=w.heap.size+1) blks hB3;have m2:=Blk.nz (g:=w.heap.size+1+1) blks hB3;have lt3:=m2.lt;obtain ⟨R3,d3,rfl,-⟩:=o3.rj;(try have z3:Blk w3 w2.heap.size 37 #[.slice none 0 0,.slice none 0 0]:=Blk.nz (Blk.new w2.drew _ _) hB3))
   | (go_at_call 112;refine (c_joinA _ _ _ _ a.atoms b.atoms _ (h2.bz bel) (h4.bz bel) (by omega)).mono ?_;rintro e w4 ⟨r4,rfl,o4,hB4⟩;have hBw4:=bgo (w:=w) bel hB4;have n0:=Blk.nz (g:=w.heap.size) blks hB4;have n1:=Blk.nz (g:=w.heap.size+1) blks hB4;have n2:=Blk.nz (g:=w.heap.size+1+1) blks hB4;have o3b:=(o3.bz bel).bz hB4;obtain ⟨R4,d4,rfl,-⟩:=o4.rj;(try have z4:Blk w4 w2.heap.size 37 #[.slice none 0 0,.slice none 0 0]:=z3.nz hB4);(try have z4:Blk w4 w3.heap.size 37 #[.slice none 0 0,.slice none 0 0]:=Blk.nz (Blk.new w3 _ _) hB4);(try have z4c:=z4.cell);(try have z4f:=z4.frozen)))
 all_goals
  simp only[List.length_append] at o3b o4;(go_wp2_with fail);refine (jz (lo:=0) (hi:=w4.heap.size+1) _ (starA a b) _ ?av).mono ?_
  case av=>
   refine ⟨R3,d3,R4,d4,by simp[starA],?_,?_⟩
   ·exact (FactsO.readsI (by first|exact o3b|exact (o3b.setT z4 (by decide) _ _).setT (z4.set_ _ _) (by decide) _ _|exact o3b.bz bel)).2.mono (Nat.zero_le _) (by simp)
   ·exact (AtomsO.readsI (by first|exact o4|exact (o4.setT z4 (by decide) _ _).setT (z4.set_ _ _) (by decide) _ _|exact o4.bz bel)).2.mono (Nat.zero_le _) (by simp)
  rintro e w5 ⟨rfl,hB5⟩;have p2:Blk w5 (w.heap.size+1+1) 37 #[.slice none 0 0,.slice none 0 0]:=Blk.nz (by first|exact n2|exact (n2.far (by simp only[];omega) _).far (by simp only[];omega) _|exact n2.alloc _) hB5;have hBw5:Below w.heap.size w w5:=bgo bel hB5;have hz:w4.heap.size=w4.heap.size:=rfl;have z5:=(by first|exact Blk.nz (Blk.new w4 37 #[.slice R3 (a.facts.length+b.facts.length) d3,.slice R4 (a.atoms.length+b.atoms.length) d4]) hB5|exact Blk.nz ((z4.set_ 0 (.slice R3 (a.facts.length+b.facts.length) d3)).set_ 1 (.slice R4 (a.atoms.length+b.atoms.length) d4)) hB5);have f3:FactsO w5 w.heap.size (.slice R3 (a.facts.length+b.facts.length) d3) (a.facts++b.facts):=FactsO.bq (FactsO.bz (by first|exact o3b|exact (o3b.setT z4 (by decide) _ _).setT (z4.set_ _ _) (by decide) _ _|exact o3b.bz bel) hB5) (by first|omega|(simp;omega));have f4:AtomsO w5 w.heap.size (.slice R4 (a.atoms.length+b.atoms.length) d4) (a.atoms++b.atoms):=AtomsO.bq (AtomsO.bz (by first|exact o4|exact (o4.setT z4 (by decide) _ _).setT (z4.set_ _ _) (by decide) _ _|exact o4.bz bel) hB5) (by first|omega|(simp;omega));have q5:=z5.cell;have q2:=p2.cell;have r2:=p2.frozen;clear hB5 o3 o3b o4 hB4 hB3;cases hv:(starA a b).valid
  ·have E:=ax (show starF a b=none by rw[HF.o,HA.o,HB.o,hv];rfl);clear hv;(go_wp2_with fail);refine bodyPost_ret (v:=.tuple #[.agg #[.slice none 0 0,.slice none 0 0],.bool false]) (by simp[results,Tryz.results41,go_sem,q2]) rfl ⟨_,by rw[E.o];rfl,by rw[E.o];exact AsnO.zero _ _,bel⟩
  ·have E:=ax (show starF a b=some (starA a b) by rw[HF.o,HA.o,HB.o,hv];rfl);clear hv;(go_wp2_with fail);refine bodyPost_ret (v:=.tuple #[.agg #[.slice R3 (a.facts.length+b.facts.length) d3,.slice R4 (a.atoms.length+b.atoms.length) d4],.bool true]) (by simp[results,Tryz.results41,go_sem,q2]) rfl ⟨_,by rw[E.o];rfl,?_,bel⟩;rw[E.o];exact ⟨_,_,rfl,(f3.setT p2 (by decide) _ _).setT (p2.set_ _ _) (by decide) _ _,(f4.setT p2 (by decide) _ _).setT (p2.set_ _ _) (by decide) _ _⟩
end
section
open Go Go.RowKit
theorem ofInt_u16 (a:Nat) (ha:a<65536):(BitVec.ofInt 16 (a:Int)).toNat=a:=by
 rw[BitVec.ofInt_natCast,BitVec.toNat_ofNat];exact Nat.mod_eq_of_lt (by omega)
theorem wrap_u16 (a:Nat) (ha:a<65536):IntKind.u16.wrap (a:Int)=a:=by
 simp[IntKind.wrap,IntKind.bits,IntKind.signed];omega
theorem u16_and_nat (a b:Nat) (ha:a<65536) (hb:b<65536):bits .and .u16 (a:Int) (b:Int)=((a &&& b:Nat):Int):=by
 have hx:a &&& b<2 ^ 16:=Nat.and_lt_two_pow _ (by omega);show IntKind.u16.wrap ((BitVec.ofInt 16 (a:Int) &&& BitVec.ofInt 16 (b:Int)).toNat:Int)=_;rw[BitVec.toNat_and,ofInt_u16 a ha,ofInt_u16 b hb,wrap_u16 _ (by omega)]
theorem u16_or_nat (a b:Nat) (ha:a<65536) (hb:b<65536):bits .or .u16 (a:Int) (b:Int)=((a|||b:Nat):Int):=by
 have hx:a|||b<2 ^ 16:=Nat.or_lt_two_pow (by omega) (by omega);show IntKind.u16.wrap ((BitVec.ofInt 16 (a:Int)|||BitVec.ofInt 16 (b:Int)).toNat:Int)=_;rw[BitVec.toNat_or,ofInt_u16 a ha,ofInt_u16 b hb,wrap_u16 _ (by omega)]
theorem bit_has (S n:Nat) (hS:S<65536):(bits .and .u16 ((S:Int) / 2 ^ n) 1 == 1)=S.testBit n:=by
 have e:((S:Int) / 2 ^ n)=((S / 2 ^ n:Nat):Int):=by simp
 have hlt:S / 2 ^ n<65536:=Nat.lt_of_le_of_lt (Nat.div_le_self _ _) hS;rw[e,show (1:Int)=((1:Nat):Int) from rfl,u16_and_nat _ _ hlt (by omega)];rw[Nat.testBit_eq_decide_div_mod_eq];rw[Nat.and_one_is_mod];rw[Bool.eq_iff_iff];simp only[beq_iff_eq,decide_eq_true_eq];omega
theorem bit_or (T n:Nat) (hT:T<65536) (hn:n<16):bits .or .u16 (T:Int) (IntKind.u16.wrap (2 ^ n))=((T|||1 <<< n:Nat):Int):=by
 have h2:2 ^ n<65536:=by
  have:2 ^ n≤2 ^ 15:=Nat.pow_le_pow_right (by omega) (by omega);omega
 have e:(2:Int) ^ n=((2 ^ n:Nat):Int):=by simp
 rw[e,wrap_u16 _ h2,u16_or_nat _ _ hT h2,Nat.one_shiftLeft]
end
section
open Go Go.RowKit Go.Proofs
theorem zjA {x:Int}:jq x=true↔0≤x∧x≤8:=by simp[jq]
@[irreducible] def tins (S:Nat) (t:Int):Nat:=if jq t then S|||1 <<< t.toNat else S
theorem tins_lt {S:Nat} (h:S<512) (t:Int):tins S t<512:=by
 unfold tins
 split
 ·rename_i ht;have ht:=zjA.1 ht;rw[Nat.one_shiftLeft]
  exact Nat.or_lt_two_pow (n:=9) h (by
   have:(2:Nat) ^ t.toNat≤2 ^ 8:=Nat.pow_le_pow_right (by omega) (by omega)
   omega)
 ·exact h
theorem tins_bit (S:Nat) (t:Int) (n:Nat):(tins S t).testBit n=(S.testBit n || decide (jq t=true∧t=(n:Int))):=by
 unfold tins
 split
 ·rename_i ht;have hb:=zjA.1 ht;rw[Nat.testBit_or,Nat.one_shiftLeft,Nat.testBit_two_pow]
  congr 1
  rw[decide_eq_decide];constructor
  ·intro e;exact ⟨ht,by omega⟩
  ·intro e;omega
 ·rename_i ht;simp[ht]
def tset (l:List Int):Nat:=l.foldl tins 0
theorem foldl_tins_lt (l:List Int):∀ {S:Nat},S<512→l.foldl tins S<512:=by
 induction l with
 | nil=>intro S h;exact h
 | cons x l ih=>intro S h;exact ih (tins_lt h x)
theorem tset_lt (l:List Int):tset l<512:=foldl_tins_lt l (by decide)
theorem foldl_tins_bit (l:List Int):∀ (S n:Nat),(l.foldl tins S).testBit n=(S.testBit n || decide (jq (n:Int)=true∧(n:Int)∈l)):=by
 induction l with
 | nil=>intro S n;simp
 | cons x l ih=>
  intro S n;rw[List.foldl_cons,ih,tins_bit,Bool.or_assoc]
  congr 1
  rw[←Bool.decide_or,decide_eq_decide];constructor
  ·rintro (⟨h,rfl⟩|⟨h,hm⟩)
   ·exact ⟨h,List.mem_cons_self⟩
   ·exact ⟨h,List.mem_cons_of_mem _ hm⟩
  ·rintro ⟨h,hm⟩;rcases List.mem_cons.1 hm with e|hm
   ·exact Or.inl ⟨e▸h,e.symm⟩
   ·exact Or.inr ⟨h,hm⟩
theorem tset_bit (l:List Int) (n:Nat):(tset l).testBit n=decide (jq (n:Int)=true∧(n:Int)∈l):=by
 rw[tset,foldl_tins_bit];simp
def factT (f:Fct):List Int:=[f.a,f.b]
def atomT (x:Atm):List Int:=[x.a,x.b]
def mz (a:Asn):List Int:=a.facts.flatMap factT++a.atoms.flatMap atomT
attribute [irreducible] tset
theorem c_impl_with (S:Nat) (t:Int) (w:World) (hS:S<512):Calls Tryz.prog 135 #[.int .u16 S,.int .i64 t] w fun e w'=>e=.returned (.int .u16 (tins S t))∧w=w':=by
 cases ht:jq t
 ·(go_enter Tryz.func135,Tryz.ntmps135);(go_wp2_with (go_at_call 151;refine (c_impl_isTerm _ _).mono ?_;rintro e w' ⟨rfl,rfl⟩));go_ret;exact ⟨by rw[tins,ht];rfl,rfl⟩
 ·have hb:=zjA.1 ht;have HT:=ax ht;obtain ⟨m,rfl⟩:=Int.eq_ofNat_of_zero_le hb.1;(go_enter Tryz.func135,Tryz.ntmps135);(go_wp2_with (go_at_call 151;refine (c_impl_isTerm _ _).mono ?_;rintro e w' ⟨rfl,rfl⟩));go_ret;refine ⟨?_,rfl⟩;have e:=bit_or S m (by omega) (by omega);rw[tins,HT.o,if_pos rfl,Int.toNat_natCast,←e];simp
theorem c_impl_tHas (S:Nat) (t:Int) (w:World) (hS:S<512):Calls Tryz.prog 140 #[.int .u16 S,.int .i64 t] w fun e w'=>e=.returned (.bool (jq t&&S.testBit t.toNat))∧w=w':=by
 cases ht:jq t
 ·(go_enter Tryz.func140,Tryz.ntmps140);(go_wp2_with (go_at_call 151;refine (c_impl_isTerm _ _).mono ?_;rintro e w' ⟨rfl,rfl⟩));go_ret;exact ⟨rfl,rfl⟩
 ·have hb:=zjA.1 ht;have HT:=ax ht;obtain ⟨m,rfl⟩:=Int.eq_ofNat_of_zero_le hb.1;have hbit:=bit_has S m (by omega);(go_enter Tryz.func140,Tryz.ntmps140);(go_wp2_with (go_at_call 151;refine (c_impl_isTerm _ _).mono ?_;rintro e w' ⟨rfl,rfl⟩));go_ret;refine ⟨?_,rfl⟩;exact zjD (by simp)
theorem foldl_step {α:Type} (f:Nat→α→Nat) (S:Nat) (xs:List α) (k:Nat) (hk:k<xs.length):(xs.drop k).foldl f S=(xs.drop (k+1)).foldl f (f S xs[k]):=by
 rw[List.drop_eq_getElem_cons hk];rfl
theorem tset_terms (a:Asn):tset (mz a)=(a.atoms.foldl (fun S x=>tins (tins S x.a) x.b) (a.facts.foldl (fun S f=>tins (tins S f.a) f.b) 0)):=by
 have h1:∀ (fs:List Fct) (S:Nat),(fs.flatMap factT).foldl tins S=fs.foldl (fun S f=>tins (tins S f.a) f.b) S:=by
  intro fs;induction fs with
  | nil=>intro S;rfl
  | cons f fs ih=>intro S;rw[List.flatMap_cons,List.foldl_append,ih];rfl
 have h2:∀ (fs:List Atm) (S:Nat),(fs.flatMap atomT).foldl tins S=fs.foldl (fun S f=>tins (tins S f.a) f.b) S:=by
  intro fs;induction fs with
  | nil=>intro S;rfl
  | cons f fs ih=>intro S;rw[List.flatMap_cons,List.foldl_append,ih];rfl
 rw[tset,mz,List.foldl_append,h1,h2]
theorem c_impl_termsIn {lo hi:Nat} (v:Value) (a:Asn) (w:World) (h:AsnV w lo hi v a):Calls Tryz.prog 64 #[v] w fun e w'=>e=.returned (.int .u16 (tset (mz a)))∧Below w.heap.size w w':=by
 obtain ⟨A1,c1,A2,c2,rfl,h1,h2⟩:=h;have hl1:=h1.le;have hl2:=h2.le;have HT:=ax (tset_terms a);(go_enter Tryz.func64,Tryz.ntmps64);go_wp2
 go_loopw [3,11] (fun S i wr=>∃ (k T:Nat),k≤a.facts.length∧i=.int .i64 k∧S=.int .u16 T∧T<512∧aJ (a.facts.foldl (fun S f=>tins (tins S f.a) f.b) 0=(a.facts.drop k).foldl (fun S f=>tins (tins S f.a) f.b) T)∧Blk wr w.heap.size 37 #[.slice A1 a.facts.length c1,.slice A2 a.atoms.length c2]∧Below w.heap.size w wr) (fun _ i _=>a.facts.length - (intOf i).toNat)
 case atStart=>exact ⟨0,0,Nat.zero_le _,rfl,rfl,by decide,rfl,blks,bel⟩
 case round=>
  obtain ⟨k,T,hk,rfl,rfl,hT,HA,hK,hB⟩:=hrel;by_cases hlt:k<a.facts.length
  ·obtain ⟨b,off,rfl,g0,g1,g2⟩:=(h1.bz hB).at hlt;have HD:=ax (foldl_step (fun S (f:Fct)=>tins (tins S f.a) f.b) T a.facts k hlt);have hT1:=tins_lt hT a.facts[k].a;have hT2:=tins_lt hT1 a.facts[k].b;(go_wp2_with fail);(go_quiet ((go_at_call 135;exact Calls.quiet_of_same ((c_impl_with _ _ _ (by assumption)).mono fun _ _ ⟨a,b⟩=>⟨a,b.symm⟩))));(go_wp2_with fail)
   go_round
   case rel=>exact ⟨k+1,_,by omega,by go_num,rfl,hT2,by show _=_;rw[HA.o,HD.o],(hK.alloc _).drewN _,below_drewN (bbox hB _) _⟩
   case measure=>simp[intOf];omega
  ·obtain rfl:k=a.facts.length:=by omega
   have q:=hK.cell;(go_wp2_with fail);have HA2:=ax (show a.facts.foldl (fun S f=>tins (tins S f.a) f.b) 0=T by rw[HA.o,List.drop_length];rfl)
   go_loopw [3,26] (fun S i wx=>∃ (k T':Nat),k≤a.atoms.length∧i=.int .i64 k∧S=.int .u16 T'∧T'<512∧aJ (a.atoms.foldl (fun S f=>tins (tins S f.a) f.b) T=(a.atoms.drop k).foldl (fun S f=>tins (tins S f.a) f.b) T')∧Below w.heap.size w wx) (fun _ i _=>a.atoms.length - (intOf i).toNat)
   case atStart=>exact ⟨0,T,Nat.zero_le _,rfl,rfl,hT,rfl,hB⟩
   case round=>
    clear hK q hB;obtain ⟨k,T',hk,rfl,rfl,hT',HB,hB⟩:=hrel;by_cases hlt2:k<a.atoms.length
    ·obtain ⟨b,off,rfl,g0,g1,g2⟩:=(h2.bz hB).at hlt2;have HD:=ax (foldl_step (fun S (f:Atm)=>tins (tins S f.a) f.b) T' a.atoms k hlt2);have hT1:=tins_lt hT' a.atoms[k].a;have hT2:=tins_lt hT1 a.atoms[k].b;(go_wp2_with fail);(go_quiet ((go_at_call 135;exact Calls.quiet_of_same ((c_impl_with _ _ _ (by assumption)).mono fun _ _ ⟨a,b⟩=>⟨a,b.symm⟩))));(go_wp2_with fail)
     go_round
     case rel=>exact ⟨k+1,_,by omega,by go_num,rfl,hT2,by show _=_;rw[HB.o,HD.o],below_drewN (bbox hB _) _⟩
     case measure=>simp[intOf];omega
    ·obtain rfl:k=a.atoms.length:=by omega
     (go_wp2_with fail);go_ret;refine ⟨?_,hB⟩;rw[HT.o,HA2.o,HB.o,List.drop_length];rfl
theorem c_impl_setOfTerms {lo hi:Nat} (A:Option Addr) (c:Nat) (xs:List Int) (w:World) (h:IntsV w lo hi A xs):Calls Tryz.prog 63 #[.slice A xs.length c] w fun e w'=>e=.returned (.int .u16 (tset xs))∧Below w.heap.size w w':=by
 have hl:=h.le;have HT:aJ (tset xs=xs.foldl tins 0):=by show _=_;unfold tset;rfl
 (go_enter Tryz.func63,Tryz.ntmps63);go_wp2
 go_loop [3,8] (fun S i=>∃ (k T:Nat),k≤xs.length∧i=.int .i64 k∧S=.int .u16 T∧T<512∧aJ (tset xs=(xs.drop k).foldl tins T)) (fun _ i=>xs.length - (intOf i).toNat)
 case atStart=>exact ⟨0,0,Nat.zero_le _,rfl,rfl,by decide,HT.o⟩
 case round=>
  obtain ⟨k,T,hk,rfl,rfl,hT,HA⟩:=hrel;by_cases hlt:k<xs.length
  ·obtain ⟨b,off,rfl,g0⟩:=h.at hlt;have HD:=ax (foldl_step tins T xs k hlt);have hT1:=tins_lt hT xs[k];(go_wp2_with (go_at_call 135;refine (c_impl_with _ _ _ (by assumption)).mono ?_;rintro e w' ⟨rfl,rfl⟩))
   go_round
   case rel=>exact ⟨k+1,_,by omega,by go_num,rfl,hT1,by show _=_;rw[HA.o,HD.o]⟩
   case measure=>simp[intOf];omega
  ·obtain rfl:k=xs.length:=by omega
   go_wp2;go_ret;exact ⟨by rw[HA.o,List.drop_length];rfl,Below.refl _ _⟩
def szL (n:Nat) (left:Int):Int:=if left - n<0 then -1 else left - n
def szA (a:Asn) (left:Int):Int:=if szL a.facts.length left<0 then -1 else szL a.atoms.length (szL a.facts.length left)
theorem szL_neg {n:Nat} {left:Int} (h:szL n left<0):szL n left = -1:=by
 by_cases h3:left - n<0
 ·rw[szL,if_pos h3]
 ·rw[szL,if_neg h3] at h;exact absurd h h3
theorem szL_le {n:Nat} {left:Int} (h:¬szL n left<0):szL n left=left - n∧0≤left - n:=by unfold szL at h ⊢;split<;>simp_all<;>omega
theorem szA_le {a:Asn} {left:Int} (h:¬szA a left<0):0≤szA a left∧szA a left=left - a.facts.length - a.atoms.length∧0≤left:=by
 unfold szA at h ⊢
 split at h
 ·omega
 ·rename_i h1;have e1:=szL_le h1;have e2:=szL_le h;rw[if_neg h1];omega
theorem c_szFactS (A:Option Addr) (n c:Nat) (left:Int) (w:World) (hn:n≤9223372036854775807) (h0:0≤left) (h1:left≤1048576):Calls Tryz.prog 51 #[.slice A n c,.int .i64 left] w fun e w'=>e=.returned (.int .i64 (szL n left))∧w=w':=by
 by_cases h:left - n<0
 all_goals
  (go_enter Tryz.func51,Tryz.ntmps51);go_wp2;go_ret;exact ⟨ret_int (by simp[szL];omega),rfl⟩
theorem c_szAtomS (A:Option Addr) (n c:Nat) (left:Int) (w:World) (hn:n≤9223372036854775807) (h0:0≤left) (h1:left≤1048576):Calls Tryz.prog 52 #[.slice A n c,.int .i64 left] w fun e w'=>e=.returned (.int .i64 (szL n left))∧w=w':=by
 by_cases h:left - n<0
 all_goals
  (go_enter Tryz.func52,Tryz.ntmps52);go_wp2;go_ret;exact ⟨ret_int (by simp[szL];omega),rfl⟩
theorem c_szAssertion (A1 A2:Option Addr) (c1 c2:Nat) (a:Asn) (left:Int) (w:World) (hn:a.facts.length≤9223372036854775807) (hm:a.atoms.length≤9223372036854775807) (h0:0≤left) (h1:left≤1048576):Calls Tryz.prog 9 #[.agg #[.slice A1 a.facts.length c1,.slice A2 a.atoms.length c2],.int .i64 left] w fun e w'=>e=.returned (.int .i64 (szA a left))∧Below w.heap.size w w':=by
 have hle:szL a.facts.length left≤left:=by unfold szL;split<;>omega
 have hH:=ax (show szA a left=if szL a.facts.length left<0 then -1 else szL a.atoms.length (szL a.facts.length left) from rfl);by_cases h:szL a.facts.length left<0
 ·(go_enter Tryz.func9,Tryz.ntmps9);(go_wp2_with (go_at_call 51;refine (c_szFactS _ _ _ _ _ hn h0 h1).mono ?_;rintro e w' ⟨rfl,rfl⟩));go_ret;exact ⟨ret_int (by rw[hH.o,if_pos h]),bel⟩
 ·by_cases h2:szL a.atoms.length (szL a.facts.length left)<0
  all_goals
   (go_enter Tryz.func9,Tryz.ntmps9);(go_wp2_with (first|(go_at_call 51;refine (c_szFactS _ _ _ _ _ hn h0 h1).mono ?_;rintro e w' ⟨rfl,rfl⟩)|(go_at_call 52;refine (c_szAtomS _ _ _ _ _ hm (by omega) (by omega)).mono ?_;rintro e w' ⟨rfl,rfl⟩)));go_ret
  ·refine ⟨ret_int ?_,bel⟩;rw[hH.o,if_neg (by omega)];exact (szL_neg h2).symm
  ·exact ⟨ret_int (by rw[hH.o,if_neg (by omega)]),bel⟩
theorem c_toFact (f:Fct) (w:World):Calls Tryz.prog 60 #[f.val] w fun e w'=>e=.returned f.val∧Below w.heap.size w w':=by
 (go_enter Tryz.func60,Tryz.ntmps60);go_wp2;exact bodyPost_ret (v:=f.val) (by simp[results,Tryz.results60,go_sem]) rfl ⟨rfl,bel⟩
theorem c_toAtom (f:Atm) (w:World):Calls Tryz.prog 134 #[f.val] w fun e w'=>e=.returned f.val∧Below w.heap.size w w':=by
 (go_enter Tryz.func134,Tryz.ntmps134);go_wp2;exact bodyPost_ret (v:=f.val) (by simp[results,Tryz.results134,go_sem]) rfl ⟨rfl,bel⟩
theorem c_toFactS {lo hi:Nat} (A:Option Addr) (c:Nat) (fs:List Fct) (w:World) (h:FactsV w lo hi A fs):Calls Tryz.prog 58 #[.slice A fs.length c] w fun e w'=>∃ v,e=.returned v∧FactsO w' w.heap.size v fs∧Below w.heap.size w w':=by
 have hl:=h.le;have hmk:=mkF fs.length h.lim;have hL:=len3 (fun f:Fct=>Value.bool f.eq) (fun f=>.int .i64 f.a) (fun f=>.int .i64 f.b) fs;(go_enter Tryz.func58,Tryz.ntmps58);go_wp2;clear hmk
 go_loopw [4] (fun i wr=>∃ (k:Nat) (cs:Array Value),k≤fs.length∧i=.int .i64 k∧cs.size=fs.length * 3∧Pre cs (encF fs) (k * 3)∧Blk wr w.heap.size tF cs∧Below w.heap.size w wr) (fun i _=>fs.length - (intOf i).toNat)
 case atStart=>exact ⟨0,_,Nat.zero_le _,rfl,size_madeCells _ _,by simpa using Pre.zero _ _,Blk.new _ _ _,bel⟩
 case round=>
  obtain ⟨k,cs,hk,rfl,HS,HP,hK,hB⟩:=hrel;have HS:=ax HS;have HP:=ax HP;have HL:=ax hL;clear hL;by_cases hlt:k<fs.length
  ·obtain ⟨b,off,rfl,c0,c1,c2⟩:=(h.bz hB).at hlt;(go_wp2_with fail);refine (c_toFact fs[k] wr).mono ?_;rintro e w' ⟨rfl,hB2⟩;have hK2:=hK.nz hB2;have hs:=HS.o;have q0:w'.cell? ⟨w.heap.size,k * 3,none⟩=some (cs[k*3]'(by omega)):=by rw[hK2.cell];exact Array.getElem?_eq_getElem _
   have q1:w'.cell? ⟨w.heap.size,k * 3+1,none⟩=some (cs[k*3+1]'(by omega)):=by rw[hK2.cell];exact Array.getElem?_eq_getElem _
   have q2:w'.cell? ⟨w.heap.size,k * 3+2,none⟩=some (cs[k*3+2]'(by omega)):=by rw[hK2.cell];exact Array.getElem?_eq_getElem _
   have r:=hK2.frozen;clear hs;(go_wp2_with fail);obtain ⟨e0,e1,e2⟩:=flat3 (fun f:Fct=>Value.bool f.eq) (fun f=>.int .i64 f.a) (fun f=>.int .i64 f.b) fs k hlt;have hs:=HS.o;have hB3:=bgo hB hB2
   go_round
   case rel=>exact ⟨k+1,_,by omega,by go_num,by simp[hs],HP.o.set3 (by omega) e0 e1 e2,((hK2.set_ _ _).set_ _ _).set_ _ _,bel⟩
   case measure=>simp[intOf];omega
  ·go_wp2;go_ret;obtain rfl:k=fs.length:=by omega
   refine ⟨_,rfl,⟨own_of_blk hK (Nat.le_refl _) HL.o HP.o (Nat.le_refl _) (by unfold maxLen;omega) HS.o,by unfold Lim;omega⟩,hB⟩
theorem c_toAtomS {lo hi:Nat} (A:Option Addr) (c:Nat) (fs:List Atm) (w:World) (h:AtomsV w lo hi A fs):Calls Tryz.prog 59 #[.slice A fs.length c] w fun e w'=>∃ v,e=.returned v∧AtomsO w' w.heap.size v fs∧Below w.heap.size w w':=by
 have hl:=h.le;have hmk:=mkA fs.length h.lim;have hL:=len3 (fun f:Atm=>Value.int .i64 f.kind) (fun f=>.int .i64 f.a) (fun f=>.int .i64 f.b) fs;(go_enter Tryz.func59,Tryz.ntmps59);go_wp2;clear hmk
 go_loopw [4] (fun i wr=>∃ (k:Nat) (cs:Array Value),k≤fs.length∧i=.int .i64 k∧cs.size=fs.length * 3∧Pre cs (encA fs) (k * 3)∧Blk wr w.heap.size tA cs∧Below w.heap.size w wr) (fun i _=>fs.length - (intOf i).toNat)
 case atStart=>exact ⟨0,_,Nat.zero_le _,rfl,size_madeCells _ _,by simpa using Pre.zero _ _,Blk.new _ _ _,bel⟩
 case round=>
  obtain ⟨k,cs,hk,rfl,HS,HP,hK,hB⟩:=hrel;have HS:=ax HS;have HP:=ax HP;have HL:=ax hL;clear hL;by_cases hlt:k<fs.length
  ·obtain ⟨b,off,rfl,c0,c1,c2⟩:=(h.bz hB).at hlt;(go_wp2_with fail);refine (c_toAtom fs[k] wr).mono ?_;rintro e w' ⟨rfl,hB2⟩;have hK2:=hK.nz hB2;have hs:=HS.o;have q0:w'.cell? ⟨w.heap.size,k * 3,none⟩=some (cs[k*3]'(by omega)):=by rw[hK2.cell];exact Array.getElem?_eq_getElem _
   have q1:w'.cell? ⟨w.heap.size,k * 3+1,none⟩=some (cs[k*3+1]'(by omega)):=by rw[hK2.cell];exact Array.getElem?_eq_getElem _
   have q2:w'.cell? ⟨w.heap.size,k * 3+2,none⟩=some (cs[k*3+2]'(by omega)):=by rw[hK2.cell];exact Array.getElem?_eq_getElem _
   have r:=hK2.frozen;clear hs;(go_wp2_with fail);obtain ⟨e0,e1,e2⟩:=flat3 (fun f:Atm=>Value.int .i64 f.kind) (fun f=>.int .i64 f.a) (fun f=>.int .i64 f.b) fs k hlt;have hs:=HS.o;have hB3:=bgo hB hB2
   go_round
   case rel=>exact ⟨k+1,_,by omega,by go_num,by simp[hs],HP.o.set3 (by omega) e0 e1 e2,((hK2.set_ _ _).set_ _ _).set_ _ _,bel⟩
   case measure=>simp[intOf];omega
  ·go_wp2;go_ret;obtain rfl:k=fs.length:=by omega
   refine ⟨_,rfl,⟨own_of_blk hK (Nat.le_refl _) HL.o HP.o (Nat.le_refl _) (by unfold maxLen;omega) HS.o,by unfold Lim;omega⟩,hB⟩
theorem c_toIntS {lo hi:Nat} (A:Option Addr) (c:Nat) (fs:List Int) (w:World) (h:IntsV w lo hi A fs):Calls Tryz.prog 14 #[.slice A fs.length c] w fun e w'=>∃ v,e=.returned v∧IntsO w' w.heap.size v fs∧Below w.heap.size w w':=by
 have hl:=h.le;have hmk:=mkI fs.length h.lim;(go_enter Tryz.func14,Tryz.ntmps14);go_wp2;clear hmk
 go_loopw [4] (fun i wr=>∃ (k:Nat) (cs:Array Value),k≤fs.length∧i=.int .i64 k∧cs.size=fs.length * 1∧Pre cs (encI fs) k∧Blk wr w.heap.size tI cs∧Below w.heap.size w wr) (fun i _=>fs.length - (intOf i).toNat)
 case atStart=>exact ⟨0,madeCells #[.int .i64 0] fs.length,Nat.zero_le _,rfl,by rw[size_madeCells];omega,Pre.zero _ _,Blk.new _ _ _,bel⟩
 case round=>
  obtain ⟨k,cs,hk,rfl,HS,HP,hK,hB⟩:=hrel;have HS:=ax HS;have HP:=ax HP;by_cases hlt:k<fs.length
  ·obtain ⟨b,off,rfl,c0⟩:=(h.bz hB).at hlt;have hs:=HS.o;have q0:wr.cell? ⟨w.heap.size,k,none⟩=some (cs[k]'(by omega)):=by rw[hK.cell];exact Array.getElem?_eq_getElem _
   have r:=hK.frozen;clear hs;(go_wp2_with fail);have hs:=HS.o
   go_round
   case rel=>exact ⟨k+1,_,by omega,by go_num,by simp[hs],HP.o.set1 (by omega) (by simp[List.getElem?_eq_getElem hlt]),hK.set_ _ _,bel⟩
   case measure=>simp[intOf];omega
  ·go_wp2;go_ret;obtain rfl:k=fs.length:=by omega
   refine ⟨_,rfl,⟨own_of_blk hK (Nat.le_refl _) (by simp) (by simpa using HP.o) (Nat.le_refl _) (by unfold maxLen;omega) HS.o,by unfold Lim;omega⟩,hB⟩
theorem c_toAssertion {lo hi:Nat} (v:Value) (a:Asn) (w:World) (h:AsnV w lo hi v a):Calls Tryz.prog 12 #[v] w fun e w'=>∃ v,e=.returned v∧AsnO w' w.heap.size v a∧Below w.heap.size w w':=by
 obtain ⟨A1,c1,A2,c2,rfl,h1,h2⟩:=h;(go_enter Tryz.func12,Tryz.ntmps12);(go_wp2_with fail);refine (c_toFactS A1 c1 a.facts _ (h1.bz bel)).mono ?_;rintro e w1 ⟨v1,rfl,ho1,hB1⟩;obtain ⟨F1,d1,rfl,-⟩:=ho1.rj;have hB:=bgo (w:=w) bel hB1;have k0:=(((Blk.new w _ _).alloc _).alloc _).nz hB1;have k1:=((Blk.new (w.alloc _) _ _).alloc _).nz hB1;have k2:=(Blk.new ((w.alloc _).alloc _) _ _).nz hB1;simp only[World.size_alloc] at k1 k2 ho1;have q0:=k0.cell;have q2:=k2.cell;have r2:=k2.frozen;(go_wp2_with fail);refine (c_toAtomS A2 c2 a.atoms _ (h2.bz bel)).mono ?_;rintro e w2 ⟨v2,rfl,ho2,hB2⟩;obtain ⟨F2,d2,rfl,-⟩:=ho2.rj;have g1:=(k1.far (p:=⟨w.heap.size+1+1,0,none⟩) (by simp) _).nz hB2;have g2:=(k2.set_ 0 (.slice F1 a.facts.length d1)).nz hB2;have ho1':=ho1;clear q0 q2 r2 k0 k1 k2;have q1:=g1.cell;have r1:=g1.frozen;have q2:=g2.cell;have r2:=g2.frozen;(go_wp2_with fail);have hz:w.heap.size+1+1+1≤w1.heap.size:=by have:=hB1.size;simpa using this
 have hB3:=bgo (w:=w) bel hB2;have o1:=((((ho1.setb (a:=⟨w.heap.size+1+1,0,none⟩) (by simp) (.slice F1 a.facts.length d1)).bz hB2).setb (a:=⟨w.heap.size+1+1,1,none⟩) (by simp) (.slice F2 a.atoms.length d2)).setb (a:=⟨w.heap.size+1,0,none⟩) (by simp only;omega) (.slice F1 a.facts.length d1)).setb (a:=⟨w.heap.size+1,1,none⟩) (by simp only;omega) (.slice F2 a.atoms.length d2);have o2:=((ho2.setb (a:=⟨w.heap.size+1+1,1,none⟩) (by simp;omega) (.slice F2 a.atoms.length d2)).setb (a:=⟨w.heap.size+1,0,none⟩) (by simp;omega) (.slice F1 a.facts.length d1)).setb (a:=⟨w.heap.size+1,1,none⟩) (by simp;omega) (.slice F2 a.atoms.length d2);refine bodyPost_ret (v:=.agg #[.slice F1 a.facts.length d1,.slice F2 a.atoms.length d2]) (by simp[results,Tryz.results12,go_sem,q1]) rfl ⟨_,rfl,⟨_,_,rfl,o1.bq (by omega),o2.bq (by simp;omega)⟩,bel⟩
theorem c_eqFact (f g:Fct) (w:World):Calls Tryz.prog 70 #[f.val,g.val] w fun e w'=>e=.returned (.bool (decide (f=g)))∧Below w.heap.size w w':=by
 have hE:aJ (decide (f=g)=decide (f.eq=g.eq∧f.a=g.a∧f.b=g.b)):=decide_eq_decide.2 (Fct.eq_iff f g);(go_enter Tryz.func70,Tryz.ntmps70);go_wp2
 all_goals
  go_ret;exact ⟨zjD (by rw[hE.o];simp_all),bel⟩
theorem c_eqAtom (f g:Atm) (w:World):Calls Tryz.prog 142 #[f.val,g.val] w fun e w'=>e=.returned (.bool (decide (f=g)))∧Below w.heap.size w w':=by
 have hE:aJ (decide (f=g)=decide (f.kind=g.kind∧f.a=g.a∧f.b=g.b)):=decide_eq_decide.2 (Atm.eq_iff f g);(go_enter Tryz.func142,Tryz.ntmps142);go_wp2
 all_goals
  go_ret;exact ⟨zjD (by rw[hE.o];simp_all),bel⟩
theorem c_eqFactS {lo hi lo' hi':Nat} (A A':Option Addr) (c c':Nat) (fs gs:List Fct) (w:World) (h:FactsV w lo hi A fs) (h':FactsV w lo' hi' A' gs):Calls Tryz.prog 68 #[.slice A fs.length c,.slice A' gs.length c'] w fun e w'=>e=.returned (.bool (decide (fs=gs)))∧Below w.heap.size w w':=by
 have hl:=h.le;have hl':=h'.le;by_cases hn:fs.length=gs.length
 ·have hne:(fs.length != gs.length)=false:=by simpa using hn
  have hne':((fs.length:Int) != (gs.length:Int))=false:=by simp[hn]
  have HN:=ax hn;clear hn;(go_enter Tryz.func68,Tryz.ntmps68);go_wp2
  go_loopw [5] (fun i wr=>∃ k:Nat,k≤fs.length∧i=.int .i64 k∧aJ (decide (fs=gs)=decide (fs.drop k=gs.drop k))∧Below w.heap.size w wr) (fun i _=>fs.length - (intOf i).toNat)
  case atStart=>exact ⟨0,Nat.zero_le _,rfl,by simp[aJ],bel⟩
  case round=>
   obtain ⟨k,hk,rfl,HA,hB⟩:=hrel;clear hne hne';by_cases hlt:k<fs.length
   ·have hlt':k<gs.length:=by have:=HN.o;omega
    have HD:=ax (drop_eq fs gs k hlt hlt');obtain ⟨b,off,rfl,c0,c1,c2⟩:=(h.bz hB).at hlt;obtain ⟨b',off',rfl,d0,d1,d2⟩:=(h'.bz hB).at hlt';cases he:decide (fs[k]=gs[k])
    ·go_wp2_with fail
     go_still_tail 8,(by kernel_rfl)
     change wpList _ _ _ _ _ wr.drew
     have hBd:=hB.drew;clear hB;generalize wr.drew=wd at *;(go_wp2_with (go_at_call 70;refine (c_eqFact fs[k] gs[k] _).mono ?_;rintro e w' ⟨rfl,hB2⟩));go_ret;exact ⟨zjD (by rw[HA.o,HD.o,he];rfl),bgo hBd hB2⟩
    ·go_wp2_with fail
     go_still_tail 8,(by kernel_rfl)
     change wpList _ _ _ _ _ wr.drew
     have hBd:=hB.drew;clear hB;generalize wr.drew=wd at *;(go_wp2_with (go_at_call 70;refine (c_eqFact fs[k] gs[k] _).mono ?_;rintro e w' ⟨rfl,hB2⟩))
     go_round
     case rel=>exact ⟨k+1,by omega,by go_num,by show _=_;rw[HA.o,HD.o,he];rfl,bgo hBd hB2⟩
     case measure=>simp[intOf];omega
   ·go_wp2;go_ret;obtain rfl:k=fs.length:=by omega
    exact ⟨zjD (by rw[HA.o,List.drop_length,HN.o,List.drop_length];simp),hB⟩
 ·have hne:(fs.length != gs.length)=true:=by simpa using hn
  have HN:=ax hn;clear hn;(go_enter Tryz.func68,Tryz.ntmps68);go_wp2;go_ret;exact ⟨zjD (by symm;rw[decide_eq_false_iff_not];intro e;exact HN.o (by rw[e])),bel⟩
theorem c_eqAtomS {lo hi lo' hi':Nat} (A A':Option Addr) (c c':Nat) (fs gs:List Atm) (w:World) (h:AtomsV w lo hi A fs) (h':AtomsV w lo' hi' A' gs):Calls Tryz.prog 69 #[.slice A fs.length c,.slice A' gs.length c'] w fun e w'=>e=.returned (.bool (decide (fs=gs)))∧Below w.heap.size w w':=by
 have hl:=h.le;have hl':=h'.le;by_cases hn:fs.length=gs.length
 ·have hne:(fs.length != gs.length)=false:=by simpa using hn
  have hne':((fs.length:Int) != (gs.length:Int))=false:=by simp[hn]
  have HN:=ax hn;clear hn;(go_enter Tryz.func69,Tryz.ntmps69);go_wp2
  go_loopw [5] (fun i wr=>∃ k:Nat,k≤fs.length∧i=.int .i64 k∧aJ (decide (fs=gs)=decide (fs.drop k=gs.drop k))∧Below w.heap.size w wr) (fun i _=>fs.length - (intOf i).toNat)
  case atStart=>exact ⟨0,Nat.zero_le _,rfl,by simp[aJ],bel⟩
  case round=>
   obtain ⟨k,hk,rfl,HA,hB⟩:=hrel;clear hne hne';by_cases hlt:k<fs.length
   ·have hlt':k<gs.length:=by have:=HN.o;omega
    have HD:=ax (drop_eq fs gs k hlt hlt');obtain ⟨b,off,rfl,c0,c1,c2⟩:=(h.bz hB).at hlt;obtain ⟨b',off',rfl,d0,d1,d2⟩:=(h'.bz hB).at hlt';cases he:decide (fs[k]=gs[k])
    ·go_wp2_with fail
     go_still_tail 8,(by kernel_rfl)
     change wpList _ _ _ _ _ wr.drew
     have hBd:=hB.drew;clear hB;generalize wr.drew=wd at *;(go_wp2_with (go_at_call 142;refine (c_eqAtom fs[k] gs[k] _).mono ?_;rintro e w' ⟨rfl,hB2⟩));go_ret;exact ⟨zjD (by rw[HA.o,HD.o,he];rfl),bgo hBd hB2⟩
    ·go_wp2_with fail
     go_still_tail 8,(by kernel_rfl)
     change wpList _ _ _ _ _ wr.drew
     have hBd:=hB.drew;clear hB;generalize wr.drew=wd at *;(go_wp2_with (go_at_call 142;refine (c_eqAtom fs[k] gs[k] _).mono ?_;rintro e w' ⟨rfl,hB2⟩))
     go_round
     case rel=>exact ⟨k+1,by omega,by go_num,by show _=_;rw[HA.o,HD.o,he];rfl,bgo hBd hB2⟩
     case measure=>simp[intOf];omega
   ·go_wp2;go_ret;obtain rfl:k=fs.length:=by omega
    exact ⟨zjD (by rw[HA.o,List.drop_length,HN.o,List.drop_length];simp),hB⟩
 ·have hne:(fs.length != gs.length)=true:=by simpa using hn
  have HN:=ax hn;clear hn;(go_enter Tryz.func69,Tryz.ntmps69);go_wp2;go_ret;exact ⟨zjD (by symm;rw[decide_eq_false_iff_not];intro e;exact HN.o (by rw[e])),bel⟩
theorem c_eqIntS {lo hi lo' hi':Nat} (A A':Option Addr) (c c':Nat) (fs gs:List Int) (w:World) (h:IntsV w lo hi A fs) (h':IntsV w lo' hi' A' gs):Calls Tryz.prog 18 #[.slice A fs.length c,.slice A' gs.length c'] w fun e w'=>e=.returned (.bool (decide (fs=gs)))∧Below w.heap.size w w':=by
 have hl:=h.le;have hl':=h'.le;by_cases hn:fs.length=gs.length
 ·have hne:(fs.length != gs.length)=false:=by simpa using hn
  have hne':((fs.length:Int) != (gs.length:Int))=false:=by simp[hn]
  have HN:=ax hn;clear hn;(go_enter Tryz.func18,Tryz.ntmps18);go_wp2
  go_loopw [5] (fun i wr=>∃ k:Nat,k≤fs.length∧i=.int .i64 k∧aJ (decide (fs=gs)=decide (fs.drop k=gs.drop k))∧Below w.heap.size w wr) (fun i _=>fs.length - (intOf i).toNat)
  case atStart=>exact ⟨0,Nat.zero_le _,rfl,by simp[aJ],bel⟩
  case round=>
   obtain ⟨k,hk,rfl,HA,hB⟩:=hrel;clear hne hne';by_cases hlt:k<fs.length
   ·have hlt':k<gs.length:=by have:=HN.o;omega
    have HD:=ax (drop_eq fs gs k hlt hlt');obtain ⟨b,off,rfl,c0⟩:=(h.bz hB).at hlt;obtain ⟨b',off',rfl,d0⟩:=(h'.bz hB).at hlt';cases hne:(fs[k] != gs[k])
    ·have he:=ax (show decide (fs[k]=gs[k])=true by simpa using hne);(go_wp2_with fail);(go_quiet (fail));(go_wp2_with fail)
     go_round
     case rel=>exact ⟨k+1,by omega,by go_num,by show _=_;rw[HA.o,HD.o,he.o];rfl,below_drewN hB _⟩
     case measure=>simp[intOf];omega
    ·have he:=ax (show decide (fs[k]=gs[k])=false by simpa using hne);(go_wp2_with fail);(go_quiet (fail));(go_wp2_with fail);go_ret;exact ⟨zjD (by rw[HA.o,HD.o,he.o];rfl),below_drewN hB _⟩
   ·go_wp2;go_ret;obtain rfl:k=fs.length:=by omega
    exact ⟨zjD (by rw[HA.o,List.drop_length,HN.o,List.drop_length];simp),hB⟩
 ·have hne:(fs.length != gs.length)=true:=by simpa using hn
  have HN:=ax hn;clear hn;(go_enter Tryz.func18,Tryz.ntmps18);go_wp2;go_ret;exact ⟨zjD (by symm;rw[decide_eq_false_iff_not];intro e;exact HN.o (by rw[e])),bel⟩
theorem c_eqAssertion {lo hi lo' hi':Nat} (v v':Value) (a a':Asn) (w:World) (h:AsnV w lo hi v a) (h':AsnV w lo' hi' v' a'):Calls Tryz.prog 16 #[v,v'] w fun e w'=>e=.returned (.bool (decide (a=a')))∧Below w.heap.size w w':=by
 obtain ⟨A1,c1,A2,c2,rfl,h1,h2⟩:=h;obtain ⟨A3,c3,A4,c4,rfl,h3,h4⟩:=h';have hE:aJ (decide (a=a')=decide (a.facts=a'.facts∧a.atoms=a'.atoms)):=decide_eq_decide.2 (Asn.eq_iff a a');(go_enter Tryz.func16,Tryz.ntmps16);(go_wp2_with fail);refine (c_eqFactS A1 A3 c1 c3 a.facts a'.facts _ (h1.bz bel) (h3.bz bel)).mono ?_;rintro e w1 ⟨rfl,hB1⟩;have hB:=bgo (w:=w) bel hB1;have k0:=(Blk.nz (g:=w.heap.size) (((Blk.new w _ _).alloc _)) hB1).cell;have k1:=(Blk.nz (g:=w.heap.size+1) (by rw[←World.size_alloc];exact Blk.new (w.alloc _) _ _) hB1).cell;cases hd:decide (a.facts=a'.facts)
 ·(go_wp2_with fail);go_ret;exact ⟨zjD (by rw[hE.o,Bool.decide_and,hd];rfl),hB⟩
 ·(go_wp2_with fail);refine (c_eqAtomS A2 A4 c2 c4 a.atoms a'.atoms _ (h2.bz hB) (h4.bz hB)).mono ?_;rintro e w2 ⟨rfl,hB2⟩;cases hd2:decide (a.atoms=a'.atoms)
  all_goals
   (go_wp2_with fail);go_ret;exact ⟨zjD (by rw[hE.o,Bool.decide_and,hd,hd2];rfl),bgo hB hB2⟩
end
section
open Go Go.RowKit
section
variable {w w':World} {lo hi lo' hi':Nat} {v:Value} {s:Ste}
end
def addrB (n:Int):Bool:=decide (1≤n∧n≤8)
def valB (n:Int):Bool:=decide (0≤n∧n≤8)
def cellB (n:Int):Bool:=decide (n = -1) || valB n
def Ste.valid (s:Ste):Bool:=decide (s.values.length=8)&&decide (s.heap.length=8)&&(s.values.all valB&&s.heap.all cellB)
def cont (h:List Int) (a:Int):Int:=if addrB a then (h[(a-1).toNat]?).getD (-1) else -1
def allocB (h:List Int) (a:Int):Bool:=decide (0≤cont h a)
def tval (vs:List Int) (t:Int):Int:=if t=0 then 0 else (vs[(t-1).toNat]?).getD 0
def Fct.holds (vs:List Int) (f:Fct):Bool:=decide (tval vs f.a=tval vs f.b) == f.eq
def factsHold (fs:List Fct) (vs:List Int):Bool:=factsValid fs&&decide (vs.length=8)&&fs.all (Fct.holds vs)
def walkF (h:List Int):Nat→Int→Int→Option (List Int)
 | 0,x,tz0=>if x=tz0 then some [] else none
 | n+1,x,tz0=>if x=tz0 then some [] else if allocB h x then (walkF h n (cont h x) tz0).map (x :: ·) else none
def addAll:List Int→List Int→Option (List Int)
 | seen,[]=>some seen
 | seen,c :: cs=>if c∈seen then none else addAll (seen++[c]) cs
def atomCells (s:Ste) (x:Atm):Option (List Int):=
 if x.kind=2 then walkF s.heap 8 (tval s.values x.a) (tval s.values x.b) else if cont s.heap (tval s.values x.a)=tval s.values x.b then some [tval s.values x.a] else none
def partAtoms (s:Ste):List Int→List Atm→Option (List Int)
 | seen,[]=>some seen
 | seen,x :: xs=>(atomCells s x).bind fun cs=>(addAll seen cs).bind fun seen'=>partAtoms s seen' xs
def partOf (s:Ste) (a:Asn):Option (List Int):=if s.valid&&a.valid&&factsHold a.facts s.values then partAtoms s [] a.atoms else none
end
section
open Go Go.RowKit Go.Proofs
def Und (v:Value) (hi:Nat):Prop:=∀ g,v.ownBlock=some g→g<hi
theorem IntsO.und {w:World} {base:Nat} {v:Value} {xs:List Int} (h:IntsO w base v xs):Und v w.heap.size:=fun g hg=>(h.1.lt g hg).2
theorem FactsO.und {w:World} {base:Nat} {v:Value} {xs:List Fct} (h:FactsO w base v xs):Und v w.heap.size:=fun g hg=>(h.1.lt g hg).2
theorem AtomsO.und {w:World} {base:Nat} {v:Value} {xs:List Atm} (h:AtomsO w base v xs):Und v w.heap.size:=fun g hg=>(h.1.lt g hg).2
theorem Und.mono {v:Value} {a b:Nat} (h:Und v a) (hab:a≤b):Und v b:=fun g hg=>Nat.lt_of_lt_of_le (h g hg) hab
structure Mk (p:Nat→Prop) (w w':World):Prop where
 os:w'.os=w.os
 tape:w'.tape=w.tape
 output:w'.output=w.output
 size:w.heap.size≤w'.heap.size
 block:∀ k,k<w.heap.size→¬p k→w'.heap[k]? = w.heap[k]?
section
variable {p q:Nat→Prop} {w a b:World}
theorem Mk.refl (p:Nat→Prop) (w:World):Mk p w w:=⟨rfl,rfl,rfl,Nat.le_refl _,fun _ _ _=>rfl⟩
theorem Mk.trans (h:Mk p w a) (h2:Mk p a b):Mk p w b:=⟨h2.os.trans h.os,h2.tape.trans h.tape,h2.output.trans h.output,Nat.le_trans h.size h2.size,fun k hk hp=>(h2.block k (Nat.lt_of_lt_of_le hk h.size) hp).trans (h.block k hk hp)⟩
theorem Mk.mono (h:Mk p w a) (hpq:∀ k,p k→q k):Mk q w a:=⟨h.os,h.tape,h.output,h.size,fun k hk hq=>h.block k hk fun hp=>hq (hpq k hp)⟩
theorem Mk.set (h:Mk p w a) {x:Addr} (hx:p x.block) (u:Value):Mk p w (a.setCell x u):=h.trans ⟨rfl,rfl,rfl,by simp,fun k _ hk=>Below.heap_setCell a x u k (fun e=>hk (e▸hx))⟩
theorem Mk.below_ (h:Below w.heap.size w a):Mk p w a:=⟨h.os,h.tape,h.output,h.size,fun k hk _=>h.block k hk⟩
theorem Mk.bz {lo:Nat} (h:Mk p w a) (hp:∀ k,p k→lo≤k) (hl:lo≤w.heap.size):Below lo w a:=⟨h.os,h.tape,h.output,h.size,fun k hk=>h.block k (by omega) fun hp'=>by have:=hp k hp';omega⟩
theorem Mk.abv {hi:Nat} (h:Mk p w a) (hp:∀ k,p k→k<hi):Abv hi w a:=⟨h.size,fun k h1 h2=>h.block k h2 fun hp'=>by have:=hp k hp';omega⟩
theorem Mk.blk {g:Nat} {t:TypeId} {cs:Array Value} (h:Mk p w a) (hk:Blk w g t cs) (hg:¬p g):Blk a g t cs:=(h.block g hk.lt hg).trans hk
end
theorem own_mk {p:Nat→Prop} {w w':World} {base:Nat} {e:TypeId} {size:Nat} {v:Value} {n:Nat} {xs:List Value} (h:w.ownsRow base e size v n xs) (hb:Mk p w w') (hp:∀ g,v.ownBlock=some g→¬p g):w'.ownsRow base e size v n xs:=by
 obtain ⟨h1,h2⟩:=h;refine ⟨h1,?_⟩;rcases h2 with h2|⟨g,cap,cur,hv,hg,hh,r⟩
 ·exact Or.inl h2
 ·exact Or.inr ⟨g,cap,cur,hv,hg,(hb.block g (Blk.lt hh) (hp g (by rw[hv];rfl))).trans hh,r⟩
def iota (k:Int) (n:Nat):List Int:=(List.range n).map fun i:Nat=>k+i
theorem iota_length (k:Int) (n:Nat):(iota k n).length=n:=by simp[iota]
theorem iota_get (k:Int) (n i:Nat) (h:i<n):(iota k n)[i]? = some (k+i):=by simp[iota,h]
theorem c_markIntS (v:Value) (xs:List Int) (k:Int) (base:Nat) (w:World) (h:IntsO w base v xs) (h0:0≤k) (h1:k≤1099511627776):Calls Tryz.prog 21 #[v,.int .i64 k] w fun e w'=>e=.returned (.int .i64 (k+xs.length))∧IntsO w' base v (iota k xs.length)∧Mk (fun g=>v.ownBlock=some g) w w':=by
 obtain ⟨⟨hl,h2⟩,hL⟩:=h;have hL':xs.length≤1049600:=hL;rcases h2 with ⟨rfl,hn⟩|⟨g,cap,cur,rfl,hb,hh,hn,hm,hs,ht⟩
 ·(go_enter Tryz.func21,Tryz.ntmps21);go_wp2
  go_loop [1,5] (fun m i=>m=.int .i64 k∧i=.int .i64 0) (fun _ i=>0)
  case atStart=>exact ⟨rfl,rfl⟩
  case round=>
   obtain ⟨rfl,rfl⟩:=hrel;go_wp2;go_ret;have e:xs=[]:=List.length_eq_zero_iff.1 hn;subst e;exact ⟨by simp,IntsO.nil _ _,Mk.refl _ _⟩
 ·have hK:Blk w g tI cur:=hh;have HS:=ax hs;clear hs ht hh hl;(go_enter Tryz.func21,Tryz.ntmps21);go_wp2
  go_loopw [1,5] (fun m i wr=>∃ (j:Nat) (cs:Array Value),j≤xs.length∧i=.int .i64 j∧m=.int .i64 (k+j)∧aJ (cs.size=cap * 1)∧aJ (Pre cs (encI (iota k xs.length)) j)∧Blk wr g tI cs∧Mk (fun g'=>Value.ownBlock (.slice (some ⟨g,0,none⟩) xs.length cap)=some g') w wr) (fun _ i _=>xs.length - (intOf i).toNat)
  case atStart=>exact ⟨0,cur,Nat.zero_le _,rfl,by simp,HS.o,Pre.zero _ _,hK,Mk.refl _ _⟩
  case round=>
   obtain ⟨j,cs,hj,rfl,rfl,HS2,HP,hK2,hM⟩:=hrel;by_cases hlt:j<xs.length
   ·have hs:=HS2.o;obtain ⟨u,hu⟩:∃ u,cs[j]? = some u:=⟨_,Array.getElem?_eq_getElem (by omega)⟩;have q0:wr.cell? ⟨g,j,none⟩=some u:=by rw[hK2.cell,hu]
    have r:=hK2.frozen;clear hs hu;(go_wp2_with fail);have hs:=HS2.o
    go_round
    case rel=>exact ⟨j+1,_,by omega,by go_num,by push_cast;congr 1;omega,by show _=_;simp[hs],HP.o.set1 (by omega) (by rw[List.getElem?_map,iota_get _ _ _ hlt];rfl),hK2.set_ _ _,hM.set (x:=⟨g,j,none⟩) rfl _⟩
    case measure=>simp[intOf];omega
   ·go_wp2;go_ret;obtain rfl:j=xs.length:=by omega
    have hs:=HS2.o;exact ⟨rfl,⟨by rw[iota_length];exact own_of_blk hK2 hb (by simp[iota]) (by simpa using HP.o) hn hm (by simpa using hs),by rw[iota_length];exact hL⟩,hM⟩
def markF (k:Int) (n:Nat):List Fct:=(List.range n).map fun i:Nat=>⟨k % 3 == 0,k+3 * i+1,k+3 * i+1+1⟩
theorem markF_length (k:Int) (n:Nat):(markF k n).length=n:=by simp[markF]
theorem markF_get (k:Int) (n i:Nat) (h:i<n):(markF k n)[i]'(by rw[markF_length];exact h)=⟨k % 3 == 0,k+3 * i+1,k+3 * i+1+1⟩:=by simp[markF]
theorem c_markFactS (v:Value) (xs:List Fct) (k:Int) (base:Nat) (w:World) (h:FactsO w base v xs) (h0:0≤k) (h1:k≤1099511627776):Calls Tryz.prog 72 #[v,.int .i64 k] w fun e w'=>e=.returned (.int .i64 (k+3 * xs.length))∧FactsO w' base v (markF k xs.length)∧Mk (fun g=>v.ownBlock=some g) w w':=by
 obtain ⟨⟨hl,h2⟩,hL⟩:=h;have hL':xs.length≤1049600:=hL;rcases h2 with ⟨rfl,hn⟩|⟨g,cap,cur,rfl,hb,hh,hn,hm,hs,ht⟩
 ·(go_enter Tryz.func72,Tryz.ntmps72);go_wp2
  go_loop [1,5] (fun m i=>m=.int .i64 k∧i=.int .i64 0) (fun _ i=>0)
  case atStart=>exact ⟨rfl,rfl⟩
  case round=>
   obtain ⟨rfl,rfl⟩:=hrel;go_wp2;go_ret;have e:xs=[]:=List.length_eq_zero_iff.1 hn;subst e;exact ⟨by simp,⟨World.ownsRow_nil _ _ _ _,by simp[Lim,markF]⟩,Mk.refl _ _⟩
 ·have hK:Blk w g tF cur:=hh;have HS:=ax hs;clear hs ht hh hl;(go_enter Tryz.func72,Tryz.ntmps72);go_wp2
  go_loopw [1,5] (fun m i wr=>∃ (j:Nat) (cs:Array Value),j≤xs.length∧i=.int .i64 j∧m=.int .i64 (k+3 * j)∧aJ (cs.size=cap * 3)∧aJ (Pre cs (encF (markF k xs.length)) (j * 3))∧Blk wr g tF cs∧Mk (fun g'=>Value.ownBlock (.slice (some ⟨g,0,none⟩) xs.length cap)=some g') w wr) (fun _ i _=>xs.length - (intOf i).toNat)
  case atStart=>exact ⟨0,cur,Nat.zero_le _,rfl,by simp,HS.o,Pre.zero _ _,hK,Mk.refl _ _⟩
  case round=>
   obtain ⟨j,cs,hj,rfl,rfl,HS2,HP,hK2,hM⟩:=hrel;by_cases hlt:j<xs.length
   ·have hs:=HS2.o;obtain ⟨u0,hu0⟩:∃ u,cs[j * 3]? = some u:=⟨_,Array.getElem?_eq_getElem (by omega)⟩;obtain ⟨u1,hu1⟩:∃ u,cs[j * 3+1]? = some u:=⟨_,Array.getElem?_eq_getElem (by omega)⟩;obtain ⟨u2,hu2⟩:∃ u,cs[j * 3+2]? = some u:=⟨_,Array.getElem?_eq_getElem (by omega)⟩;have q0:wr.cell? ⟨g,j * 3,none⟩=some u0:=by rw[hK2.cell,hu0]
    have q1:wr.cell? ⟨g,j * 3+1,none⟩=some u1:=by rw[hK2.cell,hu1]
    have q2:wr.cell? ⟨g,j * 3+2,none⟩=some u2:=by rw[hK2.cell,hu2]
    have r:=hK2.frozen;clear hs hu0 hu1 hu2;(go_wp2_with fail);have hs:=HS2.o
    go_round
    case rel=>
     obtain ⟨t0,t1,t2⟩:=flat3 (fun f:Fct=>.bool f.eq) (fun f=>.int .i64 f.a) (fun f=>.int .i64 f.b) (markF k xs.length) j (by rw[markF_length];exact hlt);rw[markF_get _ _ _ hlt] at t0 t1 t2;refine ⟨j+1,_,by omega,by go_num,by push_cast;congr 1;omega,?_,HP.o.set3 (by omega) t0 t1 t2,((hK2.set_ _ _).set_ _ _).set_ _ _,((hM.set (x:=⟨g,j * 3,none⟩) rfl _).set (x:=⟨g,j * 3+1,none⟩) rfl _).set (x:=⟨g,j * 3+2,none⟩) rfl _⟩;show _=_;simp[hs]
    case measure=>simp[intOf];omega
   ·go_wp2;go_ret;obtain rfl:j=xs.length:=by omega
    have hs:=HS2.o;exact ⟨rfl,⟨by rw[markF_length];exact own_of_blk hK2 hb (by rw[len3,markF_length]) (by simpa using HP.o) hn hm (by simpa using hs),by rw[markF_length];exact hL⟩,hM⟩
def markA (k:Int) (n:Nat):List Atm:=(List.range n).map fun i:Nat=>⟨k+3 * i,k+3 * i+1,k+3 * i+1+1⟩
theorem markA_length (k:Int) (n:Nat):(markA k n).length=n:=by simp[markA]
theorem markA_get (k:Int) (n i:Nat) (h:i<n):(markA k n)[i]'(by rw[markA_length];exact h)=⟨k+3 * i,k+3 * i+1,k+3 * i+1+1⟩:=by simp[markA]
theorem c_markAtomS (v:Value) (xs:List Atm) (k:Int) (base:Nat) (w:World) (h:AtomsO w base v xs) (h0:0≤k) (h1:k≤1099511627776):Calls Tryz.prog 73 #[v,.int .i64 k] w fun e w'=>e=.returned (.int .i64 (k+3 * xs.length))∧AtomsO w' base v (markA k xs.length)∧Mk (fun g=>v.ownBlock=some g) w w':=by
 obtain ⟨⟨hl,h2⟩,hL⟩:=h;have hL':xs.length≤1049600:=hL;rcases h2 with ⟨rfl,hn⟩|⟨g,cap,cur,rfl,hb,hh,hn,hm,hs,ht⟩
 ·(go_enter Tryz.func73,Tryz.ntmps73);go_wp2
  go_loop [1,5] (fun m i=>m=.int .i64 k∧i=.int .i64 0) (fun _ i=>0)
  case atStart=>exact ⟨rfl,rfl⟩
  case round=>
   obtain ⟨rfl,rfl⟩:=hrel;go_wp2;go_ret;have e:xs=[]:=List.length_eq_zero_iff.1 hn;subst e;exact ⟨by simp,⟨World.ownsRow_nil _ _ _ _,by simp[Lim,markA]⟩,Mk.refl _ _⟩
 ·have hK:Blk w g tA cur:=hh;have HS:=ax hs;clear hs ht hh hl;(go_enter Tryz.func73,Tryz.ntmps73);go_wp2
  go_loopw [1,5] (fun m i wr=>∃ (j:Nat) (cs:Array Value),j≤xs.length∧i=.int .i64 j∧m=.int .i64 (k+3 * j)∧aJ (cs.size=cap * 3)∧aJ (Pre cs (encA (markA k xs.length)) (j * 3))∧Blk wr g tA cs∧Mk (fun g'=>Value.ownBlock (.slice (some ⟨g,0,none⟩) xs.length cap)=some g') w wr) (fun _ i _=>xs.length - (intOf i).toNat)
  case atStart=>exact ⟨0,cur,Nat.zero_le _,rfl,by simp,HS.o,Pre.zero _ _,hK,Mk.refl _ _⟩
  case round=>
   obtain ⟨j,cs,hj,rfl,rfl,HS2,HP,hK2,hM⟩:=hrel;by_cases hlt:j<xs.length
   ·have hs:=HS2.o;obtain ⟨u0,hu0⟩:∃ u,cs[j * 3]? = some u:=⟨_,Array.getElem?_eq_getElem (by omega)⟩;obtain ⟨u1,hu1⟩:∃ u,cs[j * 3+1]? = some u:=⟨_,Array.getElem?_eq_getElem (by omega)⟩;obtain ⟨u2,hu2⟩:∃ u,cs[j * 3+2]? = some u:=⟨_,Array.getElem?_eq_getElem (by omega)⟩;have q0:wr.cell? ⟨g,j * 3,none⟩=some u0:=by rw[hK2.cell,hu0]
    have q1:wr.cell? ⟨g,j * 3+1,none⟩=some u1:=by rw[hK2.cell,hu1]
    have q2:wr.cell? ⟨g,j * 3+2,none⟩=some u2:=by rw[hK2.cell,hu2]
    have r:=hK2.frozen;clear hs hu0 hu1 hu2;(go_wp2_with fail);have hs:=HS2.o
    go_round
    case rel=>
     obtain ⟨t0,t1,t2⟩:=flat3 (fun f:Atm=>.int .i64 f.kind) (fun f=>.int .i64 f.a) (fun f=>.int .i64 f.b) (markA k xs.length) j (by rw[markA_length];exact hlt);rw[markA_get _ _ _ hlt] at t0 t1 t2;refine ⟨j+1,_,by omega,by go_num,by push_cast;congr 1;omega,?_,HP.o.set3 (by omega) t0 t1 t2,((hK2.set_ _ _).set_ _ _).set_ _ _,((hM.set (x:=⟨g,j * 3,none⟩) rfl _).set (x:=⟨g,j * 3+1,none⟩) rfl _).set (x:=⟨g,j * 3+2,none⟩) rfl _⟩;show _=_;simp[hs]
    case measure=>simp[intOf];omega
   ·go_wp2;go_ret;obtain rfl:j=xs.length:=by omega
    have hs:=HS2.o;exact ⟨rfl,⟨by rw[markA_length];exact own_of_blk hK2 hb (by rw[len3,markA_length]) (by simpa using HP.o) hn hm (by simpa using hs),by rw[markA_length];exact hL⟩,hM⟩
theorem IntsO.mk {p:Nat→Prop} {w w':World} {base:Nat} {v:Value} {xs:List Int} (h:IntsO w base v xs) (hb:Mk p w w') (hp:∀ g,v.ownBlock=some g→¬p g):IntsO w' base v xs:=⟨own_mk h.1 hb hp,h.2⟩
theorem FactsO.mk {p:Nat→Prop} {w w':World} {base:Nat} {v:Value} {xs:List Fct} (h:FactsO w base v xs) (hb:Mk p w w') (hp:∀ g,v.ownBlock=some g→¬p g):FactsO w' base v xs:=⟨own_mk h.1 hb hp,h.2⟩
theorem AtomsO.mk {p:Nat→Prop} {w w':World} {base:Nat} {v:Value} {xs:List Atm} (h:AtomsO w base v xs) (hb:Mk p w w') (hp:∀ g,v.ownBlock=some g→¬p g):AtomsO w' base v xs:=⟨own_mk h.1 hb hp,h.2⟩
theorem Ste.eq_iff (f g:Ste):f=g↔f.values=g.values∧f.heap=g.heap:=by cases f;cases g;simp
theorem FactsO.ne_atoms {w:World} {b b':Nat} {v v':Value} {xs:List Fct} {ys:List Atm} (h:FactsO w b v xs) (h':AtomsO w b' v' ys) (g:Nat) (hg:v.ownBlock=some g):v'.ownBlock≠some g:=by
 intro hg';obtain ⟨_,h2⟩:=h.1;obtain ⟨_,h2'⟩:=h'.1;rcases h2 with ⟨rfl,_⟩|⟨k,cap,cur,rfl,_,hh,_⟩
 ·simp[Value.ownBlock] at hg
 rcases h2' with ⟨rfl,_⟩|⟨k',cap',cur',rfl,_,hh',_⟩
 ·simp[Value.ownBlock] at hg'
 simp only[Value.ownBlock,Option.some.injEq] at hg hg';subst hg;subst hg';exact Blk.ne_ (w:=w) hh hh' (by decide) rfl
def markAs (k:Int) (s:Asn):Asn:=⟨markF k s.facts.length,markA (k+3 * s.facts.length) s.atoms.length⟩
theorem c_markAssertion (v:Value) (s:Asn) (k:Int) (base hi:Nat) (w:World) (h:AsnO w base v s) (hhi:∀ fv av,v=.agg #[fv,av]→Und fv hi∧Und av hi) (h0:0≤k) (h1:k≤549755813888):Calls Tryz.prog 19 #[v,.int .i64 k] w fun e w'=>e=.returned (.int .i64 (k+3 * s.facts.length+3 * s.atoms.length))∧AsnO w' base v (markAs k s)∧Mk (fun g=>base≤g∧g<hi) w w':=by
 obtain ⟨fv,av,rfl,o1,o2⟩:=h;have hd:=o1.ne_atoms o2;have hU:=hhi fv av rfl;have L1:s.facts.length≤1049600:=o1.2;obtain ⟨F1,d1,e1,-⟩:=o1.rj;obtain ⟨F2,d2,e2,-⟩:=o2.rj;have o1b:=o1.bz (w':=w.alloc (.cells #[fv,av] 37)) bel;have o2b:=o2.bz (w':=w.alloc (.cells #[fv,av] 37)) bel;subst e1;subst e2;(go_enter Tryz.func19,Tryz.ntmps19);(go_wp2_with fail);refine (c_markFactS _ s.facts k base _ o1b h0 (by omega)).mono ?_;rintro e w1 ⟨rfl,p1,hM1⟩;have k0:=hM1.blk (Blk.new w _ _) (fun e=>by have:=o1.und _ e;omega);have q0:=k0.cell;have o2c:=o2b.mk hM1 (fun g e1 e2=>hd g e2 e1);have hM1':=(Mk.below_ (p:=fun g=>base≤g∧g<hi) (w:=w) bel).trans (hM1.mono fun g e=>⟨(o1.1.lt g e).1,hU.1 g e⟩);clear hM1;(go_wp2_with fail);refine (c_markAtomS _ s.atoms _ base _ o2c (by omega) (by omega)).mono ?_;rintro e w2 ⟨rfl,p2,hM2⟩;have p1c:=p1.mk hM2 (fun g e1 e2=>hd g e1 e2);have hM2':=hM1'.trans (hM2.mono fun g e=>⟨(o2.1.lt g e).1,hU.2 g e⟩);(go_wp2_with fail);go_ret;exact ⟨rfl,⟨_,_,rfl,by simpa[markAs,markF_length] using p1c,p2⟩,hM2'⟩
end
section
open Go Go.RowKit Go.Proofs
attribute [local go_sem ↓] Go.wp_at_zero Go.wp_at_succ
theorem set_same {α:Type} {L:List α} {i:Nat} {x:α} (h:L[i]? = some x):L.set i x=L:=by
 apply List.ext_getElem?;intro k;rw[List.getElem?_set]
 split
 ·rename_i e;subst e
  split
  ·exact h.symm
  ·rename_i hn;rw[List.getElem?_eq_none (by omega)] at h;cases h
 ·rfl
theorem flat3_set {α:Type} (f0 f1 f2:α→Value):∀ (L:List α) (j:Nat) (x:α),j<L.length→((L.set j x).flatMap fun x=>[f0 x,f1 x,f2 x])=(((L.flatMap fun x=>[f0 x,f1 x,f2 x]).set (j*3) (f0 x)).set (j*3+1) (f1 x)).set (j*3+2) (f2 x):=by
 intro L
 induction L with
 | nil=>intro j x h;simp at h
 | cons g L ih=>
  intro j x h
  cases j with
  | zero=>simp
  | succ j=>
   have e:=ih j x (by simpa using h);rw[List.set_cons_succ,List.flatMap_cons,e,List.flatMap_cons,show (j+1)*3=j*3+1+1+1 from by omega,show j*3+1+1+1+1=(j*3+1)+1+1+1 from by omega,show j*3+1+1+1+2=(j*3+2)+1+1+1 from by omega];simp only[List.cons_append,List.nil_append,List.set_cons_succ]
theorem Pre.setL {cs:Array Value} {L:List Value} {m:Nat} (h:Pre cs L m) (i:Nat) (u:Value) (hs:m≤cs.size) (hl:m≤L.length):Pre (cs.setIfInBounds i u) (L.set i u) m:=by
 intro j hj;by_cases e:i=j
 ·subst e;rw[Array.getElem?_setIfInBounds_self,if_pos (by omega),List.getElem?_set_self (by omega)]
 ·rw[Array.getElem?_setIfInBounds_ne e,List.getElem?_set_ne e];exact h j hj
theorem FactsO.open_ {w:World} {base:Nat} {A:Option Addr} {n c k:Nat} {fs:List Fct} (h:FactsO w base (.slice A n c) fs) (hk:k<fs.length):∃ g cur,n=fs.length∧A=some ⟨g,0,none⟩∧base≤g∧Blk w g tF cur∧fs.length * 3≤cur.size∧cur[k*3]? = some (.bool fs[k].eq)∧cur[k*3+1]? = some (.int .i64 fs[k].a)∧cur[k*3+2]? = some (.int .i64 fs[k].b)∧
  (∀ (i:Nat) (u:Value) (gs:List Fct),encF gs=(encF fs).set i u→gs.length=fs.length→FactsO (w.setCell ⟨g,i,none⟩ u) base (.slice A n c) gs):=by
 obtain ⟨⟨hl,h2⟩,hL⟩:=h;rcases h2 with ⟨e,hn⟩|⟨g,cap,cur,e,hb,hh,hn,hm,hs,ht⟩
 ·omega
 ·injection e with e1 e2 e3;subst e1 e2 e3;have hK:Blk w g tF cur:=hh
  have hP:Pre cur (encF fs) (fs.length * 3):=by
   intro j hj;rw[←ht,List.getElem?_take,if_pos hj];simp
  obtain ⟨t0,t1,t2⟩:=flat3 (fun f:Fct=>.bool f.eq) (fun f=>.int .i64 f.a) (fun f=>.int .i64 f.b) fs k hk;refine ⟨g,cur,rfl,rfl,hb,hK,by rw[hs];exact Nat.mul_le_mul hn (Nat.le_refl _),(hP _ (by omega)).trans t0,(hP _ (by omega)).trans t1,(hP _ (by omega)).trans t2,?_⟩;intro i u gs he hg;refine ⟨?_,by rw[hg];exact hL⟩;rw[he,hg];exact own_of_blk (hK.set_ i u) hb (by rw[List.length_set,hl]) (hP.setL i u (by rw[hs];exact Nat.mul_le_mul hn (Nat.le_refl _)) (by rw[hl];exact Nat.le_refl _)) hn hm (by simpa using hs)
theorem AtomsO.open_ {w:World} {base:Nat} {A:Option Addr} {n c k:Nat} {fs:List Atm} (h:AtomsO w base (.slice A n c) fs) (hk:k<fs.length):∃ g cur,n=fs.length∧A=some ⟨g,0,none⟩∧base≤g∧Blk w g tA cur∧fs.length * 3≤cur.size∧cur[k*3]? = some (.int .i64 fs[k].kind)∧cur[k*3+1]? = some (.int .i64 fs[k].a)∧cur[k*3+2]? = some (.int .i64 fs[k].b)∧
  (∀ (i:Nat) (u:Value) (gs:List Atm),encA gs=(encA fs).set i u→gs.length=fs.length→AtomsO (w.setCell ⟨g,i,none⟩ u) base (.slice A n c) gs):=by
 obtain ⟨⟨hl,h2⟩,hL⟩:=h;rcases h2 with ⟨e,hn⟩|⟨g,cap,cur,e,hb,hh,hn,hm,hs,ht⟩
 ·omega
 ·injection e with e1 e2 e3;subst e1 e2 e3;have hK:Blk w g tA cur:=hh
  have hP:Pre cur (encA fs) (fs.length * 3):=by
   intro j hj;rw[←ht,List.getElem?_take,if_pos hj];simp
  obtain ⟨t0,t1,t2⟩:=flat3 (fun f:Atm=>.int .i64 f.kind) (fun f=>.int .i64 f.a) (fun f=>.int .i64 f.b) fs k hk;refine ⟨g,cur,rfl,rfl,hb,hK,by rw[hs];exact Nat.mul_le_mul hn (Nat.le_refl _),(hP _ (by omega)).trans t0,(hP _ (by omega)).trans t1,(hP _ (by omega)).trans t2,?_⟩;intro i u gs he hg;refine ⟨?_,by rw[hg];exact hL⟩;rw[he,hg];exact own_of_blk (hK.set_ i u) hb (by rw[List.length_set,hl]) (hP.setL i u (by rw[hs];exact Nat.mul_le_mul hn (Nat.le_refl _)) (by rw[hl];exact Nat.le_refl _)) hn hm (by simpa using hs)
theorem encF_setA {fs:List Fct} {k:Nat} (hk:k<fs.length) (v:Int):encF (fs.set k ⟨fs[k].eq,v,fs[k].b⟩)=(encF fs).set (k*3+1) (.int .i64 v):=by
 obtain ⟨t0,t1,t2⟩:=flat3 (fun f:Fct=>.bool f.eq) (fun f=>.int .i64 f.a) (fun f=>.int .i64 f.b) fs k hk;rw[encF,flat3_set _ _ _ _ _ _ hk,set_same t0,set_same];rw[List.getElem?_set_ne (by omega)];exact t2
theorem encF_setB {fs:List Fct} {k:Nat} (hk:k<fs.length) (v:Int):encF (fs.set k ⟨fs[k].eq,fs[k].a,v⟩)=(encF fs).set (k*3+2) (.int .i64 v):=by
 obtain ⟨t0,t1,t2⟩:=flat3 (fun f:Fct=>.bool f.eq) (fun f=>.int .i64 f.a) (fun f=>.int .i64 f.b) fs k hk;rw[encF,flat3_set _ _ _ _ _ _ hk,set_same t0,set_same t1]
theorem encA_setA {fs:List Atm} {k:Nat} (hk:k<fs.length) (v:Int):encA (fs.set k ⟨fs[k].kind,v,fs[k].b⟩)=(encA fs).set (k*3+1) (.int .i64 v):=by
 obtain ⟨t0,t1,t2⟩:=flat3 (fun f:Atm=>.int .i64 f.kind) (fun f=>.int .i64 f.a) (fun f=>.int .i64 f.b) fs k hk;rw[encA,flat3_set _ _ _ _ _ _ hk,set_same t0,set_same];rw[List.getElem?_set_ne (by omega)];exact t2
theorem encA_setB {fs:List Atm} {k:Nat} (hk:k<fs.length) (v:Int):encA (fs.set k ⟨fs[k].kind,fs[k].a,v⟩)=(encA fs).set (k*3+2) (.int .i64 v):=by
 obtain ⟨t0,t1,t2⟩:=flat3 (fun f:Atm=>.int .i64 f.kind) (fun f=>.int .i64 f.a) (fun f=>.int .i64 f.b) fs k hk;rw[encA,flat3_set _ _ _ _ _ _ hk,set_same t0,set_same t1]
theorem FactsO.setA {w:World} {base g n c k:Nat} {fs:List Fct} (h:FactsO w base (.slice (some ⟨g,0,none⟩) n c) fs) (hk:k<fs.length) (v:Int) {gs:List Fct} (hgs:gs=fs.set k ⟨fs[k].eq,v,fs[k].b⟩):FactsO (w.setCell ⟨g,k*3+1,none⟩ (.int .i64 v)) base (.slice (some ⟨g,0,none⟩) n c) gs:=by
 subst hgs;obtain ⟨g',cur,-,e,-,-,-,-,-,-,hs⟩:=h.open_ hk;simp only[Option.some.injEq,Addr.mk.injEq,and_true] at e;subst e;exact hs _ _ _ (encF_setA hk v) (by simp)
theorem FactsO.setB {w:World} {base g n c k:Nat} {fs:List Fct} (h:FactsO w base (.slice (some ⟨g,0,none⟩) n c) fs) (hk:k<fs.length) (v:Int) {gs:List Fct} (hgs:gs=fs.set k ⟨fs[k].eq,fs[k].a,v⟩):FactsO (w.setCell ⟨g,k*3+2,none⟩ (.int .i64 v)) base (.slice (some ⟨g,0,none⟩) n c) gs:=by
 subst hgs;obtain ⟨g',cur,-,e,-,-,-,-,-,-,hs⟩:=h.open_ hk;simp only[Option.some.injEq,Addr.mk.injEq,and_true] at e;subst e;exact hs _ _ _ (encF_setB hk v) (by simp)
theorem AtomsO.setA {w:World} {base g n c k:Nat} {fs:List Atm} (h:AtomsO w base (.slice (some ⟨g,0,none⟩) n c) fs) (hk:k<fs.length) (v:Int) {gs:List Atm} (hgs:gs=fs.set k ⟨fs[k].kind,v,fs[k].b⟩):AtomsO (w.setCell ⟨g,k*3+1,none⟩ (.int .i64 v)) base (.slice (some ⟨g,0,none⟩) n c) gs:=by
 subst hgs;obtain ⟨g',cur,-,e,-,-,-,-,-,-,hs⟩:=h.open_ hk;simp only[Option.some.injEq,Addr.mk.injEq,and_true] at e;subst e;exact hs _ _ _ (encA_setA hk v) (by simp)
theorem AtomsO.setB {w:World} {base g n c k:Nat} {fs:List Atm} (h:AtomsO w base (.slice (some ⟨g,0,none⟩) n c) fs) (hk:k<fs.length) (v:Int) {gs:List Atm} (hgs:gs=fs.set k ⟨fs[k].kind,fs[k].a,v⟩):AtomsO (w.setCell ⟨g,k*3+2,none⟩ (.int .i64 v)) base (.slice (some ⟨g,0,none⟩) n c) gs:=by
 subst hgs;obtain ⟨g',cur,-,e,-,-,-,-,-,-,hs⟩:=h.open_ hk;simp only[Option.some.injEq,Addr.mk.injEq,and_true] at e;subst e;exact hs _ _ _ (encA_setB hk v) (by simp)
theorem FactsV.one {w:World} {g:Nat} {f:Fct} (h:Blk w g tF #[.bool f.eq,.int .i64 f.a,.int .i64 f.b]):FactsV w g (g+1) (some ⟨g,0,none⟩) [f]:=
 ⟨⟨by simp,fun _=>⟨g,0,rfl,Nat.le_refl _,Nat.lt_succ_self _,fun j u hu=>by rw[Nat.zero_add,h.cell];simpa using hu⟩⟩,by simp[Lim]⟩
theorem AtomsV.one {w:World} {g:Nat} {f:Atm} (h:Blk w g tA #[.int .i64 f.kind,.int .i64 f.a,.int .i64 f.b]):AtomsV w g (g+1) (some ⟨g,0,none⟩) [f]:=
 ⟨⟨by simp,fun _=>⟨g,0,rfl,Nat.le_refl _,Nat.lt_succ_self _,fun j u hu=>by rw[Nat.zero_add,h.cell];simpa using hu⟩⟩,by simp[Lim]⟩
theorem FactsV.cl {w:World} {lo hi b o k:Nat} {fs:List Fct} (h:FactsV w lo hi (some ⟨b,o,none⟩) fs) (hk:k<fs.length):w.cell? ⟨b,o+k*3,none⟩=some (.bool fs[k].eq)∧w.cell? ⟨b,o+k*3+1,none⟩=some (.int .i64 fs[k].a)∧w.cell? ⟨b,o+k*3+2,none⟩=some (.int .i64 fs[k].b):=by
 obtain ⟨b',o',e,hc⟩:=h.at hk;simp only[Option.some.injEq,Addr.mk.injEq,and_true] at e;obtain ⟨rfl,rfl⟩:=e;exact hc
theorem AtomsV.cl {w:World} {lo hi b o k:Nat} {fs:List Atm} (h:AtomsV w lo hi (some ⟨b,o,none⟩) fs) (hk:k<fs.length):w.cell? ⟨b,o+k*3,none⟩=some (.int .i64 fs[k].kind)∧w.cell? ⟨b,o+k*3+1,none⟩=some (.int .i64 fs[k].a)∧w.cell? ⟨b,o+k*3+2,none⟩=some (.int .i64 fs[k].b):=by
 obtain ⟨b',o',e,hc⟩:=h.at hk;simp only[Option.some.injEq,Addr.mk.injEq,and_true] at e;obtain ⟨rfl,rfl⟩:=e;exact hc
theorem FactsV.blt {w:World} {lo hi k:Nat} {A:Option Addr} {fs:List Fct} (h:FactsV w lo hi A fs) (hk:k<fs.length):∃ b o,A=some ⟨b,o,none⟩∧b<w.heap.size:=by
 obtain ⟨b,o,e,hc,-⟩:=h.at hk;exact ⟨b,o,e,block_lt_of_cell hc⟩
theorem AtomsV.blt {w:World} {lo hi k:Nat} {A:Option Addr} {fs:List Atm} (h:AtomsV w lo hi A fs) (hk:k<fs.length):∃ b o,A=some ⟨b,o,none⟩∧b<w.heap.size:=by
 obtain ⟨b,o,e,hc,-⟩:=h.at hk;exact ⟨b,o,e,block_lt_of_cell hc⟩
theorem IntsV.blt {w:World} {lo hi k:Nat} {A:Option Addr} {fs:List Int} (h:IntsV w lo hi A fs) (hk:k<fs.length):∃ b o,A=some ⟨b,o,none⟩∧b<w.heap.size:=by
 obtain ⟨b,o,e,hc⟩:=h.at hk;exact ⟨b,o,e,block_lt_of_cell hc⟩
theorem BoolsV.blt {w:World} {lo hi k:Nat} {A:Option Addr} {fs:List Bool} (h:BoolsV w lo hi A fs) (hk:k<fs.length):∃ b o,A=some ⟨b,o,none⟩∧b<w.heap.size:=by
 obtain ⟨b,o,e,hc⟩:=h.at hk;exact ⟨b,o,e,block_lt_of_cell hc⟩
theorem own_ofBlk {w:World} {g base size:Nat} {t:TypeId} (h:Blk w g t #[]) (hb:base≤g):w.ownsRow base t size (.slice (some ⟨g,0,none⟩) 0 0) 0 []:=⟨by simp,.inr ⟨g,0,#[],rfl,hb,h,Nat.le_refl _,by decide,by simp,by simp⟩⟩
theorem FactsO.ofBlk {w:World} {g base:Nat} (h:Blk w g tF #[]) (hb:base≤g):FactsO w base (.slice (some ⟨g,0,none⟩) 0 0) []:=⟨own_ofBlk h hb,by simp[Lim]⟩
theorem AtomsO.ofBlk {w:World} {g base:Nat} (h:Blk w g tA #[]) (hb:base≤g):AtomsO w base (.slice (some ⟨g,0,none⟩) 0 0) []:=⟨own_ofBlk h hb,by simp[Lim]⟩
theorem IntsO.ofBlk {w:World} {g base:Nat} (h:Blk w g tI #[]) (hb:base≤g):IntsO w base (.slice (some ⟨g,0,none⟩) 0 0) []:=⟨own_ofBlk h hb,by simp[Lim]⟩
theorem Blk.zm {w w':World} {g base size n:Nat} {t e:TypeId} {cs:Array Value} {v:Value} {xs:List Value} (h:Blk w g t cs) (ho:w.ownsRow base e size v n xs) (hg:w.grownBy w' v.ownBlock) (ht:t≠e):Blk w' g t cs:=by
 refine h.grown hg ?_;intro he;rcases ho.2 with ⟨rfl,_⟩|⟨k,cap,cur,rfl,_,hh,_⟩
 ·simp[Value.ownBlock] at he
 ·simp only[Value.ownBlock,Option.some.injEq] at he;exact Blk.ne_ h hh ht he
theorem own_grownO {w w':World} {base base' size size' n n':Nat} {e e':TypeId} {v v':Value} {xs xs':List Value} (h:w.ownsRow base' e' size' v' n' xs') (ho:w.ownsRow base e size v n xs) (hg:w.grownBy w' v.ownBlock) (ht:e'≠e):w'.ownsRow base' e' size' v' n' xs':=by
 obtain ⟨h1,h2⟩:=h;refine ⟨h1,?_⟩;rcases h2 with h2|⟨k,cap,cur,hv,hk,hh,r⟩
 ·exact Or.inl h2
 ·exact Or.inr ⟨k,cap,cur,hv,hk,Blk.zm hh ho hg ht,r⟩
theorem FactsO.grownA {w w':World} {b b':Nat} {v v':Value} {xs:List Fct} {ys:List Atm} (h:FactsO w b v xs) (ho:AtomsO w b' v' ys) (hg:w.grownBy w' v'.ownBlock):FactsO w' b v xs:=⟨own_grownO h.1 ho.1 hg (by decide),h.2⟩
theorem AtomsO.grownF {w w':World} {b b':Nat} {v v':Value} {xs:List Atm} {ys:List Fct} (h:AtomsO w b v xs) (ho:FactsO w b' v' ys) (hg:w.grownBy w' v'.ownBlock):AtomsO w' b v xs:=⟨own_grownO h.1 ho.1 hg (by decide),h.2⟩
theorem Rd.keepB {w w':World} {lo hi size n B:Nat} {A:Option Addr} {xs:List Value} (h:Rd w lo hi size A n xs) (hb:Below B w w') (hh:hi≤B):Rd w' lo hi size A n xs:=h.keep fun b _ h2=>hb.block b (by omega)
theorem FactsV.keepB {w w':World} {lo hi B:Nat} {A:Option Addr} {xs:List Fct} (h:FactsV w lo hi A xs) (hb:Below B w w') (hh:hi≤B):FactsV w' lo hi A xs:=Rd.keepB h hb hh
theorem AtomsV.keepB {w w':World} {lo hi B:Nat} {A:Option Addr} {xs:List Atm} (h:AtomsV w lo hi A xs) (hb:Below B w w') (hh:hi≤B):AtomsV w' lo hi A xs:=Rd.keepB h hb hh
theorem IntsV.keepB {w w':World} {lo hi B:Nat} {A:Option Addr} {xs:List Int} (h:IntsV w lo hi A xs) (hb:Below B w w') (hh:hi≤B):IntsV w' lo hi A xs:=Rd.keepB h hb hh
theorem BoolsV.keepB {w w':World} {lo hi B:Nat} {A:Option Addr} {xs:List Bool} (h:BoolsV w lo hi A xs) (hb:Below B w w') (hh:hi≤B):BoolsV w' lo hi A xs:=Rd.keepB h hb hh
theorem c_heldFactS {lo hi:Nat} (A:Option Addr) (n c:Nat) (k:Int) (w:World) (h:FactsV w lo hi A (markF k n)) (h0:0≤k) (h1:k≤1099511627776):Calls Tryz.prog 75 #[.slice A n c,.int .i64 k] w fun e w'=>e=.returned (.int .i64 (k+3 * n))∧w=w':=by
 have hL:=h.le;rw[markF_length] at hL;(go_enter Tryz.func75,Tryz.ntmps75);go_wp2
 go_loop [1,5] (fun m i=>∃ (j:Nat),j≤n∧i=.int .i64 j∧m=.int .i64 (k+3 * j)) (fun _ i=>n - (intOf i).toNat)
 case atStart=>exact ⟨0,Nat.zero_le _,rfl,by simp⟩
 case round=>
  obtain ⟨j,hj,rfl,rfl⟩:=hrel;by_cases hlt:j<n
  ·obtain ⟨b,off,rfl,c0,c1,c2⟩:=h.at (k:=j) (by rw[markF_length];exact hlt);rw[markF_get _ _ _ hlt] at c0 c1 c2;dsimp only at c0 c1 c2;(go_wp2_with fail)
   go_round
   case rel=>exact ⟨j+1,by omega,by go_num,by push_cast;congr 1;omega⟩
   case measure=>simp[intOf];omega
  ·obtain rfl:j=n:=by omega
   go_wp2;go_ret;exact ⟨rfl,rfl⟩
theorem c_heldAtomS {lo hi:Nat} (A:Option Addr) (n c:Nat) (k:Int) (w:World) (h:AtomsV w lo hi A (markA k n)) (h0:0≤k) (h1:k≤1099511627776):Calls Tryz.prog 76 #[.slice A n c,.int .i64 k] w fun e w'=>e=.returned (.int .i64 (k+3 * n))∧w=w':=by
 have hL:=h.le;rw[markA_length] at hL;(go_enter Tryz.func76,Tryz.ntmps76);go_wp2
 go_loop [1,5] (fun m i=>∃ (j:Nat),j≤n∧i=.int .i64 j∧m=.int .i64 (k+3 * j)) (fun _ i=>n - (intOf i).toNat)
 case atStart=>exact ⟨0,Nat.zero_le _,rfl,by simp⟩
 case round=>
  obtain ⟨j,hj,rfl,rfl⟩:=hrel;by_cases hlt:j<n
  ·obtain ⟨b,off,rfl,c0,c1,c2⟩:=h.at (k:=j) (by rw[markA_length];exact hlt);rw[markA_get _ _ _ hlt] at c0 c1 c2;dsimp only at c0 c1 c2;(go_wp2_with fail)
   go_round
   case rel=>exact ⟨j+1,by omega,by go_num,by push_cast;congr 1;omega⟩
   case measure=>simp[intOf];omega
  ·obtain rfl:j=n:=by omega
   go_wp2;go_ret;exact ⟨rfl,rfl⟩
theorem c_heldAssertion {lo hi lo' hi':Nat} (A1 A2:Option Addr) (n m c1 c2:Nat) (k:Int) (w:World) (h1:FactsV w lo hi A1 (markF k n)) (h2:AtomsV w lo' hi' A2 (markA (k+3 * n) m)) (h0:0≤k) (hk:k≤549755813888) :
  Calls Tryz.prog 22 #[.agg #[.slice A1 n c1,.slice A2 m c2],.int .i64 k] w fun e w'=>e=.returned (.int .i64 (k+3 * n+3 * m))∧Below w.heap.size w w':=by
 have hL1:=h1.le;have hL2:=h2.le;rw[markF_length] at hL1;rw[markA_length] at hL2;(go_enter Tryz.func22,Tryz.ntmps22);(go_wp2_with (first|(go_at_call 75;refine (c_heldFactS A1 n c1 k _ (h1.bz bel) h0 (by omega)).mono ?_;rintro e w' ⟨rfl,rfl⟩)|(go_at_call 76;refine (c_heldAtomS A2 m c2 _ _ (h2.bz bel) (by omega) (by omega)).mono ?_;rintro e w' ⟨rfl,rfl⟩)));go_ret;exact ⟨rfl,bel⟩
theorem c_impl_copyAssertion {lo hi:Nat} (v:Value) (a:Asn) (w:World) (h:AsnV w lo hi v a):Calls Tryz.prog 232 #[v] w fun e w'=>∃ r,e=.returned r∧AsnO w' w.heap.size r a∧Below w.heap.size w w':=by
 obtain ⟨A1,c1,A2,c2,rfl,h1,h2⟩:=h;have l1:=h1.le;have l2:=h2.le;(go_enter Tryz.func232,Tryz.ntmps232);have kk:=blk2 w 37 37 #[.slice A1 a.facts.length c1,.slice A2 a.atoms.length c2] #[.slice none 0 0,.slice none 0 0];have hB:Below w.heap.size w ((w.alloc (.cells #[.slice A1 a.facts.length c1,.slice A2 a.atoms.length c2] 37)).alloc (.cells #[.slice none 0 0,.slice none 0 0] 37)):=bel;obtain ⟨k0,k1⟩:=kk;(go_wp2_with fail);generalize (w.alloc (.cells #[.slice A1 a.facts.length c1,.slice A2 a.atoms.length c2] 37)).alloc (.cells #[.slice none 0 0,.slice none 0 0] 37)=W at k0 k1 hB ⊢
 go_region_held3 (fun w'=>(∀ i,w'.cell? ⟨w.heap.size,i,none⟩=#[.slice A1 a.facts.length c1,.slice A2 a.atoms.length c2][i]?))
  (exact Blk.cell blks)
  (first
   | (go_at_call 111;refine (c_joinF _ _ _ _ a.facts [] _ (h1.bz bel) (Rd.nil _ 0 0 3 none) (by simp;omega)).mono ?_;rintro e w3 ⟨r3,rfl,o3,hB3⟩;have hBw3:=bgo (w:=w) bel hB3;have m0:=Blk.nz (g:=w.heap.size) blks hB3;have m1:=Blk.nz (g:=w.heap.size+1) blks hB3;have m1c:=m1.cell;have m1f:=m1.frozen;obtain ⟨R3,d3,rfl,-⟩:=o3.rj;(try have o4b:=(o4.bz bel).bz hB3))
   | (go_at_call 112;refine (c_joinA _ _ _ _ a.atoms [] _ (h2.bz bel) (Rd.nil _ 0 0 3 none) (by simp;omega)).mono ?_;rintro e w4 ⟨r4,rfl,o4,hB4⟩;have hBw4:=bgo (w:=w) bel hB4;have m0:=Blk.nz (g:=w.heap.size) blks hB4;have m1:=Blk.nz (g:=w.heap.size+1) blks hB4;have m1c:=m1.cell;have m1f:=m1.frozen;obtain ⟨R4,d4,rfl,-⟩:=o4.rj;(try have o3b:=(o3.bz bel).bz hB4)))
 have o4b:=o4;simp only[List.append_nil] at o3b o4b;(go_wp2_with fail);refine bodyPost_ret (v:=.agg #[.slice R3 a.facts.length d3,.slice R4 a.atoms.length d4]) (by simp[results,Tryz.results232,go_sem,m1c]) rfl ⟨_,rfl,⟨_,_,rfl,?_,?_⟩,bel⟩
 ·exact ((o3b.setT m1 (by decide) _ _).setT (m1.set_ _ _) (by decide) _ _).bq hB.size
 ·exact ((o4b.setT m1 (by decide) _ _).setT (m1.set_ _ _) (by decide) _ _).bq (Nat.le_trans hB.size (Nat.le_trans (by simp) hB3.size))
end
section
open Go Go.RowKit Go.Proofs
def FactsI (w:World) (lo hi:Nat) (v:Value) (fs:List Fct):Prop:=FactsO w lo v fs∧Und v hi
def AtomsI (w:World) (lo hi:Nat) (v:Value) (fs:List Atm):Prop:=AtomsO w lo v fs∧Und v hi
def IntsI (w:World) (lo hi:Nat) (v:Value) (fs:List Int):Prop:=IntsO w lo v fs∧Und v hi
def AsnI (w:World) (lo hi:Nat) (v:Value) (a:Asn):Prop:=∃ fv av,v=.agg #[fv,av]∧FactsI w lo hi fv a.facts∧AtomsI w lo hi av a.atoms
section
variable {w w':World} {lo hi lo' hi' a b:Nat} {v:Value}
theorem und_range {w:World} {base:Nat} {e:TypeId} {size:Nat} {v:Value} {n:Nat} {xs:List Value} {hi:Nat} (h:w.ownsRow base e size v n xs) (hu:Und v hi):∀ g,v.ownBlock=some g→base≤g∧g<hi:=fun g hg=>⟨(h.lt g hg).1,hu g hg⟩
theorem FactsI.bz {fs:List Fct} (h:FactsI w lo hi v fs) (hb:Below w.heap.size w w'):FactsI w' lo hi v fs:=⟨h.1.bz hb,h.2⟩
theorem AtomsI.bz {fs:List Atm} (h:AtomsI w lo hi v fs) (hb:Below w.heap.size w w'):AtomsI w' lo hi v fs:=⟨h.1.bz hb,h.2⟩
theorem IntsI.bz {fs:List Int} (h:IntsI w lo hi v fs) (hb:Below w.heap.size w w'):IntsI w' lo hi v fs:=⟨h.1.bz hb,h.2⟩
theorem AsnI.bz {x:Asn} (h:AsnI w lo hi v x) (hb:Below w.heap.size w w'):AsnI w' lo hi v x:=by
 obtain ⟨fv,av,e,h1,h2⟩:=h;exact ⟨fv,av,e,h1.bz hb,h2.bz hb⟩
theorem FactsI.mk {fs:List Fct} (h:FactsI w lo hi v fs) (hb:Mk (fun g=>a≤g∧g<b) w w') (hd:hi≤a∨b≤lo):FactsI w' lo hi v fs:=
 ⟨h.1.mk hb fun g hg hp=>by have:=und_range h.1.1 h.2 g hg;omega,h.2⟩
theorem AtomsI.mk {fs:List Atm} (h:AtomsI w lo hi v fs) (hb:Mk (fun g=>a≤g∧g<b) w w') (hd:hi≤a∨b≤lo):AtomsI w' lo hi v fs:=
 ⟨h.1.mk hb fun g hg hp=>by have:=und_range h.1.1 h.2 g hg;omega,h.2⟩
theorem IntsI.mk {fs:List Int} (h:IntsI w lo hi v fs) (hb:Mk (fun g=>a≤g∧g<b) w w') (hd:hi≤a∨b≤lo):IntsI w' lo hi v fs:=
 ⟨h.1.mk hb fun g hg hp=>by have:=und_range h.1.1 h.2 g hg;omega,h.2⟩
theorem AsnI.mk {x:Asn} (h:AsnI w lo hi v x) (hb:Mk (fun g=>a≤g∧g<b) w w') (hd:hi≤a∨b≤lo):AsnI w' lo hi v x:=by
 obtain ⟨fv,av,e,h1,h2⟩:=h;exact ⟨fv,av,e,h1.mk hb hd,h2.mk hb hd⟩
theorem FactsI.form {fs:List Fct} (h:FactsI w lo hi v fs):∃ A c,v=.slice A fs.length c:=by obtain ⟨A,c,e,-⟩:=h.1.rj;exact ⟨A,c,e⟩
theorem AtomsI.form {fs:List Atm} (h:AtomsI w lo hi v fs):∃ A c,v=.slice A fs.length c:=by obtain ⟨A,c,e,-⟩:=h.1.rj;exact ⟨A,c,e⟩
theorem IntsI.form {fs:List Int} (h:IntsI w lo hi v fs):∃ A c,v=.slice A fs.length c:=by obtain ⟨A,c,e,-⟩:=h.1.rj;exact ⟨A,c,e⟩
theorem AsnI.form {x:Asn} (h:AsnI w lo hi v x):∃ A c B d,v=.agg #[.slice A x.facts.length c,.slice B x.atoms.length d]:=by
 obtain ⟨fv,av,rfl,h1,h2⟩:=h;obtain ⟨A,c,rfl⟩:=h1.form;obtain ⟨B,d,rfl⟩:=h2.form;exact ⟨A,c,B,d,rfl⟩
theorem IntsI.rj {A:Option Addr} {n c:Nat} {fs:List Int} (h:IntsI w lo hi (.slice A n c) fs):IntsV w lo w.heap.size A fs:=h.1.readsI.2
theorem AsnI.rj {x:Asn} (h:AsnI w lo hi v x):AsnV w lo w.heap.size v x:=by
 obtain ⟨fv,av,e,h1,h2⟩:=h;exact AsnO.rj ⟨fv,av,e,h1.1,h2.1⟩
theorem FactsO.I {fs:List Fct} (h:FactsO w lo v fs):FactsI w lo w.heap.size v fs:=⟨h,h.und⟩
theorem AtomsO.I {fs:List Atm} (h:AtomsO w lo v fs):AtomsI w lo w.heap.size v fs:=⟨h,h.und⟩
theorem IntsO.I {fs:List Int} (h:IntsO w lo v fs):IntsI w lo w.heap.size v fs:=⟨h,h.und⟩
theorem AsnO.I {x:Asn} (h:AsnO w lo v x):AsnI w lo w.heap.size v x:=by
 obtain ⟨fv,av,e,h1,h2⟩:=h;exact ⟨fv,av,e,h1.I,h2.I⟩
theorem AsnI.len {x:Asn} (h:AsnI w lo hi v x):x.facts.length≤1049600∧x.atoms.length≤1049600:=by
 obtain ⟨fv,av,e,h1,h2⟩:=h;exact ⟨h1.1.2,h2.1.2⟩
theorem IntsI.len {x:List Int} (h:IntsI w lo hi v x):x.length≤1049600:=h.1.2
theorem Mk.keepB {B:Nat} {w0:World} (h:Below B w0 w) (hm:Mk (fun g=>a≤g∧g<b) w w') (hB:B≤a) (hs:B≤w.heap.size):Below B w0 w':=
 h.trans (hm.bz (fun k hk=>by omega) hs)
end
theorem m_ints (v:Value) (xs:List Int) (k:Int) (lo hi:Nat) (w:World) (h:IntsI w lo hi v xs) (h0:0≤k) (h1:k≤549755813888):Calls Tryz.prog 21 #[v,.int .i64 k] w fun e w'=>e=.returned (.int .i64 (k+xs.length))∧IntsI w' lo hi v (iota k xs.length)∧Mk (fun g=>lo≤g∧g<hi) w w':=by
 refine (c_markIntS v xs k lo w h.1 h0 (by omega)).mono ?_;rintro e w' ⟨rfl,h2,h3⟩;exact ⟨rfl,⟨h2,h.2⟩,h3.mono fun g hg=>und_range h.1.1 h.2 g hg⟩
theorem m_asn (v:Value) (x:Asn) (k:Int) (lo hi:Nat) (w:World) (h:AsnI w lo hi v x) (h0:0≤k) (h1:k≤549755813888):Calls Tryz.prog 19 #[v,.int .i64 k] w fun e w'=>e=.returned (.int .i64 (k+3 * x.facts.length+3 * x.atoms.length))∧AsnI w' lo hi v (markAs k x)∧Mk (fun g=>lo≤g∧g<hi) w w':=by
 obtain ⟨fv,av,rfl,o1,o2⟩:=h;refine (c_markAssertion _ x k lo hi w ⟨fv,av,rfl,o1.1,o2.1⟩ (fun fv' av' e=>by injection e with e;injection e with e;injection e with e1 e2;injection e2 with e2;subst e1;subst e2;exact ⟨o1.2,o2.2⟩) h0 h1).mono ?_;rintro e w' ⟨rfl,⟨fv',av',e,p1,p2⟩,h3⟩;injection e with e;injection e with e;injection e with e1 e2;injection e2 with e2;subst e1;subst e2;exact ⟨rfl,⟨_,_,rfl,⟨p1,o1.2⟩,⟨p2,o2.2⟩⟩,h3⟩
theorem h_asn {lo hi:Nat} (A1 A2:Option Addr) (x:Asn) (c1 c2:Nat) (k:Int) (w:World) (h:AsnI w lo hi (.agg #[.slice A1 x.facts.length c1,.slice A2 x.atoms.length c2]) (markAs k x)) (h0:0≤k) (hk:k≤549755813888) :
  Calls Tryz.prog 22 #[.agg #[.slice A1 x.facts.length c1,.slice A2 x.atoms.length c2],.int .i64 k] w fun e w'=>e=.returned (.int .i64 (k+3 * x.facts.length+3 * x.atoms.length))∧Below w.heap.size w w':=by
 obtain ⟨fv,av,e,o1,o2⟩:=h;injection e with e;injection e with e;injection e with e1 e2;injection e2 with e2;subst e1;subst e2;exact c_heldAssertion A1 A2 _ _ c1 c2 k w o1.1.readsI.2 o2.1.readsI.2 h0 hk
theorem t_asn {lo hi lo' hi':Nat} (v v':Value) (x:Asn) (w:World) (h:AsnV w lo hi v x) (h':AsnV w lo' hi' v' x):Calls Tryz.prog 16 #[v,v'] w fun e w'=>e=.returned (.bool true)∧Below w.heap.size w w':=by
 refine (c_eqAssertion v v' x x w h h').mono ?_;rintro e w' ⟨rfl,hB⟩;exact ⟨by simp,hB⟩
theorem t_ints {lo hi lo' hi':Nat} (A A':Option Addr) (c c':Nat) (x:List Int) (w:World) (h:IntsV w lo hi A x) (h':IntsV w lo' hi' A' x):Calls Tryz.prog 18 #[.slice A x.length c,.slice A' x.length c'] w fun e w'=>e=.returned (.bool true)∧Below w.heap.size w w':=by
 refine (c_eqIntS A A' c c' x x w h h').mono ?_;rintro e w' ⟨rfl,hB⟩;exact ⟨by simp,hB⟩
theorem to_asn {lo hi:Nat} (v:Value) (x:Asn) (w:World) (h:AsnV w lo hi v x):Calls Tryz.prog 12 #[v] w fun e w'=>∃ r,e=.returned r∧AsnI w' w.heap.size w'.heap.size r x∧Below w.heap.size w w':=by
 refine (c_toAssertion v x w h).mono ?_;rintro e w' ⟨r,rfl,o,hB⟩;exact ⟨r,rfl,o.I,hB⟩
theorem to_ints {lo hi:Nat} (A:Option Addr) (c:Nat) (x:List Int) (w:World) (h:IntsV w lo hi A x):Calls Tryz.prog 14 #[.slice A x.length c] w fun e w'=>∃ r,e=.returned r∧IntsI w' w.heap.size w'.heap.size r x∧Below w.heap.size w w':=by
 refine (c_toIntS A c x w h).mono ?_;rintro e w' ⟨r,rfl,o,hB⟩;exact ⟨r,rfl,o.I,hB⟩
end
end Go.Proofs.YtjaohekkmlkinaaGreat
